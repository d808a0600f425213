/- CutM CutN CutP CutQ CutU CutMo CutR CutS CutY: texts laid together. -/
import Derived.Test.YtkhljpbkebnnmaaGreatDoorMrgC0
set_option maxRecDepth 100000
set_option maxHeartbeats 64000000
/- Walks of the reference of cutting: after, from. -/
namespace Go.Proofs.YtkhljpbkebnnmaaGreatDoor.Cu
set_option linter.unusedVariables false
set_option linter.unusedSimpArgs false
open Go.RowKit Go.Proofs.YtkhljpbkebnnmaaGreatDoor.Ev
variable {gl : List (Nat × List CV)}
def fz (c : Ch) : Int := if c.1 < 0 then 0 else c.2.1
def rC (c : Ch) : List CV := [I c.2.2, I c.1, I (fz c)]
instance : EncL rC 3 := ⟨fun _ => rfl, by decide, fun _ => rfl⟩
abbrev LR (l : List Ch) : CV := .lst 3 (l.flatMap rC)
theorem after_con (l : Line) (v : Valid l) (i : Nat) (hi : i < l.sizes.length) (p : Int) (hp0 : 0 ≤ p) (ho : OkP l i p) (es : List Ch) (hes : (es.length : Int) = l.len + 1) (hV : VB l (VE es) p) : Con Tryz.prog gl 98 [lineC l, .agg [I i, I p], LI (sumsS l.dust), LR es] (I (candV l (VE es) i p)) := by
  have hl := v.len
  have hlk := v.kerf
  have hld := v.dust
  have hsl := sumsS_len l.dust
  have hss := v.sizes
  have hsk := v.size i hi
  have hgk : i < l.gain.length := by have := v.gain; omega
  have hrow := v.row i hgk hi
  have hsz := szOf_nat hi
  have ho1 := ho.1
  rw [hsz] at ho1
  have hpl : p.toNat < l.gain[i].length := by omega
  have hgo := gOf_get hgk hpl
  have hgb := v.gains i hgk p.toNat hpl
  have hcv : candV l (VE es) i p = candV l (VE es) i p := rfl
  conv at hcv => rhs; unfold candV
  rw [hsz, hgo] at hcv
  have hbe := beh_cases v (q := p + l.sizes[i]) (by omega) ho1
  rcases hbe with ⟨hq, hbe⟩ | ⟨hq, hb1, hb2, hb3⟩
  · rw [hbe, if_neg (by omega)] at hcv
    refine con_of Tryz.func98 rfl (by kernel_rfl) rfl ?_
    simp only [Tryz.ntmps98, Tryz.results98, argEnv, ofC, of1, List.map, lineC, lineL]
    repeat' (first
 | ((with_reducible apply aw_seq))
 | ((with_reducible apply aw_region))
 | ((with_reducible apply thn_normal))
 | ((with_reducible apply thn_ret))
 | ((with_reducible apply aw_ret))
 | ((with_reducible apply ao_nil))
 | ((with_reducible apply r_move); exact rfl; exact rfl)
 | ((with_reducible apply r_assign); exact rfl; exact rfl)
 | ((with_reducible apply r_field_p); exact rfl; exact rfl)
 | ((with_reducible apply r_load_p); exact rfl; exact rfl; exact rfl; exact rfl)
 | ((with_reducible apply r_eql); exact rfl; exact rfl; exact rfl)
 | ((with_reducible apply r_add); exact rfl; exact rfl; exact (by first | assumption | (unfold fits; omega)); exact rfl)
 | ((with_reducible apply r_box_a); exact rfl; exact rfl)
 | ((with_reducible apply r_index_f); exact rfl; exact inferInstance; exact rfl; exact rfl; (first | assumption | omega); exact rfl)
 | ((with_reducible apply r_index_f); exact rfl; exact inferInstance; exact rfl; exact (Int.toNat_of_nonneg (by omega)).symm; (first | assumption | omega); exact rfl)
 | ((with_reducible apply r_load_f0); exact rfl; exact inferInstance; exact List.getElem?_eq_getElem (by first | assumption | omega); exact rfl; exact rfl)
 | (((with_reducible apply aw_cond); exact rfl) <;> intro hg <;> (first | (exact absurd hg (by decide)) | ((try simp only [decide_eq_true_eq, decide_eq_false_iff_not, Bool.not_eq_true', Bool.not_eq_false', Bool.not_true, Bool.not_false, Bool.not_not, Int.not_lt, Int.not_le, Nat.not_lt, Nat.not_le, gt_iff_lt, ge_iff_le, List.cons.injEq, and_true] at hg); first | (exact absurd trivial hg) | (exfalso; omega) | (have hT : True := hg; clear hT hg) | skip)))
 | (refine aw_drawq ?_ ?_; (kernel_rfl))
 | ((with_reducible apply ds_nil))
 )
    exact ret_i rfl (hcv.trans (by omega)).symm
  · rw [if_pos (by omega), hb3] at hcv
    rw [hb3] at hb1 hb2
    have hd1 := dp_get (l := l) (k := min (p + l.sizes[i] + l.kerf) l.len) (by omega)
    have hd2 := dp_get (l := l) (k := p + l.sizes[i]) (by omega)
    have he1 := VE_int (es := es) (k := min (p + l.sizes[i] + l.kerf) l.len) (by omega) (by omega)
    have hd3 := dp_le v (k := min (p + l.sizes[i] + l.kerf) l.len) hb2
    have hd4 := dp_bd v (a := p + l.sizes[i]) (by omega) hb1 hb2
    have hd5 := hV (min (p + l.sizes[i] + l.kerf) l.len) (by omega) hb2
    rw [← hd1, ← hd2, ← he1] at hcv
    rw [← hd1] at hd3
    rw [← hd1, ← hd2] at hd4
    rw [← he1] at hd5
    refine con_of Tryz.func98 rfl (by kernel_rfl) rfl ?_
    simp only [Tryz.ntmps98, Tryz.results98, argEnv, ofC, of1, List.map, lineC, lineL]
    repeat' (first
 | ((with_reducible apply aw_seq))
 | ((with_reducible apply aw_region))
 | ((with_reducible apply thn_normal))
 | ((with_reducible apply aw_skip))
 | ((with_reducible apply aw_ret))
 | ((with_reducible apply ao_nil))
 | ((with_reducible apply r_move); exact rfl; exact rfl)
 | ((with_reducible apply r_assign); exact rfl; exact rfl)
 | ((with_reducible apply r_field_p); exact rfl; exact rfl)
 | ((with_reducible apply r_load_p); exact rfl; exact rfl; exact rfl; exact rfl)
 | ((with_reducible apply r_eql); exact rfl; exact rfl; exact rfl)
 | ((with_reducible apply r_add); exact rfl; exact rfl; exact (by first | assumption | (unfold fits; omega)); exact rfl)
 | ((with_reducible apply r_sub); exact rfl; exact rfl; exact (by first | assumption | (unfold fits; omega)); exact rfl)
 | ((with_reducible apply r_min); exact rfl; exact rfl; exact rfl)
 | ((with_reducible apply r_box_a); exact rfl; exact rfl)
 | ((with_reducible apply r_index_f); exact rfl; exact inferInstance; exact rfl; exact rfl; (first | assumption | omega); exact rfl)
 | ((with_reducible apply r_index_f); exact rfl; exact inferInstance; exact rfl; exact (Int.toNat_of_nonneg (by omega)).symm; (first | assumption | omega); exact rfl)
 | ((with_reducible apply r_load_f0); exact rfl; exact inferInstance; exact List.getElem?_eq_getElem (by first | assumption | omega); exact rfl; exact rfl)
 | ((with_reducible apply r_field_e); exact rfl; exact rfl)
 | (((with_reducible apply aw_cond); exact rfl) <;> intro hg <;> (first | (exact absurd hg (by decide)) | ((try simp only [decide_eq_true_eq, decide_eq_false_iff_not, Bool.not_eq_true', Bool.not_eq_false', Bool.not_true, Bool.not_false, Bool.not_not, Int.not_lt, Int.not_le, Nat.not_lt, Nat.not_le, gt_iff_lt, ge_iff_le, List.cons.injEq, and_true] at hg); first | (exact absurd trivial hg) | (exfalso; omega) | (have hT : True := hg; clear hT hg) | skip)))
 | (refine aw_drawq ?_ ?_; (kernel_rfl))
 | ((with_reducible apply ds_nil))
 )
    exact ret_i rfl (hcv.trans (by omega)).symm
theorem grp_yes {l : Line} {V : Int → Int} {paid p : Int} {k : Nat} {b : Ch} (h : OkP l k p) (hc : (grp l V paid p k b).2.2 < paid + candV l V k p) : grp l V paid p (k + 1) b = ((k : Int), p, paid + candV l V k p) := by
  show (if _ then _ else _) = _
  rw [if_pos ⟨h, hc⟩]
theorem grp_no {l : Line} {V : Int → Int} {paid p : Int} {k : Nat} {b : Ch} (h : ¬ (OkP l k p ∧ (grp l V paid p k b).2.2 < paid + candV l V k p)) : grp l V paid p (k + 1) b = grp l V paid p k b := by
  show (if _ then _ else _) = _
  rw [if_neg h]
def posB (l : Line) (V : Int → Int) (e : Int) : Nat → Ch
  | 0 => (-1, -1, cp l l.len - cp l e)
  | m + 1 => posS l V e m
theorem from_con (l : Line) (v : Valid l) (e : Int) (he0 : 0 ≤ e) (he1 : e ≤ l.len) (es : List Ch) (hes : (es.length : Int) = l.len + 1) (hV : VB l (VE es) e) : Con Tryz.prog gl 66 [lineC l, I e, LI (sumsS l.chip), LI (sumsS l.dust), LR es] (.agg [I (chooseS l (VE es) e).2.2, I (chooseS l (VE es) e).1, I (fz (chooseS l (VE es) e))]) := by
  have hl := v.len
  have hlk := v.kerf
  have hlp := v.pitch
  have hld := v.dust
  have hlc := v.chip
  have hsd := sumsS_len l.dust
  have hsc := sumsS_len l.chip
  have hss := v.sizes
  have hc1 := cp_get (l := l) (k := l.len) (by omega)
  have hc2 := cp_get (l := l) (k := e) (by omega)
  have hc3 := cp_bd v he0 he1 (Int.le_refl _)
  rw [← hc1, ← hc2] at hc3
  refine con_of Tryz.func66 rfl (by kernel_rfl) rfl ?_
  simp only [Tryz.ntmps66, Tryz.results66, argEnv, ofC, of1, List.map, lineC, lineL]
  repeat' (first
 | (refine aw_drawA 12 ?_ rfl aop_alloc rfl ?_; (kernel_rfl); (simp only [List.take_succ_cons, List.take_zero, List.drop_succ_cons, List.drop_zero]))
 | ((with_reducible apply ds_nilA); exact rfl)
 | ((with_reducible apply aw_seq))
 | ((with_reducible apply aw_region))
 | ((with_reducible apply aw_block))
 | ((with_reducible apply thn_normal))
 | ((with_reducible apply ao_nil))
 | ((with_reducible apply r_move); exact rfl; exact rfl)
 | ((with_reducible apply r_assign); exact rfl; exact rfl)
 | ((with_reducible apply r_field_p); exact rfl; exact rfl)
 | ((with_reducible apply r_load_p); exact rfl; exact rfl; exact rfl; exact rfl)
 | ((with_reducible apply r_sub); exact rfl; exact rfl; exact (by first | assumption | (unfold fits; omega)); exact rfl)
 | ((with_reducible apply r_box_a); exact rfl; exact rfl)
 | ((with_reducible apply r_index_f); exact rfl; exact inferInstance; exact rfl; exact (Int.toNat_of_nonneg (by omega)).symm; (first | assumption | omega); exact rfl)
 | ((with_reducible apply r_load_f0); exact rfl; exact inferInstance; exact List.getElem?_eq_getElem (by first | assumption | omega); exact rfl; exact rfl)
 | ((with_reducible apply r_store_pa); exact rfl; exact rfl; exact rfl; exact rfl; exact rfl; exact rfl)
 | ((with_reducible apply r_build); exact rfl; exact rfl; exact rfl)
 | ((with_reducible apply r_alloc); exact rfl)
 )
  refine aw_loopG (G := Nat × Int × Ch × Int) (fun ((m, w, b, z) : Nat × Int × Ch × Int) => w ≤ 4000 ∧ w = (m : Int) * l.pitch ∧ b = posB l (VE es) e m ∧ z = fz b) (fun ((m, w, b, z) : Nat × Int × Ch × Int) => (l.len + 1 - e - w).toNat) (fun ((m, w, b, z) : Nat × Int × Ch × Int) => [(1, A e), (2, .c (LI (sumsS l.chip))), (3, .c (LI (sumsS l.dust))), (4, .c (LR es)), (5, .ptr 0 0), (10, .ptr 1 0), (11, .ptr 2 0), (12, A w)]) (fun ((m, w, b, z) : Nat × Int × Ch × Int) => [(0, some (lineB l)), (1, some (.cells 112 [A 0, A 0, A 0])), (2, some (.cells 112 [A b.2.2, A b.1, A z]))]) 3 (0, 0, (-1, -1, (sumsS l.chip)[l.len.toNat]'(by omega) - (sumsS l.chip)[e.toNat]'(by omega)), 0) ?_ (by refine weak_mk rfl ?_ ?_ <;> repeat (first | exact envW_nil | exact heapW_nil | refine envW_cons rfl rfl ?_ | refine heapW_cons rfl rfl rfl ?_)) rfl ?_
  · exact ⟨by decide, by simp, by rw [hc1, hc2]; rfl, rfl⟩
  rintro ⟨m, w, b0, z0⟩ hI
  try dsimp only at hI
  try dsimp only
  obtain ⟨hw4, hw, hb0, hz0⟩ := hI
  have hnw : w + l.pitch = ((m + 1 : Nat) : Int) * l.pitch := by rw [Int.natCast_add, Int.add_mul]; omega
  cases m with
  | zero =>
    have hw0 : w = 0 := by simpa using hw
    subst hw0
    repeat' (first
 | ((with_reducible apply aw_seq))
 | ((with_reducible apply aw_region))
 | ((with_reducible apply aw_block))
 | ((with_reducible apply thn_normal))
 | ((with_reducible apply aw_skip))
 | ((with_reducible apply ao_nil))
 | ((with_reducible apply r_move); exact rfl; exact rfl)
 | ((with_reducible apply r_assign); exact rfl; exact rfl)
 | ((with_reducible apply r_field_p); exact rfl; exact rfl)
 | ((with_reducible apply r_load_p); exact rfl; exact rfl; exact rfl; exact rfl)
 | ((with_reducible apply r_leq); exact rfl; exact rfl; exact rfl)
 | ((with_reducible apply r_gtr); exact rfl; exact rfl; exact rfl)
 | ((with_reducible apply r_add); exact rfl; exact rfl; exact (by first | assumption | (unfold fits; omega)); exact rfl)
 | (((with_reducible apply aw_cond); exact rfl) <;> intro hg <;> (first | (exact absurd hg (by decide)) | ((try simp only [decide_eq_true_eq, decide_eq_false_iff_not, Bool.not_eq_true', Bool.not_eq_false', Bool.not_true, Bool.not_false, Bool.not_not, Int.not_lt, Int.not_le, Nat.not_lt, Nat.not_le, gt_iff_lt, ge_iff_le, List.cons.injEq, and_true] at hg); first | (exact absurd trivial hg) | (exfalso; omega) | (have hT : True := hg; clear hT hg) | skip)))
 )
    refine aw_loopG (G := Nat × Ch × Int) (fun ((i, b, z) : Nat × Ch × Int) => i ≤ l.sizes.length ∧ b = grp l (VE es) (0) (e) i b0 ∧ z = fz b) (fun ((i, b, z) : Nat × Ch × Int) => l.sizes.length - i) (fun ((i, b, z) : Nat × Ch × Int) => [(1, A e), (2, .c (LI (sumsS l.chip))), (3, .c (LI (sumsS l.dust))), (4, .c (LR es)), (5, .ptr 0 0), (10, .ptr 1 0), (11, .ptr 2 0), (12, A 0), (13, A (e)), (14, A (0)), (15, A i)]) (fun ((i, b, z) : Nat × Ch × Int) => [(0, some (lineB l)), (1, some (.cells 112 [A 0, A 0, A 0])), (2, some (.cells 112 [A b.2.2, A b.1, A z]))]) 3 (0, b0, z0) ?_ (by refine weak_mk rfl ?_ ?_ <;> repeat (first | exact envW_nil | exact heapW_nil | refine envW_cons rfl rfl ?_ | refine heapW_cons rfl rfl rfl ?_)) rfl ?_
    · exact ⟨Nat.zero_le _, rfl, hz0⟩
    rintro ⟨i, b, z⟩ hI
    try dsimp only at hI
    try dsimp only
    obtain ⟨hi, hb, hz⟩ := hI
    by_cases hil : i < l.sizes.length
    · have hsk := v.size i hil
      have hgk : i < l.gain.length := by have := v.gain; omega
      have hrow := v.row i hgk hil
      have hsz := szOf_nat hil
      by_cases ho1 : e + l.sizes[i] ≤ l.len
      · have hpl : (e).toNat < l.gain[i].length := by omega
        have hgo := gOf_get hgk hpl
        by_cases ho2 : 0 ≤ l.gain[i][(e).toNat]
        · have hok : OkP l i (e) := ⟨by rw [hsz]; exact ho1, by rw [hgo]; exact ho2⟩
          have hcb := candV_bd v he0 (p := e) (by omega) hV hil hok
          have hac := after_con (gl := gl) l v i hil (e) (by omega) hok es hes (fun x hx hx2 => hV x (by omega) hx2)
          repeat' (first
 | ((with_reducible apply r_call); exact rfl; exact rfl; exact hac; exact rfl; exact rfl)
 | ((with_reducible apply aw_seq))
 | ((with_reducible apply aw_region))
 | ((with_reducible apply aw_block))
 | ((with_reducible apply thn_normal))
 | ((with_reducible apply inb_normal))
 | ((with_reducible apply aw_skip))
 | ((with_reducible apply ao_nil))
 | ((with_reducible apply r_move); exact rfl; exact rfl)
 | ((with_reducible apply r_assign); exact rfl; exact rfl)
 | ((with_reducible apply r_field_p); exact rfl; exact rfl)
 | ((with_reducible apply r_load_p); exact rfl; exact rfl; exact rfl; exact rfl)
 | ((with_reducible apply r_load_pa); exact rfl; exact rfl; exact rfl; exact rfl; exact rfl)
 | ((with_reducible apply r_lss); exact rfl; exact rfl; exact rfl)
 | ((with_reducible apply r_gtr); exact rfl; exact rfl; exact rfl)
 | ((with_reducible apply r_add); exact rfl; exact rfl; exact (by first | assumption | (unfold fits; omega)); exact rfl)
 | ((with_reducible apply r_sub); exact rfl; exact rfl; exact (by first | assumption | (unfold fits; omega)); exact rfl)
 | ((with_reducible apply r_pick_f); exact rfl; exact rfl; exact rfl)
 | ((with_reducible apply r_len_f); exact rfl; exact inferInstance; exact rfl)
 | ((with_reducible apply r_index_f); exact rfl; exact inferInstance; exact rfl; exact rfl; (first | assumption | omega); exact rfl)
 | ((with_reducible apply r_index_f); exact rfl; exact inferInstance; exact rfl; exact (Int.toNat_of_nonneg (by omega)).symm; (first | assumption | omega); exact rfl)
 | ((with_reducible apply r_load_f0); exact rfl; exact inferInstance; exact List.getElem?_eq_getElem (by first | assumption | omega); exact rfl; exact rfl)
 | ((with_reducible apply r_store_pa); exact rfl; exact rfl; exact rfl; exact rfl; exact rfl; exact rfl)
 | ((with_reducible apply r_build); exact rfl; exact rfl; exact rfl)
 | ((with_reducible apply r_alloc); exact rfl)
 | (((with_reducible apply aw_cond); exact rfl) <;> intro hg <;> (first | (exact absurd hg (by decide)) | ((try simp only [decide_eq_true_eq, decide_eq_false_iff_not, Bool.not_eq_true', Bool.not_eq_false', Bool.not_true, Bool.not_false, Bool.not_not, Int.not_lt, Int.not_le, Nat.not_lt, Nat.not_le, gt_iff_lt, ge_iff_le, List.cons.injEq, and_true] at hg); first | (exact absurd trivial hg) | (exfalso; omega) | (have hT : True := hg; clear hT hg) | skip)))
 | (refine aw_drawq ?_ ?_; (kernel_rfl))
 | ((with_reducible apply ds_nil))
 | (((with_reducible apply rd_guard); exact rfl; exact rfl; exact rfl) <;> intro hg <;> (first | (exact absurd hg (by decide)) | ((try rw [hg]); (try simp only [decide_eq_true_eq, decide_eq_false_iff_not, Bool.not_eq_true', Bool.not_eq_false', Bool.not_true, Bool.not_false, Bool.not_not, Int.not_lt, Int.not_le, Nat.not_lt, Nat.not_le, gt_iff_lt, ge_iff_le, List.cons.injEq, and_true] at hg); first | (exact absurd trivial hg) | (exfalso; omega) | (have hT : True := hg; clear hT hg) | skip)))
 )
          · skip
            refine ⟨(i + 1, ((i : Int), e, 0 + candV l (VE es) i (e)), e), ?_, ?_, by refine weak_mk rfl ?_ ?_ <;> repeat (first | exact envW_nil | exact heapW_nil | refine envW_cons rfl rfl ?_ | refine heapW_cons rfl rfl rfl ?_)⟩
            · show _ - (i + 1) < _ - i; omega
            · exact ⟨by show i + 1 ≤ _; omega, (grp_yes hok (by rw [← hb]; omega)).symm, by show e = fz _; unfold fz; rw [if_neg (by show ¬ ((i : Int) < 0); omega)]⟩
          · skip
            refine ⟨(i + 1, b, z), ?_, ?_, by refine weak_mk rfl ?_ ?_ <;> repeat (first | exact envW_nil | exact heapW_nil | refine envW_cons rfl rfl ?_ | refine heapW_cons rfl rfl rfl ?_)⟩
            · show _ - (i + 1) < _ - i; omega
            · exact ⟨by show i + 1 ≤ _; omega, by show b = _; rw [grp_no (fun hh => by rw [← hb] at hh; omega)]; exact hb, hz⟩
        · have hok : ¬ OkP l i (e) := fun hh => ho2 (by rw [← hgo]; exact hh.2)
          repeat' (first
 | ((with_reducible apply aw_seq))
 | ((with_reducible apply aw_region))
 | ((with_reducible apply aw_block))
 | ((with_reducible apply thn_normal))
 | ((with_reducible apply thn_exit))
 | ((with_reducible apply inb_exit))
 | ((with_reducible apply aw_skip))
 | ((with_reducible apply aw_exit))
 | ((with_reducible apply ao_nil))
 | ((with_reducible apply r_move); exact rfl; exact rfl)
 | ((with_reducible apply r_assign); exact rfl; exact rfl)
 | ((with_reducible apply r_field_p); exact rfl; exact rfl)
 | ((with_reducible apply r_load_p); exact rfl; exact rfl; exact rfl; exact rfl)
 | ((with_reducible apply r_lss); exact rfl; exact rfl; exact rfl)
 | ((with_reducible apply r_gtr); exact rfl; exact rfl; exact rfl)
 | ((with_reducible apply r_add); exact rfl; exact rfl; exact (by first | assumption | (unfold fits; omega)); exact rfl)
 | ((with_reducible apply r_sub); exact rfl; exact rfl; exact (by first | assumption | (unfold fits; omega)); exact rfl)
 | ((with_reducible apply r_pick_f); exact rfl; exact rfl; exact rfl)
 | ((with_reducible apply r_len_f); exact rfl; exact inferInstance; exact rfl)
 | ((with_reducible apply r_index_f); exact rfl; exact inferInstance; exact rfl; exact rfl; (first | assumption | omega); exact rfl)
 | ((with_reducible apply r_index_f); exact rfl; exact inferInstance; exact rfl; exact (Int.toNat_of_nonneg (by omega)).symm; (first | assumption | omega); exact rfl)
 | ((with_reducible apply r_load_f0); exact rfl; exact inferInstance; exact List.getElem?_eq_getElem (by first | assumption | omega); exact rfl; exact rfl)
 | (((with_reducible apply aw_cond); exact rfl) <;> intro hg <;> (first | (exact absurd hg (by decide)) | ((try simp only [decide_eq_true_eq, decide_eq_false_iff_not, Bool.not_eq_true', Bool.not_eq_false', Bool.not_true, Bool.not_false, Bool.not_not, Int.not_lt, Int.not_le, Nat.not_lt, Nat.not_le, gt_iff_lt, ge_iff_le, List.cons.injEq, and_true] at hg); first | (exact absurd trivial hg) | (exfalso; omega) | (have hT : True := hg; clear hT hg) | skip)))
 | (refine aw_drawq ?_ ?_; (kernel_rfl))
 | ((with_reducible apply ds_nil))
 | (((with_reducible apply rd_guard); exact rfl; exact rfl; exact rfl) <;> intro hg <;> (first | (exact absurd hg (by decide)) | ((try rw [hg]); (try simp only [decide_eq_true_eq, decide_eq_false_iff_not, Bool.not_eq_true', Bool.not_eq_false', Bool.not_true, Bool.not_false, Bool.not_not, Int.not_lt, Int.not_le, Nat.not_lt, Nat.not_le, gt_iff_lt, ge_iff_le, List.cons.injEq, and_true] at hg); first | (exact absurd trivial hg) | (exfalso; omega) | (have hT : True := hg; clear hT hg) | skip)))
 )
          refine ⟨(i + 1, b, z), ?_, ?_, by refine weak_mk rfl ?_ ?_ <;> repeat (first | exact envW_nil | exact heapW_nil | refine envW_cons rfl rfl ?_ | refine heapW_cons rfl rfl rfl ?_)⟩
          · show _ - (i + 1) < _ - i; omega
          · exact ⟨by show i + 1 ≤ _; omega, by show b = _; rw [grp_no (fun hh => hok hh.1)]; exact hb, hz⟩
      · have hok : ¬ OkP l i (e) := fun hh => ho1 (by rw [← hsz]; exact hh.1)
        repeat' (first
 | ((with_reducible apply aw_seq))
 | ((with_reducible apply aw_region))
 | ((with_reducible apply aw_block))
 | ((with_reducible apply thn_normal))
 | ((with_reducible apply thn_exit))
 | ((with_reducible apply inb_exit))
 | ((with_reducible apply aw_skip))
 | ((with_reducible apply aw_exit))
 | ((with_reducible apply ao_nil))
 | ((with_reducible apply r_move); exact rfl; exact rfl)
 | ((with_reducible apply r_assign); exact rfl; exact rfl)
 | ((with_reducible apply r_field_p); exact rfl; exact rfl)
 | ((with_reducible apply r_load_p); exact rfl; exact rfl; exact rfl; exact rfl)
 | ((with_reducible apply r_lss); exact rfl; exact rfl; exact rfl)
 | ((with_reducible apply r_gtr); exact rfl; exact rfl; exact rfl)
 | ((with_reducible apply r_add); exact rfl; exact rfl; exact (by first | assumption | (unfold fits; omega)); exact rfl)
 | ((with_reducible apply r_sub); exact rfl; exact rfl; exact (by first | assumption | (unfold fits; omega)); exact rfl)
 | ((with_reducible apply r_pick_t); exact rfl; exact rfl; exact rfl)
 | ((with_reducible apply r_len_f); exact rfl; exact inferInstance; exact rfl)
 | ((with_reducible apply r_index_f); exact rfl; exact inferInstance; exact rfl; exact rfl; (first | assumption | omega); exact rfl)
 | ((with_reducible apply r_load_f0); exact rfl; exact inferInstance; exact List.getElem?_eq_getElem (by first | assumption | omega); exact rfl; exact rfl)
 | (((with_reducible apply aw_cond); exact rfl) <;> intro hg <;> (first | (exact absurd hg (by decide)) | ((try simp only [decide_eq_true_eq, decide_eq_false_iff_not, Bool.not_eq_true', Bool.not_eq_false', Bool.not_true, Bool.not_false, Bool.not_not, Int.not_lt, Int.not_le, Nat.not_lt, Nat.not_le, gt_iff_lt, ge_iff_le, List.cons.injEq, and_true] at hg); first | (exact absurd trivial hg) | (exfalso; omega) | (have hT : True := hg; clear hT hg) | skip)))
 | (refine aw_drawq ?_ ?_; (kernel_rfl))
 | ((with_reducible apply ds_nil))
 | (((with_reducible apply rd_guard); exact rfl; exact rfl; exact rfl) <;> intro hg <;> (first | (exact absurd hg (by decide)) | ((try rw [hg]); (try simp only [decide_eq_true_eq, decide_eq_false_iff_not, Bool.not_eq_true', Bool.not_eq_false', Bool.not_true, Bool.not_false, Bool.not_not, Int.not_lt, Int.not_le, Nat.not_lt, Nat.not_le, gt_iff_lt, ge_iff_le, List.cons.injEq, and_true] at hg); first | (exact absurd trivial hg) | (exfalso; omega) | (have hT : True := hg; clear hT hg) | skip)))
 )
        refine ⟨(i + 1, b, z), ?_, ?_, by refine weak_mk rfl ?_ ?_ <;> repeat (first | exact envW_nil | exact heapW_nil | refine envW_cons rfl rfl ?_ | refine heapW_cons rfl rfl rfl ?_)⟩
        · show _ - (i + 1) < _ - i; omega
        · exact ⟨by show i + 1 ≤ _; omega, by show b = _; rw [grp_no (fun hh => hok hh.1)]; exact hb, hz⟩
    · obtain rfl : i = l.sizes.length := by omega
      repeat' (first
 | ((with_reducible apply aw_seq))
 | ((with_reducible apply aw_region))
 | ((with_reducible apply thn_normal))
 | ((with_reducible apply thn_exit))
 | ((with_reducible apply inb_normal))
 | ((with_reducible apply inb_exit))
 | ((with_reducible apply aw_exit))
 | ((with_reducible apply ao_nil))
 | ((with_reducible apply r_move); exact rfl; exact rfl)
 | ((with_reducible apply r_assign); exact rfl; exact rfl)
 | ((with_reducible apply r_field_p); exact rfl; exact rfl)
 | ((with_reducible apply r_load_p); exact rfl; exact rfl; exact rfl; exact rfl)
 | ((with_reducible apply r_lss); exact rfl; exact rfl; exact rfl)
 | ((with_reducible apply r_add); exact rfl; exact rfl; exact (by first | assumption | (unfold fits; omega)); exact rfl)
 | ((with_reducible apply r_len_f); exact rfl; exact inferInstance; exact rfl)
 | (((with_reducible apply aw_cond); exact rfl) <;> intro hg <;> (first | (exact absurd hg (by decide)) | ((try simp only [decide_eq_true_eq, decide_eq_false_iff_not, Bool.not_eq_true', Bool.not_eq_false', Bool.not_true, Bool.not_false, Bool.not_not, Int.not_lt, Int.not_le, Nat.not_lt, Nat.not_le, gt_iff_lt, ge_iff_le, List.cons.injEq, and_true] at hg); first | (exact absurd trivial hg) | (exfalso; omega) | (have hT : True := hg; clear hT hg) | skip)))
 )
      refine ⟨(0 + 1, 0 + l.pitch, b, z), ?_, ?_, by refine weak_mk rfl ?_ ?_ <;> repeat (first | exact envW_nil | exact heapW_nil | refine envW_cons rfl rfl ?_ | refine heapW_cons rfl rfl rfl ?_)⟩
      · show (l.len + 1 - e - (0 + l.pitch)).toNat < (l.len + 1 - e - 0).toNat; omega
      · exact ⟨by show 0 + l.pitch ≤ 4000; omega, hnw, by rw [hb, hb0]; rfl, hz⟩
  | succ m =>
    have hw1 : l.pitch ≤ w := by
      rw [hw, Int.natCast_add, Int.add_mul]
      have : 0 ≤ (m : Int) * l.pitch := Int.mul_nonneg (by omega) (by omega)
      omega
    have hat : e + w + l.kerf = atP l e (m + 1) := by unfold atP; rw [hw]
    have hb0' : b0 = posS l (VE es) e m := hb0
    have hend : l.len < e + w + l.kerf → b0 = chooseS l (VE es) e := fun h => by
      rw [hb0']; exact posS_end v (VE es) he0 (by rw [← hat]; exact h)
    by_cases hle : l.len < e + w + l.kerf
    · rw [← hend hle, ← hz0]
      by_cases hle2 : e + w ≤ l.len
      · skip
        repeat' (first
 | ((with_reducible apply aw_seq))
 | ((with_reducible apply aw_region))
 | ((with_reducible apply aw_block))
 | ((with_reducible apply thn_normal))
 | ((with_reducible apply thn_exit))
 | ((with_reducible apply inb_exit))
 | ((with_reducible apply inb_other); exact rfl)
 | ((with_reducible apply aw_skip))
 | ((with_reducible apply aw_exit))
 | ((with_reducible apply aw_ret))
 | ((with_reducible apply ao_nil))
 | ((with_reducible apply r_move); exact rfl; exact rfl)
 | ((with_reducible apply r_assign); exact rfl; exact rfl)
 | ((with_reducible apply r_field_p); exact rfl; exact rfl)
 | ((with_reducible apply r_load_p); exact rfl; exact rfl; exact rfl; exact rfl)
 | ((with_reducible apply r_load_pa); exact rfl; exact rfl; exact rfl; exact rfl; exact rfl)
 | ((with_reducible apply r_leq); exact rfl; exact rfl; exact rfl)
 | ((with_reducible apply r_gtr); exact rfl; exact rfl; exact rfl)
 | ((with_reducible apply r_add); exact rfl; exact rfl; exact (by first | assumption | (unfold fits; omega)); exact rfl)
 | ((with_reducible apply r_store_pa); exact rfl; exact rfl; exact rfl; exact rfl; exact rfl; exact rfl)
 | (((with_reducible apply aw_cond); exact rfl) <;> intro hg <;> (first | (exact absurd hg (by decide)) | ((try simp only [decide_eq_true_eq, decide_eq_false_iff_not, Bool.not_eq_true', Bool.not_eq_false', Bool.not_true, Bool.not_false, Bool.not_not, Int.not_lt, Int.not_le, Nat.not_lt, Nat.not_le, gt_iff_lt, ge_iff_le, List.cons.injEq, and_true] at hg); first | (exact absurd trivial hg) | (exfalso; omega) | (have hT : True := hg; clear hT hg) | skip)))
 )
        exact ret1 (.cell_a inferInstance rfl rfl rfl rfl (cl_cons cl_c (cl_cons cl_c (cl_cons cl_c cl_nil))))
      · skip
        repeat' (first
 | ((with_reducible apply aw_seq))
 | ((with_reducible apply aw_region))
 | ((with_reducible apply thn_normal))
 | ((with_reducible apply thn_exit))
 | ((with_reducible apply inb_exit))
 | ((with_reducible apply aw_exit))
 | ((with_reducible apply aw_ret))
 | ((with_reducible apply ao_nil))
 | ((with_reducible apply r_move); exact rfl; exact rfl)
 | ((with_reducible apply r_field_p); exact rfl; exact rfl)
 | ((with_reducible apply r_load_p); exact rfl; exact rfl; exact rfl; exact rfl)
 | ((with_reducible apply r_load_pa); exact rfl; exact rfl; exact rfl; exact rfl; exact rfl)
 | ((with_reducible apply r_leq); exact rfl; exact rfl; exact rfl)
 | ((with_reducible apply r_add); exact rfl; exact rfl; exact (by first | assumption | (unfold fits; omega)); exact rfl)
 | ((with_reducible apply r_store_pa); exact rfl; exact rfl; exact rfl; exact rfl; exact rfl; exact rfl)
 | (((with_reducible apply aw_cond); exact rfl) <;> intro hg <;> (first | (exact absurd hg (by decide)) | ((try simp only [decide_eq_true_eq, decide_eq_false_iff_not, Bool.not_eq_true', Bool.not_eq_false', Bool.not_true, Bool.not_false, Bool.not_not, Int.not_lt, Int.not_le, Nat.not_lt, Nat.not_le, gt_iff_lt, ge_iff_le, List.cons.injEq, and_true] at hg); first | (exact absurd trivial hg) | (exfalso; omega) | (have hT : True := hg; clear hT hg) | skip)))
 )
        exact ret1 (.cell_a inferInstance rfl rfl rfl rfl (cl_cons cl_c (cl_cons cl_c (cl_cons cl_c cl_nil))))
    have g1 := cp_get (l := l) (k := e + w) (by omega)
    have g2 := dp_get (l := l) (k := e + w) (by omega)
    have g3 := dp_get (l := l) (k := e + w + l.kerf) (by omega)
    have g4 := cp_bd v he0 (b := e + w) (by omega) (by omega)
    have g5 := dp_bd v (a := e + w) (b := e + w + l.kerf) (by omega) (by omega) (by omega)
    have g6 := dp_le v (k := e + w + l.kerf) (by omega)
    rw [← g1, ← hc2] at g4
    rw [← g2, ← g3] at g5
    rw [← g3] at g6
    have hpd : paidP l e (e + w + l.kerf) = (sumsS l.chip)[(e + w).toNat] - (sumsS l.chip)[e.toNat] + (sumsS l.dust)[(e + w + l.kerf).toNat] - (sumsS l.dust)[(e + w).toNat] := by
      unfold paidP; rw [show e + w + l.kerf - l.kerf = e + w by omega, g1, g2, g3, hc2]
    have hps := posS_succ l (VE es) e m
    rw [← hat, if_pos (by omega), hpd, ← hb0'] at hps
    repeat' (first
 | ((with_reducible apply aw_seq))
 | ((with_reducible apply aw_region))
 | ((with_reducible apply aw_block))
 | ((with_reducible apply thn_normal))
 | ((with_reducible apply aw_skip))
 | ((with_reducible apply ao_nil))
 | ((with_reducible apply r_move); exact rfl; exact rfl)
 | ((with_reducible apply r_assign); exact rfl; exact rfl)
 | ((with_reducible apply r_field_p); exact rfl; exact rfl)
 | ((with_reducible apply r_load_p); exact rfl; exact rfl; exact rfl; exact rfl)
 | ((with_reducible apply r_leq); exact rfl; exact rfl; exact rfl)
 | ((with_reducible apply r_gtr); exact rfl; exact rfl; exact rfl)
 | ((with_reducible apply r_add); exact rfl; exact rfl; exact (by first | assumption | (unfold fits; omega)); exact rfl)
 | ((with_reducible apply r_sub); exact rfl; exact rfl; exact (by first | assumption | (unfold fits; omega)); exact rfl)
 | ((with_reducible apply r_index_f); exact rfl; exact inferInstance; exact rfl; exact (Int.toNat_of_nonneg (by omega)).symm; (first | assumption | omega); exact rfl)
 | ((with_reducible apply r_load_f0); exact rfl; exact inferInstance; exact List.getElem?_eq_getElem (by first | assumption | omega); exact rfl; exact rfl)
 | (((with_reducible apply aw_cond); exact rfl) <;> intro hg <;> (first | (exact absurd hg (by decide)) | ((try simp only [decide_eq_true_eq, decide_eq_false_iff_not, Bool.not_eq_true', Bool.not_eq_false', Bool.not_true, Bool.not_false, Bool.not_not, Int.not_lt, Int.not_le, Nat.not_lt, Nat.not_le, gt_iff_lt, ge_iff_le, List.cons.injEq, and_true] at hg); first | (exact absurd trivial hg) | (exfalso; omega) | (have hT : True := hg; clear hT hg) | skip)))
 | (refine aw_drawq ?_ ?_; (kernel_rfl))
 | ((with_reducible apply ds_nil))
 )
    refine aw_loopG (G := Nat × Ch × Int) (fun ((i, b, z) : Nat × Ch × Int) => i ≤ l.sizes.length ∧ b = grp l (VE es) ((sumsS l.chip)[(e + w).toNat]'(by omega) - (sumsS l.chip)[e.toNat]'(by omega) + (sumsS l.dust)[(e + w + l.kerf).toNat]'(by omega) - (sumsS l.dust)[(e + w).toNat]'(by omega)) (e + w + l.kerf) i b0 ∧ z = fz b) (fun ((i, b, z) : Nat × Ch × Int) => l.sizes.length - i) (fun ((i, b, z) : Nat × Ch × Int) => [(1, A e), (2, .c (LI (sumsS l.chip))), (3, .c (LI (sumsS l.dust))), (4, .c (LR es)), (5, .ptr 0 0), (10, .ptr 1 0), (11, .ptr 2 0), (12, A w), (13, A (e + w + l.kerf)), (14, A ((sumsS l.chip)[(e + w).toNat]'(by omega) - (sumsS l.chip)[e.toNat]'(by omega) + (sumsS l.dust)[(e + w + l.kerf).toNat]'(by omega) - (sumsS l.dust)[(e + w).toNat]'(by omega))), (15, A i)]) (fun ((i, b, z) : Nat × Ch × Int) => [(0, some (lineB l)), (1, some (.cells 112 [A 0, A 0, A 0])), (2, some (.cells 112 [A b.2.2, A b.1, A z]))]) 3 (0, b0, z0) ?_ (by refine weak_mk rfl ?_ ?_ <;> repeat (first | exact envW_nil | exact heapW_nil | refine envW_cons rfl rfl ?_ | refine heapW_cons rfl rfl rfl ?_)) rfl ?_
    · exact ⟨Nat.zero_le _, rfl, hz0⟩
    rintro ⟨i, b, z⟩ hI
    try dsimp only at hI
    try dsimp only
    obtain ⟨hi, hb, hz⟩ := hI
    by_cases hil : i < l.sizes.length
    · have hsk := v.size i hil
      have hgk : i < l.gain.length := by have := v.gain; omega
      have hrow := v.row i hgk hil
      have hsz := szOf_nat hil
      by_cases ho1 : e + w + l.kerf + l.sizes[i] ≤ l.len
      · have hpl : (e + w + l.kerf).toNat < l.gain[i].length := by omega
        have hgo := gOf_get hgk hpl
        by_cases ho2 : 0 ≤ l.gain[i][(e + w + l.kerf).toNat]
        · have hok : OkP l i (e + w + l.kerf) := ⟨by rw [hsz]; exact ho1, by rw [hgo]; exact ho2⟩
          have hcb := candV_bd v he0 (p := e + w + l.kerf) (by omega) hV hil hok
          have hac := after_con (gl := gl) l v i hil (e + w + l.kerf) (by omega) hok es hes (fun x hx hx2 => hV x (by omega) hx2)
          repeat' (first
 | ((with_reducible apply r_call); exact rfl; exact rfl; exact hac; exact rfl; exact rfl)
 | ((with_reducible apply aw_seq))
 | ((with_reducible apply aw_region))
 | ((with_reducible apply aw_block))
 | ((with_reducible apply thn_normal))
 | ((with_reducible apply inb_normal))
 | ((with_reducible apply aw_skip))
 | ((with_reducible apply ao_nil))
 | ((with_reducible apply r_move); exact rfl; exact rfl)
 | ((with_reducible apply r_assign); exact rfl; exact rfl)
 | ((with_reducible apply r_field_p); exact rfl; exact rfl)
 | ((with_reducible apply r_load_p); exact rfl; exact rfl; exact rfl; exact rfl)
 | ((with_reducible apply r_load_pa); exact rfl; exact rfl; exact rfl; exact rfl; exact rfl)
 | ((with_reducible apply r_lss); exact rfl; exact rfl; exact rfl)
 | ((with_reducible apply r_gtr); exact rfl; exact rfl; exact rfl)
 | ((with_reducible apply r_add); exact rfl; exact rfl; exact (by first | assumption | (unfold fits; omega)); exact rfl)
 | ((with_reducible apply r_sub); exact rfl; exact rfl; exact (by first | assumption | (unfold fits; omega)); exact rfl)
 | ((with_reducible apply r_pick_f); exact rfl; exact rfl; exact rfl)
 | ((with_reducible apply r_len_f); exact rfl; exact inferInstance; exact rfl)
 | ((with_reducible apply r_index_f); exact rfl; exact inferInstance; exact rfl; exact rfl; (first | assumption | omega); exact rfl)
 | ((with_reducible apply r_index_f); exact rfl; exact inferInstance; exact rfl; exact (Int.toNat_of_nonneg (by omega)).symm; (first | assumption | omega); exact rfl)
 | ((with_reducible apply r_load_f0); exact rfl; exact inferInstance; exact List.getElem?_eq_getElem (by first | assumption | omega); exact rfl; exact rfl)
 | ((with_reducible apply r_store_pa); exact rfl; exact rfl; exact rfl; exact rfl; exact rfl; exact rfl)
 | ((with_reducible apply r_build); exact rfl; exact rfl; exact rfl)
 | ((with_reducible apply r_alloc); exact rfl)
 | (((with_reducible apply aw_cond); exact rfl) <;> intro hg <;> (first | (exact absurd hg (by decide)) | ((try simp only [decide_eq_true_eq, decide_eq_false_iff_not, Bool.not_eq_true', Bool.not_eq_false', Bool.not_true, Bool.not_false, Bool.not_not, Int.not_lt, Int.not_le, Nat.not_lt, Nat.not_le, gt_iff_lt, ge_iff_le, List.cons.injEq, and_true] at hg); first | (exact absurd trivial hg) | (exfalso; omega) | (have hT : True := hg; clear hT hg) | skip)))
 | (refine aw_drawq ?_ ?_; (kernel_rfl))
 | ((with_reducible apply ds_nil))
 | (((with_reducible apply rd_guard); exact rfl; exact rfl; exact rfl) <;> intro hg <;> (first | (exact absurd hg (by decide)) | ((try rw [hg]); (try simp only [decide_eq_true_eq, decide_eq_false_iff_not, Bool.not_eq_true', Bool.not_eq_false', Bool.not_true, Bool.not_false, Bool.not_not, Int.not_lt, Int.not_le, Nat.not_lt, Nat.not_le, gt_iff_lt, ge_iff_le, List.cons.injEq, and_true] at hg); first | (exact absurd trivial hg) | (exfalso; omega) | (have hT : True := hg; clear hT hg) | skip)))
 )
          · skip
            refine ⟨(i + 1, ((i : Int), e + w + l.kerf, (sumsS l.chip)[(e + w).toNat]'(by omega) - (sumsS l.chip)[e.toNat]'(by omega) + (sumsS l.dust)[(e + w + l.kerf).toNat]'(by omega) - (sumsS l.dust)[(e + w).toNat]'(by omega) + candV l (VE es) i (e + w + l.kerf)), e + w + l.kerf), ?_, ?_, by refine weak_mk rfl ?_ ?_ <;> repeat (first | exact envW_nil | exact heapW_nil | refine envW_cons rfl rfl ?_ | refine heapW_cons rfl rfl rfl ?_)⟩
            · show _ - (i + 1) < _ - i; omega
            · exact ⟨by show i + 1 ≤ _; omega, (grp_yes hok (by rw [← hb]; omega)).symm, by show e + w + l.kerf = fz _; unfold fz; rw [if_neg (by show ¬ ((i : Int) < 0); omega)]⟩
          · skip
            refine ⟨(i + 1, b, z), ?_, ?_, by refine weak_mk rfl ?_ ?_ <;> repeat (first | exact envW_nil | exact heapW_nil | refine envW_cons rfl rfl ?_ | refine heapW_cons rfl rfl rfl ?_)⟩
            · show _ - (i + 1) < _ - i; omega
            · exact ⟨by show i + 1 ≤ _; omega, by show b = _; rw [grp_no (fun hh => by rw [← hb] at hh; omega)]; exact hb, hz⟩
        · have hok : ¬ OkP l i (e + w + l.kerf) := fun hh => ho2 (by rw [← hgo]; exact hh.2)
          repeat' (first
 | ((with_reducible apply aw_seq))
 | ((with_reducible apply aw_region))
 | ((with_reducible apply aw_block))
 | ((with_reducible apply thn_normal))
 | ((with_reducible apply thn_exit))
 | ((with_reducible apply inb_exit))
 | ((with_reducible apply aw_skip))
 | ((with_reducible apply aw_exit))
 | ((with_reducible apply ao_nil))
 | ((with_reducible apply r_move); exact rfl; exact rfl)
 | ((with_reducible apply r_assign); exact rfl; exact rfl)
 | ((with_reducible apply r_field_p); exact rfl; exact rfl)
 | ((with_reducible apply r_load_p); exact rfl; exact rfl; exact rfl; exact rfl)
 | ((with_reducible apply r_lss); exact rfl; exact rfl; exact rfl)
 | ((with_reducible apply r_gtr); exact rfl; exact rfl; exact rfl)
 | ((with_reducible apply r_add); exact rfl; exact rfl; exact (by first | assumption | (unfold fits; omega)); exact rfl)
 | ((with_reducible apply r_sub); exact rfl; exact rfl; exact (by first | assumption | (unfold fits; omega)); exact rfl)
 | ((with_reducible apply r_pick_f); exact rfl; exact rfl; exact rfl)
 | ((with_reducible apply r_len_f); exact rfl; exact inferInstance; exact rfl)
 | ((with_reducible apply r_index_f); exact rfl; exact inferInstance; exact rfl; exact rfl; (first | assumption | omega); exact rfl)
 | ((with_reducible apply r_index_f); exact rfl; exact inferInstance; exact rfl; exact (Int.toNat_of_nonneg (by omega)).symm; (first | assumption | omega); exact rfl)
 | ((with_reducible apply r_load_f0); exact rfl; exact inferInstance; exact List.getElem?_eq_getElem (by first | assumption | omega); exact rfl; exact rfl)
 | (((with_reducible apply aw_cond); exact rfl) <;> intro hg <;> (first | (exact absurd hg (by decide)) | ((try simp only [decide_eq_true_eq, decide_eq_false_iff_not, Bool.not_eq_true', Bool.not_eq_false', Bool.not_true, Bool.not_false, Bool.not_not, Int.not_lt, Int.not_le, Nat.not_lt, Nat.not_le, gt_iff_lt, ge_iff_le, List.cons.injEq, and_true] at hg); first | (exact absurd trivial hg) | (exfalso; omega) | (have hT : True := hg; clear hT hg) | skip)))
 | (refine aw_drawq ?_ ?_; (kernel_rfl))
 | ((with_reducible apply ds_nil))
 | (((with_reducible apply rd_guard); exact rfl; exact rfl; exact rfl) <;> intro hg <;> (first | (exact absurd hg (by decide)) | ((try rw [hg]); (try simp only [decide_eq_true_eq, decide_eq_false_iff_not, Bool.not_eq_true', Bool.not_eq_false', Bool.not_true, Bool.not_false, Bool.not_not, Int.not_lt, Int.not_le, Nat.not_lt, Nat.not_le, gt_iff_lt, ge_iff_le, List.cons.injEq, and_true] at hg); first | (exact absurd trivial hg) | (exfalso; omega) | (have hT : True := hg; clear hT hg) | skip)))
 )
          refine ⟨(i + 1, b, z), ?_, ?_, by refine weak_mk rfl ?_ ?_ <;> repeat (first | exact envW_nil | exact heapW_nil | refine envW_cons rfl rfl ?_ | refine heapW_cons rfl rfl rfl ?_)⟩
          · show _ - (i + 1) < _ - i; omega
          · exact ⟨by show i + 1 ≤ _; omega, by show b = _; rw [grp_no (fun hh => hok hh.1)]; exact hb, hz⟩
      · have hok : ¬ OkP l i (e + w + l.kerf) := fun hh => ho1 (by rw [← hsz]; exact hh.1)
        repeat' (first
 | ((with_reducible apply aw_seq))
 | ((with_reducible apply aw_region))
 | ((with_reducible apply aw_block))
 | ((with_reducible apply thn_normal))
 | ((with_reducible apply thn_exit))
 | ((with_reducible apply inb_exit))
 | ((with_reducible apply aw_skip))
 | ((with_reducible apply aw_exit))
 | ((with_reducible apply ao_nil))
 | ((with_reducible apply r_move); exact rfl; exact rfl)
 | ((with_reducible apply r_assign); exact rfl; exact rfl)
 | ((with_reducible apply r_field_p); exact rfl; exact rfl)
 | ((with_reducible apply r_load_p); exact rfl; exact rfl; exact rfl; exact rfl)
 | ((with_reducible apply r_lss); exact rfl; exact rfl; exact rfl)
 | ((with_reducible apply r_gtr); exact rfl; exact rfl; exact rfl)
 | ((with_reducible apply r_add); exact rfl; exact rfl; exact (by first | assumption | (unfold fits; omega)); exact rfl)
 | ((with_reducible apply r_sub); exact rfl; exact rfl; exact (by first | assumption | (unfold fits; omega)); exact rfl)
 | ((with_reducible apply r_pick_t); exact rfl; exact rfl; exact rfl)
 | ((with_reducible apply r_len_f); exact rfl; exact inferInstance; exact rfl)
 | ((with_reducible apply r_index_f); exact rfl; exact inferInstance; exact rfl; exact rfl; (first | assumption | omega); exact rfl)
 | ((with_reducible apply r_load_f0); exact rfl; exact inferInstance; exact List.getElem?_eq_getElem (by first | assumption | omega); exact rfl; exact rfl)
 | (((with_reducible apply aw_cond); exact rfl) <;> intro hg <;> (first | (exact absurd hg (by decide)) | ((try simp only [decide_eq_true_eq, decide_eq_false_iff_not, Bool.not_eq_true', Bool.not_eq_false', Bool.not_true, Bool.not_false, Bool.not_not, Int.not_lt, Int.not_le, Nat.not_lt, Nat.not_le, gt_iff_lt, ge_iff_le, List.cons.injEq, and_true] at hg); first | (exact absurd trivial hg) | (exfalso; omega) | (have hT : True := hg; clear hT hg) | skip)))
 | (refine aw_drawq ?_ ?_; (kernel_rfl))
 | ((with_reducible apply ds_nil))
 | (((with_reducible apply rd_guard); exact rfl; exact rfl; exact rfl) <;> intro hg <;> (first | (exact absurd hg (by decide)) | ((try rw [hg]); (try simp only [decide_eq_true_eq, decide_eq_false_iff_not, Bool.not_eq_true', Bool.not_eq_false', Bool.not_true, Bool.not_false, Bool.not_not, Int.not_lt, Int.not_le, Nat.not_lt, Nat.not_le, gt_iff_lt, ge_iff_le, List.cons.injEq, and_true] at hg); first | (exact absurd trivial hg) | (exfalso; omega) | (have hT : True := hg; clear hT hg) | skip)))
 )
        refine ⟨(i + 1, b, z), ?_, ?_, by refine weak_mk rfl ?_ ?_ <;> repeat (first | exact envW_nil | exact heapW_nil | refine envW_cons rfl rfl ?_ | refine heapW_cons rfl rfl rfl ?_)⟩
        · show _ - (i + 1) < _ - i; omega
        · exact ⟨by show i + 1 ≤ _; omega, by show b = _; rw [grp_no (fun hh => hok hh.1)]; exact hb, hz⟩
    · obtain rfl : i = l.sizes.length := by omega
      repeat' (first
 | ((with_reducible apply aw_seq))
 | ((with_reducible apply aw_region))
 | ((with_reducible apply thn_normal))
 | ((with_reducible apply thn_exit))
 | ((with_reducible apply inb_normal))
 | ((with_reducible apply inb_exit))
 | ((with_reducible apply aw_exit))
 | ((with_reducible apply ao_nil))
 | ((with_reducible apply r_move); exact rfl; exact rfl)
 | ((with_reducible apply r_assign); exact rfl; exact rfl)
 | ((with_reducible apply r_field_p); exact rfl; exact rfl)
 | ((with_reducible apply r_load_p); exact rfl; exact rfl; exact rfl; exact rfl)
 | ((with_reducible apply r_lss); exact rfl; exact rfl; exact rfl)
 | ((with_reducible apply r_add); exact rfl; exact rfl; exact (by first | assumption | (unfold fits; omega)); exact rfl)
 | ((with_reducible apply r_len_f); exact rfl; exact inferInstance; exact rfl)
 | (((with_reducible apply aw_cond); exact rfl) <;> intro hg <;> (first | (exact absurd hg (by decide)) | ((try simp only [decide_eq_true_eq, decide_eq_false_iff_not, Bool.not_eq_true', Bool.not_eq_false', Bool.not_true, Bool.not_false, Bool.not_not, Int.not_lt, Int.not_le, Nat.not_lt, Nat.not_le, gt_iff_lt, ge_iff_le, List.cons.injEq, and_true] at hg); first | (exact absurd trivial hg) | (exfalso; omega) | (have hT : True := hg; clear hT hg) | skip)))
 )
      refine ⟨(m + 1 + 1, w + l.pitch, b, z), ?_, ?_, by refine weak_mk rfl ?_ ?_ <;> repeat (first | exact envW_nil | exact heapW_nil | refine envW_cons rfl rfl ?_ | refine heapW_cons rfl rfl rfl ?_)⟩
      · show (l.len + 1 - e - (w + l.pitch)).toNat < (l.len + 1 - e - w).toNat; omega
      · exact ⟨by show w + l.pitch ≤ 4000; omega, hnw, by rw [hb, ← hps]; rfl, hz⟩
end Go.Proofs.YtkhljpbkebnnmaaGreatDoor.Cu
/- Walk of the reference of cutting: Best. -/
namespace Go.Proofs.YtkhljpbkebnnmaaGreatDoor.Cu
set_option linter.unusedVariables false
set_option linter.unusedSimpArgs false
open Go.RowKit Go.Proofs.YtkhljpbkebnnmaaGreatDoor.Ev
variable {gl : List (Nat × List CV)}
structure KnE (l : Line) (p : Int) (es : List Ch) : Prop where
  en : es.length = l.len.toNat + 1
  e : ∀ i (h : i < es.length), p < i → es[i] = TT l i
theorem KnE.ve {l : Line} {p : Int} {es : List Ch} (h : KnE l p es) (x : Int) (h1 : p < x) (h0 : 0 ≤ x) (h2 : x ≤ l.len) : VE es x = TV l x := by
  have hx : x.toNat < es.length := by have := h.en; omega
  rw [← VE_int h0 hx, h.e _ hx (by omega), Int.toNat_of_nonneg h0]; rfl
theorem chooseS_congr {l : Line} (v : Valid l) {V V' : Int → Int} {e : Int} (he : 0 ≤ e) (h : ∀ x, e < x → x ≤ l.len → V x = V' x) : chooseS l V e = chooseS l V' e := posS_congr v he h _
theorem rbest_con (l : Line) : Con Tryz.prog gl 37 [lineC l] (bestC (bestS l)) := by
  refine con_of Tryz.func37 rfl (by kernel_rfl) rfl ?_
  simp only [Tryz.ntmps37, Tryz.results37, argEnv, ofC, of1, List.map, lineC, lineL]
  repeat' (first
 | ((with_reducible apply r_call); exact rfl; exact rfl; exact rcheck_con l; exact rfl; exact rfl)
 | ((with_reducible apply aw_seq))
 | ((with_reducible apply aw_region))
 | ((with_reducible apply thn_normal))
 | ((with_reducible apply thn_ret))
 | ((with_reducible apply aw_skip))
 | ((with_reducible apply aw_ret))
 | ((with_reducible apply ao_nil))
 | ((with_reducible apply r_move); exact rfl; exact rfl)
 | ((with_reducible apply r_assign); exact rfl; exact rfl)
 | ((with_reducible apply r_field_p); exact rfl; exact rfl)
 | ((with_reducible apply r_load_p); exact rfl; exact rfl; exact rfl; exact rfl)
 | ((with_reducible apply r_load_pa); exact rfl; exact rfl; exact rfl; exact rfl; exact rfl)
 | ((with_reducible apply r_neq); exact rfl; exact rfl; exact rfl)
 | ((with_reducible apply r_box_a); exact rfl; exact rfl)
 | (((with_reducible apply aw_cond); exact rfl) <;> intro hg <;> (first | (exact absurd hg (by decide)) | ((try simp only [decide_eq_true_eq, decide_eq_false_iff_not, Bool.not_eq_true', Bool.not_eq_false', Bool.not_true, Bool.not_false, Bool.not_not, Int.not_lt, Int.not_le, Nat.not_lt, Nat.not_le, gt_iff_lt, ge_iff_le, List.cons.injEq, and_true] at hg); first | (exact absurd trivial hg) | (exfalso; omega) | (have hT : True := hg; clear hT hg) | skip)))
 | (refine aw_drawq ?_ ?_; (kernel_rfl))
 )
  · rw [best_err hg]
    exact ret2 (.cons (.tmp rfl cl_none) (.cons (.tmp rfl cl_c) (.cons (.tmp rfl cl_c) .nil)))
  have v := valid_of hg
  have hl := v.len
  have hlk := v.kerf
  have hld := v.dust
  have hlc := v.chip
  have hlt := tabS_len l
  have h0 : TV l 0 = ((tabS l)[(0 : Int).toNat]'(by rw [hlt]; omega)).2.2 := by rw [tabS_get]; rfl
  rw [best_ok hg, h0]
  repeat' (first
 | ((with_reducible apply r_call); exact rfl; exact rfl; (first | exact prefix_con l.chip v.chips (by omega) | exact prefix_con l.dust v.dusts (by omega)); exact rfl; exact rfl)
 | ((with_reducible apply r_make (enc := rC) (0, 0, 0) (l.len.toNat + 1)); exact inferInstance; exact rfl; exact rfl; exact rfl; (exact (by omega)); (exact (by omega)); omega; omega; exact rfl)
 | ((with_reducible apply aw_seq))
 | ((with_reducible apply aw_region))
 | ((with_reducible apply aw_block))
 | ((with_reducible apply thn_normal))
 | ((with_reducible apply ao_nil))
 | ((with_reducible apply r_assign); exact rfl; exact rfl)
 | ((with_reducible apply r_field_p); exact rfl; exact rfl)
 | ((with_reducible apply r_load_p); exact rfl; exact rfl; exact rfl; exact rfl)
 | ((with_reducible apply r_add); exact rfl; exact rfl; exact (by first | assumption | (unfold fits; omega)); exact rfl)
 | ((with_reducible apply ds_nil))
 )
  refine aw_loopG (G := Int × List Ch) (fun ((p, es) : Int × List Ch) => -1 ≤ p ∧ p ≤ l.len ∧ KnE l p es) (fun ((p, es) : Int × List Ch) => (p + 1).toNat) (fun ((p, es) : Int × List Ch) => [(1, .ptr 0 0), (6, .c (LI (sumsS l.chip))), (7, .c (LI (sumsS l.dust))), (8, .vec 1 (l.len.toNat + 1)), (9, A p)]) (fun ((p, es) : Int × List Ch) => [(0, some (lineB l)), (1, some (.vec 112 3 (es.flatMap rC)))]) 2 (l.len, List.replicate (l.len.toNat + 1) (0, 0, 0)) ?_ (by refine weak_mk rfl ?_ ?_ <;> repeat (first | exact envW_nil | exact heapW_nil | refine envW_cons rfl rfl ?_ | refine heapW_cons rfl rfl rfl ?_)) rfl ?_
  · exact ⟨by show -1 ≤ l.len; omega, Int.le_refl _, ⟨by simp, fun i h hp => by simp at h; omega⟩⟩
  rintro ⟨p, es⟩ hI
  try dsimp only at hI
  try dsimp only
  obtain ⟨hp0, hp1, kn⟩ := hI
  have hen := kn.en
  by_cases hpl : 0 ≤ p
  · have hV : VB l (VE es) p := fun x hx hx2 => by
      rw [kn.ve x hx (by omega) hx2]; exact TV_bd v hpl x hx hx2
    have hfc := from_con (gl := gl) l v p hpl hp1 es (by omega) hV
    have htt : chooseS l (VE es) p = TT l p := by
      rw [TT_eq v hpl hp1]; exact chooseS_congr v hpl (fun x hx hx2 => kn.ve x hx (by omega) hx2)
    rw [htt] at hfc
    repeat' (first
 | ((with_reducible apply r_callv); exact hfc; exact rfl; exact cl_cons (clF_cl rfl) (cl_cons cl_c (cl_cons cl_c (cl_cons cl_c (cl_cons (cl_vec rfl (by rw [flat_len EncL.len, hen])) cl_nil)))); exact rfl; exact rfl)
 | ((with_reducible apply (r_store_v (enc := rC) (k := p.toNat) (l := es) (TT l p))); exact rfl; exact rfl; exact inferInstance; exact hen; exact (by omega); exact rfl; exact rfl; exact rfl; exact rfl)
 | ((with_reducible apply aw_seq))
 | ((with_reducible apply aw_region))
 | ((with_reducible apply aw_block))
 | ((with_reducible apply thn_normal))
 | ((with_reducible apply inb_normal))
 | ((with_reducible apply aw_skip))
 | ((with_reducible apply ao_nil))
 | ((with_reducible apply r_move); exact rfl; exact rfl)
 | ((with_reducible apply r_assign); exact rfl; exact rfl)
 | ((with_reducible apply r_load_pa); exact rfl; exact rfl; exact rfl; exact rfl; exact rfl)
 | ((with_reducible apply r_geq); exact rfl; exact rfl; exact rfl)
 | ((with_reducible apply r_sub); exact rfl; exact rfl; exact (by first | assumption | (unfold fits; omega)); exact rfl)
 | ((with_reducible apply r_index_vf); exact rfl; exact rfl; exact inferInstance; (first | exact rfl | assumption | omega); exact rfl; exact (Int.toNat_of_nonneg (by omega)).symm; (first | assumption | omega); exact rfl)
 | (((with_reducible apply aw_cond); exact rfl) <;> intro hg <;> (first | (exact absurd hg (by decide)) | ((try simp only [decide_eq_true_eq, decide_eq_false_iff_not, Bool.not_eq_true', Bool.not_eq_false', Bool.not_true, Bool.not_false, Bool.not_not, Int.not_lt, Int.not_le, Nat.not_lt, Nat.not_le, gt_iff_lt, ge_iff_le, List.cons.injEq, and_true] at hg); first | (exact absurd trivial hg) | (exfalso; omega) | (have hT : True := hg; clear hT hg) | skip)))
 )
    refine ⟨(p - 1, es.set p.toNat (TT l p)), ?_, ?_, by refine weak_mk rfl ?_ ?_ <;> repeat (first | exact envW_nil | exact heapW_nil | refine envW_cons rfl rfl ?_ | refine heapW_cons rfl rfl rfl ?_)⟩
    · show (p - 1 + 1).toNat < (p + 1).toNat; omega
    · refine ⟨by show -1 ≤ p - 1; omega, by show p - 1 ≤ _; omega, ⟨by simp [hen], fun i h hi => ?_⟩⟩
      by_cases e : i = p.toNat
      · subst e; rw [List.getElem_set_self, Int.toNat_of_nonneg hpl]
      · rw [List.getElem_set_ne (by omega)]
        exact kn.e i (by simpa using h) (by have : p - 1 < (i : Int) := hi; omega)
  · have hes : es = tabS l := tabS_of kn.en (fun i hi => kn.e i hi (by omega))
    subst hes
    repeat' (first
 | ((with_reducible apply aw_seq))
 | ((with_reducible apply aw_region))
 | ((with_reducible apply aw_block))
 | ((with_reducible apply thn_normal))
 | ((with_reducible apply thn_exit))
 | ((with_reducible apply inb_exit))
 | ((with_reducible apply aw_exit))
 | ((with_reducible apply ao_nil))
 | ((with_reducible apply r_move); exact rfl; exact rfl)
 | ((with_reducible apply r_assign); exact rfl; exact rfl)
 | ((with_reducible apply r_geq); exact rfl; exact rfl; exact rfl)
 | (((with_reducible apply aw_cond); exact rfl) <;> intro hg <;> (first | (exact absurd hg (by decide)) | ((try simp only [decide_eq_true_eq, decide_eq_false_iff_not, Bool.not_eq_true', Bool.not_eq_false', Bool.not_true, Bool.not_false, Bool.not_not, Int.not_lt, Int.not_le, Nat.not_lt, Nat.not_le, gt_iff_lt, ge_iff_le, List.cons.injEq, and_true] at hg); first | (exact absurd trivial hg) | (exfalso; omega) | (have hT : True := hg; clear hT hg) | skip)))
 )
    refine aw_nilvec 10 74 2 rfl rfl ?_
    refine aw_loopG (G := Nat × Int × Nat × List Piece) (fun ((n, ed, k, out) : Nat × Int × Nat × List Piece) => out.length = k ∧ 0 ≤ ed ∧ ed ≤ l.len ∧ l.len - ed + 1 ≤ n ∧ out.length + n ≤ l.len.toNat + 2 ∧ chainS l (l.len.toNat + 2) 0 = out ++ chainS l n ed) (fun ((n, ed, k, out) : Nat × Int × Nat × List Piece) => n) (fun ((n, ed, k, out) : Nat × Int × Nat × List Piece) => [(1, .ptr 0 0), (8, .vec 1 (l.len.toNat + 1)), (10, .vec 2 k), (11, A ed)]) (fun ((n, ed, k, out) : Nat × Int × Nat × List Piece) => [(0, some (lineB l)), (1, some (.vec 112 3 ((tabS l).flatMap rC))), (2, some (.vec 74 2 (out.flatMap pcC)))]) 3 (l.len.toNat + 2, 0, 0, []) ?_ (by refine weak_mk rfl ?_ ?_ <;> repeat (first | exact envW_nil | exact heapW_nil | refine envW_cons rfl rfl ?_ | refine heapW_cons rfl rfl rfl ?_)) rfl ?_
    · exact ⟨rfl, by decide, hl.1, by omega, by simp, by simp⟩
    rintro ⟨n, ed, k, out⟩ hI
    try dsimp only at hI
    try dsimp only
    obtain ⟨hk, he1, he2, hn, ho, hch⟩ := hI
    have htg := tabS_get l ed.toNat (by omega)
    rw [Int.toNat_of_nonneg he1] at htg
    have hs := TT_sgn v he1 he2
    rw [← htg] at hs
    rcases hs with hs | ⟨s1, s2, s3, s4⟩
    · skip
      repeat' (first
 | ((with_reducible apply aw_seq))
 | ((with_reducible apply aw_region))
 | ((with_reducible apply thn_normal))
 | ((with_reducible apply thn_exit))
 | ((with_reducible apply inb_exit))
 | ((with_reducible apply aw_exit))
 | ((with_reducible apply aw_ret))
 | ((with_reducible apply ao_nil))
 | ((with_reducible apply r_move); exact rfl; exact rfl)
 | ((with_reducible apply r_assign); exact rfl; exact rfl)
 | ((with_reducible apply r_geq); exact rfl; exact rfl; exact rfl)
 | ((with_reducible apply r_index_vf); exact rfl; exact rfl; exact inferInstance; (first | exact rfl | assumption | omega); exact rfl; exact (Int.toNat_of_nonneg (by omega)).symm; (first | assumption | omega); exact rfl)
 | ((with_reducible apply r_load_vf0); exact rfl; exact rfl; exact inferInstance; (first | exact rfl | assumption | omega); exact List.getElem?_eq_getElem (by first | assumption | omega); exact rfl; exact rfl)
 | ((with_reducible apply r_load_vf); exact rfl; exact rfl; exact inferInstance; (first | exact rfl | assumption | omega); exact List.getElem?_eq_getElem (by first | assumption | omega); exact rfl; exact rfl; exact rfl)
 | ((with_reducible apply r_field_vf); exact rfl; exact rfl; exact inferInstance; (first | exact rfl | assumption | omega); exact rfl)
 | (((with_reducible apply aw_cond); exact rfl) <;> intro hg <;> (first | (exact absurd hg (by decide)) | ((try simp only [decide_eq_true_eq, decide_eq_false_iff_not, Bool.not_eq_true', Bool.not_eq_false', Bool.not_true, Bool.not_false, Bool.not_not, Int.not_lt, Int.not_le, Nat.not_lt, Nat.not_le, gt_iff_lt, ge_iff_le, List.cons.injEq, and_true] at hg); first | (exact absurd trivial hg) | (exfalso; omega) | (have hT : True := hg; clear hT hg) | skip)))
 | (refine aw_drawq ?_ ?_; (kernel_rfl))
 | ((with_reducible apply ds_nil))
 )
      rw [hch, chain_stop (Or.inr (by rw [← htg]; omega)), List.append_nil]
      exact ret2 (.cons (.tmp rfl (cl_vec rfl (by rw [flat_len EncL.len, hk]))) (.cons (.tmp rfl cl_c) (.cons (.tmp rfl cl_c) .nil)))
    · have s5 := OkP_sz s1 s4
      obtain ⟨m, rfl⟩ : ∃ m, n = m + 1 := ⟨n - 1, by omega⟩
      have hgo := chain_go (l := l) (n := m) he1 (by rw [← htg]; exact s1)
      rw [← htg] at hgo
      have hk2 : (tabS l)[ed.toNat].1.toNat < l.sizes.length := by omega
      have hsz : szOf l (tabS l)[ed.toNat].1 = l.sizes[(tabS l)[ed.toNat].1.toNat] := by
        conv => lhs; rw [show (tabS l)[ed.toNat].1 = (((tabS l)[ed.toNat].1.toNat : Nat) : Int) by omega]
        exact szOf_nat hk2
      have hfz : fz (tabS l)[ed.toNat] = (tabS l)[ed.toNat].2.1 := by unfold fz; rw [if_neg (by omega)]
      rw [hsz] at s5 hgo
      rw [← hfz] at s5 hgo s3
      have hz := v.size _ hk2
      have hb := beh_cases v (q := fz (tabS l)[ed.toNat] + l.sizes[(tabS l)[ed.toNat].1.toNat]) (by omega) s5
      repeat' (first
 | ((with_reducible apply (r_push (enc := pcC) (x0 := ((tabS l)[ed.toNat].1, fz (tabS l)[ed.toNat])))); exact rfl; exact rfl; exact inferInstance; exact hk; exact rfl; exact rfl; exact rfl; exact (by omega); exact (by omega); exact rfl)
 | ((with_reducible apply aw_seq))
 | ((with_reducible apply aw_region))
 | ((with_reducible apply aw_block))
 | ((with_reducible apply thn_normal))
 | ((with_reducible apply thn_exit))
 | ((with_reducible apply inb_normal))
 | ((with_reducible apply inb_exit))
 | ((with_reducible apply inb_other); exact rfl)
 | ((with_reducible apply aw_skip))
 | ((with_reducible apply aw_exit))
 | ((with_reducible apply aw_ret))
 | ((with_reducible apply ao_nil))
 | ((with_reducible apply r_move); exact rfl; exact rfl)
 | ((with_reducible apply r_assign); exact rfl; exact rfl)
 | ((with_reducible apply r_field_p); exact rfl; exact rfl)
 | ((with_reducible apply r_load_p); exact rfl; exact rfl; exact rfl; exact rfl)
 | ((with_reducible apply r_load_pa); exact rfl; exact rfl; exact rfl; exact rfl; exact rfl)
 | ((with_reducible apply r_geq); exact rfl; exact rfl; exact rfl)
 | ((with_reducible apply r_eql); exact rfl; exact rfl; exact rfl)
 | ((with_reducible apply r_add); exact rfl; exact rfl; exact (by first | assumption | (unfold fits; omega)); exact rfl)
 | ((with_reducible apply r_min); exact rfl; exact rfl; exact rfl)
 | ((with_reducible apply r_index_f); exact rfl; exact inferInstance; exact rfl; exact (Int.toNat_of_nonneg (by omega)).symm; (first | assumption | omega); exact rfl)
 | ((with_reducible apply r_load_f0); exact rfl; exact inferInstance; exact List.getElem?_eq_getElem (by first | assumption | omega); exact rfl; exact rfl)
 | ((with_reducible apply r_index_vf); exact rfl; exact rfl; exact inferInstance; (first | exact rfl | assumption | omega); exact rfl; exact (Int.toNat_of_nonneg (by omega)).symm; (first | assumption | omega); exact rfl)
 | ((with_reducible apply r_load_vf0); exact rfl; exact rfl; exact inferInstance; (first | exact rfl | assumption | omega); exact List.getElem?_eq_getElem (by first | assumption | omega); exact rfl; exact rfl)
 | ((with_reducible apply r_load_vf); exact rfl; exact rfl; exact inferInstance; (first | exact rfl | assumption | omega); exact List.getElem?_eq_getElem (by first | assumption | omega); exact rfl; exact rfl; exact rfl)
 | ((with_reducible apply r_load_vfa); exact rfl; exact rfl; exact inferInstance; (first | exact rfl | assumption | omega); exact List.getElem?_eq_getElem (by first | assumption | omega); exact rfl; exact rfl; exact rfl)
 | ((with_reducible apply r_field_vf); exact rfl; exact rfl; exact inferInstance; (first | exact rfl | assumption | omega); exact rfl)
 | ((with_reducible apply r_store_pa); exact rfl; exact rfl; exact rfl; exact rfl; exact rfl; exact rfl)
 | ((with_reducible apply r_alloc); exact rfl)
 | (((with_reducible apply aw_cond); exact rfl) <;> intro hg <;> (first | (exact absurd hg (by decide)) | ((try simp only [decide_eq_true_eq, decide_eq_false_iff_not, Bool.not_eq_true', Bool.not_eq_false', Bool.not_true, Bool.not_false, Bool.not_not, Int.not_lt, Int.not_le, Nat.not_lt, Nat.not_le, gt_iff_lt, ge_iff_le, List.cons.injEq, and_true] at hg); first | (exact absurd trivial hg) | (exfalso; omega) | (have hT : True := hg; clear hT hg) | skip)))
 | (refine aw_drawq ?_ ?_; (kernel_rfl))
 | ((with_reducible apply ds_nil))
 | ((with_reducible apply r_lit); exact rfl; exact rfl; exact rfl; exact rfl; exact rfl; exact rfl; exact rfl)
 )
      · rw [hch, hgo, chain_stop (Or.inl (by omega))]
        exact ret2 (.cons (.tmp rfl (cl_vec rfl (by rw [flat_len EncL.len]; simp [hk]))) (.cons (.tmp rfl cl_c) (.cons (.tmp rfl cl_c) .nil)))
      · skip
        refine ⟨(m, min (fz (tabS l)[ed.toNat] + l.sizes[(tabS l)[ed.toNat].1.toNat] + l.kerf) l.len, k + 1, out ++ [((tabS l)[ed.toNat].1, fz (tabS l)[ed.toNat])]), ?_, ?_, by refine weak_mk rfl ?_ ?_ <;> repeat (first | exact envW_nil | exact heapW_nil | refine envW_cons rfl rfl ?_ | refine heapW_cons rfl rfl rfl ?_)⟩
        · show m < m + 1; omega
        · dsimp only
          refine ⟨by simp [hk], by omega, by omega, by omega, by simp; omega, ?_⟩
          rw [hch, hgo, List.append_assoc]
          rcases hb with hb | hb
          · omega
          · exact congrArg (fun z => out ++ (((tabS l)[ed.toNat].1, fz (tabS l)[ed.toNat]) :: chainS l m z)) hb.2.2.2
end Go.Proofs.YtkhljpbkebnnmaaGreatDoor.Cu
/- Walk of the reference of cutting: Uniform. -/
namespace Go.Proofs.YtkhljpbkebnnmaaGreatDoor.Cu
set_option linter.unusedVariables false
set_option linter.unusedSimpArgs false
open Go.RowKit Go.Proofs.YtkhljpbkebnnmaaGreatDoor.Ev
variable {gl : List (Nat × List CV)}
abbrev nil7 : List AV := [A 0, A 0, A 0, .c (.v (.slice none 0 0)), .c (.v (.slice none 0 0)), .c (.v (.slice none 0 0)), .c (.v (.slice none 0 0))]
end Go.Proofs.YtkhljpbkebnnmaaGreatDoor.Cu
/- Walks of the laws on cutting: few, short, uniform, awake. -/
namespace Go.Proofs.YtkhljpbkebnnmaaGreatDoor.Cu
set_option linter.unusedVariables false
set_option linter.unusedSimpArgs false
open Go.RowKit Go.Proofs.YtkhljpbkebnnmaaGreatDoor.Ev
variable {gl : List (Nat × List CV)}
structure Plain where
  len : Int
  kerf : Int
  pitch : Int
  sizes : List Int
  gains : List Int
  chip : Int
  dust : Int
def plainL (x : Plain) : List CV := [I x.len, I x.kerf, I x.pitch, LI x.sizes, LI x.gains, I x.chip, I x.dust]
theorem TT_table {l : Line} (v : Valid l) (W : Int → Int) (T : Int → Ch) (h : ∀ k : Nat, k ≤ l.len.toNat → chooseS l W k = T k ∧ (T k).2.2 = W k) : ∀ (n k : Nat), n + k = l.len.toNat → TT l k = T k := by
  have hl := v.len
  intro n
  induction n using Nat.strongRecOn with
  | ind n ih =>
    intro k hk
    rw [TT_eq v (by omega) (by omega)]
    have : chooseS l (TV l) k = chooseS l W k := chooseS_congr v (by omega) (fun x hx hx2 => by
      have e : ((x.toNat : Nat) : Int) = x := by omega
      have h1 := ih (l.len.toNat - x.toNat) (by omega) x.toNat (by omega)
      have h2 := (h x.toNat (by omega)).2
      rw [e] at h1 h2
      unfold TV
      rw [h1, h2])
    rw [this, (h k (by omega)).1]
end Go.Proofs.YtkhljpbkebnnmaaGreatDoor.Cu
/- The best pieces are the best ones: plain. -/
namespace Go.Proofs.YtkhljpbkebnnmaaGreatDoor.Cu
set_option linter.unusedVariables false
set_option linter.unusedSimpArgs false
open Go.RowKit Go.Proofs.YtkhljpbkebnnmaaGreatDoor.Ev
def PV (l : Line) : Int → List Piece → Int
  | e, [] => if 0 ≤ e then cp l l.len - cp l e else 0
  | e, x :: xs => (if e < x.2 then paidP l e x.2 else 0) + gOf l x.1 x.2 + (if 0 ≤ behindS l (x.2 + szOf l x.1) then dp l (behindS l (x.2 + szOf l x.1)) - dp l (x.2 + szOf l x.1) else 0) + PV l (behindS l (x.2 + szOf l x.1)) xs
def OKs (l : Line) : Int → List Piece → Prop
  | _, [] => True
  | e, x :: xs => perm l e x = 0 ∧ OKs l (behindS l (x.2 + szOf l x.1)) xs
theorem sumSp_add (w : List Int) (d : List Span) (a b : Int) : sumSp w (addS d a b) = sumSp w d + if a < b then spV w (a, b) else 0 := by
  unfold addS
  by_cases h : b ≤ a
  · rw [if_pos h, if_neg (by omega)]; omega
  · rw [if_neg h, if_pos (by omega)]; unfold sumSp; rw [List.map_append, List.sum_append]; simp
theorem spV_dust (l : Line) (a b : Int) : spV l.dust (a, b) = dp l b - dp l a := rfl
theorem spV_chip (l : Line) (a b : Int) : spV l.chip (a, b) = cp l b - cp l a := rfl
theorem gsum_cons (l : Line) (x : Piece) (p : List Piece) : gsum l (x :: p) = gOf l x.1 x.2 + gsum l p := by unfold gsum; simp
theorem sz_of_perm {l : Line} (v : Valid l) {e : Int} {x : Piece} (h : perm l e x = 0) : 1 ≤ szOf l x.1 := by
  obtain ⟨q1, q2, _⟩ := perm0 (l := l) (e := e) (s := x.1) (p := x.2) h
  obtain ⟨k, hk1, hk2, hk3⟩ := szOf_eq (l := l) (s := x.1) q1 q2
  rw [hk3]; exact (v.size k hk2).1
theorem go_val {l : Line} (v : Valid l) : ∀ (p : List Piece) (e : Int) (d c D C : List Span), -1 ≤ e → e ≤ l.len → cutsGo l p e d c = (0, D, C) → OKs l e p ∧ sumSp l.dust D + sumSp l.chip C + gsum l p = sumSp l.dust d + sumSp l.chip c + PV l e p
  | [], e, d, c, D, C, h1, h2, h => by
    unfold cutsGo at h
    simp only [Prod.mk.injEq, true_and] at h
    obtain ⟨rfl, rfl⟩ := h
    refine ⟨trivial, ?_⟩
    unfold PV
    have : gsum l [] = 0 := rfl
    by_cases he : 0 ≤ e
    · rw [if_pos he, if_pos he, sumSp_add, spV_chip]
      by_cases hl : e < l.len
      · rw [if_pos hl]; omega
      · rw [if_neg hl, show e = l.len by omega]; omega
    · rw [if_neg he, if_neg he]; omega
  | x :: p, e, d, c, D, C, h1, h2, h => by
    unfold cutsGo at h
    by_cases hp : perm l e x = 0
    · rw [if_neg (fun hh => hh hp)] at h
      have hs := sz_of_perm v hp
      obtain ⟨q1, q2, q3, q4, q5, q6, q7⟩ := perm0 (l := l) (e := e) (s := x.1) (p := x.2) hp
      have hk := v.kerf
      have hpi := v.pitch
      have hb := beh_cases v (q := x.2 + szOf l x.1) (by omega) (by omega)
      obtain ⟨i1, i2⟩ := go_val v p _ _ _ D C (by omega) (by omega) h
      refine ⟨⟨hp, i1⟩, ?_⟩
      rw [gsum_cons]
      unfold PV
      have e1 : sumSp l.dust (addS (if e < x.2 then addS d (x.2 - l.kerf) x.2 else d) (x.2 + szOf l x.1) (behindS l (x.2 + szOf l x.1))) + sumSp l.chip (if e < x.2 then addS c e (x.2 - l.kerf) else c) = sumSp l.dust d + sumSp l.chip c + (if e < x.2 then paidP l e x.2 else 0) + (if 0 ≤ behindS l (x.2 + szOf l x.1) then dp l (behindS l (x.2 + szOf l x.1)) - dp l (x.2 + szOf l x.1) else 0) := by
        rw [sumSp_add, spV_dust]
        have e2 : (if x.2 + szOf l x.1 < behindS l (x.2 + szOf l x.1) then dp l (behindS l (x.2 + szOf l x.1)) - dp l (x.2 + szOf l x.1) else 0) = if 0 ≤ behindS l (x.2 + szOf l x.1) then dp l (behindS l (x.2 + szOf l x.1)) - dp l (x.2 + szOf l x.1) else 0 := by
          rcases hb with ⟨_, hb⟩ | ⟨_, hb, _⟩
          · rw [hb, if_neg (by omega), if_neg (by omega)]
          · by_cases hc : x.2 + szOf l x.1 < behindS l (x.2 + szOf l x.1)
            · rw [if_pos hc, if_pos (by omega)]
            · rw [if_neg hc, if_pos (by omega), show behindS l (x.2 + szOf l x.1) = x.2 + szOf l x.1 by omega]; omega
        rw [e2]
        by_cases he : e < x.2
        · rw [if_pos he, if_pos he, if_pos he, sumSp_add, sumSp_add, spV_dust, spV_chip]
          generalize (x.2 - l.kerf - e).tmod l.pitch = tm at *
          rw [if_pos (show e < x.2 - l.kerf by omega)]
          unfold paidP
          by_cases hk0 : x.2 - l.kerf < x.2
          · rw [if_pos hk0]; omega
          · rw [if_neg hk0, show x.2 - l.kerf = x.2 by omega]; omega
        · rw [if_neg he, if_neg he, if_neg he]; omega
      omega
    · rw [if_pos hp] at h
      simp only [Prod.mk.injEq] at h
      exact absurd h.1 hp
theorem go_of {l : Line} : ∀ (p : List Piece) (e : Int) (d c : List Span), OKs l e p → ∃ D C, cutsGo l p e d c = (0, D, C)
  | [], e, d, c, _ => ⟨_, _, rfl⟩
  | x :: p, e, d, c, h => by
    unfold cutsGo
    rw [if_neg (fun hh => hh h.1)]
    exact go_of p _ _ _ h.2
def Cand (l : Line) (e : Int) (i : Nat) (q : Int) : Prop := i < l.sizes.length ∧ OkP l i q ∧ (q = e ∨ ∃ j : Nat, 1 ≤ j ∧ q = atP l e j ∧ q ≤ l.len)
def cv (l : Line) (V : Int → Int) (e : Int) (i : Nat) (q : Int) : Int := (if e < q then paidP l e q else 0) + candV l V i q
theorem atP_lt {l : Line} (v : Valid l) (e : Int) {i j : Nat} (h : i < j) : atP l e i < atP l e j := by
  obtain ⟨k, rfl⟩ : ∃ k, j = i + 1 + k := ⟨j - (i + 1), by omega⟩
  have hp := v.pitch
  clear h
  induction k with
  | zero => rw [Nat.add_zero, atP_succ]; omega
  | succ k ih => rw [show i + 1 + (k + 1) = (i + 1 + k) + 1 by omega, atP_succ]; omega
theorem cand_of {l : Line} (v : Valid l) {e : Int} {x : Piece} (h : perm l e x = 0) : 0 ≤ x.1 ∧ Cand l e x.1.toNat x.2 := by
  obtain ⟨q1, q2, q3, q4, q5, q6, q7⟩ := perm0 (l := l) (e := e) (s := x.1) (p := x.2) h
  have hs := sz_of_perm v h
  refine ⟨q1, by omega, ⟨by rw [Int.toNat_of_nonneg q1]; omega, by rw [Int.toNat_of_nonneg q1]; exact q7⟩, ?_⟩
  rcases q6 with q6 | ⟨q6, q8⟩
  · exact .inl q6
  · obtain ⟨c, hc⟩ := Int.dvd_of_tmod_eq_zero q8
    have hp := v.pitch
    have hc1 : 1 ≤ c := by
      rcases Int.lt_or_le c 1 with hn | hn
      · have : l.pitch * c ≤ l.pitch * 0 := Int.mul_le_mul_of_nonneg_left (by omega) (by omega)
        omega
      · exact hn
    refine .inr ⟨c.toNat, by omega, ?_, by omega⟩
    unfold atP
    rw [Int.toNat_of_nonneg (by omega), Int.mul_comm]; omega
theorem perm_of {l : Line} (v : Valid l) {e : Int} (he : 0 ≤ e) {i : Nat} {q : Int} (h : Cand l e i q) : perm l e ((i : Int), q) = 0 := by
  obtain ⟨h1, ⟨h2, h3⟩, h4⟩ := h
  have hp := v.pitch
  have hk := v.kerf
  have hq : e ≤ q ∧ (q = e ∨ (l.pitch ≤ q - l.kerf - e ∧ (q - l.kerf - e).tmod l.pitch = 0)) := by
    rcases h4 with h4 | ⟨j, hj, h4, h5⟩
    · exact ⟨by omega, .inl h4⟩
    · have e1 : q - l.kerf - e = j * l.pitch := by rw [h4]; unfold atP; omega
      have e2 : l.pitch ≤ j * l.pitch := by
        have : 1 * l.pitch ≤ (j : Int) * l.pitch := Int.mul_le_mul_of_nonneg_right (by omega) (by omega)
        omega
      refine ⟨by omega, .inr ⟨by omega, by rw [e1]; exact Int.mul_tmod_left _ _⟩⟩
  unfold perm
  dsimp only
  rw [if_neg (by omega), if_neg (by omega), if_neg ?_, if_neg (by omega)]
  generalize (q - l.kerf - e).tmod l.pitch = tm at *
  omega
structure GrpI (l : Line) (V : Int → Int) (paid p : Int) (k : Nat) (b r : Ch) : Prop where
  ge : b.2.2 ≤ r.2.2
  all : ∀ i, i < k → OkP l i p → paid + candV l V i p ≤ r.2.2
  one : r = b ∨ ∃ i, i < k ∧ OkP l i p ∧ r = ((i : Int), p, paid + candV l V i p) ∧ b.2.2 < r.2.2 ∧ ∀ i', i' < i → OkP l i' p → paid + candV l V i' p < r.2.2
theorem grp_inv (l : Line) (V : Int → Int) (paid p : Int) (b : Ch) : ∀ k, GrpI l V paid p k b (grp l V paid p k b)
  | 0 => ⟨Int.le_refl _, fun i hi => by omega, .inl rfl⟩
  | k + 1 => by
    have ih := grp_inv l V paid p b k
    unfold grp
    generalize grp l V paid p k b = r at *
    have h1 := ih.ge
    split
    · rename_i h
      refine ⟨by dsimp only; omega, fun i hi ho => ?_, .inr ⟨k, by omega, h.1, rfl, by dsimp only; omega, fun i' hi' ho' => ?_⟩⟩
      · dsimp only
        by_cases hik : i = k
        · subst hik; omega
        · have := ih.all i (by omega) ho; omega
      · dsimp only
        have := ih.all i' hi' ho'; omega
    · rename_i h
      refine ⟨h1, fun i hi ho => ?_, ?_⟩
      · by_cases hik : i = k
        · subst hik
          rcases Int.lt_or_le r.2.2 (paid + candV l V i p) with hc | hc
          · exact absurd ⟨ho, hc⟩ h
          · exact hc
        · exact ih.all i (by omega) ho
      · rcases ih.one with ho | ⟨i, hi, ho⟩
        · exact .inl ho
        · exact .inr ⟨i, by omega, ho⟩
def At (l : Line) (e : Int) (m : Nat) (q : Int) : Prop := q = e ∨ ∃ j : Nat, 1 ≤ j ∧ j ≤ m ∧ q = atP l e j ∧ q ≤ l.len
structure PosI (l : Line) (V : Int → Int) (e : Int) (m : Nat) (r : Ch) : Prop where
  ge : cp l l.len - cp l e ≤ r.2.2
  all : ∀ i q, i < l.sizes.length → OkP l i q → At l e m q → cv l V e i q ≤ r.2.2
  one : r = (-1, -1, cp l l.len - cp l e) ∨ ∃ (i : Nat) (q : Int), r = ((i : Int), q, cv l V e i q) ∧ i < l.sizes.length ∧ OkP l i q ∧ At l e m q ∧ cp l l.len - cp l e < r.2.2 ∧ ∀ (i' : Nat) (q' : Int), Cand l e i' q' → (q' < q ∨ q' = q ∧ i' < i) → cv l V e i' q' < r.2.2
theorem At.succ {l : Line} {e : Int} {m : Nat} {q : Int} (h : At l e m q) : At l e (m + 1) q := by
  rcases h with h | ⟨j, h1, h2, h3⟩
  · exact .inl h
  · exact .inr ⟨j, h1, by omega, h3⟩
theorem pos_inv {l : Line} (v : Valid l) (V : Int → Int) (e : Int) : ∀ m, PosI l V e m (posS l V e m)
  | 0 => by
    have hi := grp_inv l V 0 e (-1, -1, cp l l.len - cp l e) l.sizes.length
    unfold posS
    generalize grp l V 0 e l.sizes.length (-1, -1, cp l l.len - cp l e) = r at *
    have hcv : ∀ i, cv l V e i e = 0 + candV l V i e := fun i => by unfold cv; rw [if_neg (by omega)]
    refine ⟨hi.ge, fun i q h1 h2 h3 => ?_, ?_⟩
    · rcases h3 with rfl | ⟨j, h3, h4, _⟩
      · rw [hcv]; exact hi.all i h1 h2
      · omega
    · rcases hi.one with h | ⟨i, h1, h2, h3, h4, h5⟩
      · exact .inl h
      · refine .inr ⟨i, e, by rw [hcv]; exact h3, h1, h2, .inl rfl, h4, fun i' q' hc ho => ?_⟩
        have hq : e ≤ q' := by
          rcases hc.2.2 with h | ⟨j, _, h, _⟩
          · omega
          · have := atP_ge v e j; have := v.kerf; omega
        rcases ho with ho | ⟨rfl, ho⟩
        · omega
        · rw [hcv]; exact h5 i' ho hc.2.1
  | m + 1 => by
    have ih := pos_inv v V e m
    unfold posS
    split
    · rename_i hle
      have hgt : e < atP l e (m + 1) := by have := atP_ge v e (m + 1); have := v.kerf; omega
      have hi := grp_inv l V (paidP l e (atP l e (m + 1))) (atP l e (m + 1)) (posS l V e m) l.sizes.length
      generalize posS l V e m = b at *
      generalize hr : grp l V (paidP l e (atP l e (m + 1))) (atP l e (m + 1)) l.sizes.length b = r at *
      have hcv : ∀ i, cv l V e i (atP l e (m + 1)) = paidP l e (atP l e (m + 1)) + candV l V i (atP l e (m + 1)) := fun i => by unfold cv; rw [if_pos hgt]
      have g1 := ih.ge
      have g2 := hi.ge
      refine ⟨by omega, fun i q h1 h2 h3 => ?_, ?_⟩
      · rcases h3 with h3 | ⟨j, h3, h4, h5, h6⟩
        · have := ih.all i q h1 h2 (.inl h3); omega
        · by_cases hj : j = m + 1
          · subst hj; rw [h5, hcv]; rw [h5] at h2; exact hi.all i h1 h2
          · have := ih.all i q h1 h2 (.inr ⟨j, h3, by omega, h5, h6⟩); omega
      · rcases hi.one with h | ⟨i, h1, h2, h3, h4, h5⟩
        · subst h
          rcases ih.one with h | ⟨i, q, k1, k2, k3, k4, k5⟩
          · exact .inl h
          · exact .inr ⟨i, q, k1, k2, k3, k4.succ, k5⟩
        · refine .inr ⟨i, atP l e (m + 1), by rw [hcv]; exact h3, h1, h2, .inr ⟨m + 1, by omega, Nat.le_refl _, rfl, hle⟩, by omega, fun i' q' hc ho => ?_⟩
          rcases ho with ho | ⟨rfl, ho⟩
          · have hat : At l e m q' := by
              rcases hc.2.2 with h | ⟨j, k1, k2, k3⟩
              · exact .inl h
              · refine .inr ⟨j, k1, ?_, k2, k3⟩
                rcases Nat.lt_or_ge j (m + 1) with hj | hj
                · omega
                · exfalso
                  rcases Nat.lt_or_ge (m + 1) j with hj2 | hj2
                  · have := atP_lt v e hj2; omega
                  · rw [show j = m + 1 by omega] at k2; omega
            have := ih.all i' q' hc.1 hc.2.1 hat
            omega
          · rw [hcv]; exact h5 i' ho hc.2.1
    · rename_i hle
      refine ⟨ih.ge, fun i q h1 h2 h3 => ?_, ?_⟩
      · rcases h3 with h3 | ⟨j, h3, h4, h5, h6⟩
        · exact ih.all i q h1 h2 (.inl h3)
        · by_cases hj : j = m + 1
          · subst hj; omega
          · exact ih.all i q h1 h2 (.inr ⟨j, h3, by omega, h5, h6⟩)
      · rcases ih.one with h | ⟨i, q, k1, k2, k3, k4, k5⟩
        · exact .inl h
        · exact .inr ⟨i, q, k1, k2, k3, k4.succ, k5⟩
theorem tt_inv {l : Line} (v : Valid l) {e : Int} (h0 : 0 ≤ e) (h1 : e ≤ l.len) : PosI l (TV l) e l.len.toNat (TT l e) := by
  rw [TT_eq v h0 h1]; exact pos_inv v _ e _
theorem at_of {l : Line} (v : Valid l) {e : Int} (h0 : 0 ≤ e) {i : Nat} {q : Int} (h : Cand l e i q) : At l e l.len.toNat q := by
  rcases h.2.2 with h | ⟨j, k1, k2, k3⟩
  · exact .inl h
  · have := atP_ge v e j
    have := v.kerf
    exact .inr ⟨j, k1, by omega, k2, k3⟩
theorem cand_at {l : Line} {e : Int} {i : Nat} {q : Int} {m : Nat} (h1 : i < l.sizes.length) (h2 : OkP l i q) (h : At l e m q) : Cand l e i q := by
  refine ⟨h1, h2, ?_⟩
  rcases h with h | ⟨j, k1, _, k2⟩
  · exact .inl h
  · exact .inr ⟨j, k1, k2⟩
def befS : List Piece → List Piece → Bool
  | [], [] => false
  | [], _ :: _ => true
  | _ :: _, [] => false
  | x :: xs, y :: ys => if x = y then befS xs ys else decide (x.2 < y.2 ∨ (x.2 = y.2 ∧ x.1 < y.1))
theorem PV_cons {l : Line} {e : Int} {x : Piece} (h0 : 0 ≤ x.1) (V : Int → Int) (xs : List Piece) (hV : 0 ≤ behindS l (x.2 + szOf l x.1) → PV l (behindS l (x.2 + szOf l x.1)) xs = V (behindS l (x.2 + szOf l x.1))) (hn : behindS l (x.2 + szOf l x.1) < 0 → xs = []) : PV l e (x :: xs) = cv l V e x.1.toNat x.2 := by
  unfold PV cv candV
  rw [Int.toNat_of_nonneg h0]
  by_cases hb : 0 ≤ behindS l (x.2 + szOf l x.1)
  · rw [if_pos hb, if_pos hb, hV hb]; omega
  · rw [if_neg hb, if_neg hb, hn (by omega)]
    unfold PV
    rw [if_neg hb]; omega
theorem oks_neg {l : Line} {e : Int} (he : e < 0) : ∀ {p : List Piece}, OKs l e p → p = []
  | [], _ => rfl
  | x :: p, h => by
    have := (perm0 (l := l) (e := e) (s := x.1) (p := x.2) h.1).2.2.2.2.1
    omega
theorem opt {l : Line} (v : Valid l) : ∀ (p : List Piece) (e : Int) (n : Nat), 0 ≤ e → e ≤ l.len → l.len - e + 1 ≤ n → OKs l e p → PV l e p ≤ TV l e ∧ (PV l e p = TV l e → befS p (chainS l n e) = false)
  | [], e, n, h0, h1, hn, _ => by
    have hi := tt_inv v h0 h1
    have hpv : PV l e [] = cp l l.len - cp l e := by unfold PV; rw [if_pos h0]
    rw [hpv]
    refine ⟨hi.ge, fun he => ?_⟩
    rcases hi.one with h | ⟨i, q, _, _, _, _, h, _⟩
    · rw [chain_stop (.inr (by rw [h]; exact (by decide : (-1 : Int) < 0)))]; rfl
    · unfold TV at he; omega
  | x :: xs, e, n, h0, h1, hn, ⟨hp, ho⟩ => by
    have hi := tt_inv v h0 h1
    obtain ⟨hx0, hc⟩ := cand_of v hp
    have hall := hi.all _ _ hc.1 hc.2.1 (at_of v h0 hc)
    have hs := sz_of_perm v hp
    obtain ⟨q1, q2, q3, q4, q5, q6, q7⟩ := perm0 (l := l) (e := e) (s := x.1) (p := x.2) hp
    have hk := v.kerf
    have hpi := v.pitch
    have hex : e ≤ x.2 := by generalize (x.2 - l.kerf - e).tmod l.pitch = tm at *; omega
    have hb := beh_cases v (q := x.2 + szOf l x.1) (by omega) (by omega)
    have hsum : PV l e (x :: xs) = (if e < x.2 then paidP l e x.2 else 0) + gOf l x.1 x.2 + (if 0 ≤ behindS l (x.2 + szOf l x.1) then dp l (behindS l (x.2 + szOf l x.1)) - dp l (x.2 + szOf l x.1) else 0) + PV l (behindS l (x.2 + szOf l x.1)) xs := rfl
    have hcv : cv l (TV l) e x.1.toNat x.2 = (if e < x.2 then paidP l e x.2 else 0) + gOf l x.1 x.2 + (if 0 ≤ behindS l (x.2 + szOf l x.1) then dp l (behindS l (x.2 + szOf l x.1)) - dp l (x.2 + szOf l x.1) else 0) + (if 0 ≤ behindS l (x.2 + szOf l x.1) then TV l (behindS l (x.2 + szOf l x.1)) else 0) := by
      unfold cv candV
      rw [Int.toNat_of_nonneg hx0]
      split <;> split <;> omega
    have hcvT : cv l (TV l) e x.1.toNat x.2 ≤ TV l e := hall
    obtain ⟨m, rfl⟩ : ∃ m, n = m + 1 := ⟨n - 1, by omega⟩
    have key : PV l (behindS l (x.2 + szOf l x.1)) xs ≤ (if 0 ≤ behindS l (x.2 + szOf l x.1) then TV l (behindS l (x.2 + szOf l x.1)) else 0) ∧ (PV l (behindS l (x.2 + szOf l x.1)) xs = (if 0 ≤ behindS l (x.2 + szOf l x.1) then TV l (behindS l (x.2 + szOf l x.1)) else 0) → befS xs (chainS l m (behindS l (x.2 + szOf l x.1))) = false) := by
      rcases hb with ⟨_, hb⟩ | ⟨b1, b2, b3, b4⟩
      · rw [hb] at ho ⊢
        rw [oks_neg (by omega) ho, chain_stop (.inl (by omega))]
        unfold PV
        simp [befS]
      · rw [if_pos (by omega)]
        exact opt v xs _ m (by omega) b3 (by omega) ho
    refine ⟨by omega, fun he => ?_⟩
    rcases hi.one with h | ⟨i, q, k1, k2, k3, k4, k5, k6⟩
    · rw [chain_stop (.inr (by rw [h]; exact (by decide : (-1 : Int) < 0)))]; rfl
    · rw [chain_go h0 (by rw [k1]; exact Int.natCast_nonneg _)]
      unfold befS
      by_cases hxy : x = ((TT l e).1, (TT l e).2.1)
      · rw [if_pos hxy]
        have e1 : (TT l e).1 = x.1 := by rw [hxy]
        have e2 : (TT l e).2.1 = x.2 := by rw [hxy]
        rw [e1, e2]
        exact key.2 (by omega)
      · rw [if_neg hxy, decide_eq_false]
        intro hb2
        have hTV : TV l e = (TT l e).2.2 := rfl
        have := k6 x.1.toNat x.2 hc (by
          rw [k1] at hb2; dsimp only at hb2
          rcases hb2 with hb2 | ⟨hb2, hb3⟩
          · exact .inl hb2
          · exact .inr ⟨hb2, by omega⟩)
        omega
theorem chain_opt {l : Line} (v : Valid l) : ∀ (n : Nat) (e : Int), 0 ≤ e → e ≤ l.len → l.len - e + 1 ≤ n → OKs l e (chainS l n e) ∧ PV l e (chainS l n e) = TV l e
  | 0, e, h0, h1, hn => by omega
  | n + 1, e, h0, h1, hn => by
    have hi := tt_inv v h0 h1
    rcases hi.one with h | ⟨i, q, k1, k2, k3, k4, k5, k6⟩
    · rw [chain_stop (.inr (by rw [h]; exact (by decide : (-1 : Int) < 0)))]
      refine ⟨trivial, ?_⟩
      unfold PV TV
      rw [if_pos h0, h]
    · have hc := cand_at k2 k3 k4
      have hp := perm_of v h0 hc
      rw [chain_go h0 (by rw [k1]; exact Int.natCast_nonneg _), k1]
      dsimp only
      have hs := sz_of_perm v hp
      obtain ⟨q1, q2, q3, q4, q5, q6, q7⟩ := perm0 (l := l) (e := e) (s := (i : Int)) (p := q) hp
      have hk := v.kerf
      have hpi := v.pitch
      have hex : e ≤ q := by generalize (q - l.kerf - e).tmod l.pitch = tm at *; omega
      dsimp only at hs
      have hb := beh_cases v (q := q + szOf l i) (by omega) (by omega)
      have key : OKs l (behindS l (q + szOf l i)) (chainS l n (behindS l (q + szOf l i))) ∧ (0 ≤ behindS l (q + szOf l i) → PV l (behindS l (q + szOf l i)) (chainS l n (behindS l (q + szOf l i))) = TV l (behindS l (q + szOf l i))) ∧ (behindS l (q + szOf l i) < 0 → chainS l n (behindS l (q + szOf l i)) = []) := by
        rcases hb with ⟨_, hb⟩ | ⟨b1, b2, b3, b4⟩
        · rw [hb, chain_stop (.inl (by omega))]
          exact ⟨trivial, fun h => by omega, fun _ => rfl⟩
        · obtain ⟨j1, j2⟩ := chain_opt v n (behindS l (q + szOf l i)) (by omega) b3 (by omega)
          exact ⟨j1, fun _ => j2, fun h => by omega⟩
      refine ⟨⟨hp, key.1⟩, ?_⟩
      rw [PV_cons (x := ((i : Int), q)) (Int.natCast_nonneg _) (TV l) _ key.2.1 key.2.2]
      unfold TV
      rw [k1]
      rfl
end Go.Proofs.YtkhljpbkebnnmaaGreatDoor.Cu
/- A line that grows (more sizes, greater gains) has no smaller best value: plain. -/
namespace Go.Proofs.YtkhljpbkebnnmaaGreatDoor.Cu
set_option linter.unusedVariables false
set_option linter.unusedSimpArgs false
open Go.RowKit Go.Proofs.YtkhljpbkebnnmaaGreatDoor.Ev
structure Grows (a b : Line) : Prop where
  len : b.len = a.len
  kerf : b.kerf = a.kerf
  pitch : b.pitch = a.pitch
  chip : b.chip = a.chip
  dust : b.dust = a.dust
  more : a.sizes.length ≤ b.sizes.length
  size : ∀ s : Int, 0 ≤ s → s < a.sizes.length → szOf b s = szOf a s
  gain : ∀ s q : Int, 0 ≤ s → s < a.sizes.length → 0 ≤ q → q ≤ a.len - szOf a s → gOf a s q ≤ gOf b s q
theorem Grows.behind {a b : Line} (g : Grows a b) (e : Int) : behindS b e = behindS a e := by unfold behindS; rw [g.len, g.kerf]
theorem Grows.perm {a b : Line} (g : Grows a b) {e : Int} {x : Piece} (h : perm a e x = 0) : perm b e x = 0 := by
  obtain ⟨q1, q2, q3, q4, q5, q6, q7⟩ := perm0 (l := a) (e := e) (s := x.1) (p := x.2) h
  have h1 := g.size x.1 q1 q2
  have h2 := g.gain x.1 x.2 q1 q2 q3 q4
  have h3 := g.more
  unfold Cu.perm at h ⊢
  rw [g.len, g.kerf, g.pitch, h1]
  split at h
  · cases h
  · rw [if_neg (by omega)]
    split at h
    · cases h
    · rename_i h4
      rw [if_neg h4]
      split at h
      · cases h
      · rename_i h5
        rw [if_neg h5, if_neg (by omega)]
theorem Grows.oks {a b : Line} (g : Grows a b) : ∀ (p : List Piece) (e : Int), OKs a e p → OKs b e p ∧ PV a e p ≤ PV b e p
  | [], e, _ => by
    refine ⟨trivial, ?_⟩
    unfold PV cp
    rw [g.len, g.chip]; exact Int.le_refl _
  | x :: xs, e, ⟨h1, h2⟩ => by
    obtain ⟨q1, q2, q3, q4, q5, q6, q7⟩ := perm0 (l := a) (e := e) (s := x.1) (p := x.2) h1
    have hs := g.size x.1 q1 q2
    have hg := g.gain x.1 x.2 q1 q2 q3 q4
    obtain ⟨i1, i2⟩ := g.oks xs _ h2
    have hb : behindS b (x.2 + szOf b x.1) = behindS a (x.2 + szOf a x.1) := by rw [hs, g.behind]
    refine ⟨⟨g.perm h1, by rw [hb]; exact i1⟩, ?_⟩
    unfold PV
    rw [hb, hs]
    have hp : paidP b e x.2 = paidP a e x.2 := by unfold paidP cp dp; rw [g.kerf, g.chip, g.dust]
    have hd : ∀ k, dp b k = dp a k := fun k => by unfold dp; rw [g.dust]
    rw [hp, hd, hd]
    omega
theorem Grows.best {a b : Line} (g : Grows a b) (va : Valid a) (vb : Valid b) : TV a 0 ≤ TV b 0 := by
  have hl := va.len
  obtain ⟨h1, h2⟩ := chain_opt va (a.len.toNat + 1) 0 (Int.le_refl 0) hl.1 (by omega)
  obtain ⟨h3, h4⟩ := g.oks _ _ h1
  have := (opt vb (chainS a (a.len.toNat + 1) 0) 0 (b.len.toNat + 1) (Int.le_refl 0) (by rw [g.len]; exact hl.1) (by have := vb.len; omega) h3).1
  omega
end Go.Proofs.YtkhljpbkebnnmaaGreatDoor.Cu
/- Walks of the laws on cutting: awake, and the laws that compare with the reference. -/
namespace Go.Proofs.YtkhljpbkebnnmaaGreatDoor.Cu
set_option linter.unusedVariables false
set_option linter.unusedSimpArgs false
open Go.RowKit Go.Proofs.YtkhljpbkebnnmaaGreatDoor.Ev
end Go.Proofs.YtkhljpbkebnnmaaGreatDoor.Cu
/- Walks of the laws on cutting that compare with the reference. -/
namespace Go.Proofs.YtkhljpbkebnnmaaGreatDoor.Cu
set_option linter.unusedVariables false
set_option linter.unusedSimpArgs false
open Go.RowKit Go.Proofs.YtkhljpbkebnnmaaGreatDoor.Ev
end Go.Proofs.YtkhljpbkebnnmaaGreatDoor.Cu
/- Pieces, dust and chips are the line: plain, and the walk of the law. -/
namespace Go.Proofs.YtkhljpbkebnnmaaGreatDoor.Cu
set_option linter.unusedVariables false
set_option linter.unusedSimpArgs false
open Go.RowKit Go.Proofs.YtkhljpbkebnnmaaGreatDoor.Ev
def ind (a b k : Int) : Int := if a ≤ k ∧ k < b then 1 else 0
structure Srt (ss : List Span) (e : Int) : Prop where
  le : ∀ s ∈ ss, s.2 ≤ e
  nx : ∀ i (h : i + 1 < ss.length), ss[i].2 ≤ ss[i + 1].1
theorem Srt.mono {ss : List Span} {e e' : Int} (h : Srt ss e) (he : e ≤ e') : Srt ss e' := ⟨fun s hs => by have := h.le s hs; omega, h.nx⟩
theorem Srt.add {ss : List Span} {a b : Int} (h : Srt ss a) (hab : a ≤ b) : Srt (addS ss a b) b := by
  unfold addS
  split
  · exact h.mono hab
  · refine ⟨fun s hs => ?_, fun i hi => ?_⟩
    · rcases List.mem_append.1 hs with hs | hs
      · have := h.le s hs; omega
      · simp only [List.mem_singleton] at hs; subst hs; exact Int.le_refl _
    · simp only [List.length_append, List.length_cons, List.length_nil] at hi
      rw [List.getElem_append_left (by omega)]
      by_cases he : i + 1 = ss.length
      · have h1 := h.le ss[i] (List.getElem_mem (by omega))
        rw [List.getElem_append_right (by omega)]
        simpa using h1
      · rw [List.getElem_append_left (by omega)]; exact h.nx i (by omega)
end Go.Proofs.YtkhljpbkebnnmaaGreatDoor.Cu
