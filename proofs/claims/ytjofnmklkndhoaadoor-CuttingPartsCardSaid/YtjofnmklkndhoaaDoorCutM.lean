/- Walks of the reference of cutting: after, from. -/
import Derived.Test.YtjofnmklkndhoaaDoorCutL
namespace Go.Proofs.YtjofnmklkndhoaaDoor.Cu
set_option linter.unusedVariables false
set_option linter.unusedSimpArgs false
open Go.RowKit Go.Proofs.YtjofnmklkndhoaaDoor.Ev
variable {gl : List (Nat × List CV)}

def fz (c : Ch) : Int := if c.1 < 0 then 0 else c.2.1
/-- A step of the reference. -/
def rC (c : Ch) : List CV := [I c.2.2, I c.1, I (fz c)]
instance : EncL rC 3 := ⟨fun _ => rfl, by decide, fun _ => rfl⟩
abbrev LR (l : List Ch) : CV := .lst 3 (l.flatMap rC)
set_option maxRecDepth 100000 in
set_option maxHeartbeats 8000000 in
theorem after_con (l : Line) (v : Valid l) (i : Nat) (hi : i < l.sizes.length) (p : Int) (hp0 : 0 ≤ p) (ho : OkP l i p) (es : List Ch) (hes : (es.length : Int) = l.len + 1) (hV : VB l (VE es) p) : Con Tryd.prog gl 49 [lineC l, .agg [I i, I p], LI (sumsS l.dust), LR es] (I (candV l (VE es) i p)) := by
  have hl := v.len
  have hlk := v.kerf
  have hld := v.dust
  have hsl := sumsS_len l.dust
  have hss := v.sizes
  have hsk := v.size i hi
  have hgk : i < l.gain.length := by have := v.gain; omega
  have hrow := v.row i hgk hi
  have hsz := szOf_nat hi
  have ho1 := ho.1
  rw [hsz] at ho1
  have hpl : p.toNat < l.gain[i].length := by omega
  have hgo := gOf_get hgk hpl
  have hgb := v.gains i hgk p.toNat hpl
  have hcv : candV l (VE es) i p = candV l (VE es) i p := rfl
  conv at hcv => rhs; unfold candV
  rw [hsz, hgo] at hcv
  have hbe := beh_cases v (q := p + l.sizes[i]) (by omega) ho1
  rcases hbe with ⟨hq, hbe⟩ | ⟨hq, hb1, hb2, hb3⟩
  · rw [hbe, if_neg (by omega)] at hcv
    refine con_of Tryd.func49 rfl (by kernel_rfl) rfl ?_
    simp only [Tryd.ntmps49, Tryd.results49, argEnv, ofC, of1, List.map, lineC, lineL]
    repeat' (first
      | ((with_reducible apply aw_seq))
      | ((with_reducible apply aw_region))
      | ((with_reducible apply thn_normal))
      | ((with_reducible apply thn_ret))
      | ((with_reducible apply aw_ret))
      | ((with_reducible apply ao_nil))
      | ((with_reducible apply r_move); exact rfl; exact rfl)
      | ((with_reducible apply r_assign); exact rfl; exact rfl)
      | ((with_reducible apply r_field_p); exact rfl; exact rfl)
      | ((with_reducible apply r_load_p); exact rfl; exact rfl; exact rfl; exact rfl)
      | ((with_reducible apply r_eql); exact rfl; exact rfl; exact rfl)
      | ((with_reducible apply r_add); exact rfl; exact rfl; exact (by first | assumption | (unfold fits; omega)); exact rfl)
      | ((with_reducible apply r_box_a); exact rfl; exact rfl)
      | ((with_reducible apply r_index_f); exact rfl; exact inferInstance; exact rfl; exact rfl; (first | assumption | omega); exact rfl)
      | ((with_reducible apply r_index_f); exact rfl; exact inferInstance; exact rfl; exact (Int.toNat_of_nonneg (by omega)).symm; (first | assumption | omega); exact rfl)
      | ((with_reducible apply r_load_f0); exact rfl; exact inferInstance; exact List.getElem?_eq_getElem (by first | assumption | omega); exact rfl; exact rfl)
      | (((with_reducible apply aw_cond); exact rfl) <;> intro hg <;> (first | (exact absurd hg (by decide)) | ((try simp only [decide_eq_true_eq, decide_eq_false_iff_not, Bool.not_eq_true', Bool.not_eq_false', Bool.not_true, Bool.not_false, Bool.not_not, Int.not_lt, Int.not_le, Nat.not_lt, Nat.not_le, gt_iff_lt, ge_iff_le, List.cons.injEq, and_true] at hg); first | (exact absurd trivial hg) | (exfalso; omega) | (have hT : True := hg; clear hT hg) | skip)))
      | (refine aw_drawq ?_ ?_; (kernel_rfl))
      | ((with_reducible apply ds_nil))
      )
    exact ret_i rfl (hcv.trans (by omega)).symm
  · rw [if_pos (by omega), hb3] at hcv
    rw [hb3] at hb1 hb2
    have hd1 := dp_get (l := l) (k := min (p + l.sizes[i] + l.kerf) l.len) (by omega)
    have hd2 := dp_get (l := l) (k := p + l.sizes[i]) (by omega)
    have he1 := VE_int (es := es) (k := min (p + l.sizes[i] + l.kerf) l.len) (by omega) (by omega)
    have hd3 := dp_le v (k := min (p + l.sizes[i] + l.kerf) l.len) hb2
    have hd4 := dp_bd v (a := p + l.sizes[i]) (by omega) hb1 hb2
    have hd5 := hV (min (p + l.sizes[i] + l.kerf) l.len) (by omega) hb2
    rw [← hd1, ← hd2, ← he1] at hcv
    rw [← hd1] at hd3
    rw [← hd1, ← hd2] at hd4
    rw [← he1] at hd5
    refine con_of Tryd.func49 rfl (by kernel_rfl) rfl ?_
    simp only [Tryd.ntmps49, Tryd.results49, argEnv, ofC, of1, List.map, lineC, lineL]
    repeat' (first
      | ((with_reducible apply aw_seq))
      | ((with_reducible apply aw_region))
      | ((with_reducible apply thn_normal))
      | ((with_reducible apply aw_skip))
      | ((with_reducible apply aw_ret))
      | ((with_reducible apply ao_nil))
      | ((with_reducible apply r_move); exact rfl; exact rfl)
      | ((with_reducible apply r_assign); exact rfl; exact rfl)
      | ((with_reducible apply r_field_p); exact rfl; exact rfl)
      | ((with_reducible apply r_load_p); exact rfl; exact rfl; exact rfl; exact rfl)
      | ((with_reducible apply r_eql); exact rfl; exact rfl; exact rfl)
      | ((with_reducible apply r_add); exact rfl; exact rfl; exact (by first | assumption | (unfold fits; omega)); exact rfl)
      | ((with_reducible apply r_sub); exact rfl; exact rfl; exact (by first | assumption | (unfold fits; omega)); exact rfl)
      | ((with_reducible apply r_min); exact rfl; exact rfl; exact rfl)
      | ((with_reducible apply r_box_a); exact rfl; exact rfl)
      | ((with_reducible apply r_index_f); exact rfl; exact inferInstance; exact rfl; exact rfl; (first | assumption | omega); exact rfl)
      | ((with_reducible apply r_index_f); exact rfl; exact inferInstance; exact rfl; exact (Int.toNat_of_nonneg (by omega)).symm; (first | assumption | omega); exact rfl)
      | ((with_reducible apply r_load_f0); exact rfl; exact inferInstance; exact List.getElem?_eq_getElem (by first | assumption | omega); exact rfl; exact rfl)
      | ((with_reducible apply r_field_e); exact rfl; exact rfl)
      | (((with_reducible apply aw_cond); exact rfl) <;> intro hg <;> (first | (exact absurd hg (by decide)) | ((try simp only [decide_eq_true_eq, decide_eq_false_iff_not, Bool.not_eq_true', Bool.not_eq_false', Bool.not_true, Bool.not_false, Bool.not_not, Int.not_lt, Int.not_le, Nat.not_lt, Nat.not_le, gt_iff_lt, ge_iff_le, List.cons.injEq, and_true] at hg); first | (exact absurd trivial hg) | (exfalso; omega) | (have hT : True := hg; clear hT hg) | skip)))
      | (refine aw_drawq ?_ ?_; (kernel_rfl))
      | ((with_reducible apply ds_nil))
      )
    exact ret_i rfl (hcv.trans (by omega)).symm
theorem grp_yes {l : Line} {V : Int → Int} {paid p : Int} {k : Nat} {b : Ch} (h : OkP l k p) (hc : (grp l V paid p k b).2.2 < paid + candV l V k p) : grp l V paid p (k + 1) b = ((k : Int), p, paid + candV l V k p) := by
  show (if _ then _ else _) = _
  rw [if_pos ⟨h, hc⟩]
theorem grp_no {l : Line} {V : Int → Int} {paid p : Int} {k : Nat} {b : Ch} (h : ¬ (OkP l k p ∧ (grp l V paid p k b).2.2 < paid + candV l V k p)) : grp l V paid p (k + 1) b = grp l V paid p k b := by
  show (if _ then _ else _) = _
  rw [if_neg h]
def posB (l : Line) (V : Int → Int) (e : Int) : Nat → Ch
  | 0 => (-1, -1, cp l l.len - cp l e)
  | m + 1 => posS l V e m
set_option maxRecDepth 100000 in
set_option maxHeartbeats 16000000 in
theorem from_con (l : Line) (v : Valid l) (e : Int) (he0 : 0 ≤ e) (he1 : e ≤ l.len) (es : List Ch) (hes : (es.length : Int) = l.len + 1) (hV : VB l (VE es) e) : Con Tryd.prog gl 43 [lineC l, I e, LI (sumsS l.chip), LI (sumsS l.dust), LR es] (.agg [I (chooseS l (VE es) e).2.2, I (chooseS l (VE es) e).1, I (fz (chooseS l (VE es) e))]) := by
  have hl := v.len
  have hlk := v.kerf
  have hlp := v.pitch
  have hld := v.dust
  have hlc := v.chip
  have hsd := sumsS_len l.dust
  have hsc := sumsS_len l.chip
  have hss := v.sizes
  have hc1 := cp_get (l := l) (k := l.len) (by omega)
  have hc2 := cp_get (l := l) (k := e) (by omega)
  have hc3 := cp_bd v he0 he1 (Int.le_refl _)
  rw [← hc1, ← hc2] at hc3
  refine con_of Tryd.func43 rfl (by kernel_rfl) rfl ?_
  simp only [Tryd.ntmps43, Tryd.results43, argEnv, ofC, of1, List.map, lineC, lineL]
  repeat' (first
    | (refine aw_drawA 12 ?_ rfl aop_alloc rfl ?_; (kernel_rfl); (simp only [List.take_succ_cons, List.take_zero, List.drop_succ_cons, List.drop_zero]))
    | ((with_reducible apply ds_nilA); exact rfl)
    | ((with_reducible apply aw_seq))
    | ((with_reducible apply aw_region))
    | ((with_reducible apply aw_block))
    | ((with_reducible apply thn_normal))
    | ((with_reducible apply ao_nil))
    | ((with_reducible apply r_move); exact rfl; exact rfl)
    | ((with_reducible apply r_assign); exact rfl; exact rfl)
    | ((with_reducible apply r_field_p); exact rfl; exact rfl)
    | ((with_reducible apply r_load_p); exact rfl; exact rfl; exact rfl; exact rfl)
    | ((with_reducible apply r_sub); exact rfl; exact rfl; exact (by first | assumption | (unfold fits; omega)); exact rfl)
    | ((with_reducible apply r_box_a); exact rfl; exact rfl)
    | ((with_reducible apply r_index_f); exact rfl; exact inferInstance; exact rfl; exact (Int.toNat_of_nonneg (by omega)).symm; (first | assumption | omega); exact rfl)
    | ((with_reducible apply r_load_f0); exact rfl; exact inferInstance; exact List.getElem?_eq_getElem (by first | assumption | omega); exact rfl; exact rfl)
    | ((with_reducible apply r_store_pa); exact rfl; exact rfl; exact rfl; exact rfl; exact rfl; exact rfl)
    | ((with_reducible apply r_build); exact rfl; exact rfl; exact rfl)
    | ((with_reducible apply r_alloc); exact rfl)
    )
  refine aw_loopG (G := Nat × Int × Ch × Int) (fun ((m, w, b, z) : Nat × Int × Ch × Int) => w ≤ 4000 ∧ w = (m : Int) * l.pitch ∧ b = posB l (VE es) e m ∧ z = fz b) (fun ((m, w, b, z) : Nat × Int × Ch × Int) => (l.len + 1 - e - w).toNat) (fun ((m, w, b, z) : Nat × Int × Ch × Int) => [(1, A e), (2, .c (LI (sumsS l.chip))), (3, .c (LI (sumsS l.dust))), (4, .c (LR es)), (5, .ptr 0 0), (10, .ptr 1 0), (11, .ptr 2 0), (12, A w)]) (fun ((m, w, b, z) : Nat × Int × Ch × Int) => [(0, some (lineB l)), (1, some (.cells 72 [A 0, A 0, A 0])), (2, some (.cells 72 [A b.2.2, A b.1, A z]))]) 3 (0, 0, (-1, -1, (sumsS l.chip)[l.len.toNat]'(by omega) - (sumsS l.chip)[e.toNat]'(by omega)), 0) ?_ (by refine weak_mk rfl ?_ ?_ <;> repeat (first | exact envW_nil | exact heapW_nil | refine envW_cons rfl rfl ?_ | refine heapW_cons rfl rfl rfl ?_)) rfl ?_
  · exact ⟨by decide, by simp, by rw [hc1, hc2]; rfl, rfl⟩
  rintro ⟨m, w, b0, z0⟩ hI
  try dsimp only at hI
  try dsimp only
  obtain ⟨hw4, hw, hb0, hz0⟩ := hI
  have hnw : w + l.pitch = ((m + 1 : Nat) : Int) * l.pitch := by rw [Int.natCast_add, Int.add_mul]; omega
  cases m with
  | zero =>
    have hw0 : w = 0 := by simpa using hw
    subst hw0
    repeat' (first
      | ((with_reducible apply aw_seq))
      | ((with_reducible apply aw_region))
      | ((with_reducible apply aw_block))
      | ((with_reducible apply thn_normal))
      | ((with_reducible apply aw_skip))
      | ((with_reducible apply ao_nil))
      | ((with_reducible apply r_move); exact rfl; exact rfl)
      | ((with_reducible apply r_assign); exact rfl; exact rfl)
      | ((with_reducible apply r_field_p); exact rfl; exact rfl)
      | ((with_reducible apply r_load_p); exact rfl; exact rfl; exact rfl; exact rfl)
      | ((with_reducible apply r_leq); exact rfl; exact rfl; exact rfl)
      | ((with_reducible apply r_gtr); exact rfl; exact rfl; exact rfl)
      | ((with_reducible apply r_add); exact rfl; exact rfl; exact (by first | assumption | (unfold fits; omega)); exact rfl)
      | (((with_reducible apply aw_cond); exact rfl) <;> intro hg <;> (first | (exact absurd hg (by decide)) | ((try simp only [decide_eq_true_eq, decide_eq_false_iff_not, Bool.not_eq_true', Bool.not_eq_false', Bool.not_true, Bool.not_false, Bool.not_not, Int.not_lt, Int.not_le, Nat.not_lt, Nat.not_le, gt_iff_lt, ge_iff_le, List.cons.injEq, and_true] at hg); first | (exact absurd trivial hg) | (exfalso; omega) | (have hT : True := hg; clear hT hg) | skip)))
      )
    refine aw_loopG (G := Nat × Ch × Int) (fun ((i, b, z) : Nat × Ch × Int) => i ≤ l.sizes.length ∧ b = grp l (VE es) (0) (e) i b0 ∧ z = fz b) (fun ((i, b, z) : Nat × Ch × Int) => l.sizes.length - i) (fun ((i, b, z) : Nat × Ch × Int) => [(1, A e), (2, .c (LI (sumsS l.chip))), (3, .c (LI (sumsS l.dust))), (4, .c (LR es)), (5, .ptr 0 0), (10, .ptr 1 0), (11, .ptr 2 0), (12, A 0), (13, A (e)), (14, A (0)), (15, A i)]) (fun ((i, b, z) : Nat × Ch × Int) => [(0, some (lineB l)), (1, some (.cells 72 [A 0, A 0, A 0])), (2, some (.cells 72 [A b.2.2, A b.1, A z]))]) 3 (0, b0, z0) ?_ (by refine weak_mk rfl ?_ ?_ <;> repeat (first | exact envW_nil | exact heapW_nil | refine envW_cons rfl rfl ?_ | refine heapW_cons rfl rfl rfl ?_)) rfl ?_
    · exact ⟨Nat.zero_le _, rfl, hz0⟩
    rintro ⟨i, b, z⟩ hI
    try dsimp only at hI
    try dsimp only
    obtain ⟨hi, hb, hz⟩ := hI
    by_cases hil : i < l.sizes.length
    · have hsk := v.size i hil
      have hgk : i < l.gain.length := by have := v.gain; omega
      have hrow := v.row i hgk hil
      have hsz := szOf_nat hil
      by_cases ho1 : e + l.sizes[i] ≤ l.len
      · have hpl : (e).toNat < l.gain[i].length := by omega
        have hgo := gOf_get hgk hpl
        by_cases ho2 : 0 ≤ l.gain[i][(e).toNat]
        · have hok : OkP l i (e) := ⟨by rw [hsz]; exact ho1, by rw [hgo]; exact ho2⟩
          have hcb := candV_bd v he0 (p := e) (by omega) hV hil hok
          have hac := after_con (gl := gl) l v i hil (e) (by omega) hok es hes (fun x hx hx2 => hV x (by omega) hx2)
          repeat' (first
            | ((with_reducible apply r_call); exact rfl; exact rfl; exact hac; exact rfl; exact rfl)
            | ((with_reducible apply aw_seq))
            | ((with_reducible apply aw_region))
            | ((with_reducible apply aw_block))
            | ((with_reducible apply thn_normal))
            | ((with_reducible apply inb_normal))
            | ((with_reducible apply aw_skip))
            | ((with_reducible apply ao_nil))
            | ((with_reducible apply r_move); exact rfl; exact rfl)
            | ((with_reducible apply r_assign); exact rfl; exact rfl)
            | ((with_reducible apply r_field_p); exact rfl; exact rfl)
            | ((with_reducible apply r_load_p); exact rfl; exact rfl; exact rfl; exact rfl)
            | ((with_reducible apply r_load_pa); exact rfl; exact rfl; exact rfl; exact rfl; exact rfl)
            | ((with_reducible apply r_lss); exact rfl; exact rfl; exact rfl)
            | ((with_reducible apply r_gtr); exact rfl; exact rfl; exact rfl)
            | ((with_reducible apply r_add); exact rfl; exact rfl; exact (by first | assumption | (unfold fits; omega)); exact rfl)
            | ((with_reducible apply r_sub); exact rfl; exact rfl; exact (by first | assumption | (unfold fits; omega)); exact rfl)
            | ((with_reducible apply r_pick_f); exact rfl; exact rfl; exact rfl)
            | ((with_reducible apply r_len_f); exact rfl; exact inferInstance; exact rfl)
            | ((with_reducible apply r_index_f); exact rfl; exact inferInstance; exact rfl; exact rfl; (first | assumption | omega); exact rfl)
            | ((with_reducible apply r_index_f); exact rfl; exact inferInstance; exact rfl; exact (Int.toNat_of_nonneg (by omega)).symm; (first | assumption | omega); exact rfl)
            | ((with_reducible apply r_load_f0); exact rfl; exact inferInstance; exact List.getElem?_eq_getElem (by first | assumption | omega); exact rfl; exact rfl)
            | ((with_reducible apply r_store_pa); exact rfl; exact rfl; exact rfl; exact rfl; exact rfl; exact rfl)
            | ((with_reducible apply r_build); exact rfl; exact rfl; exact rfl)
            | ((with_reducible apply r_alloc); exact rfl)
            | (((with_reducible apply aw_cond); exact rfl) <;> intro hg <;> (first | (exact absurd hg (by decide)) | ((try simp only [decide_eq_true_eq, decide_eq_false_iff_not, Bool.not_eq_true', Bool.not_eq_false', Bool.not_true, Bool.not_false, Bool.not_not, Int.not_lt, Int.not_le, Nat.not_lt, Nat.not_le, gt_iff_lt, ge_iff_le, List.cons.injEq, and_true] at hg); first | (exact absurd trivial hg) | (exfalso; omega) | (have hT : True := hg; clear hT hg) | skip)))
            | (refine aw_drawq ?_ ?_; (kernel_rfl))
            | ((with_reducible apply ds_nil))
            | (((with_reducible apply rd_guard); exact rfl; exact rfl; exact rfl) <;> intro hg <;> (first | (exact absurd hg (by decide)) | ((try rw [hg]); (try simp only [decide_eq_true_eq, decide_eq_false_iff_not, Bool.not_eq_true', Bool.not_eq_false', Bool.not_true, Bool.not_false, Bool.not_not, Int.not_lt, Int.not_le, Nat.not_lt, Nat.not_le, gt_iff_lt, ge_iff_le, List.cons.injEq, and_true] at hg); first | (exact absurd trivial hg) | (exfalso; omega) | (have hT : True := hg; clear hT hg) | skip)))
            )
          · skip
            refine ⟨(i + 1, ((i : Int), e, 0 + candV l (VE es) i (e)), e), ?_, ?_, by refine weak_mk rfl ?_ ?_ <;> repeat (first | exact envW_nil | exact heapW_nil | refine envW_cons rfl rfl ?_ | refine heapW_cons rfl rfl rfl ?_)⟩
            · show _ - (i + 1) < _ - i; omega
            · exact ⟨by show i + 1 ≤ _; omega, (grp_yes hok (by rw [← hb]; omega)).symm, by show e = fz _; unfold fz; rw [if_neg (by show ¬ ((i : Int) < 0); omega)]⟩
          · skip
            refine ⟨(i + 1, b, z), ?_, ?_, by refine weak_mk rfl ?_ ?_ <;> repeat (first | exact envW_nil | exact heapW_nil | refine envW_cons rfl rfl ?_ | refine heapW_cons rfl rfl rfl ?_)⟩
            · show _ - (i + 1) < _ - i; omega
            · exact ⟨by show i + 1 ≤ _; omega, by show b = _; rw [grp_no (fun hh => by rw [← hb] at hh; omega)]; exact hb, hz⟩
        · have hok : ¬ OkP l i (e) := fun hh => ho2 (by rw [← hgo]; exact hh.2)
          repeat' (first
            | ((with_reducible apply aw_seq))
            | ((with_reducible apply aw_region))
            | ((with_reducible apply aw_block))
            | ((with_reducible apply thn_normal))
            | ((with_reducible apply thn_exit))
            | ((with_reducible apply inb_exit))
            | ((with_reducible apply aw_skip))
            | ((with_reducible apply aw_exit))
            | ((with_reducible apply ao_nil))
            | ((with_reducible apply r_move); exact rfl; exact rfl)
            | ((with_reducible apply r_assign); exact rfl; exact rfl)
            | ((with_reducible apply r_field_p); exact rfl; exact rfl)
            | ((with_reducible apply r_load_p); exact rfl; exact rfl; exact rfl; exact rfl)
            | ((with_reducible apply r_lss); exact rfl; exact rfl; exact rfl)
            | ((with_reducible apply r_gtr); exact rfl; exact rfl; exact rfl)
            | ((with_reducible apply r_add); exact rfl; exact rfl; exact (by first | assumption | (unfold fits; omega)); exact rfl)
            | ((with_reducible apply r_sub); exact rfl; exact rfl; exact (by first | assumption | (unfold fits; omega)); exact rfl)
            | ((with_reducible apply r_pick_f); exact rfl; exact rfl; exact rfl)
            | ((with_reducible apply r_len_f); exact rfl; exact inferInstance; exact rfl)
            | ((with_reducible apply r_index_f); exact rfl; exact inferInstance; exact rfl; exact rfl; (first | assumption | omega); exact rfl)
            | ((with_reducible apply r_index_f); exact rfl; exact inferInstance; exact rfl; exact (Int.toNat_of_nonneg (by omega)).symm; (first | assumption | omega); exact rfl)
            | ((with_reducible apply r_load_f0); exact rfl; exact inferInstance; exact List.getElem?_eq_getElem (by first | assumption | omega); exact rfl; exact rfl)
            | (((with_reducible apply aw_cond); exact rfl) <;> intro hg <;> (first | (exact absurd hg (by decide)) | ((try simp only [decide_eq_true_eq, decide_eq_false_iff_not, Bool.not_eq_true', Bool.not_eq_false', Bool.not_true, Bool.not_false, Bool.not_not, Int.not_lt, Int.not_le, Nat.not_lt, Nat.not_le, gt_iff_lt, ge_iff_le, List.cons.injEq, and_true] at hg); first | (exact absurd trivial hg) | (exfalso; omega) | (have hT : True := hg; clear hT hg) | skip)))
            | (refine aw_drawq ?_ ?_; (kernel_rfl))
            | ((with_reducible apply ds_nil))
            | (((with_reducible apply rd_guard); exact rfl; exact rfl; exact rfl) <;> intro hg <;> (first | (exact absurd hg (by decide)) | ((try rw [hg]); (try simp only [decide_eq_true_eq, decide_eq_false_iff_not, Bool.not_eq_true', Bool.not_eq_false', Bool.not_true, Bool.not_false, Bool.not_not, Int.not_lt, Int.not_le, Nat.not_lt, Nat.not_le, gt_iff_lt, ge_iff_le, List.cons.injEq, and_true] at hg); first | (exact absurd trivial hg) | (exfalso; omega) | (have hT : True := hg; clear hT hg) | skip)))
            )
          refine ⟨(i + 1, b, z), ?_, ?_, by refine weak_mk rfl ?_ ?_ <;> repeat (first | exact envW_nil | exact heapW_nil | refine envW_cons rfl rfl ?_ | refine heapW_cons rfl rfl rfl ?_)⟩
          · show _ - (i + 1) < _ - i; omega
          · exact ⟨by show i + 1 ≤ _; omega, by show b = _; rw [grp_no (fun hh => hok hh.1)]; exact hb, hz⟩
      · have hok : ¬ OkP l i (e) := fun hh => ho1 (by rw [← hsz]; exact hh.1)
        repeat' (first
          | ((with_reducible apply aw_seq))
          | ((with_reducible apply aw_region))
          | ((with_reducible apply aw_block))
          | ((with_reducible apply thn_normal))
          | ((with_reducible apply thn_exit))
          | ((with_reducible apply inb_exit))
          | ((with_reducible apply aw_skip))
          | ((with_reducible apply aw_exit))
          | ((with_reducible apply ao_nil))
          | ((with_reducible apply r_move); exact rfl; exact rfl)
          | ((with_reducible apply r_assign); exact rfl; exact rfl)
          | ((with_reducible apply r_field_p); exact rfl; exact rfl)
          | ((with_reducible apply r_load_p); exact rfl; exact rfl; exact rfl; exact rfl)
          | ((with_reducible apply r_lss); exact rfl; exact rfl; exact rfl)
          | ((with_reducible apply r_gtr); exact rfl; exact rfl; exact rfl)
          | ((with_reducible apply r_add); exact rfl; exact rfl; exact (by first | assumption | (unfold fits; omega)); exact rfl)
          | ((with_reducible apply r_sub); exact rfl; exact rfl; exact (by first | assumption | (unfold fits; omega)); exact rfl)
          | ((with_reducible apply r_pick_t); exact rfl; exact rfl; exact rfl)
          | ((with_reducible apply r_len_f); exact rfl; exact inferInstance; exact rfl)
          | ((with_reducible apply r_index_f); exact rfl; exact inferInstance; exact rfl; exact rfl; (first | assumption | omega); exact rfl)
          | ((with_reducible apply r_load_f0); exact rfl; exact inferInstance; exact List.getElem?_eq_getElem (by first | assumption | omega); exact rfl; exact rfl)
          | (((with_reducible apply aw_cond); exact rfl) <;> intro hg <;> (first | (exact absurd hg (by decide)) | ((try simp only [decide_eq_true_eq, decide_eq_false_iff_not, Bool.not_eq_true', Bool.not_eq_false', Bool.not_true, Bool.not_false, Bool.not_not, Int.not_lt, Int.not_le, Nat.not_lt, Nat.not_le, gt_iff_lt, ge_iff_le, List.cons.injEq, and_true] at hg); first | (exact absurd trivial hg) | (exfalso; omega) | (have hT : True := hg; clear hT hg) | skip)))
          | (refine aw_drawq ?_ ?_; (kernel_rfl))
          | ((with_reducible apply ds_nil))
          | (((with_reducible apply rd_guard); exact rfl; exact rfl; exact rfl) <;> intro hg <;> (first | (exact absurd hg (by decide)) | ((try rw [hg]); (try simp only [decide_eq_true_eq, decide_eq_false_iff_not, Bool.not_eq_true', Bool.not_eq_false', Bool.not_true, Bool.not_false, Bool.not_not, Int.not_lt, Int.not_le, Nat.not_lt, Nat.not_le, gt_iff_lt, ge_iff_le, List.cons.injEq, and_true] at hg); first | (exact absurd trivial hg) | (exfalso; omega) | (have hT : True := hg; clear hT hg) | skip)))
          )
        refine ⟨(i + 1, b, z), ?_, ?_, by refine weak_mk rfl ?_ ?_ <;> repeat (first | exact envW_nil | exact heapW_nil | refine envW_cons rfl rfl ?_ | refine heapW_cons rfl rfl rfl ?_)⟩
        · show _ - (i + 1) < _ - i; omega
        · exact ⟨by show i + 1 ≤ _; omega, by show b = _; rw [grp_no (fun hh => hok hh.1)]; exact hb, hz⟩
    · obtain rfl : i = l.sizes.length := by omega
      repeat' (first
        | ((with_reducible apply aw_seq))
        | ((with_reducible apply aw_region))
        | ((with_reducible apply thn_normal))
        | ((with_reducible apply thn_exit))
        | ((with_reducible apply inb_normal))
        | ((with_reducible apply inb_exit))
        | ((with_reducible apply aw_exit))
        | ((with_reducible apply ao_nil))
        | ((with_reducible apply r_move); exact rfl; exact rfl)
        | ((with_reducible apply r_assign); exact rfl; exact rfl)
        | ((with_reducible apply r_field_p); exact rfl; exact rfl)
        | ((with_reducible apply r_load_p); exact rfl; exact rfl; exact rfl; exact rfl)
        | ((with_reducible apply r_lss); exact rfl; exact rfl; exact rfl)
        | ((with_reducible apply r_add); exact rfl; exact rfl; exact (by first | assumption | (unfold fits; omega)); exact rfl)
        | ((with_reducible apply r_len_f); exact rfl; exact inferInstance; exact rfl)
        | (((with_reducible apply aw_cond); exact rfl) <;> intro hg <;> (first | (exact absurd hg (by decide)) | ((try simp only [decide_eq_true_eq, decide_eq_false_iff_not, Bool.not_eq_true', Bool.not_eq_false', Bool.not_true, Bool.not_false, Bool.not_not, Int.not_lt, Int.not_le, Nat.not_lt, Nat.not_le, gt_iff_lt, ge_iff_le, List.cons.injEq, and_true] at hg); first | (exact absurd trivial hg) | (exfalso; omega) | (have hT : True := hg; clear hT hg) | skip)))
        )
      refine ⟨(0 + 1, 0 + l.pitch, b, z), ?_, ?_, by refine weak_mk rfl ?_ ?_ <;> repeat (first | exact envW_nil | exact heapW_nil | refine envW_cons rfl rfl ?_ | refine heapW_cons rfl rfl rfl ?_)⟩
      · show (l.len + 1 - e - (0 + l.pitch)).toNat < (l.len + 1 - e - 0).toNat; omega
      · exact ⟨by show 0 + l.pitch ≤ 4000; omega, hnw, by rw [hb, hb0]; rfl, hz⟩
  | succ m =>
    have hw1 : l.pitch ≤ w := by
      rw [hw, Int.natCast_add, Int.add_mul]
      have : 0 ≤ (m : Int) * l.pitch := Int.mul_nonneg (by omega) (by omega)
      omega
    have hat : e + w + l.kerf = atP l e (m + 1) := by unfold atP; rw [hw]
    have hb0' : b0 = posS l (VE es) e m := hb0
    have hend : l.len < e + w + l.kerf → b0 = chooseS l (VE es) e := fun h => by
      rw [hb0']; exact posS_end v (VE es) he0 (by rw [← hat]; exact h)
    by_cases hle : l.len < e + w + l.kerf
    · rw [← hend hle, ← hz0]
      by_cases hle2 : e + w ≤ l.len
      · skip
        repeat' (first
          | ((with_reducible apply aw_seq))
          | ((with_reducible apply aw_region))
          | ((with_reducible apply aw_block))
          | ((with_reducible apply thn_normal))
          | ((with_reducible apply thn_exit))
          | ((with_reducible apply inb_exit))
          | ((with_reducible apply inb_other); exact rfl)
          | ((with_reducible apply aw_skip))
          | ((with_reducible apply aw_exit))
          | ((with_reducible apply aw_ret))
          | ((with_reducible apply ao_nil))
          | ((with_reducible apply r_move); exact rfl; exact rfl)
          | ((with_reducible apply r_assign); exact rfl; exact rfl)
          | ((with_reducible apply r_field_p); exact rfl; exact rfl)
          | ((with_reducible apply r_load_p); exact rfl; exact rfl; exact rfl; exact rfl)
          | ((with_reducible apply r_load_pa); exact rfl; exact rfl; exact rfl; exact rfl; exact rfl)
          | ((with_reducible apply r_leq); exact rfl; exact rfl; exact rfl)
          | ((with_reducible apply r_gtr); exact rfl; exact rfl; exact rfl)
          | ((with_reducible apply r_add); exact rfl; exact rfl; exact (by first | assumption | (unfold fits; omega)); exact rfl)
          | ((with_reducible apply r_store_pa); exact rfl; exact rfl; exact rfl; exact rfl; exact rfl; exact rfl)
          | (((with_reducible apply aw_cond); exact rfl) <;> intro hg <;> (first | (exact absurd hg (by decide)) | ((try simp only [decide_eq_true_eq, decide_eq_false_iff_not, Bool.not_eq_true', Bool.not_eq_false', Bool.not_true, Bool.not_false, Bool.not_not, Int.not_lt, Int.not_le, Nat.not_lt, Nat.not_le, gt_iff_lt, ge_iff_le, List.cons.injEq, and_true] at hg); first | (exact absurd trivial hg) | (exfalso; omega) | (have hT : True := hg; clear hT hg) | skip)))
          )
        exact ret1 (.cell_a inferInstance rfl rfl rfl rfl (cl_cons cl_c (cl_cons cl_c (cl_cons cl_c cl_nil))))
      · skip
        repeat' (first
          | ((with_reducible apply aw_seq))
          | ((with_reducible apply aw_region))
          | ((with_reducible apply thn_normal))
          | ((with_reducible apply thn_exit))
          | ((with_reducible apply inb_exit))
          | ((with_reducible apply aw_exit))
          | ((with_reducible apply aw_ret))
          | ((with_reducible apply ao_nil))
          | ((with_reducible apply r_move); exact rfl; exact rfl)
          | ((with_reducible apply r_field_p); exact rfl; exact rfl)
          | ((with_reducible apply r_load_p); exact rfl; exact rfl; exact rfl; exact rfl)
          | ((with_reducible apply r_load_pa); exact rfl; exact rfl; exact rfl; exact rfl; exact rfl)
          | ((with_reducible apply r_leq); exact rfl; exact rfl; exact rfl)
          | ((with_reducible apply r_add); exact rfl; exact rfl; exact (by first | assumption | (unfold fits; omega)); exact rfl)
          | ((with_reducible apply r_store_pa); exact rfl; exact rfl; exact rfl; exact rfl; exact rfl; exact rfl)
          | (((with_reducible apply aw_cond); exact rfl) <;> intro hg <;> (first | (exact absurd hg (by decide)) | ((try simp only [decide_eq_true_eq, decide_eq_false_iff_not, Bool.not_eq_true', Bool.not_eq_false', Bool.not_true, Bool.not_false, Bool.not_not, Int.not_lt, Int.not_le, Nat.not_lt, Nat.not_le, gt_iff_lt, ge_iff_le, List.cons.injEq, and_true] at hg); first | (exact absurd trivial hg) | (exfalso; omega) | (have hT : True := hg; clear hT hg) | skip)))
          )
        exact ret1 (.cell_a inferInstance rfl rfl rfl rfl (cl_cons cl_c (cl_cons cl_c (cl_cons cl_c cl_nil))))
    have g1 := cp_get (l := l) (k := e + w) (by omega)
    have g2 := dp_get (l := l) (k := e + w) (by omega)
    have g3 := dp_get (l := l) (k := e + w + l.kerf) (by omega)
    have g4 := cp_bd v he0 (b := e + w) (by omega) (by omega)
    have g5 := dp_bd v (a := e + w) (b := e + w + l.kerf) (by omega) (by omega) (by omega)
    have g6 := dp_le v (k := e + w + l.kerf) (by omega)
    rw [← g1, ← hc2] at g4
    rw [← g2, ← g3] at g5
    rw [← g3] at g6
    have hpd : paidP l e (e + w + l.kerf) = (sumsS l.chip)[(e + w).toNat] - (sumsS l.chip)[e.toNat] + (sumsS l.dust)[(e + w + l.kerf).toNat] - (sumsS l.dust)[(e + w).toNat] := by
      unfold paidP; rw [show e + w + l.kerf - l.kerf = e + w by omega, g1, g2, g3, hc2]
    have hps := posS_succ l (VE es) e m
    rw [← hat, if_pos (by omega), hpd, ← hb0'] at hps
    repeat' (first
      | ((with_reducible apply aw_seq))
      | ((with_reducible apply aw_region))
      | ((with_reducible apply aw_block))
      | ((with_reducible apply thn_normal))
      | ((with_reducible apply aw_skip))
      | ((with_reducible apply ao_nil))
      | ((with_reducible apply r_move); exact rfl; exact rfl)
      | ((with_reducible apply r_assign); exact rfl; exact rfl)
      | ((with_reducible apply r_field_p); exact rfl; exact rfl)
      | ((with_reducible apply r_load_p); exact rfl; exact rfl; exact rfl; exact rfl)
      | ((with_reducible apply r_leq); exact rfl; exact rfl; exact rfl)
      | ((with_reducible apply r_gtr); exact rfl; exact rfl; exact rfl)
      | ((with_reducible apply r_add); exact rfl; exact rfl; exact (by first | assumption | (unfold fits; omega)); exact rfl)
      | ((with_reducible apply r_sub); exact rfl; exact rfl; exact (by first | assumption | (unfold fits; omega)); exact rfl)
      | ((with_reducible apply r_index_f); exact rfl; exact inferInstance; exact rfl; exact (Int.toNat_of_nonneg (by omega)).symm; (first | assumption | omega); exact rfl)
      | ((with_reducible apply r_load_f0); exact rfl; exact inferInstance; exact List.getElem?_eq_getElem (by first | assumption | omega); exact rfl; exact rfl)
      | (((with_reducible apply aw_cond); exact rfl) <;> intro hg <;> (first | (exact absurd hg (by decide)) | ((try simp only [decide_eq_true_eq, decide_eq_false_iff_not, Bool.not_eq_true', Bool.not_eq_false', Bool.not_true, Bool.not_false, Bool.not_not, Int.not_lt, Int.not_le, Nat.not_lt, Nat.not_le, gt_iff_lt, ge_iff_le, List.cons.injEq, and_true] at hg); first | (exact absurd trivial hg) | (exfalso; omega) | (have hT : True := hg; clear hT hg) | skip)))
      | (refine aw_drawq ?_ ?_; (kernel_rfl))
      | ((with_reducible apply ds_nil))
      )
    refine aw_loopG (G := Nat × Ch × Int) (fun ((i, b, z) : Nat × Ch × Int) => i ≤ l.sizes.length ∧ b = grp l (VE es) ((sumsS l.chip)[(e + w).toNat]'(by omega) - (sumsS l.chip)[e.toNat]'(by omega) + (sumsS l.dust)[(e + w + l.kerf).toNat]'(by omega) - (sumsS l.dust)[(e + w).toNat]'(by omega)) (e + w + l.kerf) i b0 ∧ z = fz b) (fun ((i, b, z) : Nat × Ch × Int) => l.sizes.length - i) (fun ((i, b, z) : Nat × Ch × Int) => [(1, A e), (2, .c (LI (sumsS l.chip))), (3, .c (LI (sumsS l.dust))), (4, .c (LR es)), (5, .ptr 0 0), (10, .ptr 1 0), (11, .ptr 2 0), (12, A w), (13, A (e + w + l.kerf)), (14, A ((sumsS l.chip)[(e + w).toNat]'(by omega) - (sumsS l.chip)[e.toNat]'(by omega) + (sumsS l.dust)[(e + w + l.kerf).toNat]'(by omega) - (sumsS l.dust)[(e + w).toNat]'(by omega))), (15, A i)]) (fun ((i, b, z) : Nat × Ch × Int) => [(0, some (lineB l)), (1, some (.cells 72 [A 0, A 0, A 0])), (2, some (.cells 72 [A b.2.2, A b.1, A z]))]) 3 (0, b0, z0) ?_ (by refine weak_mk rfl ?_ ?_ <;> repeat (first | exact envW_nil | exact heapW_nil | refine envW_cons rfl rfl ?_ | refine heapW_cons rfl rfl rfl ?_)) rfl ?_
    · exact ⟨Nat.zero_le _, rfl, hz0⟩
    rintro ⟨i, b, z⟩ hI
    try dsimp only at hI
    try dsimp only
    obtain ⟨hi, hb, hz⟩ := hI
    by_cases hil : i < l.sizes.length
    · have hsk := v.size i hil
      have hgk : i < l.gain.length := by have := v.gain; omega
      have hrow := v.row i hgk hil
      have hsz := szOf_nat hil
      by_cases ho1 : e + w + l.kerf + l.sizes[i] ≤ l.len
      · have hpl : (e + w + l.kerf).toNat < l.gain[i].length := by omega
        have hgo := gOf_get hgk hpl
        by_cases ho2 : 0 ≤ l.gain[i][(e + w + l.kerf).toNat]
        · have hok : OkP l i (e + w + l.kerf) := ⟨by rw [hsz]; exact ho1, by rw [hgo]; exact ho2⟩
          have hcb := candV_bd v he0 (p := e + w + l.kerf) (by omega) hV hil hok
          have hac := after_con (gl := gl) l v i hil (e + w + l.kerf) (by omega) hok es hes (fun x hx hx2 => hV x (by omega) hx2)
          repeat' (first
            | ((with_reducible apply r_call); exact rfl; exact rfl; exact hac; exact rfl; exact rfl)
            | ((with_reducible apply aw_seq))
            | ((with_reducible apply aw_region))
            | ((with_reducible apply aw_block))
            | ((with_reducible apply thn_normal))
            | ((with_reducible apply inb_normal))
            | ((with_reducible apply aw_skip))
            | ((with_reducible apply ao_nil))
            | ((with_reducible apply r_move); exact rfl; exact rfl)
            | ((with_reducible apply r_assign); exact rfl; exact rfl)
            | ((with_reducible apply r_field_p); exact rfl; exact rfl)
            | ((with_reducible apply r_load_p); exact rfl; exact rfl; exact rfl; exact rfl)
            | ((with_reducible apply r_load_pa); exact rfl; exact rfl; exact rfl; exact rfl; exact rfl)
            | ((with_reducible apply r_lss); exact rfl; exact rfl; exact rfl)
            | ((with_reducible apply r_gtr); exact rfl; exact rfl; exact rfl)
            | ((with_reducible apply r_add); exact rfl; exact rfl; exact (by first | assumption | (unfold fits; omega)); exact rfl)
            | ((with_reducible apply r_sub); exact rfl; exact rfl; exact (by first | assumption | (unfold fits; omega)); exact rfl)
            | ((with_reducible apply r_pick_f); exact rfl; exact rfl; exact rfl)
            | ((with_reducible apply r_len_f); exact rfl; exact inferInstance; exact rfl)
            | ((with_reducible apply r_index_f); exact rfl; exact inferInstance; exact rfl; exact rfl; (first | assumption | omega); exact rfl)
            | ((with_reducible apply r_index_f); exact rfl; exact inferInstance; exact rfl; exact (Int.toNat_of_nonneg (by omega)).symm; (first | assumption | omega); exact rfl)
            | ((with_reducible apply r_load_f0); exact rfl; exact inferInstance; exact List.getElem?_eq_getElem (by first | assumption | omega); exact rfl; exact rfl)
            | ((with_reducible apply r_store_pa); exact rfl; exact rfl; exact rfl; exact rfl; exact rfl; exact rfl)
            | ((with_reducible apply r_build); exact rfl; exact rfl; exact rfl)
            | ((with_reducible apply r_alloc); exact rfl)
            | (((with_reducible apply aw_cond); exact rfl) <;> intro hg <;> (first | (exact absurd hg (by decide)) | ((try simp only [decide_eq_true_eq, decide_eq_false_iff_not, Bool.not_eq_true', Bool.not_eq_false', Bool.not_true, Bool.not_false, Bool.not_not, Int.not_lt, Int.not_le, Nat.not_lt, Nat.not_le, gt_iff_lt, ge_iff_le, List.cons.injEq, and_true] at hg); first | (exact absurd trivial hg) | (exfalso; omega) | (have hT : True := hg; clear hT hg) | skip)))
            | (refine aw_drawq ?_ ?_; (kernel_rfl))
            | ((with_reducible apply ds_nil))
            | (((with_reducible apply rd_guard); exact rfl; exact rfl; exact rfl) <;> intro hg <;> (first | (exact absurd hg (by decide)) | ((try rw [hg]); (try simp only [decide_eq_true_eq, decide_eq_false_iff_not, Bool.not_eq_true', Bool.not_eq_false', Bool.not_true, Bool.not_false, Bool.not_not, Int.not_lt, Int.not_le, Nat.not_lt, Nat.not_le, gt_iff_lt, ge_iff_le, List.cons.injEq, and_true] at hg); first | (exact absurd trivial hg) | (exfalso; omega) | (have hT : True := hg; clear hT hg) | skip)))
            )
          · skip
            refine ⟨(i + 1, ((i : Int), e + w + l.kerf, (sumsS l.chip)[(e + w).toNat]'(by omega) - (sumsS l.chip)[e.toNat]'(by omega) + (sumsS l.dust)[(e + w + l.kerf).toNat]'(by omega) - (sumsS l.dust)[(e + w).toNat]'(by omega) + candV l (VE es) i (e + w + l.kerf)), e + w + l.kerf), ?_, ?_, by refine weak_mk rfl ?_ ?_ <;> repeat (first | exact envW_nil | exact heapW_nil | refine envW_cons rfl rfl ?_ | refine heapW_cons rfl rfl rfl ?_)⟩
            · show _ - (i + 1) < _ - i; omega
            · exact ⟨by show i + 1 ≤ _; omega, (grp_yes hok (by rw [← hb]; omega)).symm, by show e + w + l.kerf = fz _; unfold fz; rw [if_neg (by show ¬ ((i : Int) < 0); omega)]⟩
          · skip
            refine ⟨(i + 1, b, z), ?_, ?_, by refine weak_mk rfl ?_ ?_ <;> repeat (first | exact envW_nil | exact heapW_nil | refine envW_cons rfl rfl ?_ | refine heapW_cons rfl rfl rfl ?_)⟩
            · show _ - (i + 1) < _ - i; omega
            · exact ⟨by show i + 1 ≤ _; omega, by show b = _; rw [grp_no (fun hh => by rw [← hb] at hh; omega)]; exact hb, hz⟩
        · have hok : ¬ OkP l i (e + w + l.kerf) := fun hh => ho2 (by rw [← hgo]; exact hh.2)
          repeat' (first
            | ((with_reducible apply aw_seq))
            | ((with_reducible apply aw_region))
            | ((with_reducible apply aw_block))
            | ((with_reducible apply thn_normal))
            | ((with_reducible apply thn_exit))
            | ((with_reducible apply inb_exit))
            | ((with_reducible apply aw_skip))
            | ((with_reducible apply aw_exit))
            | ((with_reducible apply ao_nil))
            | ((with_reducible apply r_move); exact rfl; exact rfl)
            | ((with_reducible apply r_assign); exact rfl; exact rfl)
            | ((with_reducible apply r_field_p); exact rfl; exact rfl)
            | ((with_reducible apply r_load_p); exact rfl; exact rfl; exact rfl; exact rfl)
            | ((with_reducible apply r_lss); exact rfl; exact rfl; exact rfl)
            | ((with_reducible apply r_gtr); exact rfl; exact rfl; exact rfl)
            | ((with_reducible apply r_add); exact rfl; exact rfl; exact (by first | assumption | (unfold fits; omega)); exact rfl)
            | ((with_reducible apply r_sub); exact rfl; exact rfl; exact (by first | assumption | (unfold fits; omega)); exact rfl)
            | ((with_reducible apply r_pick_f); exact rfl; exact rfl; exact rfl)
            | ((with_reducible apply r_len_f); exact rfl; exact inferInstance; exact rfl)
            | ((with_reducible apply r_index_f); exact rfl; exact inferInstance; exact rfl; exact rfl; (first | assumption | omega); exact rfl)
            | ((with_reducible apply r_index_f); exact rfl; exact inferInstance; exact rfl; exact (Int.toNat_of_nonneg (by omega)).symm; (first | assumption | omega); exact rfl)
            | ((with_reducible apply r_load_f0); exact rfl; exact inferInstance; exact List.getElem?_eq_getElem (by first | assumption | omega); exact rfl; exact rfl)
            | (((with_reducible apply aw_cond); exact rfl) <;> intro hg <;> (first | (exact absurd hg (by decide)) | ((try simp only [decide_eq_true_eq, decide_eq_false_iff_not, Bool.not_eq_true', Bool.not_eq_false', Bool.not_true, Bool.not_false, Bool.not_not, Int.not_lt, Int.not_le, Nat.not_lt, Nat.not_le, gt_iff_lt, ge_iff_le, List.cons.injEq, and_true] at hg); first | (exact absurd trivial hg) | (exfalso; omega) | (have hT : True := hg; clear hT hg) | skip)))
            | (refine aw_drawq ?_ ?_; (kernel_rfl))
            | ((with_reducible apply ds_nil))
            | (((with_reducible apply rd_guard); exact rfl; exact rfl; exact rfl) <;> intro hg <;> (first | (exact absurd hg (by decide)) | ((try rw [hg]); (try simp only [decide_eq_true_eq, decide_eq_false_iff_not, Bool.not_eq_true', Bool.not_eq_false', Bool.not_true, Bool.not_false, Bool.not_not, Int.not_lt, Int.not_le, Nat.not_lt, Nat.not_le, gt_iff_lt, ge_iff_le, List.cons.injEq, and_true] at hg); first | (exact absurd trivial hg) | (exfalso; omega) | (have hT : True := hg; clear hT hg) | skip)))
            )
          refine ⟨(i + 1, b, z), ?_, ?_, by refine weak_mk rfl ?_ ?_ <;> repeat (first | exact envW_nil | exact heapW_nil | refine envW_cons rfl rfl ?_ | refine heapW_cons rfl rfl rfl ?_)⟩
          · show _ - (i + 1) < _ - i; omega
          · exact ⟨by show i + 1 ≤ _; omega, by show b = _; rw [grp_no (fun hh => hok hh.1)]; exact hb, hz⟩
      · have hok : ¬ OkP l i (e + w + l.kerf) := fun hh => ho1 (by rw [← hsz]; exact hh.1)
        repeat' (first
          | ((with_reducible apply aw_seq))
          | ((with_reducible apply aw_region))
          | ((with_reducible apply aw_block))
          | ((with_reducible apply thn_normal))
          | ((with_reducible apply thn_exit))
          | ((with_reducible apply inb_exit))
          | ((with_reducible apply aw_skip))
          | ((with_reducible apply aw_exit))
          | ((with_reducible apply ao_nil))
          | ((with_reducible apply r_move); exact rfl; exact rfl)
          | ((with_reducible apply r_assign); exact rfl; exact rfl)
          | ((with_reducible apply r_field_p); exact rfl; exact rfl)
          | ((with_reducible apply r_load_p); exact rfl; exact rfl; exact rfl; exact rfl)
          | ((with_reducible apply r_lss); exact rfl; exact rfl; exact rfl)
          | ((with_reducible apply r_gtr); exact rfl; exact rfl; exact rfl)
          | ((with_reducible apply r_add); exact rfl; exact rfl; exact (by first | assumption | (unfold fits; omega)); exact rfl)
          | ((with_reducible apply r_sub); exact rfl; exact rfl; exact (by first | assumption | (unfold fits; omega)); exact rfl)
          | ((with_reducible apply r_pick_t); exact rfl; exact rfl; exact rfl)
          | ((with_reducible apply r_len_f); exact rfl; exact inferInstance; exact rfl)
          | ((with_reducible apply r_index_f); exact rfl; exact inferInstance; exact rfl; exact rfl; (first | assumption | omega); exact rfl)
          | ((with_reducible apply r_load_f0); exact rfl; exact inferInstance; exact List.getElem?_eq_getElem (by first | assumption | omega); exact rfl; exact rfl)
          | (((with_reducible apply aw_cond); exact rfl) <;> intro hg <;> (first | (exact absurd hg (by decide)) | ((try simp only [decide_eq_true_eq, decide_eq_false_iff_not, Bool.not_eq_true', Bool.not_eq_false', Bool.not_true, Bool.not_false, Bool.not_not, Int.not_lt, Int.not_le, Nat.not_lt, Nat.not_le, gt_iff_lt, ge_iff_le, List.cons.injEq, and_true] at hg); first | (exact absurd trivial hg) | (exfalso; omega) | (have hT : True := hg; clear hT hg) | skip)))
          | (refine aw_drawq ?_ ?_; (kernel_rfl))
          | ((with_reducible apply ds_nil))
          | (((with_reducible apply rd_guard); exact rfl; exact rfl; exact rfl) <;> intro hg <;> (first | (exact absurd hg (by decide)) | ((try rw [hg]); (try simp only [decide_eq_true_eq, decide_eq_false_iff_not, Bool.not_eq_true', Bool.not_eq_false', Bool.not_true, Bool.not_false, Bool.not_not, Int.not_lt, Int.not_le, Nat.not_lt, Nat.not_le, gt_iff_lt, ge_iff_le, List.cons.injEq, and_true] at hg); first | (exact absurd trivial hg) | (exfalso; omega) | (have hT : True := hg; clear hT hg) | skip)))
          )
        refine ⟨(i + 1, b, z), ?_, ?_, by refine weak_mk rfl ?_ ?_ <;> repeat (first | exact envW_nil | exact heapW_nil | refine envW_cons rfl rfl ?_ | refine heapW_cons rfl rfl rfl ?_)⟩
        · show _ - (i + 1) < _ - i; omega
        · exact ⟨by show i + 1 ≤ _; omega, by show b = _; rw [grp_no (fun hh => hok hh.1)]; exact hb, hz⟩
    · obtain rfl : i = l.sizes.length := by omega
      repeat' (first
        | ((with_reducible apply aw_seq))
        | ((with_reducible apply aw_region))
        | ((with_reducible apply thn_normal))
        | ((with_reducible apply thn_exit))
        | ((with_reducible apply inb_normal))
        | ((with_reducible apply inb_exit))
        | ((with_reducible apply aw_exit))
        | ((with_reducible apply ao_nil))
        | ((with_reducible apply r_move); exact rfl; exact rfl)
        | ((with_reducible apply r_assign); exact rfl; exact rfl)
        | ((with_reducible apply r_field_p); exact rfl; exact rfl)
        | ((with_reducible apply r_load_p); exact rfl; exact rfl; exact rfl; exact rfl)
        | ((with_reducible apply r_lss); exact rfl; exact rfl; exact rfl)
        | ((with_reducible apply r_add); exact rfl; exact rfl; exact (by first | assumption | (unfold fits; omega)); exact rfl)
        | ((with_reducible apply r_len_f); exact rfl; exact inferInstance; exact rfl)
        | (((with_reducible apply aw_cond); exact rfl) <;> intro hg <;> (first | (exact absurd hg (by decide)) | ((try simp only [decide_eq_true_eq, decide_eq_false_iff_not, Bool.not_eq_true', Bool.not_eq_false', Bool.not_true, Bool.not_false, Bool.not_not, Int.not_lt, Int.not_le, Nat.not_lt, Nat.not_le, gt_iff_lt, ge_iff_le, List.cons.injEq, and_true] at hg); first | (exact absurd trivial hg) | (exfalso; omega) | (have hT : True := hg; clear hT hg) | skip)))
        )
      refine ⟨(m + 1 + 1, w + l.pitch, b, z), ?_, ?_, by refine weak_mk rfl ?_ ?_ <;> repeat (first | exact envW_nil | exact heapW_nil | refine envW_cons rfl rfl ?_ | refine heapW_cons rfl rfl rfl ?_)⟩
      · show (l.len + 1 - e - (w + l.pitch)).toNat < (l.len + 1 - e - w).toNat; omega
      · exact ⟨by show w + l.pitch ≤ 4000; omega, hnw, by rw [hb, ← hps]; rfl, hz⟩
end Go.Proofs.YtjofnmklkndhoaaDoor.Cu
