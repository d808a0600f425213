/- Walks of the laws on solids: SolidBounds, SolidCommon. -/
import Derived.Test.YtjpmidiklfiinaaGM
import Derived.Test.YtjpmidiklfiinaaGU
import Derived.Test.YtjpmidiklfiinaaEv23
namespace Go.Proofs.Ytjpmidiklfiinaa.Ge
set_option linter.unusedVariables false
set_option linter.unusedSimpArgs false
open Go.RowKit Go.Proofs.Ytjpmidiklfiinaa.Ev
variable {gl : List (Nat × List CV)}

theorem secD_V {l : List Slc} (v : SolV l) (i : Nat) : SecV (secD l i) := by
  by_cases h : i < l.length
  · rw [secD_eq h]; exact chk_is (v.chk i h)
  · have : secD l i = sec0 := by unfold secD; rw [List.getD_eq_getElem?_getD, List.getElem?_eq_none (by omega)]; rfl
    rw [this]; exact sec0_V
theorem atS_V (l : List Slc) (z : Int) : SecV (atS l z).1 := by
  have v := valL_V l
  unfold atS atV
  generalize valL l = u at *
  cases firstN (hitZ u z) u.length 0 with
  | none => exact sec0_V
  | some i => exact secD_V v i
theorem cutS_V (l : List Slc) (Z : Span) : SolV (cutS l Z) := (cut_inv (valL_V l) Z _ (Nat.le_refl _)).v
theorem comS_V (l : List Slc) (Z : Span) : SecV (comS l Z) := (com_in (valL_V l) Z).1
theorem firstN_some {p : Nat → Bool} : ∀ (k j : Nat), (∃ i, j ≤ i ∧ i < j + k ∧ p i = true) → ∃ i, firstN p k j = some i ∧ p i = true ∧ j ≤ i ∧ i < j + k
  | 0, j, ⟨i, h1, h2, _⟩ => by omega
  | k + 1, j, ⟨i, h1, h2, h3⟩ => by
    show ∃ i, (if p j then some j else firstN p k (j + 1)) = some i ∧ _
    cases hp : p j with
    | true => exact ⟨j, by simp, hp, Nat.le_refl _, by omega⟩
    | false =>
      have hij : i ≠ j := fun e => by rw [e, hp] at h3; cases h3
      obtain ⟨a, a1, a2, a3, a4⟩ := firstN_some k (j + 1) ⟨i, by omega, by omega, h3⟩
      exact ⟨a, by simpa using a1, a2, by omega, by omega⟩
theorem pos_find {l : List Slc} {z : Int} (h0 : 0 ≤ z) : ∀ n, z < pos l n → ∃ i, i < n ∧ pos l i ≤ z ∧ z < pos l (i + 1)
  | 0, h => by have : pos l 0 = 0 := rfl; omega
  | n + 1, h => by
    by_cases hz : z < pos l n
    · obtain ⟨i, a, b, c⟩ := pos_find h0 n hz
      exact ⟨i, by omega, b, c⟩
    · exact ⟨n, by omega, by omega, h⟩
theorem at_some {l : List Slc} (hc : solChk l = 0) {z : Int} (h0 : 0 ≤ z) (h1 : z < lengthS l) : ∃ i, i < l.length ∧ atS l z = (secD l i, true) ∧ pos l i ≤ z ∧ z < pos l i + lenD l i := by
  unfold lengthS at h1
  unfold atS
  rw [valL_ok hc] at h1 ⊢
  obtain ⟨i, a, b, c⟩ := pos_find h0 _ h1
  obtain ⟨k, e, p, _, k2⟩ := firstN_some (p := hitZ l z) l.length 0 ⟨i, by omega, by omega, by unfold hitZ; exact decide_eq_true ⟨b, by rw [pos_succ] at c; exact c⟩⟩
  have hp := of_decide_eq_true p
  exact ⟨k, by omega, by unfold atV; rw [e]; rfl, hp.1, hp.2⟩
theorem com_at {l : List Slc} (hc : solChk l = 0) {z : Int} {Z : Span} (h0 : 0 ≤ Z.1) (h1 : Z.2 ≤ lengthS l) (h2 : Z.1 ≤ z) (h3 : z < Z.2) : (atS l z).2 = true ∧ meetSec (comS l Z) (atS l z).1 = comS l Z := by
  obtain ⟨i, hi, e, a, b⟩ := at_some hc (show 0 ≤ z by omega) (show z < lengthS l by omega)
  have v := sol_V hc
  rw [e]
  refine ⟨rfl, ?_⟩
  have := com_in v Z
  have hp : 0 < ovZ l Z i := by unfold ovZ ov; dsimp only; omega
  have hm := this.2 i hi hp
  have hv := this.1
  have e2 : comS l Z = comN (cutV l Z) (cutV l Z).length := by unfold comS cutS; rw [valL_ok hc]
  rw [e2]
  exact meet_part hv (secD_V v i) hm
theorem com_wood {l : List Slc} (hc : solChk l = 0) {X Y Z : Span} (h : wid X * wid Y ≤ inS (comS l Z) X Y) (h1 : 0 ≤ Z.1) (h2 : Z.1 ≤ Z.2) (h3 : Z.2 ≤ lengthS l) : winS l X Y Z = wid X * wid Y * (Z.2 - Z.1) := by
  have v := sol_V hc
  unfold lengthS at h3
  unfold inS at h
  unfold winS
  have e2 : comS l Z = comN (cutV l Z) (cutV l Z).length := by unfold comS cutS; rw [valL_ok hc]
  rw [valS_of (comS_V l Z), e2] at h
  rw [valL_ok hc] at h3 ⊢
  exact win_wood v h h1 h2 h3
theorem inS_bd (s : Sec) (X Y : Span) : 0 ≤ inS s X Y ∧ inS s X Y ≤ 1440000 := in_V (valS_V s) X Y
set_option maxRecDepth 100000 in
set_option maxHeartbeats 16000000 in
theorem common_law (l : List Slc) (hn : SlQ l) (Z : Span) (hZ : SpQ Z) (x : Int × Span × Span) (hx : fits x.1 ∧ SpQ x.2.1 ∧ SpQ x.2.2) : Con Try.prog gl 8 [LL l, spV Z, .agg [I x.1, I x.2.1.1, I x.2.1.2, I x.2.2.1, I x.2.2.2]] T := by
  have hs := small_con (gl := gl) l hn
  have hc := scheck_con (gl := gl) l hn
  have hl := slength_con (gl := gl) l hn
  have ho := scommon_con (gl := gl) l hn Z
  obtain ⟨k, X, Y⟩ := x
  have ha : Con Try.prog gl 21 [LL l, I k] (.tup [secC (atS l k).1, .v (.bool (atS l k).2)]) := sat_con (gl := gl) l hn k
  have hm := smeet_con (gl := gl) (comS l Z) (atS l k).1
  have he := sameSec_con (gl := gl) (comS l Z) (by have := (comS_V l Z).len; omega)
  have hi := within_con (gl := gl) (comS l Z) X Y
  have hw := swithin_con (gl := gl) l hn X Y Z
  have hib := inS_bd (comS l Z) X Y
  refine con_of Try.func8 rfl (by kernel_rfl) rfl ?_
  simp only [Try.ntmps8, Try.results8, argEnv, ofC, of1, List.map]
  cases h : smallS l with
  | false =>
    rw [h] at hs
    repeat' (first
      | ((with_reducible apply r_call); exact rfl; exact rfl; (first | exact hs | exact awake_con); exact rfl; exact rfl)
      | (refine aw_drawPA 6 2 [0, 1, 2, 3] 4 [5] ?_ rfl rfl rfl aop_alloc rfl ?_; (decide +kernel); (simp only [pk, List.drop_succ_cons, List.drop_zero]))
      | ((with_reducible apply ds_nilPA); exact rfl)
      | ((with_reducible apply aw_seq))
      | ((with_reducible apply aw_region))
      | ((with_reducible apply thn_normal))
      | ((with_reducible apply thn_ret))
      | ((with_reducible apply aw_ret))
      | ((with_reducible apply ao_nil))
      | ((with_reducible apply r_move); exact rfl; exact rfl)
      | ((with_reducible apply r_assign); exact rfl; exact rfl)
      | ((with_reducible apply r_field_p); exact rfl; exact rfl)
      | ((with_reducible apply r_load_p); exact rfl; exact rfl; exact rfl; exact rfl)
      | ((with_reducible apply r_load_pa); exact rfl; exact rfl; exact rfl; exact rfl; exact rfl)
      | ((with_reducible apply r_box_a); exact rfl; exact rfl)
      | ((with_reducible apply r_pick_t); exact rfl; exact rfl; exact rfl)
      | ((with_reducible apply r_not); exact rfl; exact rfl)
      | ((with_reducible apply r_store_pa); exact rfl; exact rfl; exact rfl; exact rfl; exact rfl; exact rfl)
      | (((with_reducible apply aw_cond); exact rfl) <;> intro hg <;> (first | (exact absurd hg (by decide)) | ((try simp only [decide_eq_true_eq, decide_eq_false_iff_not, Bool.not_eq_true', Bool.not_eq_false', Bool.not_true, Bool.not_false, Bool.not_not, Int.not_lt, Int.not_le, Nat.not_lt, Nat.not_le, gt_iff_lt, ge_iff_le, List.cons.injEq, and_true] at hg); first | (exact absurd trivial hg) | (exfalso; omega) | (have hT : True := hg; clear hT hg) | skip)))
      | (refine aw_drawq ?_ ?_; (kernel_rfl))
      | ((with_reducible apply ds_nil))
      | (((with_reducible apply rd_guard); exact rfl; exact rfl; exact rfl) <;> intro hg <;> (first | (exact absurd hg (by decide)) | ((try rw [hg]); (try simp only [decide_eq_true_eq, decide_eq_false_iff_not, Bool.not_eq_true', Bool.not_eq_false', Bool.not_true, Bool.not_false, Bool.not_not, Int.not_lt, Int.not_le, Nat.not_lt, Nat.not_le, gt_iff_lt, ge_iff_le, List.cons.injEq, and_true] at hg); first | (exact absurd trivial hg) | (exfalso; omega) | (have hT : True := hg; clear hT hg) | skip)))
      )
    all_goals first | exact ret_b rfl rfl | trace_state
  | true =>
  rw [h] at hs
  by_cases hok : solChk l = 0
  rotate_left
  · skip
    repeat' (first
      | ((with_reducible apply r_call); exact rfl; exact rfl; (first | exact hs | exact hc | exact awake_con); exact rfl; exact rfl)
      | (refine aw_drawPA 6 2 [0, 1, 2, 3] 4 [5] ?_ rfl rfl rfl aop_alloc rfl ?_; (decide +kernel); (simp only [pk, List.drop_succ_cons, List.drop_zero]))
      | ((with_reducible apply ds_nilPA); exact rfl)
      | ((with_reducible apply aw_seq))
      | ((with_reducible apply aw_region))
      | ((with_reducible apply thn_normal))
      | ((with_reducible apply thn_ret))
      | ((with_reducible apply aw_ret))
      | ((with_reducible apply ao_nil))
      | ((with_reducible apply r_move); exact rfl; exact rfl)
      | ((with_reducible apply r_assign); exact rfl; exact rfl)
      | ((with_reducible apply r_field_p); exact rfl; exact rfl)
      | ((with_reducible apply r_load_p); exact rfl; exact rfl; exact rfl; exact rfl)
      | ((with_reducible apply r_load_pa); exact rfl; exact rfl; exact rfl; exact rfl; exact rfl)
      | ((with_reducible apply r_neq); exact rfl; exact rfl; exact rfl)
      | ((with_reducible apply r_box_a); exact rfl; exact rfl)
      | ((with_reducible apply r_pick_t); exact rfl; exact rfl; exact rfl)
      | ((with_reducible apply r_pick_f); exact rfl; exact rfl; exact rfl)
      | ((with_reducible apply r_not); exact rfl; exact rfl)
      | ((with_reducible apply r_store_pa); exact rfl; exact rfl; exact rfl; exact rfl; exact rfl; exact rfl)
      | (((with_reducible apply aw_cond); exact rfl) <;> intro hg <;> (first | (exact absurd hg (by decide)) | ((try simp only [decide_eq_true_eq, decide_eq_false_iff_not, Bool.not_eq_true', Bool.not_eq_false', Bool.not_true, Bool.not_false, Bool.not_not, Int.not_lt, Int.not_le, Nat.not_lt, Nat.not_le, gt_iff_lt, ge_iff_le, List.cons.injEq, and_true] at hg); first | (exact absurd trivial hg) | (exfalso; omega) | (have hT : True := hg; clear hT hg) | skip)))
      | (refine aw_drawq ?_ ?_; (kernel_rfl))
      | ((with_reducible apply ds_nil))
      | (((with_reducible apply rd_guard); exact rfl; exact rfl; exact rfl) <;> intro hg <;> (first | (exact absurd hg (by decide)) | ((try rw [hg]); (try simp only [decide_eq_true_eq, decide_eq_false_iff_not, Bool.not_eq_true', Bool.not_eq_false', Bool.not_true, Bool.not_false, Bool.not_not, Int.not_lt, Int.not_le, Nat.not_lt, Nat.not_le, gt_iff_lt, ge_iff_le, List.cons.injEq, and_true] at hg); first | (exact absurd trivial hg) | (exfalso; omega) | (have hT : True := hg; clear hT hg) | skip)))
      )
    all_goals first | exact ret_b rfl rfl | trace_state
  by_cases h1 : 0 ≤ Z.1 ∧ Z.2 ≤ lengthS l ∧ Z.1 < Z.2
  rotate_left
  · skip
    repeat' (first
      | ((with_reducible apply r_call); exact rfl; exact rfl; (first | exact hs | exact hc | exact hl | exact awake_con); exact rfl; exact rfl)
      | (refine aw_drawPA 6 2 [0, 1, 2, 3] 4 [5] ?_ rfl rfl rfl aop_alloc rfl ?_; (decide +kernel); (simp only [pk, List.drop_succ_cons, List.drop_zero]))
      | ((with_reducible apply ds_nilPA); exact rfl)
      | ((with_reducible apply aw_seq))
      | ((with_reducible apply aw_region))
      | ((with_reducible apply thn_normal))
      | ((with_reducible apply thn_ret))
      | ((with_reducible apply aw_ret))
      | ((with_reducible apply ao_nil))
      | ((with_reducible apply r_move); exact rfl; exact rfl)
      | ((with_reducible apply r_assign); exact rfl; exact rfl)
      | ((with_reducible apply r_field_p); exact rfl; exact rfl)
      | ((with_reducible apply r_load_p); exact rfl; exact rfl; exact rfl; exact rfl)
      | ((with_reducible apply r_load_pa); exact rfl; exact rfl; exact rfl; exact rfl; exact rfl)
      | ((with_reducible apply r_lss); exact rfl; exact rfl; exact rfl)
      | ((with_reducible apply r_gtr); exact rfl; exact rfl; exact rfl)
      | ((with_reducible apply r_geq); exact rfl; exact rfl; exact rfl)
      | ((with_reducible apply r_neq); exact rfl; exact rfl; exact rfl)
      | ((with_reducible apply r_box_a); exact rfl; exact rfl)
      | ((with_reducible apply r_pick_t); exact rfl; exact rfl; exact rfl)
      | ((with_reducible apply r_pick_f); exact rfl; exact rfl; exact rfl)
      | ((with_reducible apply r_not); exact rfl; exact rfl)
      | ((with_reducible apply r_store_pa); exact rfl; exact rfl; exact rfl; exact rfl; exact rfl; exact rfl)
      | (((with_reducible apply aw_cond); exact rfl) <;> intro hg <;> (first | (exact absurd hg (by decide)) | ((try simp only [decide_eq_true_eq, decide_eq_false_iff_not, Bool.not_eq_true', Bool.not_eq_false', Bool.not_true, Bool.not_false, Bool.not_not, Int.not_lt, Int.not_le, Nat.not_lt, Nat.not_le, gt_iff_lt, ge_iff_le, List.cons.injEq, and_true] at hg); first | (exact absurd trivial hg) | (exfalso; omega) | (have hT : True := hg; clear hT hg) | skip)))
      | (refine aw_drawq ?_ ?_; (kernel_rfl))
      | ((with_reducible apply ds_nil))
      | (((with_reducible apply rd_guard); exact rfl; exact rfl; exact rfl) <;> intro hg <;> (first | (exact absurd hg (by decide)) | ((try rw [hg]); (try simp only [decide_eq_true_eq, decide_eq_false_iff_not, Bool.not_eq_true', Bool.not_eq_false', Bool.not_true, Bool.not_false, Bool.not_not, Int.not_lt, Int.not_le, Nat.not_lt, Nat.not_le, gt_iff_lt, ge_iff_le, List.cons.injEq, and_true] at hg); first | (exact absurd trivial hg) | (exfalso; omega) | (have hT : True := hg; clear hT hg) | skip)))
      )
    all_goals first | exact ret_b rfl rfl | trace_state
  obtain ⟨h1, h2, h3⟩ := h1
  have hlb : lengthS l ≤ 20000 := by have := pos_bd (valL_V l) (j := (valL l).length) (Nat.le_refl _); exact this.2
  have key : (-600 ≤ X.1 ∧ X.2 ≤ 600 ∧ -600 ≤ Y.1 ∧ Y.2 ≤ 600 ∧ X.1 < X.2 ∧ Y.1 < Y.2) → (X.2 - X.1) * (Y.2 - Y.1) ≤ inS (comS l Z) X Y → winS l X Y Z = (X.2 - X.1) * (Y.2 - Y.1) * (Z.2 - Z.1) := fun hr hsz => by
    have e1 : wid X = X.2 - X.1 := by unfold wid; omega
    have e2 : wid Y = Y.2 - Y.1 := by unfold wid; omega
    have := com_wood hok (X := X) (Y := Y) (Z := Z) (by rw [e1, e2]; exact hsz) h1 (by omega) h2
    rw [e1, e2] at this; exact this
  have hsz : (-600 ≤ X.1 ∧ X.2 ≤ 600 ∧ -600 ≤ Y.1 ∧ Y.2 ≤ 600 ∧ X.1 < X.2 ∧ Y.1 < Y.2) → 0 ≤ (X.2 - X.1) * (Y.2 - Y.1) ∧ (X.2 - X.1) * (Y.2 - Y.1) ≤ 1440000 := fun hr => mul_bd2 (m := 1200) (k := 1200) ⟨by omega, by omega⟩ ⟨by omega, by omega⟩
  have hsz2 : (-600 ≤ X.1 ∧ X.2 ≤ 600 ∧ -600 ≤ Y.1 ∧ Y.2 ≤ 600 ∧ X.1 < X.2 ∧ Y.1 < Y.2) → 0 ≤ (X.2 - X.1) * (Y.2 - Y.1) * (Z.2 - Z.1) ∧ (X.2 - X.1) * (Y.2 - Y.1) * (Z.2 - Z.1) ≤ 28800000000 := fun hr => mul_bd2 (m := 1440000) (k := 20000) (hsz hr) ⟨by omega, by omega⟩
  by_cases hk : Z.1 ≤ k ∧ k < Z.2
  · obtain ⟨k1, k2⟩ := com_at hok h1 h2 hk.1 hk.2
    rw [k1] at ha
    rw [k2] at hm
    by_cases hr : -600 ≤ X.1 ∧ X.2 ≤ 600 ∧ -600 ≤ Y.1 ∧ Y.2 ≤ 600 ∧ X.1 < X.2 ∧ Y.1 < Y.2
    · have := hsz hr
      have := hsz2 hr
      have hf1 : fits ((X.2 - X.1) * (Y.2 - Y.1)) := by unfold fits; omega
      have hf2 : fits ((X.2 - X.1) * (Y.2 - Y.1) * (Z.2 - Z.1)) := by unfold fits; omega
      have kk := key hr
      repeat' (first
        | ((with_reducible apply r_call); exact rfl; exact rfl; (first | exact hs | exact hc | exact hl | exact ho | exact ha | exact hm | exact he | exact hi | exact hw | exact awake_con); exact rfl; exact rfl)
        | (refine aw_drawPA 6 2 [0, 1, 2, 3] 4 [5] ?_ rfl rfl rfl aop_alloc rfl ?_; (decide +kernel); (simp only [pk, List.drop_succ_cons, List.drop_zero]))
        | ((with_reducible apply ds_nilPA); exact rfl)
        | ((with_reducible apply aw_seq))
        | ((with_reducible apply aw_region))
        | ((with_reducible apply thn_normal))
        | ((with_reducible apply thn_ret))
        | ((with_reducible apply aw_skip))
        | ((with_reducible apply aw_ret))
        | ((with_reducible apply ao_nil))
        | ((with_reducible apply r_move); exact rfl; exact rfl)
        | ((with_reducible apply r_assign); exact rfl; exact rfl)
        | ((with_reducible apply r_field_p); exact rfl; exact rfl)
        | ((with_reducible apply r_load_p); exact rfl; exact rfl; exact rfl; exact rfl)
        | ((with_reducible apply r_load_pa); exact rfl; exact rfl; exact rfl; exact rfl; exact rfl)
        | ((with_reducible apply r_lss); exact rfl; exact rfl; exact rfl)
        | ((with_reducible apply r_gtr); exact rfl; exact rfl; exact rfl)
        | ((with_reducible apply r_geq); exact rfl; exact rfl; exact rfl)
        | ((with_reducible apply r_eql); exact rfl; exact rfl; exact rfl)
        | ((with_reducible apply r_neq); exact rfl; exact rfl; exact rfl)
        | ((with_reducible apply r_sub); exact rfl; exact rfl; exact (by first | assumption | (unfold fits; omega)); exact rfl)
        | ((with_reducible apply r_mul); exact rfl; exact rfl; exact (by first | assumption | (unfold fits; omega)); exact rfl)
        | ((with_reducible apply r_box_a); exact rfl; exact rfl)
        | ((with_reducible apply r_pick_t); exact rfl; exact rfl; exact rfl)
        | ((with_reducible apply r_pick_f); exact rfl; exact rfl; exact rfl)
        | ((with_reducible apply r_not); exact rfl; exact rfl)
        | ((with_reducible apply r_store_pa); exact rfl; exact rfl; exact rfl; exact rfl; exact rfl; exact rfl)
        | ((with_reducible apply r_build); exact rfl; exact rfl; exact rfl)
        | ((with_reducible apply r_extract); exact rfl; exact rfl; exact rfl)
        | ((with_reducible apply r_alloc); exact rfl)
        | (((with_reducible apply r_guard); exact rfl; exact rfl; exact rfl; exact rfl) <;> intro hg <;> (first | (exact absurd hg (by decide)) | ((try simp only [decide_eq_true_eq, decide_eq_false_iff_not, Bool.not_eq_true', Bool.not_eq_false', Bool.not_true, Bool.not_false, Bool.not_not, Int.not_lt, Int.not_le, Nat.not_lt, Nat.not_le, gt_iff_lt, ge_iff_le, List.cons.injEq, and_true] at hg); first | (exact absurd trivial hg) | (exfalso; omega) | (have hT : True := hg; clear hT hg) | skip)))
        | (((with_reducible apply aw_cond); exact rfl) <;> intro hg <;> (first | (exact absurd hg (by decide)) | ((try simp only [decide_eq_true_eq, decide_eq_false_iff_not, Bool.not_eq_true', Bool.not_eq_false', Bool.not_true, Bool.not_false, Bool.not_not, Int.not_lt, Int.not_le, Nat.not_lt, Nat.not_le, gt_iff_lt, ge_iff_le, List.cons.injEq, and_true] at hg); first | (exact absurd trivial hg) | (exfalso; omega) | (have hT : True := hg; clear hT hg) | skip)))
        | (refine aw_drawq ?_ ?_; (kernel_rfl))
        | ((with_reducible apply ds_nil))
        | (((with_reducible apply rd_guard); exact rfl; exact rfl; exact rfl) <;> intro hg <;> (first | (exact absurd hg (by decide)) | ((try rw [hg]); (try simp only [decide_eq_true_eq, decide_eq_false_iff_not, Bool.not_eq_true', Bool.not_eq_false', Bool.not_true, Bool.not_false, Bool.not_not, Int.not_lt, Int.not_le, Nat.not_lt, Nat.not_le, gt_iff_lt, ge_iff_le, List.cons.injEq, and_true] at hg); first | (exact absurd trivial hg) | (exfalso; omega) | (have hT : True := hg; clear hT hg) | skip)))
        )
      all_goals first | exact ret_b rfl rfl | (exact ret_b rfl (by rw [kk (by omega)]; simp)) | trace_state
    · skip
      repeat' (first
        | ((with_reducible apply r_call); exact rfl; exact rfl; (first | exact hs | exact hc | exact hl | exact ho | exact ha | exact hm | exact he | exact hi | exact hw | exact awake_con); exact rfl; exact rfl)
        | (refine aw_drawPA 6 2 [0, 1, 2, 3] 4 [5] ?_ rfl rfl rfl aop_alloc rfl ?_; (decide +kernel); (simp only [pk, List.drop_succ_cons, List.drop_zero]))
        | ((with_reducible apply ds_nilPA); exact rfl)
        | ((with_reducible apply aw_seq))
        | ((with_reducible apply aw_region))
        | ((with_reducible apply thn_normal))
        | ((with_reducible apply thn_ret))
        | ((with_reducible apply aw_skip))
        | ((with_reducible apply aw_ret))
        | ((with_reducible apply ao_nil))
        | ((with_reducible apply r_move); exact rfl; exact rfl)
        | ((with_reducible apply r_assign); exact rfl; exact rfl)
        | ((with_reducible apply r_field_p); exact rfl; exact rfl)
        | ((with_reducible apply r_load_p); exact rfl; exact rfl; exact rfl; exact rfl)
        | ((with_reducible apply r_load_pa); exact rfl; exact rfl; exact rfl; exact rfl; exact rfl)
        | ((with_reducible apply r_lss); exact rfl; exact rfl; exact rfl)
        | ((with_reducible apply r_gtr); exact rfl; exact rfl; exact rfl)
        | ((with_reducible apply r_geq); exact rfl; exact rfl; exact rfl)
        | ((with_reducible apply r_neq); exact rfl; exact rfl; exact rfl)
        | ((with_reducible apply r_box_a); exact rfl; exact rfl)
        | ((with_reducible apply r_pick_t); exact rfl; exact rfl; exact rfl)
        | ((with_reducible apply r_pick_f); exact rfl; exact rfl; exact rfl)
        | ((with_reducible apply r_not); exact rfl; exact rfl)
        | ((with_reducible apply r_store_pa); exact rfl; exact rfl; exact rfl; exact rfl; exact rfl; exact rfl)
        | ((with_reducible apply r_extract); exact rfl; exact rfl; exact rfl)
        | ((with_reducible apply r_alloc); exact rfl)
        | (((with_reducible apply r_guard); exact rfl; exact rfl; exact rfl; exact rfl) <;> intro hg <;> (first | (exact absurd hg (by decide)) | ((try simp only [decide_eq_true_eq, decide_eq_false_iff_not, Bool.not_eq_true', Bool.not_eq_false', Bool.not_true, Bool.not_false, Bool.not_not, Int.not_lt, Int.not_le, Nat.not_lt, Nat.not_le, gt_iff_lt, ge_iff_le, List.cons.injEq, and_true] at hg); first | (exact absurd trivial hg) | (exfalso; omega) | (have hT : True := hg; clear hT hg) | skip)))
        | (((with_reducible apply aw_cond); exact rfl) <;> intro hg <;> (first | (exact absurd hg (by decide)) | ((try simp only [decide_eq_true_eq, decide_eq_false_iff_not, Bool.not_eq_true', Bool.not_eq_false', Bool.not_true, Bool.not_false, Bool.not_not, Int.not_lt, Int.not_le, Nat.not_lt, Nat.not_le, gt_iff_lt, ge_iff_le, List.cons.injEq, and_true] at hg); first | (exact absurd trivial hg) | (exfalso; omega) | (have hT : True := hg; clear hT hg) | skip)))
        | (refine aw_drawq ?_ ?_; (kernel_rfl))
        | ((with_reducible apply ds_nil))
        | (((with_reducible apply rd_guard); exact rfl; exact rfl; exact rfl) <;> intro hg <;> (first | (exact absurd hg (by decide)) | ((try rw [hg]); (try simp only [decide_eq_true_eq, decide_eq_false_iff_not, Bool.not_eq_true', Bool.not_eq_false', Bool.not_true, Bool.not_false, Bool.not_not, Int.not_lt, Int.not_le, Nat.not_lt, Nat.not_le, gt_iff_lt, ge_iff_le, List.cons.injEq, and_true] at hg); first | (exact absurd trivial hg) | (exfalso; omega) | (have hT : True := hg; clear hT hg) | skip)))
        )
      all_goals first | exact ret_b rfl rfl | trace_state
  · by_cases hr : -600 ≤ X.1 ∧ X.2 ≤ 600 ∧ -600 ≤ Y.1 ∧ Y.2 ≤ 600 ∧ X.1 < X.2 ∧ Y.1 < Y.2
    · have := hsz hr
      have := hsz2 hr
      have hf1 : fits ((X.2 - X.1) * (Y.2 - Y.1)) := by unfold fits; omega
      have hf2 : fits ((X.2 - X.1) * (Y.2 - Y.1) * (Z.2 - Z.1)) := by unfold fits; omega
      have kk := key hr
      repeat' (first
        | ((with_reducible apply r_call); exact rfl; exact rfl; (first | exact hs | exact hc | exact hl | exact ho | exact ha | exact hm | exact he | exact hi | exact hw | exact awake_con); exact rfl; exact rfl)
        | (refine aw_drawPA 6 2 [0, 1, 2, 3] 4 [5] ?_ rfl rfl rfl aop_alloc rfl ?_; (decide +kernel); (simp only [pk, List.drop_succ_cons, List.drop_zero]))
        | ((with_reducible apply ds_nilPA); exact rfl)
        | ((with_reducible apply aw_seq))
        | ((with_reducible apply aw_region))
        | ((with_reducible apply thn_normal))
        | ((with_reducible apply thn_ret))
        | ((with_reducible apply aw_skip))
        | ((with_reducible apply aw_ret))
        | ((with_reducible apply ao_nil))
        | ((with_reducible apply r_move); exact rfl; exact rfl)
        | ((with_reducible apply r_assign); exact rfl; exact rfl)
        | ((with_reducible apply r_field_p); exact rfl; exact rfl)
        | ((with_reducible apply r_load_p); exact rfl; exact rfl; exact rfl; exact rfl)
        | ((with_reducible apply r_load_pa); exact rfl; exact rfl; exact rfl; exact rfl; exact rfl)
        | ((with_reducible apply r_lss); exact rfl; exact rfl; exact rfl)
        | ((with_reducible apply r_gtr); exact rfl; exact rfl; exact rfl)
        | ((with_reducible apply r_geq); exact rfl; exact rfl; exact rfl)
        | ((with_reducible apply r_eql); exact rfl; exact rfl; exact rfl)
        | ((with_reducible apply r_neq); exact rfl; exact rfl; exact rfl)
        | ((with_reducible apply r_sub); exact rfl; exact rfl; exact (by first | assumption | (unfold fits; omega)); exact rfl)
        | ((with_reducible apply r_mul); exact rfl; exact rfl; exact (by first | assumption | (unfold fits; omega)); exact rfl)
        | ((with_reducible apply r_box_a); exact rfl; exact rfl)
        | ((with_reducible apply r_pick_t); exact rfl; exact rfl; exact rfl)
        | ((with_reducible apply r_pick_f); exact rfl; exact rfl; exact rfl)
        | ((with_reducible apply r_not); exact rfl; exact rfl)
        | ((with_reducible apply r_store_pa); exact rfl; exact rfl; exact rfl; exact rfl; exact rfl; exact rfl)
        | ((with_reducible apply r_build); exact rfl; exact rfl; exact rfl)
        | ((with_reducible apply r_alloc); exact rfl)
        | (((with_reducible apply r_guard); exact rfl; exact rfl; exact rfl; exact rfl) <;> intro hg <;> (first | (exact absurd hg (by decide)) | ((try simp only [decide_eq_true_eq, decide_eq_false_iff_not, Bool.not_eq_true', Bool.not_eq_false', Bool.not_true, Bool.not_false, Bool.not_not, Int.not_lt, Int.not_le, Nat.not_lt, Nat.not_le, gt_iff_lt, ge_iff_le, List.cons.injEq, and_true] at hg); first | (exact absurd trivial hg) | (exfalso; omega) | (have hT : True := hg; clear hT hg) | skip)))
        | (((with_reducible apply aw_cond); exact rfl) <;> intro hg <;> (first | (exact absurd hg (by decide)) | ((try simp only [decide_eq_true_eq, decide_eq_false_iff_not, Bool.not_eq_true', Bool.not_eq_false', Bool.not_true, Bool.not_false, Bool.not_not, Int.not_lt, Int.not_le, Nat.not_lt, Nat.not_le, gt_iff_lt, ge_iff_le, List.cons.injEq, and_true] at hg); first | (exact absurd trivial hg) | (exfalso; omega) | (have hT : True := hg; clear hT hg) | skip)))
        | (refine aw_drawq ?_ ?_; (kernel_rfl))
        | ((with_reducible apply ds_nil))
        | (((with_reducible apply rd_guard); exact rfl; exact rfl; exact rfl) <;> intro hg <;> (first | (exact absurd hg (by decide)) | ((try rw [hg]); (try simp only [decide_eq_true_eq, decide_eq_false_iff_not, Bool.not_eq_true', Bool.not_eq_false', Bool.not_true, Bool.not_false, Bool.not_not, Int.not_lt, Int.not_le, Nat.not_lt, Nat.not_le, gt_iff_lt, ge_iff_le, List.cons.injEq, and_true] at hg); first | (exact absurd trivial hg) | (exfalso; omega) | (have hT : True := hg; clear hT hg) | skip)))
        )
      all_goals first | exact ret_b rfl rfl | (exact ret_b rfl (by rw [kk (by omega)]; simp)) | trace_state
    · skip
      repeat' (first
        | ((with_reducible apply r_call); exact rfl; exact rfl; (first | exact hs | exact hc | exact hl | exact ho | exact ha | exact hm | exact he | exact hi | exact hw | exact awake_con); exact rfl; exact rfl)
        | (refine aw_drawPA 6 2 [0, 1, 2, 3] 4 [5] ?_ rfl rfl rfl aop_alloc rfl ?_; (decide +kernel); (simp only [pk, List.drop_succ_cons, List.drop_zero]))
        | ((with_reducible apply ds_nilPA); exact rfl)
        | ((with_reducible apply aw_seq))
        | ((with_reducible apply aw_region))
        | ((with_reducible apply thn_normal))
        | ((with_reducible apply thn_ret))
        | ((with_reducible apply aw_skip))
        | ((with_reducible apply aw_ret))
        | ((with_reducible apply ao_nil))
        | ((with_reducible apply r_move); exact rfl; exact rfl)
        | ((with_reducible apply r_assign); exact rfl; exact rfl)
        | ((with_reducible apply r_field_p); exact rfl; exact rfl)
        | ((with_reducible apply r_load_p); exact rfl; exact rfl; exact rfl; exact rfl)
        | ((with_reducible apply r_load_pa); exact rfl; exact rfl; exact rfl; exact rfl; exact rfl)
        | ((with_reducible apply r_lss); exact rfl; exact rfl; exact rfl)
        | ((with_reducible apply r_gtr); exact rfl; exact rfl; exact rfl)
        | ((with_reducible apply r_geq); exact rfl; exact rfl; exact rfl)
        | ((with_reducible apply r_neq); exact rfl; exact rfl; exact rfl)
        | ((with_reducible apply r_box_a); exact rfl; exact rfl)
        | ((with_reducible apply r_pick_t); exact rfl; exact rfl; exact rfl)
        | ((with_reducible apply r_pick_f); exact rfl; exact rfl; exact rfl)
        | ((with_reducible apply r_not); exact rfl; exact rfl)
        | ((with_reducible apply r_store_pa); exact rfl; exact rfl; exact rfl; exact rfl; exact rfl; exact rfl)
        | ((with_reducible apply r_alloc); exact rfl)
        | (((with_reducible apply r_guard); exact rfl; exact rfl; exact rfl; exact rfl) <;> intro hg <;> (first | (exact absurd hg (by decide)) | ((try simp only [decide_eq_true_eq, decide_eq_false_iff_not, Bool.not_eq_true', Bool.not_eq_false', Bool.not_true, Bool.not_false, Bool.not_not, Int.not_lt, Int.not_le, Nat.not_lt, Nat.not_le, gt_iff_lt, ge_iff_le, List.cons.injEq, and_true] at hg); first | (exact absurd trivial hg) | (exfalso; omega) | (have hT : True := hg; clear hT hg) | skip)))
        | (((with_reducible apply aw_cond); exact rfl) <;> intro hg <;> (first | (exact absurd hg (by decide)) | ((try simp only [decide_eq_true_eq, decide_eq_false_iff_not, Bool.not_eq_true', Bool.not_eq_false', Bool.not_true, Bool.not_false, Bool.not_not, Int.not_lt, Int.not_le, Nat.not_lt, Nat.not_le, gt_iff_lt, ge_iff_le, List.cons.injEq, and_true] at hg); first | (exact absurd trivial hg) | (exfalso; omega) | (have hT : True := hg; clear hT hg) | skip)))
        | (refine aw_drawq ?_ ?_; (kernel_rfl))
        | ((with_reducible apply ds_nil))
        | (((with_reducible apply rd_guard); exact rfl; exact rfl; exact rfl) <;> intro hg <;> (first | (exact absurd hg (by decide)) | ((try rw [hg]); (try simp only [decide_eq_true_eq, decide_eq_false_iff_not, Bool.not_eq_true', Bool.not_eq_false', Bool.not_true, Bool.not_false, Bool.not_not, Int.not_lt, Int.not_le, Nat.not_lt, Nat.not_le, gt_iff_lt, ge_iff_le, List.cons.injEq, and_true] at hg); first | (exact absurd trivial hg) | (exfalso; omega) | (have hT : True := hg; clear hT hg) | skip)))
        )
      all_goals first | exact ret_b rfl rfl | trace_state
end Go.Proofs.Ytjpmidiklfiinaa.Ge
