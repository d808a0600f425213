/- Walks of geometry: solids: Within, At, Cut in both. -/
import Derived.Test.YtanlfjboahfanaaGC
namespace Go.Proofs.Ytanlfjboahfanaa.Ge
set_option linter.unusedVariables false
set_option linter.unusedSimpArgs false
open Go.RowKit Go.Proofs.Ytanlfjboahfanaa.Ev
variable {gl : List (Nat × List CV)}

theorem cloneS_con (l : List Span) (hn : l.length ≤ 100000) : Con Try.prog gl 62 [LS l] (LS l) := by
  refine con_of Try.func62 rfl (by kernel_rfl) rfl ?_
  simp only [Try.ntmps62, Try.results62, argEnv, ofC, of1, List.map]
  repeat' (first
    | ((with_reducible apply r_eqnil); exact rfl; exact rfl; exact rfl; intro nb hnb)
    | ((with_reducible apply (r_appendl (enc := spC) (l := []) (l2 := l))); exact rfl; exact rfl; exact inferInstance; exact rfl; exact rfl; exact (by omega); exact (by omega); exact rfl)
    | ((with_reducible apply aw_seq))
    | ((with_reducible apply aw_region))
    | ((with_reducible apply thn_normal))
    | ((with_reducible apply thn_ret))
    | ((with_reducible apply aw_skip))
    | ((with_reducible apply aw_ret))
    | ((with_reducible apply ao_nil))
    | ((with_reducible apply r_move); exact rfl; exact rfl)
    | ((with_reducible apply r_assign); exact rfl; exact rfl)
    | (((with_reducible apply aw_cond); exact rfl) <;> intro hg <;> (first | (exact absurd hg (by decide)) | ((try simp only [decide_eq_true_eq, decide_eq_false_iff_not, Bool.not_eq_true', Bool.not_eq_false', Bool.not_true, Bool.not_false, Bool.not_not, Int.not_lt, Int.not_le, Nat.not_lt, Nat.not_le, gt_iff_lt, ge_iff_le, List.cons.injEq, and_true] at hg); first | (exact absurd trivial hg) | (exfalso; omega) | (have hT : True := hg; clear hT hg) | skip)))
    | ((with_reducible apply r_lit0); exact rfl)
    )
  · have : l = [] := by
      cases l with
      | nil => rfl
      | cons a l => have := hnb (by simp [spC]); subst this; cases hg
    subst this
    exact ret1 (.tmp rfl cl_none)
  · exact ret1 (.tmp rfl (cl_vec rfl (by rw [flat_len EncL.len]; simp)))
theorem clone_con (s : Sec) (hn : s.rows.length ≤ 100000) : Con Try.prog gl 50 [secC s] (secC s) := by
  have h := cloneS_con (gl := gl) s.rows hn
  refine con_of Try.func50 rfl (by kernel_rfl) rfl ?_
  simp only [Try.ntmps50, Try.results50, argEnv, ofC, of1, List.map]
  repeat' (first
    | (refine aw_drawt 6 ?_ ?_; (kernel_rfl); (simp only [List.take_succ_cons, List.take_zero, List.drop_succ_cons, List.drop_zero]))
    | ((with_reducible apply r_call); exact rfl; exact rfl; exact h; exact rfl; exact rfl)
    | ((with_reducible apply aw_seq))
    | ((with_reducible apply aw_region))
    | ((with_reducible apply thn_normal))
    | ((with_reducible apply aw_ret))
    | ((with_reducible apply ao_nil))
    | ((with_reducible apply r_field_p); exact rfl; exact rfl)
    | ((with_reducible apply r_load_p); exact rfl; exact rfl; exact rfl; exact rfl)
    | ((with_reducible apply r_box_a); exact rfl; exact rfl)
    | ((with_reducible apply r_store_pa); exact rfl; exact rfl; exact rfl; exact rfl; exact rfl; exact rfl)
    | ((with_reducible apply r_build); exact rfl; exact rfl; exact rfl)
    | ((with_reducible apply r_alloc); exact rfl)
    | ((with_reducible apply ds_nil))
    )
  exact ret1 (.cell_a inferInstance rfl rfl rfl rfl (cl_cons cl_c (cl_cons cl_c cl_nil)))

/-- The part of slice i along Z. -/
def ovZ (l : List Slc) (Z : Span) (i : Nat) : Int := ov (pos l i, pos l i + lenD l i) Z
def winV (l : List Slc) (X Y Z : Span) : Int := sumN (fun i => ovZ l Z i * inV (secD l i) X Y) l.length
noncomputable def winS (l : List Slc) (X Y Z : Span) : Int := winV (valL l) X Y Z
theorem in_V {s : Sec} (v : SecV s) (X Y : Span) : 0 ≤ inV s X Y ∧ inV s X Y ≤ 1440000 := by
  have := (sumN_bd (c := 12000) (n := s.rows.length) (fun i hi => in_bd v X Y hi)) _ (Nat.le_refl _)
  have h2 := v.len
  unfold inV; omega
theorem inS_ok {s : Sec} (h : secChk s = 0) (X Y : Span) : inS s X Y = inV s X Y := by unfold inS; rw [valS_ok h]
theorem ovZ_bd {l : List Slc} (v : SolV l) {i : Nat} (hi : i < l.length) (Z : Span) : 0 ≤ ovZ l Z i ∧ ovZ l Z i ≤ l[i].len := by
  have := v.one i hi
  unfold ovZ ov; dsimp only; rw [lenD_eq hi]; omega
theorem win_bd {l : List Slc} (v : SolV l) (X Y Z : Span) {i : Nat} (hi : i < l.length) : 0 ≤ ovZ l Z i * inV (secD l i) X Y ∧ ovZ l Z i * inV (secD l i) X Y ≤ 28800000000 := by
  have h1 := len_bd v hi
  have h2 := in_V (chk_is (v.chk i hi)) X Y
  have h3 := ovZ_bd v hi Z
  rw [secD_eq hi]
  exact mul_bd2 (m := 20000) (k := 1440000) ⟨by omega, by omega⟩ h2
theorem ext_meet {l : List Slc} (v : SolV l) {j : Nat} (hj : j < l.length) (Z : Span) : Con Try.prog gl 53 [spV (meetS (pos l j, pos l j + lenD l j) Z)] (I (ovZ l Z j)) := by
  have h1 := pos_bd v (j := j) (by omega)
  have h2 := pos_bd v (j := j + 1) (by omega)
  have h3 := v.one j hj
  rw [pos_succ] at h2
  rw [← lenD_eq hj] at h3
  exact len_meet (by dsimp only; omega)
theorem sumN_zero {f : Nat → Int} : ∀ {n : Nat}, (∀ i, i < n → f i = 0) → sumN f n = 0
  | 0, _ => rfl
  | n + 1, h => by
    unfold sumN
    rw [sumN_zero (fun i hi => h i (by omega)), h n (by omega)]; rfl
theorem ov_none {a b : Span} (h : b.2 ≤ b.1) : ov a b = 0 := by unfold ov; omega
theorem in_none (s : Sec) {X Y : Span} (h : X.2 ≤ X.1 ∨ Y.2 ≤ Y.1) : inV s X Y = 0 := by
  refine sumN_zero fun i _ => ?_
  rcases h with h | h
  · rw [ov_none h, Int.zero_mul]
  · rw [ov_none (b := Y) h, Int.mul_zero]
theorem win_none (l : List Slc) {X Y Z : Span} (h : X.2 ≤ X.1 ∨ Y.2 ≤ Y.1 ∨ Z.2 ≤ Z.1) : winV l X Y Z = 0 := by
  refine sumN_zero fun i _ => ?_
  rcases h with h | h | h
  · rw [in_none _ (.inl h), Int.mul_zero]
  · rw [in_none _ (.inr h), Int.mul_zero]
  · unfold ovZ; rw [ov_none h, Int.zero_mul]
theorem clip_ov {l : List Slc} (v : SolV l) {j : Nat} (hj : j < l.length) (Z : Span) : ov (pos l j, pos l j + lenD l j) (max Z.1 0, min Z.2 20000) = ovZ l Z j := by
  have h1 := pos_bd v (j := j) (by omega)
  have h2 := pos_bd v (j := j + 1) (by omega)
  rw [pos_succ] at h2
  unfold ovZ ov; dsimp only; omega
def firstN (p : Nat → Bool) : Nat → Nat → Option Nat
  | 0, _ => none
  | k + 1, j => if p j then some j else firstN p k (j + 1)
theorem firstN_step {p : Nat → Bool} {n j : Nat} (hj : j < n) (h : p j = false) : firstN p (n - j) j = firstN p (n - (j + 1)) (j + 1) := by
  rw [show n - j = (n - (j + 1)) + 1 by omega]
  show (if p j then _ else _) = _
  rw [h]; rfl
theorem firstN_hit {p : Nat → Bool} {n j : Nat} (hj : j < n) (h : p j = true) : firstN p (n - j) j = some j := by
  rw [show n - j = (n - (j + 1)) + 1 by omega]
  show (if p j then _ else _) = _
  rw [h]; rfl
theorem firstN_none {p : Nat → Bool} : ∀ (k j : Nat), (∀ i, p i = false) → firstN p k j = none
  | 0, _, _ => rfl
  | k + 1, j, h => by show (if p j then _ else _) = _; rw [h j]; exact firstN_none k (j + 1) h
def hitZ (l : List Slc) (z : Int) (i : Nat) : Bool := decide (pos l i ≤ z ∧ z < pos l i + lenD l i)
def atOf (l : List Slc) : Option Nat → Sec × Bool
  | some i => (secD l i, true)
  | none => (sec0, false)
def atV (l : List Slc) (z : Int) : Sec × Bool := atOf l (firstN (hitZ l z) l.length 0)
noncomputable def atS (l : List Slc) (z : Int) : Sec × Bool := atV (valL l) z
def atC (r : Sec × Bool) : CV := .tup [secC r.1, .v (.bool r.2)]
/-- The parts of the first slices along Z. -/
def cutN (l : List Slc) (Z : Span) : Nat → List Slc
  | 0 => []
  | j + 1 => if 0 < ovZ l Z j then cutN l Z j ++ [⟨ovZ l Z j, secD l j⟩] else cutN l Z j
def cutV (l : List Slc) (Z : Span) : List Slc := cutN l Z l.length
noncomputable def cutS (l : List Slc) (Z : Span) : List Slc := cutV (valL l) Z
theorem cutN_len (l : List Slc) (Z : Span) : ∀ j, (cutN l Z j).length ≤ j
  | 0 => Nat.le_refl _
  | j + 1 => by
    have := cutN_len l Z j
    unfold cutN; split
    · simp; omega
    · omega
theorem cutN_yes {l : List Slc} {Z : Span} {j : Nat} (h : 0 < ovZ l Z j) : cutN l Z j ++ [⟨ovZ l Z j, secD l j⟩] = cutN l Z (j + 1) := by
  show _ = if 0 < ovZ l Z j then cutN l Z j ++ [⟨ovZ l Z j, secD l j⟩] else cutN l Z j
  rw [if_pos h]
theorem cutN_no {l : List Slc} {Z : Span} {j : Nat} (h : ¬ 0 < ovZ l Z j) : cutN l Z j = cutN l Z (j + 1) := by
  show _ = if 0 < ovZ l Z j then cutN l Z j ++ [⟨ovZ l Z j, secD l j⟩] else cutN l Z j
  rw [if_neg h]
set_option maxRecDepth 100000 in
set_option maxHeartbeats 4000000 in
theorem scut_con (l : List Slc) (hn : l.length ≤ maxLen) (Z : Span) : Con Try.prog gl 34 [LL l, spV Z] (LL (cutS l Z)) := by
  have hv := svalid_con (gl := gl) l hn
  have v := valL_V l
  unfold cutS cutV
  generalize valL l = u at *
  have hu := v.n
  have he := extents_con (gl := gl) u v
  have hel := extL_len u
  refine con_of Try.func34 rfl (by kernel_rfl) rfl ?_
  simp only [Try.ntmps34, Try.results34, argEnv, ofC, of1, List.map]
  repeat' (first
    | ((with_reducible apply r_call); exact rfl; exact rfl; (first | exact hv | exact he); exact rfl; exact rfl)
    | ((with_reducible apply aw_seq))
    | ((with_reducible apply aw_region))
    | ((with_reducible apply aw_block))
    | ((with_reducible apply thn_normal))
    | ((with_reducible apply ao_nil))
    | ((with_reducible apply r_move); exact rfl; exact rfl)
    | ((with_reducible apply r_assign); exact rfl; exact rfl)
    | ((with_reducible apply r_box_a); exact rfl; exact rfl)
    | ((with_reducible apply r_len_f); exact rfl; exact inferInstance; exact rfl)
    )
  refine aw_nilvec 5 36 3 rfl rfl ?_
  refine aw_loopG (G := Nat × Nat) (fun ((j, k) : Nat × Nat) => j ≤ u.length ∧ (cutN u Z j).length = k) (fun ((j, k) : Nat × Nat) => u.length - j) (fun ((j, k) : Nat × Nat) => [(0, .c (LL u)), (3, .ptr 0 0), (5, .vec 1 k), (12, .c (LS (extL u))), (13, A (extL u).length), (14, A j)]) (fun ((j, k) : Nat × Nat) => [(0, some (.cells 49 [A Z.1, A Z.2])), (1, some (.vec 36 3 ((cutN u Z j).flatMap slcC)))]) 2 (0, 0) ?_ (by refine weak_mk rfl ?_ ?_ <;> repeat (first | exact envW_nil | exact heapW_nil | refine envW_cons rfl rfl ?_ | refine heapW_cons rfl rfl rfl ?_)) rfl ?_
  · exact ⟨Nat.zero_le _, rfl⟩
  rintro ⟨j, k⟩ hI
  try dsimp only at hI
  try dsimp only
  obtain ⟨hj, hk⟩ := hI
  have hcl := cutN_len u Z j
  by_cases hjl : j < u.length
  · have hg0 := extL_get u j (by omega)
    have h1 := meet_con (gl := gl) ((extL u)[j]'(by omega)).1 ((extL u)[j]'(by omega)).2 Z.1 Z.2
    have h2 := ext_meet (gl := gl) v hjl Z
    rw [← hg0] at h2
    have h3 := clone_con (gl := gl) u[j].sec (by have := (chk_is (v.chk j hjl)).len; omega)
    have hsd := secD_eq hjl
    by_cases hpo : 0 < ovZ u Z j
    · skip
      repeat' (first
        | ((with_reducible apply r_call); exact rfl; exact rfl; (first | exact h1 | exact h2 | exact h3); exact rfl; exact rfl)
        | ((with_reducible apply (r_push (enc := slcC) (l := cutN u Z j) (x0 := (⟨ovZ u Z j, u[j].sec⟩ : Slc)))); exact rfl; exact rfl; exact inferInstance; exact hk; exact rfl; exact rfl; exact rfl; exact (by omega); exact (by omega); exact rfl)
        | ((with_reducible apply aw_seq))
        | ((with_reducible apply aw_region))
        | ((with_reducible apply aw_block))
        | ((with_reducible apply thn_normal))
        | ((with_reducible apply inb_normal))
        | ((with_reducible apply aw_skip))
        | ((with_reducible apply ao_nil))
        | ((with_reducible apply r_move); exact rfl; exact rfl)
        | ((with_reducible apply r_assign); exact rfl; exact rfl)
        | ((with_reducible apply r_load_pa); exact rfl; exact rfl; exact rfl; exact rfl; exact rfl)
        | ((with_reducible apply r_lss); exact rfl; exact rfl; exact rfl)
        | ((with_reducible apply r_gtr); exact rfl; exact rfl; exact rfl)
        | ((with_reducible apply r_add); exact rfl; exact rfl; exact (by first | assumption | (unfold fits; omega)); exact rfl)
        | ((with_reducible apply r_index_f); exact rfl; exact inferInstance; exact rfl; exact rfl; (first | assumption | omega); exact rfl)
        | ((with_reducible apply r_load_fa0); exact rfl; exact inferInstance; exact List.getElem?_eq_getElem (by first | assumption | omega); exact rfl; exact rfl; exact rfl)
        | ((with_reducible apply r_load_fa); exact rfl; exact inferInstance; exact List.getElem?_eq_getElem (by first | assumption | omega); exact rfl; exact rfl; exact rfl)
        | ((with_reducible apply r_field_e); exact rfl; exact rfl)
        | ((with_reducible apply r_store_pa); exact rfl; exact rfl; exact rfl; exact rfl; exact rfl; exact rfl)
        | ((with_reducible apply r_build); exact rfl; exact rfl; exact rfl)
        | ((with_reducible apply r_alloc); exact rfl)
        | (((with_reducible apply aw_cond); exact rfl) <;> intro hg <;> (first | (exact absurd hg (by decide)) | ((try simp only [decide_eq_true_eq, decide_eq_false_iff_not, Bool.not_eq_true', Bool.not_eq_false', Bool.not_true, Bool.not_false, Bool.not_not, Int.not_lt, Int.not_le, Nat.not_lt, Nat.not_le, gt_iff_lt, ge_iff_le, List.cons.injEq, and_true] at hg); first | (exact absurd trivial hg) | (exfalso; omega) | (have hT : True := hg; clear hT hg) | skip)))
        | ((with_reducible apply r_lit); exact rfl; exact rfl; exact rfl; exact rfl; exact rfl; exact rfl; exact rfl)
        )
      rw [← hsd, cutN_yes hpo]
      refine ⟨(j + 1, k + 1), ?_, ?_, by refine weak_mk rfl ?_ ?_ <;> repeat (first | exact envW_nil | exact heapW_nil | refine envW_cons rfl rfl ?_ | refine heapW_cons rfl rfl rfl ?_)⟩
      · show _ - (j + 1) < _ - j; omega
      · exact ⟨by show j + 1 ≤ _; omega, by show (cutN u Z (j + 1)).length = k + 1; rw [← cutN_yes hpo]; simp [hk]⟩
    · skip
      repeat' (first
        | ((with_reducible apply r_call); exact rfl; exact rfl; (first | exact h1 | exact h2 | exact h3); exact rfl; exact rfl)
        | ((with_reducible apply aw_seq))
        | ((with_reducible apply aw_region))
        | ((with_reducible apply aw_block))
        | ((with_reducible apply thn_normal))
        | ((with_reducible apply inb_normal))
        | ((with_reducible apply aw_skip))
        | ((with_reducible apply ao_nil))
        | ((with_reducible apply r_move); exact rfl; exact rfl)
        | ((with_reducible apply r_assign); exact rfl; exact rfl)
        | ((with_reducible apply r_load_pa); exact rfl; exact rfl; exact rfl; exact rfl; exact rfl)
        | ((with_reducible apply r_lss); exact rfl; exact rfl; exact rfl)
        | ((with_reducible apply r_gtr); exact rfl; exact rfl; exact rfl)
        | ((with_reducible apply r_add); exact rfl; exact rfl; exact (by first | assumption | (unfold fits; omega)); exact rfl)
        | ((with_reducible apply r_index_f); exact rfl; exact inferInstance; exact rfl; exact rfl; (first | assumption | omega); exact rfl)
        | ((with_reducible apply r_load_fa0); exact rfl; exact inferInstance; exact List.getElem?_eq_getElem (by first | assumption | omega); exact rfl; exact rfl; exact rfl)
        | ((with_reducible apply r_store_pa); exact rfl; exact rfl; exact rfl; exact rfl; exact rfl; exact rfl)
        | ((with_reducible apply r_alloc); exact rfl)
        | (((with_reducible apply aw_cond); exact rfl) <;> intro hg <;> (first | (exact absurd hg (by decide)) | ((try simp only [decide_eq_true_eq, decide_eq_false_iff_not, Bool.not_eq_true', Bool.not_eq_false', Bool.not_true, Bool.not_false, Bool.not_not, Int.not_lt, Int.not_le, Nat.not_lt, Nat.not_le, gt_iff_lt, ge_iff_le, List.cons.injEq, and_true] at hg); first | (exact absurd trivial hg) | (exfalso; omega) | (have hT : True := hg; clear hT hg) | skip)))
        )
      rw [cutN_no hpo]
      refine ⟨(j + 1, k), ?_, ?_, by refine weak_mk rfl ?_ ?_ <;> repeat (first | exact envW_nil | exact heapW_nil | refine envW_cons rfl rfl ?_ | refine heapW_cons rfl rfl rfl ?_)⟩
      · show _ - (j + 1) < _ - j; omega
      · exact ⟨by show j + 1 ≤ _; omega, by show (cutN u Z (j + 1)).length = k; rw [← cutN_no hpo]; exact hk⟩
  · obtain rfl : j = u.length := by omega
    repeat' (first
      | ((with_reducible apply aw_seq))
      | ((with_reducible apply aw_region))
      | ((with_reducible apply thn_normal))
      | ((with_reducible apply thn_exit))
      | ((with_reducible apply inb_exit))
      | ((with_reducible apply aw_exit))
      | ((with_reducible apply aw_ret))
      | ((with_reducible apply ao_nil))
      | ((with_reducible apply r_move); exact rfl; exact rfl)
      | ((with_reducible apply r_assign); exact rfl; exact rfl)
      | ((with_reducible apply r_lss); exact rfl; exact rfl; exact rfl)
      | (((with_reducible apply aw_cond); exact rfl) <;> intro hg <;> (first | (exact absurd hg (by decide)) | ((try simp only [decide_eq_true_eq, decide_eq_false_iff_not, Bool.not_eq_true', Bool.not_eq_false', Bool.not_true, Bool.not_false, Bool.not_not, Int.not_lt, Int.not_le, Nat.not_lt, Nat.not_le, gt_iff_lt, ge_iff_le, List.cons.injEq, and_true] at hg); first | (exact absurd trivial hg) | (exfalso; omega) | (have hT : True := hg; clear hT hg) | skip)))
      )
    exact ret1 (.tmp rfl (cl_vec rfl (by rw [flat_len EncL.len, hk])))
end Go.Proofs.Ytanlfjboahfanaa.Ge
