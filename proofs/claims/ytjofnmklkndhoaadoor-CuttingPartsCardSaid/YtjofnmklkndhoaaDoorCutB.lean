/- Walks of cutting: permitted, add. -/
import Derived.Test.YtjofnmklkndhoaaDoorCutA
namespace Go.Proofs.YtjofnmklkndhoaaDoor.Cu
set_option linter.unusedVariables false
set_option linter.unusedSimpArgs false
open Go.RowKit Go.Proofs.YtjofnmklkndhoaaDoor.Ev
variable {gl : List (Nat × List CV)}

abbrev Span := Int × Int
abbrev Piece := Int × Int
def spC (s : Span) : List CV := [I s.1, I s.2]
instance : EncL spC 2 := ⟨fun _ => rfl, by decide, fun _ => rfl⟩
abbrev LS (l : List Span) : CV := .lst 2 (l.flatMap spC)

def szOf (l : Line) (s : Int) : Int := l.sizes.getD s.toNat 0
def gOf (l : Line) (s p : Int) : Int := (l.gain.getD s.toNat []).getD p.toNat 0
def perm (l : Line) (edge : Int) (x : Piece) : Int :=
  if x.1 < 0 ∨ (l.sizes.length : Int) ≤ x.1 then 9
  else if x.2 < 0 ∨ l.len - szOf l x.1 < x.2 then 20
  else if edge < 0 ∨ (x.2 ≠ edge ∧ (x.2 - l.kerf - edge < l.pitch ∨ (x.2 - l.kerf - edge).tmod l.pitch ≠ 0)) then 11
  else if gOf l x.1 x.2 < 0 then 14 else 0

structure Valid (l : Line) : Prop where
  len : 0 ≤ l.len ∧ l.len ≤ 2000
  kerf : 0 ≤ l.kerf ∧ l.kerf ≤ 20
  pitch : 1 ≤ l.pitch ∧ l.pitch ≤ 2000
  sizes : l.sizes.length ≤ 32
  size : ∀ i (h : i < l.sizes.length), 1 ≤ l.sizes[i] ∧ l.sizes[i] ≤ 2000
  gain : l.gain.length = l.sizes.length
  chip : (l.chip.length : Int) = l.len
  dust : (l.dust.length : Int) = l.len
  row : ∀ i (h : i < l.gain.length) (h2 : i < l.sizes.length), (l.gain[i].length : Int) = max 0 (l.len - l.sizes[i] + 1)
  gains : ∀ i (h : i < l.gain.length) j (h2 : j < l.gain[i].length), -1125899906842624 ≤ l.gain[i][j] ∧ l.gain[i][j] ≤ 1125899906842624
  chips : ∀ i (h : i < l.chip.length), -1125899906842624 ≤ l.chip[i] ∧ l.chip[i] ≤ 1125899906842624
  dusts : ∀ i (h : i < l.dust.length), -1125899906842624 ≤ l.dust[i] ∧ l.dust[i] ≤ 1125899906842624
theorem small_get {l : List Int} (h : smallL l = true) (i : Nat) (hi : i < l.length) : -1125899906842624 ≤ l[i] ∧ l[i] ≤ 1125899906842624 := by
  have := List.all_eq_true.1 h _ (List.getElem_mem hi)
  unfold smallN at this; simpa using this
theorem valid_of {l : Line} (h : chk l = 0) : Valid l := by
  have hm : measS l = 0 := Classical.byContradiction fun hc => by rw [← chk_meas hc] at h; exact hc h
  have hs : shapeOk l := Classical.byContradiction fun hc => by rw [← chk_shape hm hc] at h; cases h
  have hb := chk_small hm hs _ rfl
  rw [h] at hb
  have hb' : (l.gain.all smallL && smallL l.chip && smallL l.dust) = true := by
    cases hq : (l.gain.all smallL && smallL l.chip && smallL l.dust) with
    | true => rfl
    | false => rw [hq] at hb; simp at hb
  simp only [Bool.and_eq_true] at hb'
  obtain ⟨⟨b1, b2⟩, b3⟩ := hb'
  obtain ⟨h1, h2, h3⟩ := meas0 hm
  unfold headBad at h1
  obtain ⟨s1, s2, s3, s4⟩ := hs
  exact ⟨by omega, by omega, by omega, h2, h3, s1, s2, s3, fun i hi hi2 => s4 i hi2 hi hi2, fun i hi j hj => small_get (List.all_eq_true.1 b1 _ (List.getElem_mem hi)) j hj, small_get b2, small_get b3⟩
theorem szOf_eq {l : Line} {s : Int} (h0 : 0 ≤ s) (h : s < l.sizes.length) : ∃ k : Nat, s = (k : Int) ∧ ∃ hk : k < l.sizes.length, szOf l s = l.sizes[k] := by
  refine ⟨s.toNat, by omega, by omega, ?_⟩
  unfold szOf
  rw [List.getD_eq_getElem?_getD, List.getElem?_eq_getElem (by omega)]; rfl
theorem gOf_eq {l : Line} (v : Valid l) {k : Nat} (hk : k < l.sizes.length) {p : Int} (h0 : 0 ≤ p) (h1 : p ≤ l.len - l.sizes[k]) : ∃ j : Nat, p = (j : Int) ∧ ∃ (h2 : k < l.gain.length) (h3 : j < l.gain[k].length), gOf l k p = l.gain[k][j] := by
  have hg := v.gain
  have hr := v.row k (by omega) hk
  refine ⟨p.toNat, by omega, by omega, by omega, ?_⟩
  unfold gOf
  rw [Int.toNat_natCast, List.getD_eq_getElem?_getD, List.getD_eq_getElem?_getD, List.getElem?_eq_getElem (by omega : k < l.gain.length)]
  simp only [Option.getD_some]
  rw [List.getElem?_eq_getElem (by omega)]; rfl

theorem perm9 {l : Line} {e : Int} {s p : Int} (h : s < 0 ∨ (l.sizes.length : Int) ≤ s) : 9 = perm l e (s, p) := by unfold perm; rw [if_pos h]
theorem perm20 {l : Line} {e : Int} {s p : Int} (h : ¬ (s < 0 ∨ (l.sizes.length : Int) ≤ s)) (h2 : p < 0 ∨ l.len - szOf l s < p) : 20 = perm l e (s, p) := by unfold perm; rw [if_neg h, if_pos h2]
theorem perm11 {l : Line} {e : Int} {s p : Int} (h : ¬ (s < 0 ∨ (l.sizes.length : Int) ≤ s)) (h2 : ¬ (p < 0 ∨ l.len - szOf l s < p)) (h3 : e < 0 ∨ (p ≠ e ∧ (p - l.kerf - e < l.pitch ∨ (p - l.kerf - e).tmod l.pitch ≠ 0))) : 11 = perm l e (s, p) := by unfold perm; rw [if_neg h, if_neg h2, if_pos h3]
theorem perm_g {l : Line} {e : Int} {s p : Int} (h : ¬ (s < 0 ∨ (l.sizes.length : Int) ≤ s)) (h2 : ¬ (p < 0 ∨ l.len - szOf l s < p)) (h3 : ¬ (e < 0 ∨ (p ≠ e ∧ (p - l.kerf - e < l.pitch ∨ (p - l.kerf - e).tmod l.pitch ≠ 0)))) : (if gOf l s p < 0 then 14 else 0) = perm l e (s, p) := by unfold perm; rw [if_neg h, if_neg h2, if_neg h3]
set_option maxRecDepth 100000 in
set_option maxHeartbeats 4000000 in
theorem permitted_con (l : Line) (v : Valid l) (e : Int) (he : -1 ≤ e ∧ e ≤ 2000) (s p : Int) : Con Tryd.prog gl 35 [lineC l, I e, .agg [I s, I p]] (I (perm l e (s, p))) := by
  obtain ⟨l1, l2⟩ := v.len
  obtain ⟨k1, k2⟩ := v.kerf
  obtain ⟨p1, p2⟩ := v.pitch
  by_cases h : s < 0 ∨ (l.sizes.length : Int) ≤ s
  · skip
    refine con_of Tryd.func35 rfl (by kernel_rfl) rfl ?_
    simp only [Tryd.ntmps35, Tryd.results35, argEnv, ofC, of1, List.map, lineC, lineL]
    repeat' (first
      | ((with_reducible apply aw_seq))
      | ((with_reducible apply aw_region))
      | ((with_reducible apply thn_normal))
      | ((with_reducible apply thn_ret))
      | ((with_reducible apply aw_ret))
      | ((with_reducible apply ao_nil))
      | ((with_reducible apply r_move); exact rfl; exact rfl)
      | ((with_reducible apply r_assign); exact rfl; exact rfl)
      | ((with_reducible apply r_field_p); exact rfl; exact rfl)
      | ((with_reducible apply r_load_p); exact rfl; exact rfl; exact rfl; exact rfl)
      | ((with_reducible apply r_lss); exact rfl; exact rfl; exact rfl)
      | ((with_reducible apply r_geq); exact rfl; exact rfl; exact rfl)
      | ((with_reducible apply r_box_a); exact rfl; exact rfl)
      | ((with_reducible apply r_pick_t); exact rfl; exact rfl; exact rfl)
      | ((with_reducible apply r_pick_f); exact rfl; exact rfl; exact rfl)
      | ((with_reducible apply r_len_f); exact rfl; exact inferInstance; exact rfl)
      | (((with_reducible apply r_guard); exact rfl; exact rfl; exact rfl; exact rfl) <;> intro hg <;> (first | (exact absurd hg (by decide)) | ((try simp only [decide_eq_true_eq, decide_eq_false_iff_not, Bool.not_eq_true', Bool.not_eq_false', Bool.not_true, Bool.not_false, Bool.not_not, Int.not_lt, Int.not_le, Nat.not_lt, Nat.not_le, gt_iff_lt, ge_iff_le, List.cons.injEq, and_true] at hg); first | (exact absurd trivial hg) | (exfalso; omega) | (have hT : True := hg; clear hT hg) | skip)))
      | (((with_reducible apply aw_cond); exact rfl) <;> intro hg <;> (first | (exact absurd hg (by decide)) | ((try simp only [decide_eq_true_eq, decide_eq_false_iff_not, Bool.not_eq_true', Bool.not_eq_false', Bool.not_true, Bool.not_false, Bool.not_not, Int.not_lt, Int.not_le, Nat.not_lt, Nat.not_le, gt_iff_lt, ge_iff_le, List.cons.injEq, and_true] at hg); first | (exact absurd trivial hg) | (exfalso; omega) | (have hT : True := hg; clear hT hg) | skip)))
      )
    all_goals exact ret_i rfl (perm9 h)
  obtain ⟨k, rfl, hk, hsz⟩ := szOf_eq (l := l) (s := s) (by omega) (by omega)
  have hsk := v.size k hk
  by_cases h2 : p < 0 ∨ l.len - l.sizes[k] < p
  · skip
    refine con_of Tryd.func35 rfl (by kernel_rfl) rfl ?_
    simp only [Tryd.ntmps35, Tryd.results35, argEnv, ofC, of1, List.map, lineC, lineL]
    repeat' (first
      | ((with_reducible apply aw_seq))
      | ((with_reducible apply aw_region))
      | ((with_reducible apply thn_normal))
      | ((with_reducible apply thn_ret))
      | ((with_reducible apply aw_skip))
      | ((with_reducible apply aw_ret))
      | ((with_reducible apply ao_nil))
      | ((with_reducible apply r_move); exact rfl; exact rfl)
      | ((with_reducible apply r_assign); exact rfl; exact rfl)
      | ((with_reducible apply r_field_p); exact rfl; exact rfl)
      | ((with_reducible apply r_load_p); exact rfl; exact rfl; exact rfl; exact rfl)
      | ((with_reducible apply r_lss); exact rfl; exact rfl; exact rfl)
      | ((with_reducible apply r_gtr); exact rfl; exact rfl; exact rfl)
      | ((with_reducible apply r_geq); exact rfl; exact rfl; exact rfl)
      | ((with_reducible apply r_sub); exact rfl; exact rfl; exact (by first | assumption | (unfold fits; omega)); exact rfl)
      | ((with_reducible apply r_box_a); exact rfl; exact rfl)
      | ((with_reducible apply r_pick_t); exact rfl; exact rfl; exact rfl)
      | ((with_reducible apply r_pick_f); exact rfl; exact rfl; exact rfl)
      | ((with_reducible apply r_len_f); exact rfl; exact inferInstance; exact rfl)
      | ((with_reducible apply r_index_f); exact rfl; exact inferInstance; exact rfl; exact rfl; (first | assumption | omega); exact rfl)
      | ((with_reducible apply r_load_f0); exact rfl; exact inferInstance; exact List.getElem?_eq_getElem (by first | assumption | omega); exact rfl; exact rfl)
      | (((with_reducible apply r_guard); exact rfl; exact rfl; exact rfl; exact rfl) <;> intro hg <;> (first | (exact absurd hg (by decide)) | ((try simp only [decide_eq_true_eq, decide_eq_false_iff_not, Bool.not_eq_true', Bool.not_eq_false', Bool.not_true, Bool.not_false, Bool.not_not, Int.not_lt, Int.not_le, Nat.not_lt, Nat.not_le, gt_iff_lt, ge_iff_le, List.cons.injEq, and_true] at hg); first | (exact absurd trivial hg) | (exfalso; omega) | (have hT : True := hg; clear hT hg) | skip)))
      | (((with_reducible apply aw_cond); exact rfl) <;> intro hg <;> (first | (exact absurd hg (by decide)) | ((try simp only [decide_eq_true_eq, decide_eq_false_iff_not, Bool.not_eq_true', Bool.not_eq_false', Bool.not_true, Bool.not_false, Bool.not_not, Int.not_lt, Int.not_le, Nat.not_lt, Nat.not_le, gt_iff_lt, ge_iff_le, List.cons.injEq, and_true] at hg); first | (exact absurd trivial hg) | (exfalso; omega) | (have hT : True := hg; clear hT hg) | skip)))
      | (refine aw_drawq ?_ ?_; (kernel_rfl))
      | ((with_reducible apply ds_nil))
      | (((with_reducible apply rd_guard); exact rfl; exact rfl; exact rfl) <;> intro hg <;> (first | (exact absurd hg (by decide)) | ((try rw [hg]); (try simp only [decide_eq_true_eq, decide_eq_false_iff_not, Bool.not_eq_true', Bool.not_eq_false', Bool.not_true, Bool.not_false, Bool.not_not, Int.not_lt, Int.not_le, Nat.not_lt, Nat.not_le, gt_iff_lt, ge_iff_le, List.cons.injEq, and_true] at hg); first | (exact absurd trivial hg) | (exfalso; omega) | (have hT : True := hg; clear hT hg) | skip)))
      )
    all_goals exact ret_i rfl (perm20 h (by rw [hsz]; exact h2))
  obtain ⟨j, rfl, hg1, hg2, hgo⟩ := gOf_eq v hk (p := p) (by omega) (by omega)
  have h2' : ¬ ((j : Int) < 0 ∨ l.len - szOf l (k : Int) < (j : Int)) := by rw [hsz]; exact h2
  refine con_of Tryd.func35 rfl (by kernel_rfl) rfl ?_
  simp only [Tryd.ntmps35, Tryd.results35, argEnv, ofC, of1, List.map, lineC, lineL]
  repeat' (first
    | ((with_reducible apply r_rem); exact rfl; exact rfl; exact (by omega); exact rfl)
    | ((with_reducible apply aw_seq))
    | ((with_reducible apply aw_region))
    | ((with_reducible apply thn_normal))
    | ((with_reducible apply thn_ret))
    | ((with_reducible apply aw_skip))
    | ((with_reducible apply aw_ret))
    | ((with_reducible apply ao_nil))
    | ((with_reducible apply r_move); exact rfl; exact rfl)
    | ((with_reducible apply r_assign); exact rfl; exact rfl)
    | ((with_reducible apply r_field_p); exact rfl; exact rfl)
    | ((with_reducible apply r_load_p); exact rfl; exact rfl; exact rfl; exact rfl)
    | ((with_reducible apply r_lss); exact rfl; exact rfl; exact rfl)
    | ((with_reducible apply r_gtr); exact rfl; exact rfl; exact rfl)
    | ((with_reducible apply r_geq); exact rfl; exact rfl; exact rfl)
    | ((with_reducible apply r_neq); exact rfl; exact rfl; exact rfl)
    | ((with_reducible apply r_sub); exact rfl; exact rfl; exact (by first | assumption | (unfold fits; omega)); exact rfl)
    | ((with_reducible apply r_box_a); exact rfl; exact rfl)
    | ((with_reducible apply r_pick_t); exact rfl; exact rfl; exact rfl)
    | ((with_reducible apply r_pick_f); exact rfl; exact rfl; exact rfl)
    | ((with_reducible apply r_len_f); exact rfl; exact inferInstance; exact rfl)
    | ((with_reducible apply r_index_f); exact rfl; exact inferInstance; exact rfl; exact rfl; (first | assumption | omega); exact rfl)
    | ((with_reducible apply r_load_f0); exact rfl; exact inferInstance; exact List.getElem?_eq_getElem (by first | assumption | omega); exact rfl; exact rfl)
    | (((with_reducible apply r_guard); exact rfl; exact rfl; exact rfl; exact rfl) <;> intro hg <;> (first | (exact absurd hg (by decide)) | ((try simp only [decide_eq_true_eq, decide_eq_false_iff_not, Bool.not_eq_true', Bool.not_eq_false', Bool.not_true, Bool.not_false, Bool.not_not, Int.not_lt, Int.not_le, Nat.not_lt, Nat.not_le, gt_iff_lt, ge_iff_le, List.cons.injEq, and_true] at hg); first | (exact absurd trivial hg) | (exfalso; omega) | (have hT : True := hg; clear hT hg) | skip)))
    | ((with_reducible apply r_guard_none); exact rfl; exact rfl; exact rfl; exact rfl)
    | (((with_reducible apply aw_cond); exact rfl) <;> intro hg <;> (first | (exact absurd hg (by decide)) | ((try simp only [decide_eq_true_eq, decide_eq_false_iff_not, Bool.not_eq_true', Bool.not_eq_false', Bool.not_true, Bool.not_false, Bool.not_not, Int.not_lt, Int.not_le, Nat.not_lt, Nat.not_le, gt_iff_lt, ge_iff_le, List.cons.injEq, and_true] at hg); first | (exact absurd trivial hg) | (exfalso; omega) | (have hT : True := hg; clear hT hg) | skip)))
    | (refine aw_drawq ?_ ?_; (kernel_rfl))
    | ((with_reducible apply ds_nil))
    | (((with_reducible apply rd_guard); exact rfl; exact rfl; exact rfl) <;> intro hg <;> (first | (exact absurd hg (by decide)) | ((try rw [hg]); (try simp only [decide_eq_true_eq, decide_eq_false_iff_not, Bool.not_eq_true', Bool.not_eq_false', Bool.not_true, Bool.not_false, Bool.not_not, Int.not_lt, Int.not_le, Nat.not_lt, Nat.not_le, gt_iff_lt, ge_iff_le, List.cons.injEq, and_true] at hg); first | (exact absurd trivial hg) | (exfalso; omega) | (have hT : True := hg; clear hT hg) | skip)))
    )
  all_goals first
    | exact ret_i rfl (perm11 h h2' (by generalize ((j : Int) - l.kerf - e).tmod l.pitch = tm at *; omega))
    | exact ret_i rfl (by rw [← perm_g h h2' (by generalize ((j : Int) - l.kerf - e).tmod l.pitch = tm at *; omega), hgo, if_pos (by omega)])
    | exact ret_i rfl (by rw [← perm_g h h2' (by generalize ((j : Int) - l.kerf - e).tmod l.pitch = tm at *; omega), hgo, if_neg (by omega)])

def addS (l : List Span) (a b : Int) : List Span := if b ≤ a then l else l ++ [(a, b)]
theorem fewer_push {heap : List (Nat × Option AB)} {nx b E s : Nat} {l : List CV} {x : AB} (hb : b < nx) : Fewer heap nx ((b, some (.vec E s l)) :: (nx, some x) :: heap) ((b, some (.vec E s l)) :: heap) := by
  refine ⟨fun i hi => ?_, fun i hi => ?_, fun i t l' h => ?_⟩
  · simp only [look_cons]; by_cases h1 : b = i
    · rw [if_pos h1, if_pos h1]
    · rw [if_neg h1, if_neg h1, if_neg (by omega)]
  · simp only [look_cons]; rw [if_neg (by omega)]
  · rw [look_cons] at h; by_cases h1 : b = i
    · rw [if_pos h1] at h; cases h
    · rw [if_neg h1] at h; exact h
theorem fewer_same {heap : List (Nat × Option AB)} {nx b E s : Nat} {l : List CV} (hb : b < nx) (h : Ev.look b heap = some (some (.vec E s l))) : Fewer heap nx heap ((b, some (.vec E s l)) :: heap) := by
  refine ⟨fun i hi => ?_, fun i hi => ?_, fun i t l' h' => ?_⟩
  · rw [look_cons]; by_cases h1 : b = i
    · rw [if_pos h1, ← h1, h]
    · rw [if_neg h1]
  · rw [look_cons, if_neg (by omega)]
  · rw [look_cons] at h'; by_cases h1 : b = i
    · rw [if_pos h1] at h'; cases h'
    · rw [if_neg h1] at h'; exact h'
section
variable {ops : Array Oper} {Q : Exit → St → Prop} {rest : List Oper} {d : Nat} {ty : TypeId} {pos : String} {af : Array Edge} {n : Nat} {env : List (Nat × AV)} {heap : List (Nat × Option AB)} {nx : Nat} {tys : Array TypeId}
theorem add_in {x0 x1 x2 : Operand} {b m : Nat} {a a' : Int} (l : List Span) (hys : evs ⟨n, env, heap, nx, gl⟩ [x0, x1, x2] = some [.vec b m, A a, A a']) (hH : Ev.look b heap = some (some (.vec 50 2 (l.flatMap spC)))) (hm : l.length = m) (hb : m < 1000000) (hlt : Nat.blt b nx = true) (hd : Nat.blt d n = true)
    (h : AOps Tryd.prog ops Q rest ⟨n, (d, .vec b (addS l a a').length) :: env, (b, some (.vec 50 2 ((addS l a a').flatMap spC))) :: heap, nx, gl⟩) : AOps Tryd.prog ops Q (⟨some d, .call ⟨.value (.func 36), #[x0, x1, x2], tys⟩, ty, pos, af, none⟩ :: rest) ⟨n, env, heap, nx, gl⟩ := by
  have hlt' := blt_true hlt
  refine r_inW Tryd.func36 rfl Tryd.results36 (by kernel_rfl) Tryd.ntmps36 hys rfl rfl hd ?_
  have hH' : St.H ⟨17, env, heap, nx, gl⟩ b = some (.vec 50 2 (l.flatMap spC)) := by unfold St.H; rw [hH]
  by_cases hc : a' ≤ a
  · have e : addS l a a' = l := by unfold addS; rw [if_pos hc]
    rw [e] at h
    repeat' (first
      | ((with_reducible apply aw_seq))
      | ((with_reducible apply aw_region))
      | ((with_reducible apply thn_normal))
      | ((with_reducible apply thn_ret))
      | ((with_reducible apply aw_ret))
      | ((with_reducible apply ao_nil))
      | ((with_reducible apply r_move); exact rfl; exact rfl)
      | ((with_reducible apply r_assign); exact rfl; exact rfl)
      | ((with_reducible apply r_geq); exact rfl; exact rfl; exact rfl)
      | (((with_reducible apply aw_cond); exact rfl) <;> intro hg <;> (first | (exact absurd hg (by decide)) | ((try simp only [decide_eq_true_eq, decide_eq_false_iff_not, Bool.not_eq_true', Bool.not_eq_false', Bool.not_true, Bool.not_false, Bool.not_not, Int.not_lt, Int.not_le, Nat.not_lt, Nat.not_le, gt_iff_lt, ge_iff_le, List.cons.injEq, and_true] at hg); first | (exact absurd trivial hg) | (exfalso; omega) | (have hT : True := hg; clear hT hg) | skip)))
      )
    refine back_ret rfl ⟨_, Nat.le_refl _, fewer_same hlt' hH, hlt, ?_⟩
    rw [hm] at h; exact h
  · have e : addS l a a' = l ++ [(a, a')] := by unfold addS; rw [if_neg hc]
    rw [e] at h
    repeat' (first
      | ((with_reducible apply (r_push (x0 := (a, a')))); exact rfl; exact (by unfold St.H; dsimp only; rw [look_cons, if_neg (by omega), hH]); exact inferInstance; exact hm; exact rfl; exact (by unfold St.H; dsimp only; rw [look_cons, if_pos rfl]); exact rfl; exact (by omega); exact (by omega); exact rfl)
      | ((with_reducible apply aw_seq))
      | ((with_reducible apply aw_region))
      | ((with_reducible apply thn_normal))
      | ((with_reducible apply aw_skip))
      | ((with_reducible apply aw_ret))
      | ((with_reducible apply ao_nil))
      | ((with_reducible apply r_move); exact rfl; exact rfl)
      | ((with_reducible apply r_assign); exact rfl; exact rfl)
      | ((with_reducible apply r_geq); exact rfl; exact rfl; exact rfl)
      | ((with_reducible apply r_build); exact rfl; exact rfl; exact rfl)
      | (((with_reducible apply aw_cond); exact rfl) <;> intro hg <;> (first | (exact absurd hg (by decide)) | ((try simp only [decide_eq_true_eq, decide_eq_false_iff_not, Bool.not_eq_true', Bool.not_eq_false', Bool.not_true, Bool.not_false, Bool.not_not, Int.not_lt, Int.not_le, Nat.not_lt, Nat.not_le, gt_iff_lt, ge_iff_le, List.cons.injEq, and_true] at hg); first | (exact absurd trivial hg) | (exfalso; omega) | (have hT : True := hg; clear hT hg) | skip)))
      | ((with_reducible apply r_lit); exact rfl; exact rfl; exact rfl; exact rfl; exact rfl; exact rfl; exact rfl)
      )
    refine back_ret rfl ⟨_, Nat.le_succ _, fewer_push hlt', hlt, ?_⟩
    rw [List.length_append, hm] at h; exact h
theorem radd_in {x0 x1 x2 : Operand} {b m : Nat} {a a' : Int} (l : List Span) (hys : evs ⟨n, env, heap, nx, gl⟩ [x0, x1, x2] = some [.vec b m, A a, A a']) (hH : Ev.look b heap = some (some (.vec 50 2 (l.flatMap spC)))) (hm : l.length = m) (hb : m < 1000000) (hlt : Nat.blt b nx = true) (hd : Nat.blt d n = true)
    (h : AOps Tryd.prog ops Q rest ⟨n, (d, .vec b (addS l a a').length) :: env, (b, some (.vec 50 2 ((addS l a a').flatMap spC))) :: heap, nx, gl⟩) : AOps Tryd.prog ops Q (⟨some d, .call ⟨.value (.func 38), #[x0, x1, x2], tys⟩, ty, pos, af, none⟩ :: rest) ⟨n, env, heap, nx, gl⟩ := by
  have hlt' := blt_true hlt
  refine r_inW Tryd.func38 rfl Tryd.results38 (by kernel_rfl) Tryd.ntmps38 hys rfl rfl hd ?_
  have hH' : St.H ⟨17, env, heap, nx, gl⟩ b = some (.vec 50 2 (l.flatMap spC)) := by unfold St.H; rw [hH]
  by_cases hc : a' ≤ a
  · have e : addS l a a' = l := by unfold addS; rw [if_pos hc]
    rw [e] at h
    repeat' (first
      | ((with_reducible apply aw_seq))
      | ((with_reducible apply aw_region))
      | ((with_reducible apply thn_normal))
      | ((with_reducible apply thn_ret))
      | ((with_reducible apply aw_ret))
      | ((with_reducible apply ao_nil))
      | ((with_reducible apply r_move); exact rfl; exact rfl)
      | ((with_reducible apply r_assign); exact rfl; exact rfl)
      | ((with_reducible apply r_geq); exact rfl; exact rfl; exact rfl)
      | (((with_reducible apply aw_cond); exact rfl) <;> intro hg <;> (first | (exact absurd hg (by decide)) | ((try simp only [decide_eq_true_eq, decide_eq_false_iff_not, Bool.not_eq_true', Bool.not_eq_false', Bool.not_true, Bool.not_false, Bool.not_not, Int.not_lt, Int.not_le, Nat.not_lt, Nat.not_le, gt_iff_lt, ge_iff_le, List.cons.injEq, and_true] at hg); first | (exact absurd trivial hg) | (exfalso; omega) | (have hT : True := hg; clear hT hg) | skip)))
      )
    refine back_ret rfl ⟨_, Nat.le_refl _, fewer_same hlt' hH, hlt, ?_⟩
    rw [hm] at h; exact h
  · have e : addS l a a' = l ++ [(a, a')] := by unfold addS; rw [if_neg hc]
    rw [e] at h
    repeat' (first
      | ((with_reducible apply (r_push (x0 := (a, a')))); exact rfl; exact (by unfold St.H; dsimp only; rw [look_cons, if_neg (by omega), hH]); exact inferInstance; exact hm; exact rfl; exact (by unfold St.H; dsimp only; rw [look_cons, if_pos rfl]); exact rfl; exact (by omega); exact (by omega); exact rfl)
      | ((with_reducible apply aw_seq))
      | ((with_reducible apply aw_region))
      | ((with_reducible apply thn_normal))
      | ((with_reducible apply aw_skip))
      | ((with_reducible apply aw_ret))
      | ((with_reducible apply ao_nil))
      | ((with_reducible apply r_move); exact rfl; exact rfl)
      | ((with_reducible apply r_assign); exact rfl; exact rfl)
      | ((with_reducible apply r_geq); exact rfl; exact rfl; exact rfl)
      | ((with_reducible apply r_build); exact rfl; exact rfl; exact rfl)
      | (((with_reducible apply aw_cond); exact rfl) <;> intro hg <;> (first | (exact absurd hg (by decide)) | ((try simp only [decide_eq_true_eq, decide_eq_false_iff_not, Bool.not_eq_true', Bool.not_eq_false', Bool.not_true, Bool.not_false, Bool.not_not, Int.not_lt, Int.not_le, Nat.not_lt, Nat.not_le, gt_iff_lt, ge_iff_le, List.cons.injEq, and_true] at hg); first | (exact absurd trivial hg) | (exfalso; omega) | (have hT : True := hg; clear hT hg) | skip)))
      | ((with_reducible apply r_lit); exact rfl; exact rfl; exact rfl; exact rfl; exact rfl; exact rfl; exact rfl)
      )
    refine back_ret rfl ⟨_, Nat.le_succ _, fewer_push hlt', hlt, ?_⟩
    rw [List.length_append, hm] at h; exact h
end
end Go.Proofs.YtjofnmklkndhoaaDoor.Cu
