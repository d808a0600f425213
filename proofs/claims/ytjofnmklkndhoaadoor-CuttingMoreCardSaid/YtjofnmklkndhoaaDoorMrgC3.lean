/- CutMp CutW CutM CutN CutO CutP CutQ CutR CutS CutX: texts laid together. -/
import Derived.Test.YtjofnmklkndhoaaDoorMrgC2
import Derived.Test.YtjofnmklkndhoaaDoorMrgC1
import Derived.Test.YtjofnmklkndhoaaDoorMrgE3
set_option maxRecDepth 100000
set_option maxHeartbeats 64000000
/- A line with a further size, and a line with a gain that is raised: plain. -/
namespace Go.Proofs.YtjofnmklkndhoaaDoor.Cu
set_option linter.unusedVariables false
set_option linter.unusedSimpArgs false
open Go.RowKit Go.Proofs.YtjofnmklkndhoaaDoor.Ev
theorem smallN_of {x : Int} (h : -1125899906842624 ≤ x ∧ x ≤ 1125899906842624) : smallN x = true := by
  unfold smallN; simp [h.1, h.2]
theorem chk_valid {l : Line} (v : Valid l) : chk l = 0 := by
  have h1 := v.len
  have h2 := v.kerf
  have h3 := v.pitch
  have h4 := v.sizes
  have hm : measS l = 0 := (meas4 (by unfold headBad; omega) (by omega) (fun i hi => by
    have := v.size i hi
    unfold sizeOk; simp [this.1, this.2])).symm
  have hs : shapeOk l := ⟨v.gain, v.chip, v.dust, fun i hi h h2 => v.row i h h2⟩
  refine (chk0 hm hs (all_of fun i hi => all_of fun j hj => smallN_of (v.gains i hi j hj)) ?_).symm
  simp only [List.all_cons, List.all_nil, Bool.and_true, Bool.and_eq_true]
  exact ⟨all_of fun j hj => smallN_of (v.chips j hj), all_of fun j hj => smallN_of (v.dusts j hj)⟩
def rowL (l : Line) (s c : Int) : List Int := List.replicate (max 0 (l.len - s + 1)).toNat c
def moreL (l : Line) (s c : Int) : Line := { l with sizes := l.sizes ++ [s], gain := l.gain ++ [rowL l s c] }
theorem get_snoc {α : Type} (l : List α) (x : α) (i : Nat) (h : i < (l ++ [x]).length) : (∃ h' : i < l.length, (l ++ [x])[i] = l[i]) ∨ (i = l.length ∧ (l ++ [x])[i] = x) := by
  rcases Nat.lt_or_ge i l.length with hi | hi
  · exact .inl ⟨hi, List.getElem_append_left hi⟩
  · have e : i = l.length := by rw [List.length_append, List.length_singleton] at h; omega
    subst e
    exact .inr ⟨rfl, by simp⟩
theorem valid_more {l : Line} (v : Valid l) {s c : Int} (hn : l.sizes.length ≤ 8) (hs : 1 ≤ s ∧ s ≤ 2000) (hc : 0 ≤ c ∧ c ≤ 562949953421312) : Valid (moreL l s c) where
  len := v.len
  kerf := v.kerf
  pitch := v.pitch
  sizes := by show (l.sizes ++ [s]).length ≤ 32; rw [List.length_append, List.length_singleton]; omega
  size := fun i h => by
    show 1 ≤ (l.sizes ++ [s])[i] ∧ (l.sizes ++ [s])[i] ≤ 2000
    rcases get_snoc l.sizes s i h with ⟨h', e⟩ | ⟨_, e⟩
    · rw [e]; exact v.size i h'
    · rw [e]; exact hs
  gain := by show (l.gain ++ [rowL l s c]).length = (l.sizes ++ [s]).length; rw [List.length_append, List.length_append, v.gain]; rfl
  chip := v.chip
  dust := v.dust
  row := fun i h h2 => by
    show ((l.gain ++ [rowL l s c])[i].length : Int) = max 0 (l.len - (l.sizes ++ [s])[i] + 1)
    have hg := v.gain
    rcases get_snoc l.gain (rowL l s c) i h with ⟨h', e⟩ | ⟨h', e⟩ <;> rcases get_snoc l.sizes s i h2 with ⟨h3, e2⟩ | ⟨h3, e2⟩
    · rw [e, e2]; exact v.row i h' h3
    · omega
    · omega
    · rw [e, e2]; unfold rowL; rw [List.length_replicate]; omega
  gains := fun i h j h2 => by
    have h2' : j < (l.gain ++ [rowL l s c])[i].length := h2
    show -1125899906842624 ≤ (l.gain ++ [rowL l s c])[i][j] ∧ (l.gain ++ [rowL l s c])[i][j] ≤ 1125899906842624
    rcases get_snoc l.gain (rowL l s c) i h with ⟨h', e⟩ | ⟨h', e⟩
    · have : j < l.gain[i].length := by rw [← e]; exact h2'
      have e2 : (l.gain ++ [rowL l s c])[i][j] = l.gain[i][j] := by simp only [e]
      rw [e2]; exact v.gains i h' j this
    · have e2 : (l.gain ++ [rowL l s c])[i][j] = c := by simp only [e]; unfold rowL; rw [List.getElem_replicate]
      rw [e2]; omega
  chips := v.chips
  dusts := v.dusts
theorem getD_snoc {α : Type} (l : List α) (x d : α) {i : Nat} (h : i < l.length) : (l ++ [x]).getD i d = l.getD i d := by
  simp [List.getD_eq_getElem?_getD, List.getElem?_append_left h]
theorem grows_more {l : Line} (v : Valid l) (s c : Int) : Grows l (moreL l s c) where
  len := rfl
  kerf := rfl
  pitch := rfl
  chip := rfl
  dust := rfl
  more := by show _ ≤ (l.sizes ++ [s]).length; rw [List.length_append]; omega
  size := fun i h0 h1 => by
    show (l.sizes ++ [s]).getD i.toNat 0 = l.sizes.getD i.toNat 0
    exact getD_snoc _ _ _ (by omega)
  gain := fun i q h0 h1 _ _ => by
    have hg := v.gain
    show (l.gain.getD i.toNat []).getD q.toNat 0 ≤ ((l.gain ++ [rowL l s c]).getD i.toNat []).getD q.toNat 0
    rw [getD_snoc _ _ _ (by omega)]
    exact Int.le_refl _
theorem more_best {l : Line} (h : chk l = 0) {s c : Int} (hn : l.sizes.length ≤ 8) (hs : 1 ≤ s ∧ s ≤ 2000) (hc : 0 ≤ c ∧ c ≤ 562949953421312) : (bestS (moreL l s c)).2.2 = 0 ∧ (bestS l).2.1 ≤ (bestS (moreL l s c)).2.1 := by
  have v := valid_of h
  have vm := valid_more v hn hs hc
  rw [best_ok h, best_ok (chk_valid vm)]
  exact ⟨rfl, (grows_more v s c).best v vm⟩
def raiseR (r : List Int) (k : Nat) (c : Int) : List Int := r.set k (r.getD k 0 + c)
def raiseL (l : Line) (i k : Nat) (c : Int) : Line := { l with gain := l.gain.set i (raiseR (l.gain.getD i []) k c) }
theorem raiseR_len (r : List Int) (k : Nat) (c : Int) : (raiseR r k c).length = r.length := by unfold raiseR; rw [List.length_set]
theorem raise_get {l : Line} {i k : Nat} {c : Int} {j : Nat} (hj : j < l.gain.length) (h : j < (l.gain.set i (raiseR (l.gain.getD i []) k c)).length) : (l.gain.set i (raiseR (l.gain.getD i []) k c))[j] = if i = j then raiseR l.gain[j] k c else l.gain[j] := by
  rw [List.getElem_set]
  split
  · rename_i e; subst e
    rw [List.getD_eq_getElem?_getD, List.getElem?_eq_getElem hj]; rfl
  · rfl
theorem raiseR_bd {r : List Int} {k : Nat} {c : Int} (hc : 0 ≤ c ∧ c ≤ 562949953421312) (hk : r.getD k 0 ≤ 562949953421312) (hb : ∀ j (h : j < r.length), -1125899906842624 ≤ r[j] ∧ r[j] ≤ 1125899906842624) : ∀ j (h : j < (raiseR r k c).length), -1125899906842624 ≤ (raiseR r k c)[j] ∧ (raiseR r k c)[j] ≤ 1125899906842624 := by
  intro j h
  have hj : j < r.length := by rw [raiseR_len] at h; exact h
  have := hb j hj
  have e : (raiseR r k c)[j] = if k = j then r.getD k 0 + c else r[j] := by simp only [raiseR, List.getElem_set]
  rw [e]
  split
  · rename_i e; subst e
    have e2 : r.getD k 0 = r[k] := by rw [List.getD_eq_getElem?_getD, List.getElem?_eq_getElem hj]; rfl
    rw [e2] at hk ⊢
    omega
  · exact this
theorem valid_raise {l : Line} (v : Valid l) {i k : Nat} {c : Int} (hc : 0 ≤ c ∧ c ≤ 562949953421312) (hk : (l.gain.getD i []).getD k 0 ≤ 562949953421312) : Valid (raiseL l i k c) where
  len := v.len
  kerf := v.kerf
  pitch := v.pitch
  sizes := v.sizes
  size := v.size
  gain := by show (l.gain.set i _).length = _; rw [List.length_set]; exact v.gain
  chip := v.chip
  dust := v.dust
  row := fun j h h2 => by
    have hj : j < l.gain.length := by have h : j < (l.gain.set i _).length := h; rw [List.length_set] at h; exact h
    refine (congrArg (fun r : List Int => (r.length : Int)) (raise_get (k := k) (c := c) (i := i) hj (by rw [List.length_set]; exact hj))).trans ?_
    show ((if i = j then raiseR l.gain[j] k c else l.gain[j]).length : Int) = _
    split
    · rw [raiseR_len]; exact v.row j hj h2
    · exact v.row j hj h2
  gains := fun j h q h2 => by
    have hj : j < l.gain.length := by have h : j < (l.gain.set i _).length := h; rw [List.length_set] at h; exact h
    have h2' : q < (l.gain.set i (raiseR (l.gain.getD i []) k c))[j].length := h2
    show -1125899906842624 ≤ (l.gain.set i (raiseR (l.gain.getD i []) k c))[j][q] ∧ (l.gain.set i (raiseR (l.gain.getD i []) k c))[j][q] ≤ 1125899906842624
    have e := raise_get (k := k) (c := c) (i := i) hj h
    by_cases hij : i = j
    · rw [if_pos hij] at e
      have hk' : l.gain[j].getD k 0 ≤ 562949953421312 := by
        subst hij
        rw [List.getD_eq_getElem?_getD (l := l.gain), List.getElem?_eq_getElem hj] at hk; exact hk
      have hq : q < (raiseR l.gain[j] k c).length := by rw [← e]; exact h2'
      have e2 : (l.gain.set i (raiseR (l.gain.getD i []) k c))[j][q] = (raiseR l.gain[j] k c)[q] := by simp only [e]
      rw [e2]
      exact raiseR_bd hc hk' (v.gains j hj) q hq
    · rw [if_neg hij] at e
      have hq : q < l.gain[j].length := by rw [← e]; exact h2'
      have e2 : (l.gain.set i (raiseR (l.gain.getD i []) k c))[j][q] = l.gain[j][q] := by simp only [e]
      rw [e2]
      exact v.gains j hj q hq
  chips := v.chips
  dusts := v.dusts
theorem raiseR_ge (r : List Int) (k : Nat) {c : Int} (hc : 0 ≤ c) (q : Nat) : r.getD q 0 ≤ (raiseR r k c).getD q 0 := by
  unfold raiseR
  rw [List.getD_eq_getElem?_getD, List.getD_eq_getElem?_getD, List.getElem?_set]
  split
  · rename_i e; subst e
    split
    · rename_i h
      rw [List.getD_eq_getElem?_getD]
      show _ ≤ _ + c
      omega
    · rename_i h
      rw [List.getElem?_eq_none (by omega)]
      exact Int.le_refl _
  · exact Int.le_refl _
theorem grows_raise {l : Line} (i k : Nat) {c : Int} (hc : 0 ≤ c) : Grows l (raiseL l i k c) where
  len := rfl
  kerf := rfl
  pitch := rfl
  chip := rfl
  dust := rfl
  more := Nat.le_refl _
  size := fun _ _ _ => rfl
  gain := fun j q _ _ _ _ => by
    show (l.gain.getD j.toNat []).getD q.toNat 0 ≤ ((l.gain.set i (raiseR (l.gain.getD i []) k c)).getD j.toNat []).getD q.toNat 0
    generalize j.toNat = j
    generalize q.toNat = q
    rw [List.getD_eq_getElem?_getD (l := l.gain.set i _), List.getElem?_set]
    split
    · rename_i e; subst e
      split
      · exact raiseR_ge _ _ hc _
      · rename_i h
        rw [List.getD_eq_getElem?_getD (l := l.gain), List.getElem?_eq_none (by omega)]
        exact Int.le_refl _
    · rw [← List.getD_eq_getElem?_getD]
      exact Int.le_refl _
theorem raise_best {l : Line} (h : chk l = 0) {i k : Nat} {c : Int} (hc : 0 ≤ c ∧ c ≤ 562949953421312) (hk : (l.gain.getD i []).getD k 0 ≤ 562949953421312) : (bestS (raiseL l i k c)).2.2 = 0 ∧ (bestS l).2.1 ≤ (bestS (raiseL l i k c)).2.1 := by
  have v := valid_of h
  have vm := valid_raise v hc hk
  rw [best_ok h, best_ok (chk_valid vm)]
  exact ⟨rfl, (grows_raise i k hc.1).best v vm⟩
theorem none_val {l : Line} (h : chk l = 0) : (valS l []).2 = 0 ∧ (valS l []).1 ≤ (bestS l).2.1 := by
  have v := valid_of h
  have hl := v.len
  rw [val_ok h (p := []) trivial, best_ok h]
  exact ⟨rfl, (opt v [] 0 (l.len.toNat + 1) (Int.le_refl 0) hl.1 (by omega) trivial).1⟩
end Go.Proofs.YtjofnmklkndhoaaDoor.Cu
/- A line whose values are multiplied: plain. -/
namespace Go.Proofs.YtjofnmklkndhoaaDoor.Cu
set_option linter.unusedVariables false
set_option linter.unusedSimpArgs false
open Go.RowKit Go.Proofs.YtjofnmklkndhoaaDoor.Ev
end Go.Proofs.YtjofnmklkndhoaaDoor.Cu
/- Walks of the reference of cutting: after, from. -/
namespace Go.Proofs.YtjofnmklkndhoaaDoor.Cu
set_option linter.unusedVariables false
set_option linter.unusedSimpArgs false
open Go.RowKit Go.Proofs.YtjofnmklkndhoaaDoor.Ev
variable {gl : List (Nat × List CV)}
def fz (c : Ch) : Int := if c.1 < 0 then 0 else c.2.1
def rC (c : Ch) : List CV := [I c.2.2, I c.1, I (fz c)]
instance : EncL rC 3 := ⟨fun _ => rfl, by decide, fun _ => rfl⟩
end Go.Proofs.YtjofnmklkndhoaaDoor.Cu
/- Walk of the reference of cutting: Best. -/
namespace Go.Proofs.YtjofnmklkndhoaaDoor.Cu
set_option linter.unusedVariables false
set_option linter.unusedSimpArgs false
open Go.RowKit Go.Proofs.YtjofnmklkndhoaaDoor.Ev
variable {gl : List (Nat × List CV)}
structure KnE (l : Line) (p : Int) (es : List Ch) : Prop where
  en : es.length = l.len.toNat + 1
  e : ∀ i (h : i < es.length), p < i → es[i] = TT l i
theorem KnE.ve {l : Line} {p : Int} {es : List Ch} (h : KnE l p es) (x : Int) (h1 : p < x) (h0 : 0 ≤ x) (h2 : x ≤ l.len) : VE es x = TV l x := by
  have hx : x.toNat < es.length := by have := h.en; omega
  rw [← VE_int h0 hx, h.e _ hx (by omega), Int.toNat_of_nonneg h0]; rfl
theorem chooseS_congr {l : Line} (v : Valid l) {V V' : Int → Int} {e : Int} (he : 0 ≤ e) (h : ∀ x, e < x → x ≤ l.len → V x = V' x) : chooseS l V e = chooseS l V' e := posS_congr v he h _
end Go.Proofs.YtjofnmklkndhoaaDoor.Cu
/- Walks of cutting: Clone, repeat, Uniform. -/
namespace Go.Proofs.YtjofnmklkndhoaaDoor.Cu
set_option linter.unusedVariables false
set_option linter.unusedSimpArgs false
open Go.RowKit Go.Proofs.YtjofnmklkndhoaaDoor.Ev
variable {gl : List (Nat × List CV)}
theorem clone_con (l : List Int) (hn : l.length ≤ 100000) : Con Tryd.prog gl 50 [LI l] (LI l) := by
  refine con_of Tryd.func50 rfl (by kernel_rfl) rfl ?_
  simp only [Tryd.ntmps50, Tryd.results50, argEnv, ofC, of1, List.map]
  repeat' (first
 | ((with_reducible apply r_eqnil); exact rfl; exact rfl; exact rfl; intro nb hnb)
 | ((with_reducible apply (r_appendl (enc := inC) (l := []) (l2 := l))); exact rfl; exact rfl; exact inferInstance; exact rfl; exact rfl; exact (by omega); exact (by omega); exact rfl)
 | ((with_reducible apply aw_seq))
 | ((with_reducible apply aw_region))
 | ((with_reducible apply thn_normal))
 | ((with_reducible apply thn_ret))
 | ((with_reducible apply aw_skip))
 | ((with_reducible apply aw_ret))
 | ((with_reducible apply ao_nil))
 | ((with_reducible apply r_move); exact rfl; exact rfl)
 | ((with_reducible apply r_assign); exact rfl; exact rfl)
 | (((with_reducible apply aw_cond); exact rfl) <;> intro hg <;> (first | (exact absurd hg (by decide)) | ((try simp only [decide_eq_true_eq, decide_eq_false_iff_not, Bool.not_eq_true', Bool.not_eq_false', Bool.not_true, Bool.not_false, Bool.not_not, Int.not_lt, Int.not_le, Nat.not_lt, Nat.not_le, gt_iff_lt, ge_iff_le, List.cons.injEq, and_true] at hg); first | (exact absurd trivial hg) | (exfalso; omega) | (have hT : True := hg; clear hT hg) | skip)))
 | ((with_reducible apply r_lit0); exact rfl)
 )
  · have : l = [] := by
      cases l with
      | nil => rfl
      | cons a l => have := hnb (by simp [inC]); subst this; cases hg
    subst this
    exact ret1 (.tmp rfl cl_none)
  · exact ret1 (.tmp rfl (cl_vec rfl (by rw [flat_len EncL.len]; simp)))
theorem repeat_con (n c : Int) (k : Nat) (hc : c = k) (hk : k ≤ 100000) : Con Tryd.prog gl 51 [I n, I c] (LI (List.replicate k n)) := by
  subst hc
  refine con_of Tryd.func51 rfl (by kernel_rfl) rfl ?_
  simp only [Tryd.ntmps51, Tryd.results51, argEnv, ofC, of1, List.map]
  repeat' (first
 | ((with_reducible apply r_make (enc := inC) (0 : Int) k); exact inferInstance; exact rfl; exact rfl; exact rfl; exact rfl; exact rfl; omega; omega; exact rfl)
 | ((with_reducible apply r_len_v); exact rfl; exact rfl; (rw [flat_len EncL.len, List.length_replicate]); exact rfl)
 | ((with_reducible apply aw_seq))
 | ((with_reducible apply aw_region))
 | ((with_reducible apply aw_block))
 | ((with_reducible apply thn_normal))
 | ((with_reducible apply ao_nil))
 | ((with_reducible apply r_move); exact rfl; exact rfl)
 | ((with_reducible apply r_assign); exact rfl; exact rfl)
 )
  refine aw_loopG (G := Nat × List Int) (fun ((j, s) : Nat × List Int) => j ≤ k ∧ s = List.replicate j n ++ List.replicate (k - j) 0) (fun ((j, s) : Nat × List Int) => k - j) (fun ((j, s) : Nat × List Int) => [(0, A n), (5, .vec 0 k), (10, A k), (11, A j)]) (fun ((j, s) : Nat × List Int) => [(0, some (.vec 3 1 (s.flatMap inC)))]) 1 (0, List.replicate k 0) ?_ (by refine weak_mk rfl ?_ ?_ <;> repeat (first | exact envW_nil | exact heapW_nil | refine envW_cons rfl rfl ?_ | refine heapW_cons rfl rfl rfl ?_)) rfl ?_
  · exact ⟨Nat.zero_le _, by simp⟩
  rintro ⟨j, s⟩ hI
  try dsimp only at hI
  try dsimp only
  obtain ⟨hj, hs⟩ := hI
  have hsl : s.length = k := by rw [hs]; simp; omega
  by_cases hjk : j < k
  · skip
    repeat' (first
 | ((with_reducible apply (r_store_v (enc := inC) (k := j) (l := s) n)); exact rfl; exact rfl; exact inferInstance; exact hsl; exact (by omega); exact rfl; exact rfl; exact rfl; exact rfl)
 | ((with_reducible apply aw_seq))
 | ((with_reducible apply aw_region))
 | ((with_reducible apply aw_block))
 | ((with_reducible apply thn_normal))
 | ((with_reducible apply inb_normal))
 | ((with_reducible apply aw_skip))
 | ((with_reducible apply ao_nil))
 | ((with_reducible apply r_move); exact rfl; exact rfl)
 | ((with_reducible apply r_assign); exact rfl; exact rfl)
 | ((with_reducible apply r_lss); exact rfl; exact rfl; exact rfl)
 | ((with_reducible apply r_add); exact rfl; exact rfl; exact (by first | assumption | (unfold fits; omega)); exact rfl)
 | ((with_reducible apply r_index_vf); exact rfl; exact rfl; exact inferInstance; (first | exact rfl | assumption | omega); exact rfl; exact rfl; (first | assumption | omega); exact rfl)
 | (((with_reducible apply aw_cond); exact rfl) <;> intro hg <;> (first | (exact absurd hg (by decide)) | ((try simp only [decide_eq_true_eq, decide_eq_false_iff_not, Bool.not_eq_true', Bool.not_eq_false', Bool.not_true, Bool.not_false, Bool.not_not, Int.not_lt, Int.not_le, Nat.not_lt, Nat.not_le, gt_iff_lt, ge_iff_le, List.cons.injEq, and_true] at hg); first | (exact absurd trivial hg) | (exfalso; omega) | (have hT : True := hg; clear hT hg) | skip)))
 )
    refine ⟨(j + 1, s.set j n), ?_, ?_, by refine weak_mk rfl ?_ ?_ <;> repeat (first | exact envW_nil | exact heapW_nil | refine envW_cons rfl rfl ?_ | refine heapW_cons rfl rfl rfl ?_)⟩
    · show k - (j + 1) < k - j; omega
    · refine ⟨by show j + 1 ≤ k; omega, ?_⟩
      show s.set j n = _
      rw [hs]
      refine List.ext_getElem (by simp; omega) (fun i h1 h2 => ?_)
      rw [List.getElem_set]
      simp only [List.getElem_append, List.length_replicate, List.getElem_replicate]
      by_cases e : j = i
      · rw [if_pos e, dif_pos (by omega)]
      · rw [if_neg e]
        by_cases h : i < j
        · rw [dif_pos h, dif_pos (by omega)]
        · rw [dif_neg h, dif_neg (by omega)]
  · obtain rfl : j = k := by omega
    repeat' (first
 | ((with_reducible apply aw_seq))
 | ((with_reducible apply aw_region))
 | ((with_reducible apply thn_normal))
 | ((with_reducible apply thn_exit))
 | ((with_reducible apply inb_exit))
 | ((with_reducible apply aw_exit))
 | ((with_reducible apply aw_ret))
 | ((with_reducible apply ao_nil))
 | ((with_reducible apply r_move); exact rfl; exact rfl)
 | ((with_reducible apply r_assign); exact rfl; exact rfl)
 | ((with_reducible apply r_lss); exact rfl; exact rfl; exact rfl)
 | (((with_reducible apply aw_cond); exact rfl) <;> intro hg <;> (first | (exact absurd hg (by decide)) | ((try simp only [decide_eq_true_eq, decide_eq_false_iff_not, Bool.not_eq_true', Bool.not_eq_false', Bool.not_true, Bool.not_false, Bool.not_not, Int.not_lt, Int.not_le, Nat.not_lt, Nat.not_le, gt_iff_lt, ge_iff_le, List.cons.injEq, and_true] at hg); first | (exact absurd trivial hg) | (exfalso; omega) | (have hT : True := hg; clear hT hg) | skip)))
 )
    have : s = List.replicate j n := by rw [hs]; simp
    rw [← this]
    exact ret1 (.tmp rfl (cl_vec rfl (by rw [flat_len EncL.len, hsl])))
def zeroL : Line := ⟨0, 0, 0, [], [], [], []⟩
def rowsU (n : Int) (sizes gains : List Int) : List (List Int) := List.zipWith (fun s g => List.replicate (max 0 (n - s + 1)).toNat g) sizes gains
def lineU (n k p : Int) (sizes gains : List Int) (c d : Int) : Line := ⟨n, k, p, sizes, rowsU n sizes gains, List.replicate n.toNat c, List.replicate n.toNat d⟩
def baseU (n k p : Int) (sizes : List Int) : Line := ⟨n, k, p, sizes, [], [], []⟩
noncomputable def uniS (n k p : Int) (sizes gains : List Int) (c d : Int) : Line × Int :=
  if sizes.length ≠ gains.length then (zeroL, 19) else
  if measS (baseU n k p sizes) ≠ 0 then (zeroL, measS (baseU n k p sizes)) else
  if chk (lineU n k p sizes gains c d) ≠ 0 then (zeroL, chk (lineU n k p sizes gains c d)) else (lineU n k p sizes gains c d, 0)
def uniC (r : Line × Int) : CV := .tup [lineC r.1, I r.2]
theorem rowsU_take (n : Int) (sizes gains : List Int) (hl : sizes.length = gains.length) {j : Nat} (hj : j < sizes.length) : rowsU n (sizes.take (j + 1)) (gains.take (j + 1)) = rowsU n (sizes.take j) (gains.take j) ++ [List.replicate (max 0 (n - sizes[j] + 1)).toNat (gains[j]'(by omega))] := by
  unfold rowsU
  rw [List.take_add_one, List.take_add_one, List.getElem?_eq_getElem hj, List.getElem?_eq_getElem (show j < gains.length by omega)]
  rw [List.zipWith_append (by simp; omega)]
  rfl
theorem uni_con (n k p : Int) (sizes gains : List Int) (c d : Int) (h1 : sizes.length ≤ 100000) (h2 : gains.length ≤ 100000) : Con Tryd.prog gl 44 [I n, I k, I p, LI sizes, LI gains, I c, I d] (uniC (uniS n k p sizes gains c d)) := by
  refine con_of Tryd.func44 rfl (by kernel_rfl) rfl ?_
  simp only [Tryd.ntmps44, Tryd.results44, argEnv, ofC, of1, List.map]
  repeat' (first
 | ((with_reducible apply r_call); exact rfl; exact rfl; exact clone_con sizes h1; exact rfl; exact rfl)
 | ((with_reducible apply r_callv); exact meas_con (baseU n k p sizes); exact rfl; exact cl_cons (cl_agg (cl_cons cl_c (cl_cons cl_c (cl_cons cl_c (cl_cons cl_c (cl_cons cl_none (cl_cons cl_none (cl_cons cl_none cl_nil)))))))) cl_nil; exact rfl; exact rfl)
 | ((with_reducible apply aw_seq))
 | ((with_reducible apply aw_region))
 | ((with_reducible apply aw_block))
 | ((with_reducible apply thn_normal))
 | ((with_reducible apply thn_ret))
 | ((with_reducible apply aw_skip))
 | ((with_reducible apply aw_ret))
 | ((with_reducible apply ao_nil))
 | ((with_reducible apply r_move); exact rfl; exact rfl)
 | ((with_reducible apply r_assign); exact rfl; exact rfl)
 | ((with_reducible apply r_load_pa); exact rfl; exact rfl; exact rfl; exact rfl; exact rfl)
 | ((with_reducible apply r_neq); exact rfl; exact rfl; exact rfl)
 | ((with_reducible apply r_len_f); exact rfl; exact inferInstance; exact rfl)
 | ((with_reducible apply r_store_pa); exact rfl; exact rfl; exact rfl; exact rfl; exact rfl; exact rfl)
 | ((with_reducible apply r_build); exact rfl; exact rfl; exact rfl)
 | ((with_reducible apply r_alloc); exact rfl)
 | (((with_reducible apply aw_cond); exact rfl) <;> intro hg <;> (first | (exact absurd hg (by decide)) | ((try simp only [decide_eq_true_eq, decide_eq_false_iff_not, Bool.not_eq_true', Bool.not_eq_false', Bool.not_true, Bool.not_false, Bool.not_not, Int.not_lt, Int.not_le, Nat.not_lt, Nat.not_le, gt_iff_lt, ge_iff_le, List.cons.injEq, and_true] at hg); first | (exact absurd trivial hg) | (exfalso; omega) | (have hT : True := hg; clear hT hg) | skip)))
 )
  · have e : uniS n k p sizes gains c d = (zeroL, 19) := by unfold uniS; rw [if_pos (by omega)]
    rw [e]
    exact ret2 (.cons (.cell_a inferInstance rfl rfl rfl rfl (cl_cons cl_c (cl_cons cl_c (cl_cons cl_c (cl_cons cl_none (cl_cons cl_none (cl_cons cl_none (cl_cons cl_none cl_nil)))))))) (.cons (.tmp rfl cl_c) .nil))
  · have e : uniS n k p sizes gains c d = (zeroL, measS (baseU n k p sizes)) := by unfold uniS; rw [if_neg (by omega), if_pos hg]
    rw [e]
    exact ret2 (.cons (.cell_a inferInstance rfl rfl rfl rfl (cl_cons cl_c (cl_cons cl_c (cl_cons cl_c (cl_cons cl_none (cl_cons cl_none (cl_cons cl_none (cl_cons cl_none cl_nil)))))))) (.cons (.tmp rfl cl_c) .nil))
  have hlen : sizes.length = gains.length := by omega
  have hm : measS (baseU n k p sizes) = 0 := by assumption
  obtain ⟨m1, m2, m3⟩ := meas0 hm
  have m3' : ∀ i (h : i < sizes.length), 1 ≤ sizes[i] ∧ sizes[i] ≤ 2000 := m3
  have m2' : sizes.length ≤ 32 := m2
  have m1' : 0 ≤ n ∧ n ≤ 2000 := by unfold headBad baseU at m1; dsimp only at m1; omega
  refine aw_nilcell 1 4 22 1 rfl rfl rfl rfl ?_
  refine aw_loopG (G := Nat × Nat) (fun ((j, r) : Nat × Nat) => j ≤ sizes.length ∧ r = j) (fun ((j, r) : Nat × Nat) => sizes.length - j) (fun ((j, r) : Nat × Nat) => [(0, A n), (4, .c (LI gains)), (5, A c), (6, A d), (14, .ptr 0 0), (16, .ptr 1 0), (39, .c (LI sizes)), (40, A sizes.length), (41, A j)]) (fun ((j, r) : Nat × Nat) => [(0, some (.cells 25 [A 0, A 0, A 0, .c (.v (.slice none 0 0)), .c (.v (.slice none 0 0)), .c (.v (.slice none 0 0)), .c (.v (.slice none 0 0))])), (1, some (.cells 25 [A n, A k, A p, .c (LI sizes), .vec 2 r, .c (.v (.slice none 0 0)), .c (.v (.slice none 0 0))])), (2, some (.vec 22 1 ((rowsU n (sizes.take j) (gains.take j)).flatMap rowC)))]) 3 (0, 0) ?_ (by refine weak_mk rfl ?_ ?_ <;> repeat (first | exact envW_nil | exact heapW_nil | refine envW_cons rfl rfl ?_ | refine heapW_cons rfl rfl rfl ?_)) rfl ?_
  · exact ⟨Nat.zero_le _, rfl⟩
  rintro ⟨j, r⟩ hI
  try dsimp only at hI
  try dsimp only
  obtain ⟨hj, hr⟩ := hI
  subst hr
  have hrl : (rowsU n (sizes.take r) (gains.take r)).length = r := by unfold rowsU; simp; omega
  by_cases hjl : r < sizes.length
  · have hs := m3' r hjl
    have hpl := places_con (gl := gl) ⟨n, k, p, sizes, rowsU n (sizes.take r) (gains.take r), [], []⟩ sizes[r] ⟨m1'.1, m1'.2, hs.1, hs.2⟩
    have hrp := repeat_con (gl := gl) (gains[r]'(by omega)) (max 0 (n - sizes[r] + 1)) (max 0 (n - sizes[r] + 1)).toNat (by omega) (by omega)
    repeat' (first
 | (refine aw_drawt 11 ?_ ?_; (kernel_rfl); (simp only [List.take_succ_cons, List.take_zero, List.drop_succ_cons, List.drop_zero]))
 | ((with_reducible apply r_callq); exact hpl; exact rfl; exact cl_cons (cl_agg (cl_cons cl_c (cl_cons cl_c (cl_cons cl_c (cl_cons cl_c (cl_cons (cl_vec rfl (by rw [flat_len EncL.len, hrl])) (cl_cons cl_none (cl_cons cl_none cl_nil)))))))) (cl_cons cl_c cl_nil); exact rfl; exact rfl)
 | ((with_reducible apply r_call); exact rfl; exact rfl; exact hrp; exact rfl; exact rfl)
 | ((with_reducible apply (r_appendl (enc := rowC) (l2 := [List.replicate (max 0 (n - sizes[r] + 1)).toNat (gains[r]'(by omega))]))); exact rfl; exact rfl; exact inferInstance; exact hrl; exact rfl; exact (by show r + 1 < _; omega); exact (by show (r + 1) * 24 ≤ _; omega); exact rfl)
 | ((with_reducible apply aw_seq))
 | ((with_reducible apply aw_region))
 | ((with_reducible apply aw_block))
 | ((with_reducible apply thn_normal))
 | ((with_reducible apply inb_normal))
 | ((with_reducible apply aw_skip))
 | ((with_reducible apply ao_nil))
 | ((with_reducible apply r_move); exact rfl; exact rfl)
 | ((with_reducible apply r_assign); exact rfl; exact rfl)
 | ((with_reducible apply r_field_p); exact rfl; exact rfl)
 | ((with_reducible apply r_load_p); exact rfl; exact rfl; exact rfl; exact rfl)
 | ((with_reducible apply r_load_pa); exact rfl; exact rfl; exact rfl; exact rfl; exact rfl)
 | ((with_reducible apply r_lss); exact rfl; exact rfl; exact rfl)
 | ((with_reducible apply r_add); exact rfl; exact rfl; exact (by first | assumption | (unfold fits; omega)); exact rfl)
 | ((with_reducible apply r_index_f); exact rfl; exact inferInstance; exact rfl; exact rfl; (first | assumption | omega); exact rfl)
 | ((with_reducible apply r_load_f0); exact rfl; exact inferInstance; exact List.getElem?_eq_getElem (by first | assumption | omega); exact rfl; exact rfl)
 | ((with_reducible apply r_store_p); exact rfl; exact rfl; exact rfl; exact rfl; exact rfl; exact rfl)
 | (((with_reducible apply aw_cond); exact rfl) <;> intro hg <;> (first | (exact absurd hg (by decide)) | ((try simp only [decide_eq_true_eq, decide_eq_false_iff_not, Bool.not_eq_true', Bool.not_eq_false', Bool.not_true, Bool.not_false, Bool.not_not, Int.not_lt, Int.not_le, Nat.not_lt, Nat.not_le, gt_iff_lt, ge_iff_le, List.cons.injEq, and_true] at hg); first | (exact absurd trivial hg) | (exfalso; omega) | (have hT : True := hg; clear hT hg) | skip)))
 | ((with_reducible apply ds_nil))
 | ((with_reducible apply r_litq); exact rfl; exact rfl; exact rfl; exact rfl; exact rfl; exact rfl; exact rfl)
 )
    rw [← rowsU_take n sizes gains hlen hjl]
    refine ⟨(r + 1, r + 1), ?_, ?_, by refine weak_mk rfl ?_ ?_ <;> repeat (first | exact envW_nil | exact heapW_nil | refine envW_cons rfl rfl ?_ | refine heapW_cons rfl rfl rfl ?_)⟩
    · show _ - (r + 1) < _ - r; omega
    · exact ⟨by show r + 1 ≤ _; omega, rfl⟩
  · obtain rfl : r = sizes.length := by omega
    have e1 : rowsU n (sizes.take sizes.length) (gains.take sizes.length) = rowsU n sizes gains := by rw [List.take_length, hlen, List.take_length]
    rw [e1] at hrl ⊢
    have hr1 := repeat_con (gl := gl) c n n.toNat (by omega) (by omega)
    have hr2 := repeat_con (gl := gl) d n n.toNat (by omega) (by omega)
    repeat' (first
 | ((with_reducible apply r_call); exact rfl; exact rfl; (first | exact hr1 | exact hr2); exact rfl; exact rfl)
 | ((with_reducible apply r_callv); exact check_con (lineU n k p sizes gains c d); exact rfl; exact cl_cons (cl_agg (cl_cons cl_c (cl_cons cl_c (cl_cons cl_c (cl_cons cl_c (cl_cons (cl_vec rfl ((flat_len EncL.len _).trans (congrArg (· * 1) hrl))) (cl_cons cl_c (cl_cons cl_c cl_nil)))))))) cl_nil; exact rfl; exact rfl)
 | ((with_reducible apply aw_seq))
 | ((with_reducible apply aw_region))
 | ((with_reducible apply thn_normal))
 | ((with_reducible apply thn_ret))
 | ((with_reducible apply thn_exit))
 | ((with_reducible apply inb_exit))
 | ((with_reducible apply aw_skip))
 | ((with_reducible apply aw_exit))
 | ((with_reducible apply aw_ret))
 | ((with_reducible apply ao_nil))
 | ((with_reducible apply r_move); exact rfl; exact rfl)
 | ((with_reducible apply r_assign); exact rfl; exact rfl)
 | ((with_reducible apply r_field_p); exact rfl; exact rfl)
 | ((with_reducible apply r_load_pa); exact rfl; exact rfl; exact rfl; exact rfl; exact rfl)
 | ((with_reducible apply r_lss); exact rfl; exact rfl; exact rfl)
 | ((with_reducible apply r_neq); exact rfl; exact rfl; exact rfl)
 | ((with_reducible apply r_store_p); exact rfl; exact rfl; exact rfl; exact rfl; exact rfl; exact rfl)
 | ((with_reducible apply r_store_pa); exact rfl; exact rfl; exact rfl; exact rfl; exact rfl; exact rfl)
 | ((with_reducible apply r_build); exact rfl; exact rfl; exact rfl)
 | (((with_reducible apply aw_cond); exact rfl) <;> intro hg <;> (first | (exact absurd hg (by decide)) | ((try simp only [decide_eq_true_eq, decide_eq_false_iff_not, Bool.not_eq_true', Bool.not_eq_false', Bool.not_true, Bool.not_false, Bool.not_not, Int.not_lt, Int.not_le, Nat.not_lt, Nat.not_le, gt_iff_lt, ge_iff_le, List.cons.injEq, and_true] at hg); first | (exact absurd trivial hg) | (exfalso; omega) | (have hT : True := hg; clear hT hg) | skip)))
 )
    · have e : uniS n k p sizes gains c d = (zeroL, chk (lineU n k p sizes gains c d)) := by unfold uniS; rw [if_neg (by omega), if_neg (fun hh => hh hm), if_pos hg]
      rw [e]
      exact ret2 (.cons (.cell_a inferInstance rfl rfl rfl rfl (cl_cons cl_c (cl_cons cl_c (cl_cons cl_c (cl_cons cl_none (cl_cons cl_none (cl_cons cl_none (cl_cons cl_none cl_nil)))))))) (.cons (.tmp rfl cl_c) .nil))
    · have e : uniS n k p sizes gains c d = (lineU n k p sizes gains c d, 0) := by unfold uniS; rw [if_neg (by omega), if_neg (fun hh => hh hm), if_neg (fun hh => hh hg)]
      rw [e]
      exact ret2 (.cons (.cell_a inferInstance rfl rfl rfl rfl (cl_cons cl_c (cl_cons cl_c (cl_cons cl_c (cl_cons cl_c (cl_cons (cl_vec rfl ((flat_len EncL.len _).trans (congrArg (· * 1) hrl))) (cl_cons cl_c (cl_cons cl_c cl_nil)))))))) (.cons (.tmp rfl cl_c) .nil))
end Go.Proofs.YtjofnmklkndhoaaDoor.Cu
/- Walk of the reference of cutting: Uniform. -/
namespace Go.Proofs.YtjofnmklkndhoaaDoor.Cu
set_option linter.unusedVariables false
set_option linter.unusedSimpArgs false
open Go.RowKit Go.Proofs.YtjofnmklkndhoaaDoor.Ev
variable {gl : List (Nat × List CV)}
end Go.Proofs.YtjofnmklkndhoaaDoor.Cu
/- Walks of the laws on cutting: few, short, uniform, awake. -/
namespace Go.Proofs.YtjofnmklkndhoaaDoor.Cu
set_option linter.unusedVariables false
set_option linter.unusedSimpArgs false
open Go.RowKit Go.Proofs.YtjofnmklkndhoaaDoor.Ev
def rowsN (g : List (List Int)) : Nat := (g.map List.length).sum
def rowB (r : List Int) : Bool := decide (r.length ≤ 2100)
def fewS (l : Line) : Bool := decide (l.sizes.length ≤ 40 ∧ l.gain.length ≤ 40 ∧ l.chip.length ≤ 2100 ∧ l.dust.length ≤ 2100) && l.gain.all rowB && decide (rowsN l.gain ≤ 20000)
theorem few_head {l : Line} (h : ¬ (l.sizes.length ≤ 40 ∧ l.gain.length ≤ 40 ∧ l.chip.length ≤ 2100 ∧ l.dust.length ≤ 2100)) : false = fewS l := by unfold fewS; rw [decide_eq_false h]; rfl
theorem few_row {l : Line} (h : l.gain.all rowB = false) : false = fewS l := by unfold fewS; rw [h, Bool.and_false]; rfl
theorem few_end {l : Line} (h : l.sizes.length ≤ 40 ∧ l.gain.length ≤ 40 ∧ l.chip.length ≤ 2100 ∧ l.dust.length ≤ 2100) (h2 : l.gain.all rowB = true) : decide (rowsN l.gain ≤ 20000) = fewS l := by unfold fewS; rw [decide_eq_true h, h2]; rfl
theorem few_out {l : Line} (h : fewS l = true) : l.sizes.length ≤ 40 ∧ l.gain.length ≤ 40 ∧ l.chip.length ≤ 2100 ∧ l.dust.length ≤ 2100 := by
  unfold fewS at h; simp only [Bool.and_eq_true, decide_eq_true_eq] at h; exact h.1.1
theorem few_rows {l : Line} (h : fewS l = true) : ∀ i (h : i < l.gain.length), l.gain[i].length ≤ 2100 := by
  unfold fewS at h; simp only [Bool.and_eq_true, decide_eq_true_eq] at h
  intro i hi
  have := List.all_eq_true.1 h.1.2 _ (List.getElem_mem hi)
  unfold rowB at this; simpa using this
theorem rowsN_take {g : List (List Int)} {j : Nat} (h : j < g.length) : rowsN (g.take (j + 1)) = rowsN (g.take j) + g[j].length := by
  unfold rowsN
  rw [List.take_add_one, List.getElem?_eq_getElem h]
  simp only [Option.toList_some, List.map_append, List.map_cons, List.map_nil, List.sum_append, List.sum_cons, List.sum_nil, Nat.add_zero]
variable {gl : List (Nat × List CV)}
theorem few_con (l : Line) (hN : l.gain.length ≤ maxLen) : Con Tryd.prog gl 11 [lineC l] (.v (.bool (fewS l))) := by
  refine con_of Tryd.func11 rfl (by kernel_rfl) rfl ?_
  simp only [Tryd.ntmps11, Tryd.results11, argEnv, ofC, of1, List.map, lineC, lineL]
  by_cases hh : l.sizes.length ≤ 40 ∧ l.gain.length ≤ 40 ∧ l.chip.length ≤ 2100 ∧ l.dust.length ≤ 2100
  rotate_left
  · skip
    repeat' (first
 | ((with_reducible apply aw_seq))
 | ((with_reducible apply aw_region))
 | ((with_reducible apply thn_normal))
 | ((with_reducible apply thn_ret))
 | ((with_reducible apply aw_ret))
 | ((with_reducible apply ao_nil))
 | ((with_reducible apply r_move); exact rfl; exact rfl)
 | ((with_reducible apply r_assign); exact rfl; exact rfl)
 | ((with_reducible apply r_field_p); exact rfl; exact rfl)
 | ((with_reducible apply r_load_p); exact rfl; exact rfl; exact rfl; exact rfl)
 | ((with_reducible apply r_gtr); exact rfl; exact rfl; exact rfl)
 | ((with_reducible apply r_box_a); exact rfl; exact rfl)
 | ((with_reducible apply r_pick_t); exact rfl; exact rfl; exact rfl)
 | ((with_reducible apply r_pick_f); exact rfl; exact rfl; exact rfl)
 | ((with_reducible apply r_len_f); exact rfl; exact inferInstance; exact rfl)
 | (((with_reducible apply r_guard); exact rfl; exact rfl; exact rfl; exact rfl) <;> intro hg <;> (first | (exact absurd hg (by decide)) | ((try simp only [decide_eq_true_eq, decide_eq_false_iff_not, Bool.not_eq_true', Bool.not_eq_false', Bool.not_true, Bool.not_false, Bool.not_not, Int.not_lt, Int.not_le, Nat.not_lt, Nat.not_le, gt_iff_lt, ge_iff_le, List.cons.injEq, and_true] at hg); first | (exact absurd trivial hg) | (exfalso; omega) | (have hT : True := hg; clear hT hg) | skip)))
 | (((with_reducible apply aw_cond); exact rfl) <;> intro hg <;> (first | (exact absurd hg (by decide)) | ((try simp only [decide_eq_true_eq, decide_eq_false_iff_not, Bool.not_eq_true', Bool.not_eq_false', Bool.not_true, Bool.not_false, Bool.not_not, Int.not_lt, Int.not_le, Nat.not_lt, Nat.not_le, gt_iff_lt, ge_iff_le, List.cons.injEq, and_true] at hg); first | (exact absurd trivial hg) | (exfalso; omega) | (have hT : True := hg; clear hT hg) | skip)))
 )
    all_goals exact ret_b rfl (few_head hh)
  repeat' (first
 | ((with_reducible apply aw_seq))
 | ((with_reducible apply aw_region))
 | ((with_reducible apply aw_block))
 | ((with_reducible apply thn_normal))
 | ((with_reducible apply aw_skip))
 | ((with_reducible apply ao_nil))
 | ((with_reducible apply r_move); exact rfl; exact rfl)
 | ((with_reducible apply r_assign); exact rfl; exact rfl)
 | ((with_reducible apply r_field_p); exact rfl; exact rfl)
 | ((with_reducible apply r_load_p); exact rfl; exact rfl; exact rfl; exact rfl)
 | ((with_reducible apply r_gtr); exact rfl; exact rfl; exact rfl)
 | ((with_reducible apply r_box_a); exact rfl; exact rfl)
 | ((with_reducible apply r_pick_f); exact rfl; exact rfl; exact rfl)
 | ((with_reducible apply r_len_f); exact rfl; exact inferInstance; exact rfl)
 | (((with_reducible apply r_guard); exact rfl; exact rfl; exact rfl; exact rfl) <;> intro hg <;> (first | (exact absurd hg (by decide)) | ((try simp only [decide_eq_true_eq, decide_eq_false_iff_not, Bool.not_eq_true', Bool.not_eq_false', Bool.not_true, Bool.not_false, Bool.not_not, Int.not_lt, Int.not_le, Nat.not_lt, Nat.not_le, gt_iff_lt, ge_iff_le, List.cons.injEq, and_true] at hg); first | (exact absurd trivial hg) | (exfalso; omega) | (have hT : True := hg; clear hT hg) | skip)))
 | (((with_reducible apply aw_cond); exact rfl) <;> intro hg <;> (first | (exact absurd hg (by decide)) | ((try simp only [decide_eq_true_eq, decide_eq_false_iff_not, Bool.not_eq_true', Bool.not_eq_false', Bool.not_true, Bool.not_false, Bool.not_not, Int.not_lt, Int.not_le, Nat.not_lt, Nat.not_le, gt_iff_lt, ge_iff_le, List.cons.injEq, and_true] at hg); first | (exact absurd trivial hg) | (exfalso; omega) | (have hT : True := hg; clear hT hg) | skip)))
 )
  refine aw_loopG (G := Nat × Int) (fun ((j, t) : Nat × Int) => j ≤ l.gain.length ∧ t = rowsN (l.gain.take j) ∧ t ≤ 2100 * j ∧ 0 ≤ t ∧ ∀ i (h : i < l.gain.length), i < j → rowB l.gain[i] = true) (fun ((j, t) : Nat × Int) => l.gain.length - j) (fun ((j, t) : Nat × Int) => [(1, .ptr 0 0), (3, A t), (4, A j)]) (fun ((j, t) : Nat × Int) => [(0, some (lineB l))]) 1 (0, 0) ?_ (by refine weak_mk rfl ?_ ?_ <;> repeat (first | exact envW_nil | exact heapW_nil | refine envW_cons rfl rfl ?_ | refine heapW_cons rfl rfl rfl ?_)) rfl ?_
  · exact ⟨Nat.zero_le _, rfl, by decide, by decide, fun _ _ h => absurd h (Nat.not_lt_zero _)⟩
  rintro ⟨j, t⟩ hI
  try dsimp only at hI
  try dsimp only
  obtain ⟨hj, ht, ht2, ht3, hall⟩ := hI
  by_cases hjl : j < l.gain.length
  · by_cases hr : l.gain[j].length ≤ 2100
    · skip
      repeat' (first
 | ((with_reducible apply aw_seq))
 | ((with_reducible apply aw_region))
 | ((with_reducible apply aw_block))
 | ((with_reducible apply thn_normal))
 | ((with_reducible apply inb_normal))
 | ((with_reducible apply aw_skip))
 | ((with_reducible apply ao_nil))
 | ((with_reducible apply r_move); exact rfl; exact rfl)
 | ((with_reducible apply r_assign); exact rfl; exact rfl)
 | ((with_reducible apply r_field_p); exact rfl; exact rfl)
 | ((with_reducible apply r_load_p); exact rfl; exact rfl; exact rfl; exact rfl)
 | ((with_reducible apply r_lss); exact rfl; exact rfl; exact rfl)
 | ((with_reducible apply r_gtr); exact rfl; exact rfl; exact rfl)
 | ((with_reducible apply r_add); exact rfl; exact rfl; exact (by first | assumption | (unfold fits; omega)); exact rfl)
 | ((with_reducible apply r_len_f); exact rfl; exact inferInstance; exact rfl)
 | ((with_reducible apply r_index_f); exact rfl; exact inferInstance; exact rfl; exact rfl; (first | assumption | omega); exact rfl)
 | ((with_reducible apply r_load_f0); exact rfl; exact inferInstance; exact List.getElem?_eq_getElem (by first | assumption | omega); exact rfl; exact rfl)
 | (((with_reducible apply aw_cond); exact rfl) <;> intro hg <;> (first | (exact absurd hg (by decide)) | ((try simp only [decide_eq_true_eq, decide_eq_false_iff_not, Bool.not_eq_true', Bool.not_eq_false', Bool.not_true, Bool.not_false, Bool.not_not, Int.not_lt, Int.not_le, Nat.not_lt, Nat.not_le, gt_iff_lt, ge_iff_le, List.cons.injEq, and_true] at hg); first | (exact absurd trivial hg) | (exfalso; omega) | (have hT : True := hg; clear hT hg) | skip)))
 )
      refine ⟨(j + 1, t + l.gain[j].length), ?_, ?_, by refine weak_mk rfl ?_ ?_ <;> repeat (first | exact envW_nil | exact heapW_nil | refine envW_cons rfl rfl ?_ | refine heapW_cons rfl rfl rfl ?_)⟩
      · show _ - (j + 1) < _ - j; omega
      · refine ⟨by show j + 1 ≤ _; omega, ?_, by show t + _ ≤ 2100 * ((j + 1 : Nat) : Int); omega, by show 0 ≤ t + _; omega, step_all hjl hall (by unfold rowB; simp [hr])⟩
        show t + _ = _
        rw [rowsN_take hjl, ht]; simp
    · skip
      repeat' (first
 | ((with_reducible apply aw_seq))
 | ((with_reducible apply aw_region))
 | ((with_reducible apply aw_block))
 | ((with_reducible apply thn_normal))
 | ((with_reducible apply thn_ret))
 | ((with_reducible apply inb_ret))
 | ((with_reducible apply aw_skip))
 | ((with_reducible apply aw_ret))
 | ((with_reducible apply ao_nil))
 | ((with_reducible apply r_move); exact rfl; exact rfl)
 | ((with_reducible apply r_assign); exact rfl; exact rfl)
 | ((with_reducible apply r_field_p); exact rfl; exact rfl)
 | ((with_reducible apply r_load_p); exact rfl; exact rfl; exact rfl; exact rfl)
 | ((with_reducible apply r_lss); exact rfl; exact rfl; exact rfl)
 | ((with_reducible apply r_gtr); exact rfl; exact rfl; exact rfl)
 | ((with_reducible apply r_len_f); exact rfl; exact inferInstance; exact rfl)
 | ((with_reducible apply r_index_f); exact rfl; exact inferInstance; exact rfl; exact rfl; (first | assumption | omega); exact rfl)
 | ((with_reducible apply r_load_f0); exact rfl; exact inferInstance; exact List.getElem?_eq_getElem (by first | assumption | omega); exact rfl; exact rfl)
 | (((with_reducible apply aw_cond); exact rfl) <;> intro hg <;> (first | (exact absurd hg (by decide)) | ((try simp only [decide_eq_true_eq, decide_eq_false_iff_not, Bool.not_eq_true', Bool.not_eq_false', Bool.not_true, Bool.not_false, Bool.not_not, Int.not_lt, Int.not_le, Nat.not_lt, Nat.not_le, gt_iff_lt, ge_iff_le, List.cons.injEq, and_true] at hg); first | (exact absurd trivial hg) | (exfalso; omega) | (have hT : True := hg; clear hT hg) | skip)))
 )
      exact ret_b rfl (few_row (all_not hjl (by unfold rowB; simp; omega)))
  · obtain rfl : j = l.gain.length := by omega
    rw [List.take_length] at ht
    repeat' (first
 | ((with_reducible apply aw_seq))
 | ((with_reducible apply aw_region))
 | ((with_reducible apply thn_normal))
 | ((with_reducible apply thn_exit))
 | ((with_reducible apply inb_exit))
 | ((with_reducible apply aw_exit))
 | ((with_reducible apply aw_ret))
 | ((with_reducible apply ao_nil))
 | ((with_reducible apply r_move); exact rfl; exact rfl)
 | ((with_reducible apply r_assign); exact rfl; exact rfl)
 | ((with_reducible apply r_field_p); exact rfl; exact rfl)
 | ((with_reducible apply r_load_p); exact rfl; exact rfl; exact rfl; exact rfl)
 | ((with_reducible apply r_lss); exact rfl; exact rfl; exact rfl)
 | ((with_reducible apply r_leq); exact rfl; exact rfl; exact rfl)
 | ((with_reducible apply r_len_f); exact rfl; exact inferInstance; exact rfl)
 | (((with_reducible apply aw_cond); exact rfl) <;> intro hg <;> (first | (exact absurd hg (by decide)) | ((try simp only [decide_eq_true_eq, decide_eq_false_iff_not, Bool.not_eq_true', Bool.not_eq_false', Bool.not_true, Bool.not_false, Bool.not_not, Int.not_lt, Int.not_le, Nat.not_lt, Nat.not_le, gt_iff_lt, ge_iff_le, List.cons.injEq, and_true] at hg); first | (exact absurd trivial hg) | (exfalso; omega) | (have hT : True := hg; clear hT hg) | skip)))
 )
    refine ret_b rfl ((Eq.symm ?_).trans (few_end hh (all_of (fun i hi => hall i hi hi))))
    rw [ht]
    exact decide_eq_decide.2 (by omega)
def shortS (l : Line) : Bool := fewS l && (decide (l.len ≤ 120) && decide (l.sizes.length ≤ 8))
theorem short_con (l : Line) (hN : l.gain.length ≤ maxLen) : Con Tryd.prog gl 20 [lineC l] (.v (.bool (shortS l))) := by
  refine con_of Tryd.func20 rfl (by kernel_rfl) rfl ?_
  simp only [Tryd.ntmps20, Tryd.results20, argEnv, ofC, of1, List.map, lineC, lineL]
  cases hf : fewS l with
  | false =>
    have hc := few_con (gl := gl) l hN
    rw [hf] at hc
    repeat' (first
 | ((with_reducible apply r_call); exact rfl; exact rfl; exact hc; exact rfl; exact rfl)
 | ((with_reducible apply aw_seq))
 | ((with_reducible apply aw_region))
 | ((with_reducible apply thn_normal))
 | ((with_reducible apply aw_ret))
 | ((with_reducible apply ao_nil))
 | ((with_reducible apply r_move); exact rfl; exact rfl)
 | ((with_reducible apply r_assign); exact rfl; exact rfl)
 | ((with_reducible apply r_load_pa); exact rfl; exact rfl; exact rfl; exact rfl; exact rfl)
 | ((with_reducible apply r_box_a); exact rfl; exact rfl)
 | ((with_reducible apply r_pick_f); exact rfl; exact rfl; exact rfl)
 | (((with_reducible apply r_guard); exact rfl; exact rfl; exact rfl; exact rfl) <;> intro hg <;> (first | (exact absurd hg (by decide)) | ((try simp only [decide_eq_true_eq, decide_eq_false_iff_not, Bool.not_eq_true', Bool.not_eq_false', Bool.not_true, Bool.not_false, Bool.not_not, Int.not_lt, Int.not_le, Nat.not_lt, Nat.not_le, gt_iff_lt, ge_iff_le, List.cons.injEq, and_true] at hg); first | (exact absurd trivial hg) | (exfalso; omega) | (have hT : True := hg; clear hT hg) | skip)))
 )
    exact ret_b rfl (by unfold shortS; rw [hf]; rfl)
  | true =>
    have hc := few_con (gl := gl) l hN
    rw [hf] at hc
    repeat' (first
 | ((with_reducible apply r_call); exact rfl; exact rfl; exact hc; exact rfl; exact rfl)
 | ((with_reducible apply aw_seq))
 | ((with_reducible apply aw_region))
 | ((with_reducible apply thn_normal))
 | ((with_reducible apply aw_ret))
 | ((with_reducible apply ao_nil))
 | ((with_reducible apply r_move); exact rfl; exact rfl)
 | ((with_reducible apply r_assign); exact rfl; exact rfl)
 | ((with_reducible apply r_field_p); exact rfl; exact rfl)
 | ((with_reducible apply r_load_p); exact rfl; exact rfl; exact rfl; exact rfl)
 | ((with_reducible apply r_load_pa); exact rfl; exact rfl; exact rfl; exact rfl; exact rfl)
 | ((with_reducible apply r_leq); exact rfl; exact rfl; exact rfl)
 | ((with_reducible apply r_box_a); exact rfl; exact rfl)
 | ((with_reducible apply r_pick_t); exact rfl; exact rfl; exact rfl)
 | ((with_reducible apply r_pick_f); exact rfl; exact rfl; exact rfl)
 | ((with_reducible apply r_len_f); exact rfl; exact inferInstance; exact rfl)
 | (((with_reducible apply r_guard); exact rfl; exact rfl; exact rfl; exact rfl) <;> intro hg <;> (first | (exact absurd hg (by decide)) | ((try simp only [decide_eq_true_eq, decide_eq_false_iff_not, Bool.not_eq_true', Bool.not_eq_false', Bool.not_true, Bool.not_false, Bool.not_not, Int.not_lt, Int.not_le, Nat.not_lt, Nat.not_le, gt_iff_lt, ge_iff_le, List.cons.injEq, and_true] at hg); first | (exact absurd trivial hg) | (exfalso; omega) | (have hT : True := hg; clear hT hg) | skip)))
 )
    · refine ret_b rfl ?_
      unfold shortS; rw [hf, decide_eq_true hg, Bool.true_and, Bool.true_and]
      exact decide_eq_decide.2 (by omega)
    · exact ret_b rfl (by unfold shortS; rw [hf, decide_eq_false (by omega)]; rfl)
structure Plain where
  len : Int
  kerf : Int
  pitch : Int
  sizes : List Int
  gains : List Int
  chip : Int
  dust : Int
def plainL (x : Plain) : List CV := [I x.len, I x.kerf, I x.pitch, LI x.sizes, LI x.gains, I x.chip, I x.dust]
def plainC (x : Plain) : CV := .agg (plainL x)
noncomputable def uniP (x : Plain) : Line × Int := uniS x.len x.kerf x.pitch x.sizes x.gains x.chip x.dust
theorem uniform_con (x : Plain) (h1 : x.sizes.length ≤ 100000) (h2 : x.gains.length ≤ 100000) : Con Tryd.prog gl 24 [plainC x] (uniC (uniP x)) := by
  have hu := uni_con (gl := gl) x.len x.kerf x.pitch x.sizes x.gains x.chip x.dust h1 h2
  unfold uniP
  generalize uniS x.len x.kerf x.pitch x.sizes x.gains x.chip x.dust = r at *
  refine con_of Tryd.func24 rfl (by kernel_rfl) rfl ?_
  simp only [Tryd.ntmps24, Tryd.results24, argEnv, ofC, of1, List.map, plainC, plainL]
  repeat' (first
 | ((with_reducible apply r_call); exact rfl; exact rfl; exact hu; exact rfl; exact rfl)
 | ((with_reducible apply aw_seq))
 | ((with_reducible apply aw_region))
 | ((with_reducible apply thn_normal))
 | ((with_reducible apply aw_ret))
 | ((with_reducible apply ao_nil))
 | ((with_reducible apply r_assign); exact rfl; exact rfl)
 | ((with_reducible apply r_field_p); exact rfl; exact rfl)
 | ((with_reducible apply r_load_p); exact rfl; exact rfl; exact rfl; exact rfl)
 | ((with_reducible apply r_box_a); exact rfl; exact rfl)
 | ((with_reducible apply r_store_pa); exact rfl; exact rfl; exact rfl; exact rfl; exact rfl; exact rfl)
 | ((with_reducible apply r_extract); exact rfl; exact rfl; exact rfl)
 | ((with_reducible apply r_alloc); exact rfl)
 )
  exact ret2 (.cons (.cell_a inferInstance rfl rfl rfl rfl (cl_cons cl_c (cl_cons cl_c (cl_cons cl_c (cl_cons cl_c (cl_cons cl_c (cl_cons cl_c (cl_cons cl_c cl_nil)))))))) (.cons (.tmp rfl cl_c) .nil))
theorem TT_table {l : Line} (v : Valid l) (W : Int → Int) (T : Int → Ch) (h : ∀ k : Nat, k ≤ l.len.toNat → chooseS l W k = T k ∧ (T k).2.2 = W k) : ∀ (n k : Nat), n + k = l.len.toNat → TT l k = T k := by
  have hl := v.len
  intro n
  induction n using Nat.strongRecOn with
  | ind n ih =>
    intro k hk
    rw [TT_eq v (by omega) (by omega)]
    have : chooseS l (TV l) k = chooseS l W k := chooseS_congr v (by omega) (fun x hx hx2 => by
      have e : ((x.toNat : Nat) : Int) = x := by omega
      have h1 := ih (l.len.toNat - x.toNat) (by omega) x.toNat (by omega)
      have h2 := (h x.toNat (by omega)).2
      rw [e] at h1 h2
      unfold TV
      rw [h1, h2])
    rw [this, (h k (by omega)).1]
def L1 : Line := lineU 10 1 1 [4] [5] 0 0
def L2 : Line := lineU 10 1 1 [4] [5] 2 (-1)
theorem shape_u (c d : Int) : shapeOk (lineU 10 1 1 [4] [5] c d) := by
  refine ⟨rfl, rfl, rfl, fun i hi => ?_⟩
  have : i = 0 := by have : i < 1 := hi; omega
  subst this
  intro _ _; rfl
theorem chk_L1 : chk L1 = 0 := (chk0 (by decide) (shape_u _ _) (by decide) (by decide)).symm
theorem chk_L2 : chk L2 = 0 := (chk0 (by decide) (shape_u _ _) (by decide) (by decide)).symm
def W1 (e : Int) : Int := if e ≤ 1 then 10 else if e ≤ 6 then 5 else 0
def T1 (e : Int) : Ch := if e ≤ 6 then (0, e, W1 e) else (-1, -1, 0)
def T2 (e : Int) : Ch := (-1, -1, 2 * (10 - e))
theorem tab1 : ∀ k : Nat, k ≤ 10 → chooseS L1 W1 k = T1 k ∧ (T1 k).2.2 = W1 k := by decide +kernel
theorem tab2 : ∀ k : Nat, k ≤ 10 → chooseS L2 (fun e => 2 * (10 - e)) k = T2 k ∧ (T2 k).2.2 = 2 * (10 - (k : Int)) := by decide +kernel
theorem TT1 (k : Nat) (hk : k ≤ 10) : TT L1 k = T1 k := TT_table (valid_of chk_L1) W1 T1 tab1 (10 - k) k (by show 10 - k + k = 10; omega)
theorem TT2 (k : Nat) (hk : k ≤ 10) : TT L2 k = T2 k := TT_table (valid_of chk_L2) (fun e => 2 * (10 - e)) T2 tab2 (10 - k) k (by show 10 - k + k = 10; omega)
theorem best_L1 : bestS L1 = ([(0, 0), (0, 5)], 10, 0) := by
  rw [best_ok chk_L1]
  have t0 : TT L1 0 = (0, 0, 10) := TT1 0 (by decide)
  have t5 : TT L1 5 = (0, 5, 5) := TT1 5 (by decide)
  have t10 : TT L1 10 = (-1, -1, 0) := TT1 10 (by decide)
  have hv : TV L1 0 = 10 := by unfold TV; rw [t0]
  rw [hv]
  show (chainS L1 (9 + 1 + 1 + 1) 0, _, _) = _
  rw [chain_go (by decide) (by rw [t0]; decide), t0]
  dsimp only
  rw [show behindS L1 (0 + szOf L1 0) = 5 from by decide, chain_go (by decide) (by rw [t5]; decide), t5]
  dsimp only
  rw [show behindS L1 (5 + szOf L1 0) = 10 from by decide, chain_stop (.inr (by rw [t10]; decide))]
theorem best_L2 : bestS L2 = ([], 20, 0) := by
  rw [best_ok chk_L2]
  have t0 : TT L2 0 = (-1, -1, 20) := TT2 0 (by decide)
  have hv : TV L2 0 = 20 := by unfold TV; rw [t0]
  rw [hv, chain_stop (.inr (by rw [t0]; decide))]
theorem uni_L1 : uniP ⟨10, 1, 1, [4], [5], 0, 0⟩ = (L1, 0) := by
  unfold uniP uniS
  rw [if_neg (by decide), if_neg (by decide)]
  have := chk_L1
  unfold L1 at this ⊢
  rw [if_neg (fun hh => hh this)]
theorem uni_L2 : uniP ⟨10, 1, 1, [4], [5], 2, -1⟩ = (L2, 0) := by
  unfold uniP uniS
  rw [if_neg (by decide), if_neg (by decide)]
  have := chk_L2
  unfold L2 at this ⊢
  rw [if_neg (fun hh => hh this)]
theorem cuts_a : cutsS L1 [(0, 2)] = (0, [(1, 2), (6, 7)], [(0, 1), (7, 10)]) := by
  unfold cutsS; rw [if_neg (fun hh => hh chk_L1)]; decide +kernel
theorem cuts_b : cutsS L1 [(0, 1)] = (11, [], []) := by
  unfold cutsS; rw [if_neg (fun hh => hh chk_L1)]; decide +kernel
end Go.Proofs.YtjofnmklkndhoaaDoor.Cu
/- Walks of the laws on cutting: awake, and the laws that compare with the reference. -/
namespace Go.Proofs.YtjofnmklkndhoaaDoor.Cu
set_option linter.unusedVariables false
set_option linter.unusedSimpArgs false
open Go.RowKit Go.Proofs.YtjofnmklkndhoaaDoor.Ev
theorem cuts_c : cutsS L2 [(0, 0)] = (0, [(4, 5)], [(5, 10)]) := by
  unfold cutsS; rw [if_neg (fun hh => hh chk_L2)]; decide +kernel
theorem val_c : valS L2 [(0, 0)] = (14, 0) := by rw [valS_ok cuts_c]; decide +kernel
theorem awake_con : Con Tryd.prog G 12 [] T := by
  have hU1 := uniform_con (gl := G) ⟨10, 1, 1, [4], [5], 0, 0⟩ (by decide) (by decide)
  have hU2 := uniform_con (gl := G) ⟨10, 1, 1, [4], [5], 2, -1⟩ (by decide) (by decide)
  have hB1 := best_con L1
  have hB2 := best_con L2
  have hCa := cuts_con (gl := G) L1 [(0, 2)] (by decide)
  have hCb := cuts_con (gl := G) L1 [(0, 1)] (by decide)
  have hV := value_con (gl := G) L2 [(0, 0)] (by decide)
  rw [uni_L1] at hU1
  rw [uni_L2] at hU2
  rw [best_L1] at hB1
  rw [best_L2] at hB2
  rw [cuts_a] at hCa
  rw [cuts_b] at hCb
  rw [val_c] at hV
  refine con_of Tryd.func12 rfl (by kernel_rfl) rfl ?_
  simp only [Tryd.ntmps12, Tryd.results12, argEnv, ofC, of1, List.map]
  repeat' (first
 | ((with_reducible apply r_litq); exact rfl; exact rfl; exact rfl; exact rfl; exact rfl; exact rfl; exact rfl)
 | ((with_reducible apply r_call); exact rfl; exact rfl; (first | exact hU1 | exact hU2 | exact hB1 | exact hB2 | exact hCa | exact hCb | exact hV); exact rfl; exact rfl)
 | ((with_reducible apply (r_index_f (k := 0))); exact rfl; exact inferInstance; exact rfl; exact rfl; exact (by decide); exact rfl)
 | ((with_reducible apply (r_index_f (k := 1))); exact rfl; exact inferInstance; exact rfl; exact rfl; exact (by decide); exact rfl)
 | ((with_reducible apply (r_load_fa0 (k := 0))); exact rfl; exact inferInstance; exact rfl; exact rfl; exact rfl; exact rfl)
 | ((with_reducible apply (r_load_fa0 (k := 1))); exact rfl; exact inferInstance; exact rfl; exact rfl; exact rfl; exact rfl)
 | ((with_reducible apply aw_seq))
 | ((with_reducible apply aw_region))
 | ((with_reducible apply thn_normal))
 | ((with_reducible apply aw_skip))
 | ((with_reducible apply aw_ret))
 | ((with_reducible apply ao_nil))
 | ((with_reducible apply r_move); exact rfl; exact rfl)
 | ((with_reducible apply r_assign); exact rfl; exact rfl)
 | ((with_reducible apply r_field_p); exact rfl; exact rfl)
 | ((with_reducible apply r_load_pa); exact rfl; exact rfl; exact rfl; exact rfl; exact rfl)
 | ((with_reducible apply r_eql); exact rfl; exact rfl; exact rfl)
 | ((with_reducible apply r_neq); exact rfl; exact rfl; exact rfl)
 | ((with_reducible apply r_pick_t); exact rfl; exact rfl; exact rfl)
 | ((with_reducible apply r_pick_f); exact rfl; exact rfl; exact rfl)
 | ((with_reducible apply r_len_f); exact rfl; exact inferInstance; exact rfl)
 | ((with_reducible apply r_store_p); exact rfl; exact rfl; exact rfl; exact rfl; exact rfl; exact rfl)
 | ((with_reducible apply r_store_pa); exact rfl; exact rfl; exact rfl; exact rfl; exact rfl; exact rfl)
 | ((with_reducible apply r_build); exact rfl; exact rfl; exact rfl)
 | ((with_reducible apply r_extract); exact rfl; exact rfl; exact rfl)
 | ((with_reducible apply r_alloc); exact rfl)
 | (((with_reducible apply r_guard); exact rfl; exact rfl; exact rfl; exact rfl) <;> intro hg <;> (first | (exact absurd hg (by decide)) | ((try simp only [decide_eq_true_eq, decide_eq_false_iff_not, Bool.not_eq_true', Bool.not_eq_false', Bool.not_true, Bool.not_false, Bool.not_not, Int.not_lt, Int.not_le, Nat.not_lt, Nat.not_le, gt_iff_lt, ge_iff_le, List.cons.injEq, and_true] at hg); first | (exact absurd trivial hg) | (exfalso; omega) | (have hT : True := hg; clear hT hg) | skip)))
 | (((with_reducible apply aw_cond); exact rfl) <;> intro hg <;> (first | (exact absurd hg (by decide)) | ((try simp only [decide_eq_true_eq, decide_eq_false_iff_not, Bool.not_eq_true', Bool.not_eq_false', Bool.not_true, Bool.not_false, Bool.not_not, Int.not_lt, Int.not_le, Nat.not_lt, Nat.not_le, gt_iff_lt, ge_iff_le, List.cons.injEq, and_true] at hg); first | (exact absurd trivial hg) | (exfalso; omega) | (have hT : True := hg; clear hT hg) | skip)))
 | ((with_reducible apply r_eqs); exact rfl; exact rfl; exact rfl; exact rfl; exact rfl; exact rfl; exact rfl)
 )
  all_goals first | exact ret_b rfl rfl | exact ret_b rfl (by decide) | trace_state
end Go.Proofs.YtjofnmklkndhoaaDoor.Cu
/- Walks of the laws on cutting that compare with the reference. -/
namespace Go.Proofs.YtjofnmklkndhoaaDoor.Cu
set_option linter.unusedVariables false
set_option linter.unusedSimpArgs false
open Go.RowKit Go.Proofs.YtjofnmklkndhoaaDoor.Ev
theorem short_out {l : Line} (h : shortS l = true) : fewS l = true ∧ l.len ≤ 120 ∧ l.sizes.length ≤ 8 := by
  unfold shortS at h; simpa using h
end Go.Proofs.YtjofnmklkndhoaaDoor.Cu
/- Walks of the laws on cutting: scaled, CuttingScales. -/
namespace Go.Proofs.YtjofnmklkndhoaaDoor.Cu
set_option linter.unusedVariables false
set_option linter.unusedSimpArgs false
open Go.RowKit Go.Proofs.YtjofnmklkndhoaaDoor.Ev
variable {gl : List (Nat × List CV)}
abbrev nilL : List AV := [A 0, A 0, A 0, .c (.v (.slice none 0 0)), .c (.v (.slice none 0 0)), .c (.v (.slice none 0 0)), .c (.v (.slice none 0 0))]
end Go.Proofs.YtjofnmklkndhoaaDoor.Cu
