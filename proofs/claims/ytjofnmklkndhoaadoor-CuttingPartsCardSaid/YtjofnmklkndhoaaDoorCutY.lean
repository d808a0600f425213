/- Pieces, dust and chips are the line: plain, and the walk of the law. -/
import Derived.Test.YtjofnmklkndhoaaDoorCutS
namespace Go.Proofs.YtjofnmklkndhoaaDoor.Cu
set_option linter.unusedVariables false
set_option linter.unusedSimpArgs false
open Go.RowKit Go.Proofs.YtjofnmklkndhoaaDoor.Ev

def ind (a b k : Int) : Int := if a ≤ k ∧ k < b then 1 else 0
def cntS (ss : List Span) (k : Int) : Int := (ss.map fun s => ind s.1 s.2 k).sum
def cntP (l : Line) (p : List Piece) (k : Int) : Int := (p.map fun x => ind x.2 (x.2 + szOf l x.1) k).sum
theorem cntS_add (ss : List Span) (a b k : Int) : cntS (addS ss a b) k = cntS ss k + ind a b k := by
  unfold addS
  split
  · unfold ind; rw [if_neg (by omega)]; omega
  · unfold cntS; rw [List.map_append, List.sum_append]; simp
theorem cntS_succ (ss : List Span) (j : Nat) (h : j < ss.length) (k : Int) : cntS (ss.take (j + 1)) k = cntS (ss.take j) k + ind ss[j].1 ss[j].2 k := by
  unfold cntS; rw [List.take_succ_eq_append_getElem h, List.map_append, List.sum_append]; simp
theorem cntP_succ (l : Line) (p : List Piece) (j : Nat) (h : j < p.length) (k : Int) : cntP l (p.take (j + 1)) k = cntP l (p.take j) k + ind p[j].2 (p[j].2 + szOf l p[j].1) k := by
  unfold cntP; rw [List.take_succ_eq_append_getElem h, List.map_append, List.sum_append]; simp
theorem ind_bd (a b k : Int) : 0 ≤ ind a b k ∧ ind a b k ≤ 1 := by unfold ind; split <;> omega
theorem cntS_bd (ss : List Span) (k : Int) : 0 ≤ cntS ss k ∧ cntS ss k ≤ ss.length := by
  induction ss with
  | nil => simp [cntS]
  | cons s ss ih =>
    have := ind_bd s.1 s.2 k
    unfold cntS at ih ⊢
    simp only [List.map_cons, List.sum_cons, List.length_cons]; omega
theorem cntP_bd (l : Line) (p : List Piece) (k : Int) : 0 ≤ cntP l p k ∧ cntP l p k ≤ p.length := by
  induction p with
  | nil => simp [cntP]
  | cons x p ih =>
    have := ind_bd x.2 (x.2 + szOf l x.1) k
    unfold cntP at ih ⊢
    simp only [List.map_cons, List.sum_cons, List.length_cons]; omega
/-- Spans one behind the other, up to e. -/
structure Srt (ss : List Span) (e : Int) : Prop where
  le : ∀ s ∈ ss, s.2 ≤ e
  nx : ∀ i (h : i + 1 < ss.length), ss[i].2 ≤ ss[i + 1].1
theorem Srt.mono {ss : List Span} {e e' : Int} (h : Srt ss e) (he : e ≤ e') : Srt ss e' := ⟨fun s hs => by have := h.le s hs; omega, h.nx⟩
theorem Srt.add {ss : List Span} {a b : Int} (h : Srt ss a) (hab : a ≤ b) : Srt (addS ss a b) b := by
  unfold addS
  split
  · exact h.mono hab
  · refine ⟨fun s hs => ?_, fun i hi => ?_⟩
    · rcases List.mem_append.1 hs with hs | hs
      · have := h.le s hs; omega
      · simp only [List.mem_singleton] at hs; subst hs; exact Int.le_refl _
    · simp only [List.length_append, List.length_cons, List.length_nil] at hi
      rw [List.getElem_append_left (by omega)]
      by_cases he : i + 1 = ss.length
      · have h1 := h.le ss[i] (List.getElem_mem (by omega))
        rw [List.getElem_append_right (by omega)]
        simpa using h1
      · rw [List.getElem_append_left (by omega)]; exact h.nx i (by omega)
theorem go_cnt {l : Line} (v : Valid l) : ∀ (p : List Piece) (e : Int) (d c D C : List Span) (f : Int → Int), -1 ≤ e → e ≤ l.len → Srt d (if e < 0 then l.len else e) → Srt c (if e < 0 then l.len else e) → (∀ k, 0 ≤ k → k < l.len → cntS d k + cntS c k + f k = if k < (if e < 0 then l.len else e) then 1 else 0) → cutsGo l p e d c = (0, D, C) →
    Srt D l.len ∧ Srt C l.len ∧ ∀ k, 0 ≤ k → k < l.len → cntS D k + cntS C k + f k + cntP l p k = 1
  | [], e, d, c, D, C, f, h1, h2, hd, hc, hf, h => by
    unfold cutsGo at h
    simp only [Prod.mk.injEq, true_and] at h
    obtain ⟨rfl, rfl⟩ := h
    have hp : ∀ k, cntP l [] k = 0 := fun _ => rfl
    by_cases he : 0 ≤ e
    · rw [if_neg (by omega)] at hd hc hf
      rw [if_pos he]
      refine ⟨hd.mono h2, hc.add h2, fun k hk1 hk2 => ?_⟩
      have := hf k hk1 hk2
      rw [hp, cntS_add]
      unfold ind
      by_cases hke : k < e
      · rw [if_pos hke] at this; rw [if_neg (by omega)]; omega
      · rw [if_neg hke] at this; rw [if_pos (by omega)]; omega
    · rw [if_pos (by omega)] at hd hc hf
      rw [if_neg he]
      refine ⟨hd, hc, fun k hk1 hk2 => ?_⟩
      have := hf k hk1 hk2
      rw [if_pos hk2] at this
      rw [hp]; omega
  | x :: p, e, d, c, D, C, f, h1, h2, hd, hc, hf, h => by
    unfold cutsGo at h
    by_cases hp : perm l e x = 0
    · rw [if_neg (fun hh => hh hp)] at h
      obtain ⟨q1, q2, q3, q4, q5, q6, q7⟩ := perm0 (l := l) (e := e) (s := x.1) (p := x.2) hp
      rw [if_neg (by omega)] at hd hc hf
      have hk := v.kerf
      have hpi := v.pitch
      obtain ⟨k0, hk1, hk2, hk3⟩ := szOf_eq (l := l) (s := x.1) q1 q2
      have hsz := v.size k0 hk2
      rw [← hk3] at hsz
      have hb := beh_cases v (q := x.2 + szOf l x.1) (by omega) (by omega)
      have hcnt : ∀ k, cntP l (x :: p) k = ind x.2 (x.2 + szOf l x.1) k + cntP l p k := fun k => by unfold cntP; simp
      have hex : x.2 = e ∨ e < x.2 - l.kerf := by generalize (x.2 - l.kerf - e).tmod l.pitch = tm at *; omega
      clear q6
      generalize szOf l x.1 = sz at *
      generalize behindS l (x.2 + sz) = be at *
      have hE : (if be < 0 then l.len else be) = l.len ∧ x.2 + sz = l.len ∧ be = -1 ∨ (if be < 0 then l.len else be) = be ∧ x.2 + sz ≤ be ∧ be ≤ l.len := by
        rcases hb with ⟨hb1, hb2⟩ | ⟨hb1, hb2, hb3, _⟩
        · exact .inl ⟨if_pos (by omega), hb1, hb2⟩
        · exact .inr ⟨if_neg (by omega), hb2, hb3⟩
      have hd2 : Srt (if e < x.2 then addS d (x.2 - l.kerf) x.2 else d) (x.2 + sz) := by
        split
        · exact (Srt.add (hd.mono (by omega)) (by omega)).mono (by omega)
        · exact hd.mono (by omega)
      have hc2 : Srt (if e < x.2 then addS c e (x.2 - l.kerf) else c) (x.2 + sz) := by
        split
        · exact (Srt.add hc (by omega)).mono (by omega)
        · exact hc.mono (by omega)
      have hd3 : Srt (addS (if e < x.2 then addS d (x.2 - l.kerf) x.2 else d) (x.2 + sz) be) (if be < 0 then l.len else be) := by
        rcases hE with ⟨e1, e2, e3⟩ | ⟨e1, e2, e3⟩
        · rw [e1, e3, addS_neg _ _ (by omega), ← e2]; exact hd2
        · rw [e1]; exact hd2.add e2
      obtain ⟨i1, i2, i3⟩ := go_cnt v p be _ _ D C (fun k => f k + ind x.2 (x.2 + sz) k) (by omega) (by omega) hd3 (hc2.mono (by omega)) (fun k k1 k2 => by
        have hfk := hf k k1 k2
        have e1 : cntS (if e < x.2 then addS d (x.2 - l.kerf) x.2 else d) k + cntS (if e < x.2 then addS c e (x.2 - l.kerf) else c) k = cntS d k + cntS c k + ind e x.2 k := by
          by_cases hh : e < x.2
          · rw [if_pos hh, if_pos hh, cntS_add, cntS_add]
            unfold ind
            split <;> split <;> split <;> omega
          · rw [if_neg hh, if_neg hh]; unfold ind; rw [if_neg (by omega)]; omega
        rw [cntS_add]
        try dsimp only
        have e2 : ind e x.2 k + ind x.2 (x.2 + sz) k + ind (x.2 + sz) be k + (if k < e then 1 else 0) = if k < (if be < 0 then l.len else be) then 1 else 0 := by
          rcases hE with ⟨e1, e2, e3⟩ | ⟨e1, e2, e3⟩
          · rw [e1]; unfold ind; (repeat' split) <;> omega
          · rw [e1]; unfold ind; (repeat' split) <;> omega
        omega) h
      refine ⟨i1, i2, fun k k1 k2 => ?_⟩
      have := i3 k k1 k2
      try dsimp only at this
      rw [hcnt]; omega
    · rw [if_pos hp] at h
      simp only [Prod.mk.injEq] at h
      exact absurd h.1 hp
theorem cuts_cnt {l : Line} {p : List Piece} {D C : List Span} (h : cutsS l p = (0, D, C)) : Srt D l.len ∧ Srt C l.len ∧ ∀ k, 0 ≤ k → k < l.len → cntS D k + cntS C k + cntP l p k = 1 := by
  obtain ⟨hc, hg⟩ := cutsS_ok h
  have v := valid_of hc
  obtain ⟨h1, h2, h3⟩ := go_cnt v p 0 [] [] D C (fun _ => 0) (by omega) v.len.1 ⟨fun s hs => by simp at hs, fun i hi => by simp at hi⟩ ⟨fun s hs => by simp at hs, fun i hi => by simp at hi⟩ (fun k k1 k2 => by simp [cntS]; omega) hg
  exact ⟨h1, h2, fun k k1 k2 => by have := h3 k k1 k2; omega⟩
theorem cuts_all {l : Line} {p : List Piece} {D C : List Span} (h : cutsS l p = (0, D, C)) : AllSp l.len D ∧ AllSp l.len C := by
  obtain ⟨hc, hg⟩ := cutsS_ok h
  have := cuts_ok (valid_of hc) hg
  exact ⟨this.1, this.2.1⟩
end Go.Proofs.YtjofnmklkndhoaaDoor.Cu
