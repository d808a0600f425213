/- GN: texts laid together. -/
import Derived.Test.YtkhljpbkebnnmaaGreatDoorMrgG3
/- Volumes add up: plain. -/
namespace Go.Proofs.YtkhljpbkebnnmaaGreatDoor.Ge
set_option linter.unusedVariables false
set_option linter.unusedSimpArgs false
open Go.RowKit Go.Proofs.YtkhljpbkebnnmaaGreatDoor.Ev
theorem sumN_congr {f g : Nat → Int} : ∀ {n : Nat}, (∀ i, i < n → f i = g i) → sumN f n = sumN g n
  | 0, _ => rfl
  | n + 1, h => by unfold sumN; rw [sumN_congr (fun i hi => h i (by omega)), h n (by omega)]
theorem getD_app {l : List Slc} {x : Slc} {i : Nat} (hi : i < l.length) : (l ++ [x]).getD i slc0 = l.getD i slc0 := by
  rw [List.getD_eq_getElem?_getD, List.getD_eq_getElem?_getD, List.getElem?_append_left hi]
theorem getD_end {l : List Slc} {x : Slc} : (l ++ [x]).getD l.length slc0 = x := by
  rw [List.getD_eq_getElem?_getD, List.getElem?_append_right (Nat.le_refl _)]; simp
theorem pos_app (l : List Slc) (x : Slc) : ∀ j, j ≤ l.length → pos (l ++ [x]) j = pos l j
  | 0, _ => rfl
  | j + 1, hj => by rw [pos_succ, pos_succ, pos_app l x j (by omega)]; unfold lenD; rw [getD_app (by omega)]
theorem vol_app (l : List Slc) (x : Slc) : volV (l ++ [x]) = volV l + x.len * areaV x.sec := by
  unfold volV
  rw [List.length_append, List.length_singleton]
  show sumN _ l.length + _ = _
  have e1 : sumN (fun i => lenD (l ++ [x]) i * areaV (secD (l ++ [x]) i)) l.length = sumN (fun i => lenD l i * areaV (secD l i)) l.length := sumN_congr fun i hi => by unfold lenD secD; rw [getD_app hi]
  rw [e1]
  show _ + lenD (l ++ [x]) l.length * areaV (secD (l ++ [x]) l.length) = _
  unfold lenD secD
  rw [getD_end]
structure CutI (l : List Slc) (Z : Span) (j : Nat) : Prop where
  v : SolV (cutN l Z j)
  len : pos (cutN l Z j) (cutN l Z j).length = sumN (ovZ l Z) j
  vol : volV (cutN l Z j) = sumN (fun i => ovZ l Z i * areaV (secD l i)) j
theorem ovZ_sum {l : List Slc} (v : SolV l) (Z : Span) : ∀ j, j ≤ l.length → 0 ≤ sumN (ovZ l Z) j ∧ sumN (ovZ l Z) j ≤ pos l j
  | 0, _ => ⟨Int.le_refl _, Int.le_refl _⟩
  | j + 1, hj => by
    have ih := ovZ_sum v Z j (by omega)
    have h1 := ovZ_bd v (show j < l.length by omega) Z
    rw [pos_succ, lenD_eq (show j < l.length by omega)]
    unfold sumN; omega
theorem cut_inv {l : List Slc} (v : SolV l) (Z : Span) : ∀ j, j ≤ l.length → CutI l Z j
  | 0, _ => ⟨nil_V, rfl, rfl⟩
  | j + 1, hj => by
    have ih := cut_inv v Z j (by omega)
    have hjl : j < l.length := by omega
    have hb := ovZ_bd v hjl Z
    by_cases h : 0 < ovZ l Z j
    · have e := (cutN_yes h).symm
      have hs := ovZ_sum v Z (j + 1) hj
      have hp := pos_bd v (j := j + 1) hj
      have hcl := cutN_len l Z j
      have hu := v.n
      have hlen2 : pos (cutN l Z j ++ [(⟨ovZ l Z j, secD l j⟩ : Slc)]) (cutN l Z j ++ [(⟨ovZ l Z j, secD l j⟩ : Slc)]).length = sumN (ovZ l Z) (j + 1) := by
        rw [List.length_append, List.length_singleton, pos_succ, pos_app _ _ _ (Nat.le_refl _), ih.len]
        unfold lenD; rw [getD_end]; rfl
      refine ⟨?_, ?_, ?_⟩
      · rw [e]
        have hget : ∀ i (hi : i < (cutN l Z j ++ [(⟨ovZ l Z j, secD l j⟩ : Slc)]).length), (i < (cutN l Z j).length ∧ ∃ h', (cutN l Z j ++ [(⟨ovZ l Z j, secD l j⟩ : Slc)])[i] = (cutN l Z j)[i]'(h')) ∨ (cutN l Z j ++ [(⟨ovZ l Z j, secD l j⟩ : Slc)])[i] = (⟨ovZ l Z j, secD l j⟩ : Slc) := fun i hi => by
          rcases Nat.lt_or_ge i (cutN l Z j).length with h1 | h1
          · exact .inl ⟨h1, h1, List.getElem_append_left h1⟩
          · right
            have : i = (cutN l Z j).length := by simp at hi; omega
            subst this; simp
        refine ⟨by simp; omega, fun i hi => ?_, fun i hi => ?_, fun i hi => ?_, by rw [hlen2]; omega⟩
        · rcases hget i hi with ⟨h1, h2, h3⟩ | h3
          · rw [h3]; exact ih.v.chk i h2
          · rw [h3]; show secChk (secD l j) = 0; rw [secD_eq hjl]; exact v.chk j hjl
        · rcases hget i hi with ⟨h1, h2, h3⟩ | h3
          · rw [h3]; exact ih.v.some i h2
          · rw [h3]; show ¬ (secD l j).rows.length = 0; rw [secD_eq hjl]; exact v.some j hjl
        · rcases hget i hi with ⟨h1, h2, h3⟩ | h3
          · rw [h3]; exact ih.v.one i h2
          · rw [h3]; show 1 ≤ ovZ l Z j; omega
      · rw [e]; exact hlen2
      · rw [e, vol_app, ih.vol]; rfl
    · have e := (cutN_no h).symm
      have h0 : ovZ l Z j = 0 := by omega
      refine ⟨by rw [e]; exact ih.v, ?_, ?_⟩
      · rw [e, ih.len]; show _ = sumN (ovZ l Z) j + ovZ l Z j; rw [h0]; omega
      · rw [e, ih.vol]; show _ = sumN (fun i => ovZ l Z i * areaV (secD l i)) j + ovZ l Z j * areaV (secD l j); rw [h0, Int.zero_mul]; omega
structure Holds (X Y : Span) (s : Sec) : Prop where
  row : ∀ i (h : i < s.rows.length), s.rows[i].1 < s.rows[i].2 → X.1 ≤ s.rows[i].1 ∧ s.rows[i].2 ≤ X.2
  low : Y.1 ≤ 10 * s.low
  high : 10 * (s.low + s.rows.length) ≤ Y.2
end Go.Proofs.YtkhljpbkebnnmaaGreatDoor.Ge
