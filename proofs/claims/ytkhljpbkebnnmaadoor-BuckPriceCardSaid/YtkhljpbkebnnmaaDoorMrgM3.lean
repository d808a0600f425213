/- MH MI: texts laid together. -/
import Derived.Test.YtkhljpbkebnnmaaDoorMrgM2
/- Walks of the laws on classes: sample, awake. -/
namespace Go.Proofs.YtkhljpbkebnnmaaDoor.Ge
set_option linter.unusedVariables false
set_option linter.unusedSimpArgs false
open Go.RowKit Go.Proofs.YtkhljpbkebnnmaaDoor.Ev
variable {gl : List (Nat × List CV)}

def row20 : List Span := List.replicate 20 (-100, 100)
def Sq : Sec := ⟨-10, row20⟩
theorem row_get (i : Nat) (h : i < row20.length) : row20[i] = (-100, 100) := List.eq_of_mem_replicate (List.getElem_mem h)
theorem Sq_chk : secChk Sq = 0 := (sc_ok ⟨by decide, ⟨by decide, by decide⟩, fun i h => by
  exact (congrArg rangeS (row_get i h)).trans rfl⟩ (by decide) (fun ⟨_, h⟩ => by
  have e : ∀ i (h : i < row20.length), emptyS row20[i] = false := fun i h => (congrArg emptyS (row_get i h)).trans rfl
  rcases h with h | h
  · exact absurd ((e _ _).symm.trans h) (by decide)
  · exact absurd ((e _ _).symm.trans h) (by decide)) (fun i h => by
  exact (congrArg okRow (row_get i h)).trans rfl)).symm
theorem Sq_area : areaS Sq = 40000 := by rw [areaS_ok Sq_chk]; rfl
theorem Sq_dia : diaS Sq = 225 := by
  unfold diaS
  rw [Sq_area]
  exact (show IsRoot (452 * 40000 / 355) 225 from ⟨by decide, by decide, by decide⟩).eq
def nmA : ByteArray := { data := #[97] }
def kA : Kl := ⟨nmA, 225, 3000, 3000, 0, 0, 0, 0, 100⟩
theorem nm_a : nameS nmA = true := name_yes ⟨by decide, by decide, rfl, fun i h1 h2 => absurd h2 (by show ¬ i < 1; omega)⟩
end Go.Proofs.YtkhljpbkebnnmaaDoor.Ge
/- Walks of the laws on classes. -/
namespace Go.Proofs.YtkhljpbkebnnmaaDoor.Ge
set_option linter.unusedVariables false
set_option linter.unusedSimpArgs false
open Go.RowKit Go.Proofs.YtkhljpbkebnnmaaDoor.Ev
variable {gl : List (Nat × List CV)}

abbrev KQ (K : List Kl) : Prop := K.length ≤ maxLen
abbrev Lg := List Slc × List Dfc
abbrev lgV (x : Lg) : CV := .agg [LL x.1, LD x.2]
theorem defGo_iff : ∀ d : List Dfc, defGo d = 0 ↔ ∀ x ∈ d, dfChk x = 0
  | [] => by simp [defGo]
  | y :: l => by
    unfold defGo
    by_cases h : dfChk y = 0
    · rw [if_pos h, defGo_iff l]; simp [h]
    · rw [if_neg h]; simp [h]
theorem defChk_iff (d : List Dfc) : defChk d = 0 ↔ d.length ≤ 64 ∧ ∀ x ∈ d, dfChk x = 0 := by
  unfold defChk
  by_cases h : 64 < d.length
  · rw [if_pos h]; simp; omega
  · rw [if_neg h, defGo_iff]; exact ⟨fun hh => ⟨by omega, hh⟩, fun hh => hh.2⟩
end Go.Proofs.YtkhljpbkebnnmaaDoor.Ge
