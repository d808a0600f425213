/- Walks of the laws on solids: Small; SolidChecks, SolidWithin. -/
import Derived.Test.YtanlfjboahfanaaGL
namespace Go.Proofs.Ytanlfjboahfanaa.Ge
set_option linter.unusedVariables false
set_option linter.unusedSimpArgs false
open Go.RowKit Go.Proofs.Ytanlfjboahfanaa.Ev
variable {gl : List (Nat × List CV)}

def rowB (x : Slc) : Bool := decide (x.sec.rows.length ≤ 130)
def smallS (l : List Slc) : Bool := decide (l.length ≤ 30) && l.all rowB
theorem small_len {l : List Slc} (h : smallS l = true) : l.length ≤ 30 := by
  unfold smallS at h; simp only [Bool.and_eq_true, decide_eq_true_eq] at h; exact h.1
theorem small_row {l : List Slc} (h : smallS l = true) : ∀ i (h : i < l.length), l[i].sec.rows.length ≤ 130 := by
  unfold smallS at h; simp only [Bool.and_eq_true, decide_eq_true_eq] at h
  intro i hi
  have := List.all_eq_true.1 h.2 _ (List.getElem_mem hi)
  unfold rowB at this; simpa using this
abbrev SlQ (l : List Slc) : Prop := l.length ≤ maxLen
abbrev boxC (b : Span × Span × Span) : CV := .agg [I b.1.1, I b.1.2, I b.2.1.1, I b.2.1.2, I b.2.2.1, I b.2.2.2]
abbrev SpQ (s : Span) : Prop := fits s.1 ∧ fits s.2
abbrev BoxQ (b : Span × Span × Span) : Prop := SpQ b.1 ∧ SpQ b.2.1 ∧ SpQ b.2.2
end Go.Proofs.Ytanlfjboahfanaa.Ge
