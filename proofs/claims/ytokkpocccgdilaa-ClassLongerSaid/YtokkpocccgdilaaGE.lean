/- Walks of geometry: sections: at, Meet; solids: Common. -/
import Derived.Test.YtokkpocccgdilaaGD
namespace Go.Proofs.Ytokkpocccgdilaa.Ge
set_option linter.unusedVariables false
set_option linter.unusedSimpArgs false
open Go.RowKit Go.Proofs.Ytokkpocccgdilaa.Ev
variable {gl : List (Nat × List CV)}

def atR (s : Sec) (r : Int) : Span := if r < s.low ∨ s.low + s.rows.length ≤ r then (0, 0) else rowD s (r - s.low).toNat
def bldStep (f : Int → Span) (r : Int) (b : Int × List Span × Nat) : Int × List Span × Nat :=
  if emptyS (f r) = false then (if b.2.2 = 0 then r else b.1, b.2.1 ++ [f r], b.2.1.length + 1)
  else if 0 < b.2.2 then (b.1, b.2.1 ++ [(0, 0)], b.2.2) else b
/-- The rows so far. -/
def bldN (f : Int → Span) : Nat → Int × List Span × Nat
  | 0 => (0, [], 0)
  | j + 1 => bldStep f (-60 + j) (bldN f j)
def bldS (f : Int → Span) : Sec := ⟨(bldN f 120).1, (bldN f 120).2.1.take (bldN f 120).2.2⟩
theorem bldN_len (f : Int → Span) : ∀ j, (bldN f j).2.1.length ≤ j ∧ (bldN f j).2.2 ≤ (bldN f j).2.1.length
  | 0 => ⟨Nat.le_refl _, Nat.le_refl _⟩
  | j + 1 => by
    have ih := bldN_len f j
    unfold bldN bldStep
    split
    · simp; omega
    · split
      · simp; omega
      · omega
noncomputable def meetSec (a b : Sec) : Sec := bldS fun r => meetS (atR (valS a) r) (atR (valS b) r)
end Go.Proofs.Ytokkpocccgdilaa.Ge
