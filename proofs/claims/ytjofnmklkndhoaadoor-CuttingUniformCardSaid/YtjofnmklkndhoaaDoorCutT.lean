/- The contracts of the laws, as their frames ask for them. -/
import Derived.Test.YtjofnmklkndhoaaDoorCutS
namespace Go.Proofs.YtjofnmklkndhoaaDoor.Cu
set_option linter.unusedVariables false
set_option linter.unusedSimpArgs false
open Go.RowKit Go.Proofs.YtjofnmklkndhoaaDoor.Ev
abbrev LineQ (l : Line) : Prop := l.gain.length ≤ maxLen ∧ ((Lit.int .i64 l.len).wf = true ∧ l.sizes.length ≤ maxLen ∧ l.chip.length ≤ maxLen ∧ l.dust.length ≤ maxLen)
theorem checks_law (l : Line) (h : LineQ l) : Con Tryd.prog G 3 [lineC l] T := checks_con l h.1
theorem cuts_law (l : Line) (h : LineQ l) (p : List Piece) (_ : p.length ≤ maxLen) : Con Tryd.prog G 4 [lineC l, LP p] T := cutsLaw_con l p h.1
theorem bests_law (l : Line) (h : LineQ l) : Con Tryd.prog G 5 [lineC l] T := bests_con l h.1
theorem uni_law (x : Plain) (_ : True) : Con Tryd.prog G 6 [plainC x] T := uniLaw_con x
end Go.Proofs.YtjofnmklkndhoaaDoor.Cu
