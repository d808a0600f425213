/-
  No cell of these rows narrows 'for every input' (looked for: loops, veiled, ifaces, maps, wideKeys, modest, calm, conditions, laid).
  DERIVED. THE GIVEN ROWS OF THIS SEAT. 8 by the template 'for every input the law returns true; each argument reads behind the call as it read before'; 0 by the template 'total and deterministic' (their statements: YtjpmidiklfiinaaTotals.lean).
  GIVEN WITH THE SEED: the statements are not yours to turn. If you find one false, say at which input.
  Laid BY PROGRAM, IN A SANDBOX (cutbox-rows.mjs): the forced cells as the released guide's own fill.sh prints them over the translation 41ba4d1d1544e5de… (all of the seat's roots in one cut). By AI agents, Wed Nov 11 2026. No macro, syntax, notation, axiom, sorry.
-/
import Derived.Test.YtjpmidiklfiinaaChecked
import GoSem.Claim
import GoSem.ClaimJoined
import GoSem.ClaimMapViews
import Derived.JoinedTies
import Derived.KernelRfl
namespace Go.Proofs.Ytjpmidiklfiinaa
/- THE CELL 'sum', in the pinned program and in every row, IS THE sha256 OF THE DUMP (.gsa) THAT YtjpmidiklfiinaaProg.lean LOADS. Nothing in Lean hashes anything: it is a label: what it is worth is what the hold of that sum in a sandbox is worth. -/
noncomputable def Try.pinned : Pinned := { name := "ytjpmidiklfiinaa", sum := "41ba4d1d1544e5de1c9903aa39447db1faf076506359e11b33874fb989ebe98c", checked := Try.checked }
namespace Rows
def none {H : Type} : Left H := { results := [], args := [] }

/-- 'sawmilllaw11.SolidChecks': WHATEVER THE INPUT: true; the input reads as it did. -/
def solidChecksSpec : ChangeSpec := { name := "solidChecks", fn := fun _ => fun
  | [d] => { results := [.lit (.bool true)], args := [d] }
  | _ => none }
def solidChecksRow : OpenClaim := { program := "ytjpmidiklfiinaa", sum := "41ba4d1d1544e5de1c9903aa39447db1faf076506359e11b33874fb989ebe98c", func := "sawmill/sawmilllaw11.SolidChecks", spec := "solidChecks", unfollowed := true, recurses := true, apart := false }
def SolidChecksSaid : Prop := solidChecksRow.holds Try.pinned (OpenSpec.ofChange solidChecksSpec)

/-- ITS FALSE NEIGHBOUR: 'it returns false'. Refute it at one input. -/
def solidChecksWrong : ChangeSpec := { name := "solidChecks", fn := fun _ => fun
  | [d] => { results := [.lit (.bool false)], args := [d] }
  | _ => none }
def SolidChecksWrongFalsely : Prop := solidChecksRow.holds Try.pinned (OpenSpec.ofChange solidChecksWrong)

/-- 'sawmilllaw11.SolidWithin': WHATEVER THE INPUT: true; the input reads as it did. -/
def solidWithinSpec : ChangeSpec := { name := "solidWithin", fn := fun _ => fun
  | [d1, d2] => { results := [.lit (.bool true)], args := [d1, d2] }
  | _ => none }
def solidWithinRow : OpenClaim := { program := "ytjpmidiklfiinaa", sum := "41ba4d1d1544e5de1c9903aa39447db1faf076506359e11b33874fb989ebe98c", func := "sawmill/sawmilllaw11.SolidWithin", spec := "solidWithin", unfollowed := true, recurses := true, apart := false }
def SolidWithinSaid : Prop := solidWithinRow.holds Try.pinned (OpenSpec.ofChange solidWithinSpec)

/-- ITS FALSE NEIGHBOUR: 'it returns false'. Refute it at one input. -/
def solidWithinWrong : ChangeSpec := { name := "solidWithin", fn := fun _ => fun
  | [d1, d2] => { results := [.lit (.bool false)], args := [d1, d2] }
  | _ => none }
def SolidWithinWrongFalsely : Prop := solidWithinRow.holds Try.pinned (OpenSpec.ofChange solidWithinWrong)

/-- 'sawmilllaw11.SolidParts': WHATEVER THE INPUT: true; the input reads as it did. -/
def solidPartsSpec : ChangeSpec := { name := "solidParts", fn := fun _ => fun
  | [d1, d2, d3] => { results := [.lit (.bool true)], args := [d1, d2, d3] }
  | _ => none }
def solidPartsRow : OpenClaim := { program := "ytjpmidiklfiinaa", sum := "41ba4d1d1544e5de1c9903aa39447db1faf076506359e11b33874fb989ebe98c", func := "sawmill/sawmilllaw11.SolidParts", spec := "solidParts", unfollowed := true, recurses := true, apart := false }
def SolidPartsSaid : Prop := solidPartsRow.holds Try.pinned (OpenSpec.ofChange solidPartsSpec)

/-- ITS FALSE NEIGHBOUR: 'it returns false'. Refute it at one input. -/
def solidPartsWrong : ChangeSpec := { name := "solidParts", fn := fun _ => fun
  | [d1, d2, d3] => { results := [.lit (.bool false)], args := [d1, d2, d3] }
  | _ => none }
def SolidPartsWrongFalsely : Prop := solidPartsRow.holds Try.pinned (OpenSpec.ofChange solidPartsWrong)

/-- 'sawmilllaw11.SolidCut': WHATEVER THE INPUT: true; the input reads as it did. -/
def solidCutSpec : ChangeSpec := { name := "solidCut", fn := fun _ => fun
  | [d1, d2, d3] => { results := [.lit (.bool true)], args := [d1, d2, d3] }
  | _ => none }
def solidCutRow : OpenClaim := { program := "ytjpmidiklfiinaa", sum := "41ba4d1d1544e5de1c9903aa39447db1faf076506359e11b33874fb989ebe98c", func := "sawmill/sawmilllaw11.SolidCut", spec := "solidCut", unfollowed := true, recurses := true, apart := false }
def SolidCutSaid : Prop := solidCutRow.holds Try.pinned (OpenSpec.ofChange solidCutSpec)

/-- ITS FALSE NEIGHBOUR: 'it returns false'. Refute it at one input. -/
def solidCutWrong : ChangeSpec := { name := "solidCut", fn := fun _ => fun
  | [d1, d2, d3] => { results := [.lit (.bool false)], args := [d1, d2, d3] }
  | _ => none }
def SolidCutWrongFalsely : Prop := solidCutRow.holds Try.pinned (OpenSpec.ofChange solidCutWrong)

/-- 'sawmilllaw11.SolidBounds': WHATEVER THE INPUT: true; the input reads as it did. -/
def solidBoundsSpec : ChangeSpec := { name := "solidBounds", fn := fun _ => fun
  | [d1, d2, d3] => { results := [.lit (.bool true)], args := [d1, d2, d3] }
  | _ => none }
def solidBoundsRow : OpenClaim := { program := "ytjpmidiklfiinaa", sum := "41ba4d1d1544e5de1c9903aa39447db1faf076506359e11b33874fb989ebe98c", func := "sawmill/sawmilllaw11.SolidBounds", spec := "solidBounds", unfollowed := true, recurses := true, apart := false }
def SolidBoundsSaid : Prop := solidBoundsRow.holds Try.pinned (OpenSpec.ofChange solidBoundsSpec)

/-- ITS FALSE NEIGHBOUR: 'it returns false'. Refute it at one input. -/
def solidBoundsWrong : ChangeSpec := { name := "solidBounds", fn := fun _ => fun
  | [d1, d2, d3] => { results := [.lit (.bool false)], args := [d1, d2, d3] }
  | _ => none }
def SolidBoundsWrongFalsely : Prop := solidBoundsRow.holds Try.pinned (OpenSpec.ofChange solidBoundsWrong)

/-- 'sawmilllaw11.SolidCommon': WHATEVER THE INPUT: true; the input reads as it did. -/
def solidCommonSpec : ChangeSpec := { name := "solidCommon", fn := fun _ => fun
  | [d1, d2, d3] => { results := [.lit (.bool true)], args := [d1, d2, d3] }
  | _ => none }
def solidCommonRow : OpenClaim := { program := "ytjpmidiklfiinaa", sum := "41ba4d1d1544e5de1c9903aa39447db1faf076506359e11b33874fb989ebe98c", func := "sawmill/sawmilllaw11.SolidCommon", spec := "solidCommon", unfollowed := true, recurses := true, apart := false }
def SolidCommonSaid : Prop := solidCommonRow.holds Try.pinned (OpenSpec.ofChange solidCommonSpec)

/-- ITS FALSE NEIGHBOUR: 'it returns false'. Refute it at one input. -/
def solidCommonWrong : ChangeSpec := { name := "solidCommon", fn := fun _ => fun
  | [d1, d2, d3] => { results := [.lit (.bool false)], args := [d1, d2, d3] }
  | _ => none }
def SolidCommonWrongFalsely : Prop := solidCommonRow.holds Try.pinned (OpenSpec.ofChange solidCommonWrong)

/-- 'sawmilllaw11.SolidTurns': WHATEVER THE INPUT: true; the input reads as it did. -/
def solidTurnsSpec : ChangeSpec := { name := "solidTurns", fn := fun _ => fun
  | [d] => { results := [.lit (.bool true)], args := [d] }
  | _ => none }
def solidTurnsRow : OpenClaim := { program := "ytjpmidiklfiinaa", sum := "41ba4d1d1544e5de1c9903aa39447db1faf076506359e11b33874fb989ebe98c", func := "sawmill/sawmilllaw11.SolidTurns", spec := "solidTurns", unfollowed := true, recurses := true, apart := false }
def SolidTurnsSaid : Prop := solidTurnsRow.holds Try.pinned (OpenSpec.ofChange solidTurnsSpec)

/-- ITS FALSE NEIGHBOUR: 'it returns false'. Refute it at one input. -/
def solidTurnsWrong : ChangeSpec := { name := "solidTurns", fn := fun _ => fun
  | [d] => { results := [.lit (.bool false)], args := [d] }
  | _ => none }
def SolidTurnsWrongFalsely : Prop := solidTurnsRow.holds Try.pinned (OpenSpec.ofChange solidTurnsWrong)

/-- 'sawmilllaw11.SolidReverse': WHATEVER THE INPUT: true; the input reads as it did. -/
def solidReverseSpec : ChangeSpec := { name := "solidReverse", fn := fun _ => fun
  | [d1, d2] => { results := [.lit (.bool true)], args := [d1, d2] }
  | _ => none }
def solidReverseRow : OpenClaim := { program := "ytjpmidiklfiinaa", sum := "41ba4d1d1544e5de1c9903aa39447db1faf076506359e11b33874fb989ebe98c", func := "sawmill/sawmilllaw11.SolidReverse", spec := "solidReverse", unfollowed := true, recurses := true, apart := false }
def SolidReverseSaid : Prop := solidReverseRow.holds Try.pinned (OpenSpec.ofChange solidReverseSpec)

/-- ITS FALSE NEIGHBOUR: 'it returns false'. Refute it at one input. -/
def solidReverseWrong : ChangeSpec := { name := "solidReverse", fn := fun _ => fun
  | [d1, d2] => { results := [.lit (.bool false)], args := [d1, d2] }
  | _ => none }
def SolidReverseWrongFalsely : Prop := solidReverseRow.holds Try.pinned (OpenSpec.ofChange solidReverseWrong)

/- THE SECOND FORM. 'bulk': how many values and letters a reading holds, each counted each time it is reached (what is shared counts as often as it is met; a slice's spare places count too). A statement '..UptoSaid' is the law's where the arguments, and the package variables that the reading takes, are together of bulk at most 1048576: NARROWER than '..Said'. Prove '..Said' where nothing that the law and all that it calls make is longer than what came in: it says more and counts as full. Else prove '..UptoSaid'. A law counts once. -/
mutual
def uptoBulk {H : Type} : DataW H → Nat
  | .lit (.string bytes) => bytes.length + 1
  | .lit _ => 1
  | .nil => 1
  | .ptr d => uptoBulk d + 1
  | .slice elems spare => uptoBulkAll elems + uptoBulkAll spare + 1
  | .agg parts => uptoBulkAll parts + 1
  | .iface _ d => uptoBulk d + 1
  | .map entries => uptoBulkEntries entries + 1
  | .held _ => 1
def uptoBulkAll {H : Type} : List (DataW H) → Nat
  | [] => 0
  | d :: r => uptoBulk d + uptoBulkAll r
def uptoBulkEntries {H : Type} : List (Lit × DataW H) → Nat
  | [] => 0
  | x :: r => uptoBulkEntry x + uptoBulkEntries r
def uptoBulkEntry {H : Type} : Lit × DataW H → Nat
  | (.string bytes, d) => bytes.length + uptoBulk d + 1
  | (_, d) => uptoBulk d + 1
 end
def uptoSmall : (H : Type) → List (DataW H) → Bool := fun _ ds => decide (uptoBulkAll ds ≤ 1048576)
def OpenSpec.upto (s : _root_.Go.ChangeSpec) : _root_.Go.OpenSpec := { _root_.Go.OpenSpec.ofChange s with cond := some uptoSmall }

/-- 'sawmilllaw11.SolidChecks', WHERE WHAT IT READS IS OF BULK AT MOST 1048576: true; the input reads as it did. -/
def solidChecksUptoRow : OpenClaim := { program := "ytjpmidiklfiinaa", sum := "41ba4d1d1544e5de1c9903aa39447db1faf076506359e11b33874fb989ebe98c", func := "sawmill/sawmilllaw11.SolidChecks", spec := "solidChecks", unfollowed := true, recurses := true, apart := false, narrowed := true }
def SolidChecksUptoSaid : Prop := solidChecksUptoRow.holds Try.pinned (OpenSpec.upto solidChecksSpec)

/-- 'sawmilllaw11.SolidWithin', WHERE WHAT IT READS IS OF BULK AT MOST 1048576: true; the input reads as it did. -/
def solidWithinUptoRow : OpenClaim := { program := "ytjpmidiklfiinaa", sum := "41ba4d1d1544e5de1c9903aa39447db1faf076506359e11b33874fb989ebe98c", func := "sawmill/sawmilllaw11.SolidWithin", spec := "solidWithin", unfollowed := true, recurses := true, apart := false, narrowed := true }
def SolidWithinUptoSaid : Prop := solidWithinUptoRow.holds Try.pinned (OpenSpec.upto solidWithinSpec)

/-- 'sawmilllaw11.SolidParts', WHERE WHAT IT READS IS OF BULK AT MOST 1048576: true; the input reads as it did. -/
def solidPartsUptoRow : OpenClaim := { program := "ytjpmidiklfiinaa", sum := "41ba4d1d1544e5de1c9903aa39447db1faf076506359e11b33874fb989ebe98c", func := "sawmill/sawmilllaw11.SolidParts", spec := "solidParts", unfollowed := true, recurses := true, apart := false, narrowed := true }
def SolidPartsUptoSaid : Prop := solidPartsUptoRow.holds Try.pinned (OpenSpec.upto solidPartsSpec)

/-- 'sawmilllaw11.SolidCut', WHERE WHAT IT READS IS OF BULK AT MOST 1048576: true; the input reads as it did. -/
def solidCutUptoRow : OpenClaim := { program := "ytjpmidiklfiinaa", sum := "41ba4d1d1544e5de1c9903aa39447db1faf076506359e11b33874fb989ebe98c", func := "sawmill/sawmilllaw11.SolidCut", spec := "solidCut", unfollowed := true, recurses := true, apart := false, narrowed := true }
def SolidCutUptoSaid : Prop := solidCutUptoRow.holds Try.pinned (OpenSpec.upto solidCutSpec)

/-- 'sawmilllaw11.SolidBounds', WHERE WHAT IT READS IS OF BULK AT MOST 1048576: true; the input reads as it did. -/
def solidBoundsUptoRow : OpenClaim := { program := "ytjpmidiklfiinaa", sum := "41ba4d1d1544e5de1c9903aa39447db1faf076506359e11b33874fb989ebe98c", func := "sawmill/sawmilllaw11.SolidBounds", spec := "solidBounds", unfollowed := true, recurses := true, apart := false, narrowed := true }
def SolidBoundsUptoSaid : Prop := solidBoundsUptoRow.holds Try.pinned (OpenSpec.upto solidBoundsSpec)

/-- 'sawmilllaw11.SolidCommon', WHERE WHAT IT READS IS OF BULK AT MOST 1048576: true; the input reads as it did. -/
def solidCommonUptoRow : OpenClaim := { program := "ytjpmidiklfiinaa", sum := "41ba4d1d1544e5de1c9903aa39447db1faf076506359e11b33874fb989ebe98c", func := "sawmill/sawmilllaw11.SolidCommon", spec := "solidCommon", unfollowed := true, recurses := true, apart := false, narrowed := true }
def SolidCommonUptoSaid : Prop := solidCommonUptoRow.holds Try.pinned (OpenSpec.upto solidCommonSpec)

/-- 'sawmilllaw11.SolidTurns', WHERE WHAT IT READS IS OF BULK AT MOST 1048576: true; the input reads as it did. -/
def solidTurnsUptoRow : OpenClaim := { program := "ytjpmidiklfiinaa", sum := "41ba4d1d1544e5de1c9903aa39447db1faf076506359e11b33874fb989ebe98c", func := "sawmill/sawmilllaw11.SolidTurns", spec := "solidTurns", unfollowed := true, recurses := true, apart := false, narrowed := true }
def SolidTurnsUptoSaid : Prop := solidTurnsUptoRow.holds Try.pinned (OpenSpec.upto solidTurnsSpec)

/-- 'sawmilllaw11.SolidReverse', WHERE WHAT IT READS IS OF BULK AT MOST 1048576: true; the input reads as it did. -/
def solidReverseUptoRow : OpenClaim := { program := "ytjpmidiklfiinaa", sum := "41ba4d1d1544e5de1c9903aa39447db1faf076506359e11b33874fb989ebe98c", func := "sawmill/sawmilllaw11.SolidReverse", spec := "solidReverse", unfollowed := true, recurses := true, apart := false, narrowed := true }
def SolidReverseUptoSaid : Prop := solidReverseUptoRow.holds Try.pinned (OpenSpec.upto solidReverseSpec)

end Rows
end Go.Proofs.Ytjpmidiklfiinaa
