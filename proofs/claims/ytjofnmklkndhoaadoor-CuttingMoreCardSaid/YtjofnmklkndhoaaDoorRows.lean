/-
  NARROWER THAN 'FOR EVERY INPUT', by the rows' own cells (each row's printed sentence says how): CuttingChecks: laid · CuttingCuts: laid · CuttingBests: laid · CuttingUniform: laid · CuttingBest: laid · CuttingParts: laid · CuttingMore: laid · CuttingScales: laid.
  DERIVED. THE GIVEN ROWS OF THIS SEAT. 8 by the template 'for every input the law returns true; each argument reads behind the call as it read before'; 0 by the template 'total and deterministic' (their statements: YtjofnmklkndhoaaDoorTotals.lean).
  GIVEN WITH THE SEED: the statements are not yours to turn. If you find one false, say at which input.
  Laid BY PROGRAM, IN A SANDBOX (cutbox-rows.mjs): the forced cells as the released guide's own fill.sh prints them over the translation 9df830f11f41f6b3… (all of the seat's roots in one cut). By AI agents, Wed Nov 11 2026. No macro, syntax, notation, axiom, sorry.
-/
import Derived.Test.YtjofnmklkndhoaaDoorChecked
import GoSem.Claim
import GoSem.ClaimJoined
import GoSem.ClaimMapViews
import Derived.JoinedTies
import Derived.KernelRfl
namespace Go.Proofs.YtjofnmklkndhoaaDoor
/- THE CELL 'sum', in the pinned program and in every row, IS THE sha256 OF THE DUMP (.gsa) THAT YtjofnmklkndhoaaDoorProg.lean LOADS. Nothing in Lean hashes anything: it is a label: what it is worth is what the hold of that sum in a sandbox is worth. -/
noncomputable def Tryd.pinned : Pinned := { name := "ytjofnmklkndhoaadoor", sum := "9df830f11f41f6b3af8cd38619c40108f43cacfc11c31d005a5ab3ac0d4a9bc7", checked := Tryd.checked }
namespace Rows
def none {H : Type} : Left H := { results := [], args := [] }

/- WHAT THE LISTED PACKAGE-LEVEL VARIABLES READ AS WHEN THE CALL BEGINS. Each datum BY PROGRAM (the guide's laid-datum.mjs) off the statement by which the dump's own 'gosem.cut.vars' lays the variable. In a bare row this is a premise. The card (YtjofnmklkndhoaaDoorCards.lean) ties it to the program's text. -/
def laid_sawmill_cutting_none {H : Type} : DataW H := .agg [.lit (.int .i64 (-1)), .lit (.int .i64 (-1))]

/-- 'sawmilllaw17.CuttingChecks': WHATEVER THE INPUT: true; the input reads as it did. -/
def cuttingChecksSpec : ChangeSpec := { name := "cuttingChecks", fn := fun _ => fun
  | [d] => { results := [.lit (.bool true)], args := [d] }
  | _ => none }
def cuttingChecksRow : OpenClaim := { program := "ytjofnmklkndhoaadoor", sum := "9df830f11f41f6b3af8cd38619c40108f43cacfc11c31d005a5ab3ac0d4a9bc7", func := "sawmill/sawmilllaw17.CuttingChecks", spec := "cuttingChecks", named := ["sawmill/cutting.none"], apart := false, laid := [("sawmill/cutting.none", laid_sawmill_cutting_none)] }
def CuttingChecksSaid : Prop := cuttingChecksRow.holds Tryd.pinned (OpenSpec.ofChange cuttingChecksSpec)

/-- ITS FALSE NEIGHBOUR: 'it returns false'. Refute it at one input. -/
def cuttingChecksWrong : ChangeSpec := { name := "cuttingChecks", fn := fun _ => fun
  | [d] => { results := [.lit (.bool false)], args := [d] }
  | _ => none }
def CuttingChecksWrongFalsely : Prop := cuttingChecksRow.holds Tryd.pinned (OpenSpec.ofChange cuttingChecksWrong)

/-- 'sawmilllaw17.CuttingCuts': WHATEVER THE INPUT: true; the input reads as it did. -/
def cuttingCutsSpec : ChangeSpec := { name := "cuttingCuts", fn := fun _ => fun
  | [d1, d2] => { results := [.lit (.bool true)], args := [d1, d2] }
  | _ => none }
def cuttingCutsRow : OpenClaim := { program := "ytjofnmklkndhoaadoor", sum := "9df830f11f41f6b3af8cd38619c40108f43cacfc11c31d005a5ab3ac0d4a9bc7", func := "sawmill/sawmilllaw17.CuttingCuts", spec := "cuttingCuts", named := ["sawmill/cutting.none"], apart := false, laid := [("sawmill/cutting.none", laid_sawmill_cutting_none)] }
def CuttingCutsSaid : Prop := cuttingCutsRow.holds Tryd.pinned (OpenSpec.ofChange cuttingCutsSpec)

/-- ITS FALSE NEIGHBOUR: 'it returns false'. Refute it at one input. -/
def cuttingCutsWrong : ChangeSpec := { name := "cuttingCuts", fn := fun _ => fun
  | [d1, d2] => { results := [.lit (.bool false)], args := [d1, d2] }
  | _ => none }
def CuttingCutsWrongFalsely : Prop := cuttingCutsRow.holds Tryd.pinned (OpenSpec.ofChange cuttingCutsWrong)

/-- 'sawmilllaw17.CuttingBests': WHATEVER THE INPUT: true; the input reads as it did. -/
def cuttingBestsSpec : ChangeSpec := { name := "cuttingBests", fn := fun _ => fun
  | [d] => { results := [.lit (.bool true)], args := [d] }
  | _ => none }
def cuttingBestsRow : OpenClaim := { program := "ytjofnmklkndhoaadoor", sum := "9df830f11f41f6b3af8cd38619c40108f43cacfc11c31d005a5ab3ac0d4a9bc7", func := "sawmill/sawmilllaw17.CuttingBests", spec := "cuttingBests", named := ["sawmill/cutting.none"], apart := false, laid := [("sawmill/cutting.none", laid_sawmill_cutting_none)] }
def CuttingBestsSaid : Prop := cuttingBestsRow.holds Tryd.pinned (OpenSpec.ofChange cuttingBestsSpec)

/-- ITS FALSE NEIGHBOUR: 'it returns false'. Refute it at one input. -/
def cuttingBestsWrong : ChangeSpec := { name := "cuttingBests", fn := fun _ => fun
  | [d] => { results := [.lit (.bool false)], args := [d] }
  | _ => none }
def CuttingBestsWrongFalsely : Prop := cuttingBestsRow.holds Tryd.pinned (OpenSpec.ofChange cuttingBestsWrong)

/-- 'sawmilllaw17.CuttingUniform': WHATEVER THE INPUT: true; the input reads as it did. -/
def cuttingUniformSpec : ChangeSpec := { name := "cuttingUniform", fn := fun _ => fun
  | [d] => { results := [.lit (.bool true)], args := [d] }
  | _ => none }
def cuttingUniformRow : OpenClaim := { program := "ytjofnmklkndhoaadoor", sum := "9df830f11f41f6b3af8cd38619c40108f43cacfc11c31d005a5ab3ac0d4a9bc7", func := "sawmill/sawmilllaw17.CuttingUniform", spec := "cuttingUniform", named := ["sawmill/cutting.none"], apart := false, laid := [("sawmill/cutting.none", laid_sawmill_cutting_none)] }
def CuttingUniformSaid : Prop := cuttingUniformRow.holds Tryd.pinned (OpenSpec.ofChange cuttingUniformSpec)

/-- ITS FALSE NEIGHBOUR: 'it returns false'. Refute it at one input. -/
def cuttingUniformWrong : ChangeSpec := { name := "cuttingUniform", fn := fun _ => fun
  | [d] => { results := [.lit (.bool false)], args := [d] }
  | _ => none }
def CuttingUniformWrongFalsely : Prop := cuttingUniformRow.holds Tryd.pinned (OpenSpec.ofChange cuttingUniformWrong)

/-- 'sawmilllaw17.CuttingBest': WHATEVER THE INPUT: true; the input reads as it did. -/
def cuttingBestSpec : ChangeSpec := { name := "cuttingBest", fn := fun _ => fun
  | [d1, d2] => { results := [.lit (.bool true)], args := [d1, d2] }
  | _ => none }
def cuttingBestRow : OpenClaim := { program := "ytjofnmklkndhoaadoor", sum := "9df830f11f41f6b3af8cd38619c40108f43cacfc11c31d005a5ab3ac0d4a9bc7", func := "sawmill/sawmilllaw17.CuttingBest", spec := "cuttingBest", named := ["sawmill/cutting.none"], apart := false, laid := [("sawmill/cutting.none", laid_sawmill_cutting_none)] }
def CuttingBestSaid : Prop := cuttingBestRow.holds Tryd.pinned (OpenSpec.ofChange cuttingBestSpec)

/-- ITS FALSE NEIGHBOUR: 'it returns false'. Refute it at one input. -/
def cuttingBestWrong : ChangeSpec := { name := "cuttingBest", fn := fun _ => fun
  | [d1, d2] => { results := [.lit (.bool false)], args := [d1, d2] }
  | _ => none }
def CuttingBestWrongFalsely : Prop := cuttingBestRow.holds Tryd.pinned (OpenSpec.ofChange cuttingBestWrong)

/-- 'sawmilllaw17.CuttingParts': WHATEVER THE INPUT: true; the input reads as it did. -/
def cuttingPartsSpec : ChangeSpec := { name := "cuttingParts", fn := fun _ => fun
  | [d1, d2] => { results := [.lit (.bool true)], args := [d1, d2] }
  | _ => none }
def cuttingPartsRow : OpenClaim := { program := "ytjofnmklkndhoaadoor", sum := "9df830f11f41f6b3af8cd38619c40108f43cacfc11c31d005a5ab3ac0d4a9bc7", func := "sawmill/sawmilllaw17.CuttingParts", spec := "cuttingParts", named := ["sawmill/cutting.none"], apart := false, laid := [("sawmill/cutting.none", laid_sawmill_cutting_none)] }
def CuttingPartsSaid : Prop := cuttingPartsRow.holds Tryd.pinned (OpenSpec.ofChange cuttingPartsSpec)

/-- ITS FALSE NEIGHBOUR: 'it returns false'. Refute it at one input. -/
def cuttingPartsWrong : ChangeSpec := { name := "cuttingParts", fn := fun _ => fun
  | [d1, d2] => { results := [.lit (.bool false)], args := [d1, d2] }
  | _ => none }
def CuttingPartsWrongFalsely : Prop := cuttingPartsRow.holds Tryd.pinned (OpenSpec.ofChange cuttingPartsWrong)

/-- 'sawmilllaw17.CuttingMore': WHATEVER THE INPUT: true; the input reads as it did. -/
def cuttingMoreSpec : ChangeSpec := { name := "cuttingMore", fn := fun _ => fun
  | [d1, d2, d3] => { results := [.lit (.bool true)], args := [d1, d2, d3] }
  | _ => none }
def cuttingMoreRow : OpenClaim := { program := "ytjofnmklkndhoaadoor", sum := "9df830f11f41f6b3af8cd38619c40108f43cacfc11c31d005a5ab3ac0d4a9bc7", func := "sawmill/sawmilllaw17.CuttingMore", spec := "cuttingMore", named := ["sawmill/cutting.none"], apart := false, laid := [("sawmill/cutting.none", laid_sawmill_cutting_none)] }
def CuttingMoreSaid : Prop := cuttingMoreRow.holds Tryd.pinned (OpenSpec.ofChange cuttingMoreSpec)

/-- ITS FALSE NEIGHBOUR: 'it returns false'. Refute it at one input. -/
def cuttingMoreWrong : ChangeSpec := { name := "cuttingMore", fn := fun _ => fun
  | [d1, d2, d3] => { results := [.lit (.bool false)], args := [d1, d2, d3] }
  | _ => none }
def CuttingMoreWrongFalsely : Prop := cuttingMoreRow.holds Tryd.pinned (OpenSpec.ofChange cuttingMoreWrong)

/-- 'sawmilllaw17.CuttingScales': WHATEVER THE INPUT: true; the input reads as it did. -/
def cuttingScalesSpec : ChangeSpec := { name := "cuttingScales", fn := fun _ => fun
  | [d1, d2] => { results := [.lit (.bool true)], args := [d1, d2] }
  | _ => none }
def cuttingScalesRow : OpenClaim := { program := "ytjofnmklkndhoaadoor", sum := "9df830f11f41f6b3af8cd38619c40108f43cacfc11c31d005a5ab3ac0d4a9bc7", func := "sawmill/sawmilllaw17.CuttingScales", spec := "cuttingScales", named := ["sawmill/cutting.none"], apart := false, laid := [("sawmill/cutting.none", laid_sawmill_cutting_none)] }
def CuttingScalesSaid : Prop := cuttingScalesRow.holds Tryd.pinned (OpenSpec.ofChange cuttingScalesSpec)

/-- ITS FALSE NEIGHBOUR: 'it returns false'. Refute it at one input. -/
def cuttingScalesWrong : ChangeSpec := { name := "cuttingScales", fn := fun _ => fun
  | [d1, d2] => { results := [.lit (.bool false)], args := [d1, d2] }
  | _ => none }
def CuttingScalesWrongFalsely : Prop := cuttingScalesRow.holds Tryd.pinned (OpenSpec.ofChange cuttingScalesWrong)

/- THE SECOND FORM. 'bulk': how many values and letters a reading holds, each counted each time it is reached (what is shared counts as often as it is met; a slice's spare places count too). A statement '..UptoSaid' is the law's where the arguments, and the package variables that the reading takes, are together of bulk at most 1048576: NARROWER than '..Said'. Prove '..Said' where nothing that the law and all that it calls make is longer than what came in: it says more and counts as full. Else prove '..UptoSaid'. A law counts once. -/
mutual
def uptoBulk {H : Type} : DataW H → Nat
  | .lit (.string bytes) => bytes.length + 1
  | .lit _ => 1
  | .nil => 1
  | .ptr d => uptoBulk d + 1
  | .slice elems spare => uptoBulkAll elems + uptoBulkAll spare + 1
  | .agg parts => uptoBulkAll parts + 1
  | .iface _ d => uptoBulk d + 1
  | .map entries => uptoBulkEntries entries + 1
  | .held _ => 1
def uptoBulkAll {H : Type} : List (DataW H) → Nat
  | [] => 0
  | d :: r => uptoBulk d + uptoBulkAll r
def uptoBulkEntries {H : Type} : List (Lit × DataW H) → Nat
  | [] => 0
  | x :: r => uptoBulkEntry x + uptoBulkEntries r
def uptoBulkEntry {H : Type} : Lit × DataW H → Nat
  | (.string bytes, d) => bytes.length + uptoBulk d + 1
  | (_, d) => uptoBulk d + 1
 end
def uptoSmall : (H : Type) → List (DataW H) → Bool := fun _ ds => decide (uptoBulkAll ds ≤ 1048576)
def OpenSpec.upto (s : _root_.Go.ChangeSpec) : _root_.Go.OpenSpec := { _root_.Go.OpenSpec.ofChange s with cond := some uptoSmall }

/-- 'sawmilllaw17.CuttingChecks', WHERE WHAT IT READS IS OF BULK AT MOST 1048576: true; the input reads as it did. -/
def cuttingChecksUptoRow : OpenClaim := { program := "ytjofnmklkndhoaadoor", sum := "9df830f11f41f6b3af8cd38619c40108f43cacfc11c31d005a5ab3ac0d4a9bc7", func := "sawmill/sawmilllaw17.CuttingChecks", spec := "cuttingChecks", named := ["sawmill/cutting.none"], apart := false, laid := [("sawmill/cutting.none", laid_sawmill_cutting_none)], narrowed := true }
def CuttingChecksUptoSaid : Prop := cuttingChecksUptoRow.holds Tryd.pinned (OpenSpec.upto cuttingChecksSpec)

/-- 'sawmilllaw17.CuttingCuts', WHERE WHAT IT READS IS OF BULK AT MOST 1048576: true; the input reads as it did. -/
def cuttingCutsUptoRow : OpenClaim := { program := "ytjofnmklkndhoaadoor", sum := "9df830f11f41f6b3af8cd38619c40108f43cacfc11c31d005a5ab3ac0d4a9bc7", func := "sawmill/sawmilllaw17.CuttingCuts", spec := "cuttingCuts", named := ["sawmill/cutting.none"], apart := false, laid := [("sawmill/cutting.none", laid_sawmill_cutting_none)], narrowed := true }
def CuttingCutsUptoSaid : Prop := cuttingCutsUptoRow.holds Tryd.pinned (OpenSpec.upto cuttingCutsSpec)

/-- 'sawmilllaw17.CuttingBests', WHERE WHAT IT READS IS OF BULK AT MOST 1048576: true; the input reads as it did. -/
def cuttingBestsUptoRow : OpenClaim := { program := "ytjofnmklkndhoaadoor", sum := "9df830f11f41f6b3af8cd38619c40108f43cacfc11c31d005a5ab3ac0d4a9bc7", func := "sawmill/sawmilllaw17.CuttingBests", spec := "cuttingBests", named := ["sawmill/cutting.none"], apart := false, laid := [("sawmill/cutting.none", laid_sawmill_cutting_none)], narrowed := true }
def CuttingBestsUptoSaid : Prop := cuttingBestsUptoRow.holds Tryd.pinned (OpenSpec.upto cuttingBestsSpec)

/-- 'sawmilllaw17.CuttingUniform', WHERE WHAT IT READS IS OF BULK AT MOST 1048576: true; the input reads as it did. -/
def cuttingUniformUptoRow : OpenClaim := { program := "ytjofnmklkndhoaadoor", sum := "9df830f11f41f6b3af8cd38619c40108f43cacfc11c31d005a5ab3ac0d4a9bc7", func := "sawmill/sawmilllaw17.CuttingUniform", spec := "cuttingUniform", named := ["sawmill/cutting.none"], apart := false, laid := [("sawmill/cutting.none", laid_sawmill_cutting_none)], narrowed := true }
def CuttingUniformUptoSaid : Prop := cuttingUniformUptoRow.holds Tryd.pinned (OpenSpec.upto cuttingUniformSpec)

/-- 'sawmilllaw17.CuttingBest', WHERE WHAT IT READS IS OF BULK AT MOST 1048576: true; the input reads as it did. -/
def cuttingBestUptoRow : OpenClaim := { program := "ytjofnmklkndhoaadoor", sum := "9df830f11f41f6b3af8cd38619c40108f43cacfc11c31d005a5ab3ac0d4a9bc7", func := "sawmill/sawmilllaw17.CuttingBest", spec := "cuttingBest", named := ["sawmill/cutting.none"], apart := false, laid := [("sawmill/cutting.none", laid_sawmill_cutting_none)], narrowed := true }
def CuttingBestUptoSaid : Prop := cuttingBestUptoRow.holds Tryd.pinned (OpenSpec.upto cuttingBestSpec)

/-- 'sawmilllaw17.CuttingParts', WHERE WHAT IT READS IS OF BULK AT MOST 1048576: true; the input reads as it did. -/
def cuttingPartsUptoRow : OpenClaim := { program := "ytjofnmklkndhoaadoor", sum := "9df830f11f41f6b3af8cd38619c40108f43cacfc11c31d005a5ab3ac0d4a9bc7", func := "sawmill/sawmilllaw17.CuttingParts", spec := "cuttingParts", named := ["sawmill/cutting.none"], apart := false, laid := [("sawmill/cutting.none", laid_sawmill_cutting_none)], narrowed := true }
def CuttingPartsUptoSaid : Prop := cuttingPartsUptoRow.holds Tryd.pinned (OpenSpec.upto cuttingPartsSpec)

/-- 'sawmilllaw17.CuttingMore', WHERE WHAT IT READS IS OF BULK AT MOST 1048576: true; the input reads as it did. -/
def cuttingMoreUptoRow : OpenClaim := { program := "ytjofnmklkndhoaadoor", sum := "9df830f11f41f6b3af8cd38619c40108f43cacfc11c31d005a5ab3ac0d4a9bc7", func := "sawmill/sawmilllaw17.CuttingMore", spec := "cuttingMore", named := ["sawmill/cutting.none"], apart := false, laid := [("sawmill/cutting.none", laid_sawmill_cutting_none)], narrowed := true }
def CuttingMoreUptoSaid : Prop := cuttingMoreUptoRow.holds Tryd.pinned (OpenSpec.upto cuttingMoreSpec)

/-- 'sawmilllaw17.CuttingScales', WHERE WHAT IT READS IS OF BULK AT MOST 1048576: true; the input reads as it did. -/
def cuttingScalesUptoRow : OpenClaim := { program := "ytjofnmklkndhoaadoor", sum := "9df830f11f41f6b3af8cd38619c40108f43cacfc11c31d005a5ab3ac0d4a9bc7", func := "sawmill/sawmilllaw17.CuttingScales", spec := "cuttingScales", named := ["sawmill/cutting.none"], apart := false, laid := [("sawmill/cutting.none", laid_sawmill_cutting_none)], narrowed := true }
def CuttingScalesUptoSaid : Prop := cuttingScalesUptoRow.holds Tryd.pinned (OpenSpec.upto cuttingScalesSpec)

end Rows
end Go.Proofs.YtjofnmklkndhoaaDoor
