/-
  No cell of these rows narrows 'for every input' (looked for: loops, veiled, ifaces, maps, wideKeys, modest, calm, conditions, laid).
  DERIVED. THE GIVEN ROWS OF THIS SEAT. 7 by the template 'for every input the law returns true; each argument reads behind the call as it read before'; 0 by the template 'total and deterministic' (their statements: YtokkpocccgdilaaTotals.lean).
  GIVEN WITH THE SEED: the statements are not yours to turn. If you find one false, say at which input.
  Laid BY PROGRAM, IN A SANDBOX (cutbox-rows.mjs): the forced cells as the released guide's own fill.sh prints them over the translation c1ca0f1c91eaf55a… (all of the seat's roots in one cut). By AI agents, Wed Nov 11 2026. No macro, syntax, notation, axiom, sorry.
-/
import Derived.Test.YtokkpocccgdilaaChecked
import GoSem.Claim
import GoSem.ClaimJoined
import GoSem.ClaimMapViews
import Derived.JoinedTies
import Derived.KernelRfl
namespace Go.Proofs.Ytokkpocccgdilaa
/- THE CELL 'sum', in the pinned program and in every row, IS THE sha256 OF THE DUMP (.gsa) THAT YtokkpocccgdilaaProg.lean LOADS. Nothing in Lean hashes anything: it is a label: what it is worth is what the hold of that sum in a sandbox is worth. -/
noncomputable def Try.pinned : Pinned := { name := "ytokkpocccgdilaa", sum := "c1ca0f1c91eaf55a11a00c01cd10c0d24abaf648927043a158409746bd83929f", checked := Try.checked }
namespace Rows
def none {H : Type} : Left H := { results := [], args := [] }

/-- 'sawmilllaw16.ClassChecks': WHATEVER THE INPUT: true; the input reads as it did. -/
def classChecksSpec : ChangeSpec := { name := "classChecks", fn := fun _ => fun
  | [d] => { results := [.lit (.bool true)], args := [d] }
  | _ => none }
def classChecksRow : OpenClaim := { program := "ytokkpocccgdilaa", sum := "c1ca0f1c91eaf55a11a00c01cd10c0d24abaf648927043a158409746bd83929f", func := "sawmill/sawmilllaw16.ClassChecks", spec := "classChecks", unfollowed := true, recurses := true, apart := false }
def ClassChecksSaid : Prop := classChecksRow.holds Try.pinned (OpenSpec.ofChange classChecksSpec)

/-- ITS FALSE NEIGHBOUR: 'it returns false'. Refute it at one input. -/
def classChecksWrong : ChangeSpec := { name := "classChecks", fn := fun _ => fun
  | [d] => { results := [.lit (.bool false)], args := [d] }
  | _ => none }
def ClassChecksWrongFalsely : Prop := classChecksRow.holds Try.pinned (OpenSpec.ofChange classChecksWrong)

/-- 'sawmilllaw16.ClassFits': WHATEVER THE INPUT: true; the input reads as it did. -/
def classFitsSpec : ChangeSpec := { name := "classFits", fn := fun _ => fun
  | [d1, d2] => { results := [.lit (.bool true)], args := [d1, d2] }
  | _ => none }
def classFitsRow : OpenClaim := { program := "ytokkpocccgdilaa", sum := "c1ca0f1c91eaf55a11a00c01cd10c0d24abaf648927043a158409746bd83929f", func := "sawmill/sawmilllaw16.ClassFits", spec := "classFits", unfollowed := true, recurses := true, apart := false }
def ClassFitsSaid : Prop := classFitsRow.holds Try.pinned (OpenSpec.ofChange classFitsSpec)

/-- ITS FALSE NEIGHBOUR: 'it returns false'. Refute it at one input. -/
def classFitsWrong : ChangeSpec := { name := "classFits", fn := fun _ => fun
  | [d1, d2] => { results := [.lit (.bool false)], args := [d1, d2] }
  | _ => none }
def ClassFitsWrongFalsely : Prop := classFitsRow.holds Try.pinned (OpenSpec.ofChange classFitsWrong)

/-- 'sawmilllaw16.ClassPrices': WHATEVER THE INPUT: true; the input reads as it did. -/
def classPricesSpec : ChangeSpec := { name := "classPrices", fn := fun _ => fun
  | [d1, d2] => { results := [.lit (.bool true)], args := [d1, d2] }
  | _ => none }
def classPricesRow : OpenClaim := { program := "ytokkpocccgdilaa", sum := "c1ca0f1c91eaf55a11a00c01cd10c0d24abaf648927043a158409746bd83929f", func := "sawmill/sawmilllaw16.ClassPrices", spec := "classPrices", unfollowed := true, recurses := true, apart := false }
def ClassPricesSaid : Prop := classPricesRow.holds Try.pinned (OpenSpec.ofChange classPricesSpec)

/-- ITS FALSE NEIGHBOUR: 'it returns false'. Refute it at one input. -/
def classPricesWrong : ChangeSpec := { name := "classPrices", fn := fun _ => fun
  | [d1, d2] => { results := [.lit (.bool false)], args := [d1, d2] }
  | _ => none }
def ClassPricesWrongFalsely : Prop := classPricesRow.holds Try.pinned (OpenSpec.ofChange classPricesWrong)

/-- 'sawmilllaw16.ClassFirst': WHATEVER THE INPUT: true; the input reads as it did. -/
def classFirstSpec : ChangeSpec := { name := "classFirst", fn := fun _ => fun
  | [d1, d2] => { results := [.lit (.bool true)], args := [d1, d2] }
  | _ => none }
def classFirstRow : OpenClaim := { program := "ytokkpocccgdilaa", sum := "c1ca0f1c91eaf55a11a00c01cd10c0d24abaf648927043a158409746bd83929f", func := "sawmill/sawmilllaw16.ClassFirst", spec := "classFirst", unfollowed := true, recurses := true, apart := false }
def ClassFirstSaid : Prop := classFirstRow.holds Try.pinned (OpenSpec.ofChange classFirstSpec)

/-- ITS FALSE NEIGHBOUR: 'it returns false'. Refute it at one input. -/
def classFirstWrong : ChangeSpec := { name := "classFirst", fn := fun _ => fun
  | [d1, d2] => { results := [.lit (.bool false)], args := [d1, d2] }
  | _ => none }
def ClassFirstWrongFalsely : Prop := classFirstRow.holds Try.pinned (OpenSpec.ofChange classFirstWrong)

/-- 'sawmilllaw16.ClassLimits': WHATEVER THE INPUT: true; the input reads as it did. -/
def classLimitsSpec : ChangeSpec := { name := "classLimits", fn := fun _ => fun
  | [d1, d2, d3] => { results := [.lit (.bool true)], args := [d1, d2, d3] }
  | _ => none }
def classLimitsRow : OpenClaim := { program := "ytokkpocccgdilaa", sum := "c1ca0f1c91eaf55a11a00c01cd10c0d24abaf648927043a158409746bd83929f", func := "sawmill/sawmilllaw16.ClassLimits", spec := "classLimits", unfollowed := true, recurses := true, apart := false }
def ClassLimitsSaid : Prop := classLimitsRow.holds Try.pinned (OpenSpec.ofChange classLimitsSpec)

/-- ITS FALSE NEIGHBOUR: 'it returns false'. Refute it at one input. -/
def classLimitsWrong : ChangeSpec := { name := "classLimits", fn := fun _ => fun
  | [d1, d2, d3] => { results := [.lit (.bool false)], args := [d1, d2, d3] }
  | _ => none }
def ClassLimitsWrongFalsely : Prop := classLimitsRow.holds Try.pinned (OpenSpec.ofChange classLimitsWrong)

/-- 'sawmilllaw16.ClassDefects': WHATEVER THE INPUT: true; the input reads as it did. -/
def classDefectsSpec : ChangeSpec := { name := "classDefects", fn := fun _ => fun
  | [d1, d2, d3] => { results := [.lit (.bool true)], args := [d1, d2, d3] }
  | _ => none }
def classDefectsRow : OpenClaim := { program := "ytokkpocccgdilaa", sum := "c1ca0f1c91eaf55a11a00c01cd10c0d24abaf648927043a158409746bd83929f", func := "sawmill/sawmilllaw16.ClassDefects", spec := "classDefects", unfollowed := true, recurses := true, apart := false }
def ClassDefectsSaid : Prop := classDefectsRow.holds Try.pinned (OpenSpec.ofChange classDefectsSpec)

/-- ITS FALSE NEIGHBOUR: 'it returns false'. Refute it at one input. -/
def classDefectsWrong : ChangeSpec := { name := "classDefects", fn := fun _ => fun
  | [d1, d2, d3] => { results := [.lit (.bool false)], args := [d1, d2, d3] }
  | _ => none }
def ClassDefectsWrongFalsely : Prop := classDefectsRow.holds Try.pinned (OpenSpec.ofChange classDefectsWrong)

/-- 'sawmilllaw16.ClassLonger': WHATEVER THE INPUT: true; the input reads as it did. -/
def classLongerSpec : ChangeSpec := { name := "classLonger", fn := fun _ => fun
  | [d1, d2, d3] => { results := [.lit (.bool true)], args := [d1, d2, d3] }
  | _ => none }
def classLongerRow : OpenClaim := { program := "ytokkpocccgdilaa", sum := "c1ca0f1c91eaf55a11a00c01cd10c0d24abaf648927043a158409746bd83929f", func := "sawmill/sawmilllaw16.ClassLonger", spec := "classLonger", unfollowed := true, recurses := true, apart := false }
def ClassLongerSaid : Prop := classLongerRow.holds Try.pinned (OpenSpec.ofChange classLongerSpec)

/-- ITS FALSE NEIGHBOUR: 'it returns false'. Refute it at one input. -/
def classLongerWrong : ChangeSpec := { name := "classLonger", fn := fun _ => fun
  | [d1, d2, d3] => { results := [.lit (.bool false)], args := [d1, d2, d3] }
  | _ => none }
def ClassLongerWrongFalsely : Prop := classLongerRow.holds Try.pinned (OpenSpec.ofChange classLongerWrong)

/- THE SECOND FORM. 'bulk': how many values and letters a reading holds, each counted each time it is reached (what is shared counts as often as it is met; a slice's spare places count too). A statement '..UptoSaid' is the law's where the arguments, and the package variables that the reading takes, are together of bulk at most 1048576: NARROWER than '..Said'. Prove '..Said' where nothing that the law and all that it calls make is longer than what came in: it says more and counts as full. Else prove '..UptoSaid'. A law counts once. -/
mutual
def uptoBulk {H : Type} : DataW H → Nat
  | .lit (.string bytes) => bytes.length + 1
  | .lit _ => 1
  | .nil => 1
  | .ptr d => uptoBulk d + 1
  | .slice elems spare => uptoBulkAll elems + uptoBulkAll spare + 1
  | .agg parts => uptoBulkAll parts + 1
  | .iface _ d => uptoBulk d + 1
  | .map entries => uptoBulkEntries entries + 1
  | .held _ => 1
def uptoBulkAll {H : Type} : List (DataW H) → Nat
  | [] => 0
  | d :: r => uptoBulk d + uptoBulkAll r
def uptoBulkEntries {H : Type} : List (Lit × DataW H) → Nat
  | [] => 0
  | x :: r => uptoBulkEntry x + uptoBulkEntries r
def uptoBulkEntry {H : Type} : Lit × DataW H → Nat
  | (.string bytes, d) => bytes.length + uptoBulk d + 1
  | (_, d) => uptoBulk d + 1
 end
def uptoSmall : (H : Type) → List (DataW H) → Bool := fun _ ds => decide (uptoBulkAll ds ≤ 1048576)
def OpenSpec.upto (s : _root_.Go.ChangeSpec) : _root_.Go.OpenSpec := { _root_.Go.OpenSpec.ofChange s with cond := some uptoSmall }

/-- 'sawmilllaw16.ClassChecks', WHERE WHAT IT READS IS OF BULK AT MOST 1048576: true; the input reads as it did. -/
def classChecksUptoRow : OpenClaim := { program := "ytokkpocccgdilaa", sum := "c1ca0f1c91eaf55a11a00c01cd10c0d24abaf648927043a158409746bd83929f", func := "sawmill/sawmilllaw16.ClassChecks", spec := "classChecks", unfollowed := true, recurses := true, apart := false, narrowed := true }
def ClassChecksUptoSaid : Prop := classChecksUptoRow.holds Try.pinned (OpenSpec.upto classChecksSpec)

/-- 'sawmilllaw16.ClassFits', WHERE WHAT IT READS IS OF BULK AT MOST 1048576: true; the input reads as it did. -/
def classFitsUptoRow : OpenClaim := { program := "ytokkpocccgdilaa", sum := "c1ca0f1c91eaf55a11a00c01cd10c0d24abaf648927043a158409746bd83929f", func := "sawmill/sawmilllaw16.ClassFits", spec := "classFits", unfollowed := true, recurses := true, apart := false, narrowed := true }
def ClassFitsUptoSaid : Prop := classFitsUptoRow.holds Try.pinned (OpenSpec.upto classFitsSpec)

/-- 'sawmilllaw16.ClassPrices', WHERE WHAT IT READS IS OF BULK AT MOST 1048576: true; the input reads as it did. -/
def classPricesUptoRow : OpenClaim := { program := "ytokkpocccgdilaa", sum := "c1ca0f1c91eaf55a11a00c01cd10c0d24abaf648927043a158409746bd83929f", func := "sawmill/sawmilllaw16.ClassPrices", spec := "classPrices", unfollowed := true, recurses := true, apart := false, narrowed := true }
def ClassPricesUptoSaid : Prop := classPricesUptoRow.holds Try.pinned (OpenSpec.upto classPricesSpec)

/-- 'sawmilllaw16.ClassFirst', WHERE WHAT IT READS IS OF BULK AT MOST 1048576: true; the input reads as it did. -/
def classFirstUptoRow : OpenClaim := { program := "ytokkpocccgdilaa", sum := "c1ca0f1c91eaf55a11a00c01cd10c0d24abaf648927043a158409746bd83929f", func := "sawmill/sawmilllaw16.ClassFirst", spec := "classFirst", unfollowed := true, recurses := true, apart := false, narrowed := true }
def ClassFirstUptoSaid : Prop := classFirstUptoRow.holds Try.pinned (OpenSpec.upto classFirstSpec)

/-- 'sawmilllaw16.ClassLimits', WHERE WHAT IT READS IS OF BULK AT MOST 1048576: true; the input reads as it did. -/
def classLimitsUptoRow : OpenClaim := { program := "ytokkpocccgdilaa", sum := "c1ca0f1c91eaf55a11a00c01cd10c0d24abaf648927043a158409746bd83929f", func := "sawmill/sawmilllaw16.ClassLimits", spec := "classLimits", unfollowed := true, recurses := true, apart := false, narrowed := true }
def ClassLimitsUptoSaid : Prop := classLimitsUptoRow.holds Try.pinned (OpenSpec.upto classLimitsSpec)

/-- 'sawmilllaw16.ClassDefects', WHERE WHAT IT READS IS OF BULK AT MOST 1048576: true; the input reads as it did. -/
def classDefectsUptoRow : OpenClaim := { program := "ytokkpocccgdilaa", sum := "c1ca0f1c91eaf55a11a00c01cd10c0d24abaf648927043a158409746bd83929f", func := "sawmill/sawmilllaw16.ClassDefects", spec := "classDefects", unfollowed := true, recurses := true, apart := false, narrowed := true }
def ClassDefectsUptoSaid : Prop := classDefectsUptoRow.holds Try.pinned (OpenSpec.upto classDefectsSpec)

/-- 'sawmilllaw16.ClassLonger', WHERE WHAT IT READS IS OF BULK AT MOST 1048576: true; the input reads as it did. -/
def classLongerUptoRow : OpenClaim := { program := "ytokkpocccgdilaa", sum := "c1ca0f1c91eaf55a11a00c01cd10c0d24abaf648927043a158409746bd83929f", func := "sawmill/sawmilllaw16.ClassLonger", spec := "classLonger", unfollowed := true, recurses := true, apart := false, narrowed := true }
def ClassLongerUptoSaid : Prop := classLongerUptoRow.holds Try.pinned (OpenSpec.upto classLongerSpec)

end Rows
end Go.Proofs.Ytokkpocccgdilaa
