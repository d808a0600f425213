/-
  NARROWER THAN 'FOR EVERY INPUT', by the rows' own cells (each row's printed sentence says how): BuckVolume: laid · BuckPrice: laid.
  DERIVED. THE GIVEN ROWS OF THIS SEAT. 2 by the template 'for every input the law returns true; each argument reads behind the call as it read before'; 0 by the template 'total and deterministic' (their statements: YtkhljpbkebnnmaaDoorTotals.lean).
  GIVEN WITH THE SEED: the statements are not yours to turn. If you find one false, say at which input.
  Laid BY PROGRAM, IN A SANDBOX (cutbox-rows.mjs): the forced cells as the released guide's own fill.sh prints them over the translation 4ca5222f592ef42a… (all of the seat's roots in one cut). By AI agents, Wed Nov 11 2026. No macro, syntax, notation, axiom, sorry.
-/
import Derived.Test.YtkhljpbkebnnmaaDoorChecked
import GoSem.Claim
import GoSem.ClaimJoined
import GoSem.ClaimMapViews
import Derived.JoinedTies
import Derived.KernelRfl
namespace Go.Proofs.YtkhljpbkebnnmaaDoor
/- THE CELL 'sum', in the pinned program and in every row, IS THE sha256 OF THE DUMP (.gsa) THAT YtkhljpbkebnnmaaDoorProg.lean LOADS. Nothing in Lean hashes anything: it is a label: what it is worth is what the hold of that sum in a sandbox is worth. -/
noncomputable def Tryd.pinned : Pinned := { name := "ytkhljpbkebnnmaadoor", sum := "4ca5222f592ef42a1dded4bd97bf0de3cbb3f505f0a343d7a6cc2664e0fc9d9a", checked := Tryd.checked }
namespace Rows
def none {H : Type} : Left H := { results := [], args := [] }

/- WHAT THE LISTED PACKAGE-LEVEL VARIABLES READ AS WHEN THE CALL BEGINS. Each datum BY PROGRAM (the guide's laid-datum.mjs) off the statement by which the dump's own 'gosem.cut.vars' lays the variable. In a bare row this is a premise. The card (YtkhljpbkebnnmaaDoorCards.lean) ties it to the program's text. -/
def laid_sawmill_cutting_none {H : Type} : DataW H := .agg [.lit (.int .i64 (-1)), .lit (.int .i64 (-1))]

/-- 'sawmilllaw18.BuckVolume': WHATEVER THE INPUT: true; the input reads as it did. -/
def buckVolumeSpec : ChangeSpec := { name := "buckVolume", fn := fun _ => fun
  | [d1, d2] => { results := [.lit (.bool true)], args := [d1, d2] }
  | _ => none }
def buckVolumeRow : OpenClaim := { program := "ytkhljpbkebnnmaadoor", sum := "4ca5222f592ef42a1dded4bd97bf0de3cbb3f505f0a343d7a6cc2664e0fc9d9a", func := "sawmill/sawmilllaw18.BuckVolume", spec := "buckVolume", unfollowed := true, recurses := true, named := ["sawmill/cutting.none"], apart := false, laid := [("sawmill/cutting.none", laid_sawmill_cutting_none)] }
def BuckVolumeSaid : Prop := buckVolumeRow.holds Tryd.pinned (OpenSpec.ofChange buckVolumeSpec)

/-- ITS FALSE NEIGHBOUR: 'it returns false'. Refute it at one input. -/
def buckVolumeWrong : ChangeSpec := { name := "buckVolume", fn := fun _ => fun
  | [d1, d2] => { results := [.lit (.bool false)], args := [d1, d2] }
  | _ => none }
def BuckVolumeWrongFalsely : Prop := buckVolumeRow.holds Tryd.pinned (OpenSpec.ofChange buckVolumeWrong)

/-- 'sawmilllaw18.BuckPrice': WHATEVER THE INPUT: true; the input reads as it did. -/
def buckPriceSpec : ChangeSpec := { name := "buckPrice", fn := fun _ => fun
  | [d1, d2, d3] => { results := [.lit (.bool true)], args := [d1, d2, d3] }
  | _ => none }
def buckPriceRow : OpenClaim := { program := "ytkhljpbkebnnmaadoor", sum := "4ca5222f592ef42a1dded4bd97bf0de3cbb3f505f0a343d7a6cc2664e0fc9d9a", func := "sawmill/sawmilllaw18.BuckPrice", spec := "buckPrice", unfollowed := true, recurses := true, named := ["sawmill/cutting.none"], apart := false, laid := [("sawmill/cutting.none", laid_sawmill_cutting_none)] }
def BuckPriceSaid : Prop := buckPriceRow.holds Tryd.pinned (OpenSpec.ofChange buckPriceSpec)

/-- ITS FALSE NEIGHBOUR: 'it returns false'. Refute it at one input. -/
def buckPriceWrong : ChangeSpec := { name := "buckPrice", fn := fun _ => fun
  | [d1, d2, d3] => { results := [.lit (.bool false)], args := [d1, d2, d3] }
  | _ => none }
def BuckPriceWrongFalsely : Prop := buckPriceRow.holds Tryd.pinned (OpenSpec.ofChange buckPriceWrong)

/- THE SECOND FORM. 'bulk': how many values and letters a reading holds, each counted each time it is reached (what is shared counts as often as it is met; a slice's spare places count too). A statement '..UptoSaid' is the law's where the arguments, and the package variables that the reading takes, are together of bulk at most 1048576: NARROWER than '..Said'. Prove '..Said' where nothing that the law and all that it calls make is longer than what came in: it says more and counts as full. Else prove '..UptoSaid'. A law counts once. -/
mutual
def uptoBulk {H : Type} : DataW H → Nat
  | .lit (.string bytes) => bytes.length + 1
  | .lit _ => 1
  | .nil => 1
  | .ptr d => uptoBulk d + 1
  | .slice elems spare => uptoBulkAll elems + uptoBulkAll spare + 1
  | .agg parts => uptoBulkAll parts + 1
  | .iface _ d => uptoBulk d + 1
  | .map entries => uptoBulkEntries entries + 1
  | .held _ => 1
def uptoBulkAll {H : Type} : List (DataW H) → Nat
  | [] => 0
  | d :: r => uptoBulk d + uptoBulkAll r
def uptoBulkEntries {H : Type} : List (Lit × DataW H) → Nat
  | [] => 0
  | x :: r => uptoBulkEntry x + uptoBulkEntries r
def uptoBulkEntry {H : Type} : Lit × DataW H → Nat
  | (.string bytes, d) => bytes.length + uptoBulk d + 1
  | (_, d) => uptoBulk d + 1
 end
def uptoSmall : (H : Type) → List (DataW H) → Bool := fun _ ds => decide (uptoBulkAll ds ≤ 1048576)
def OpenSpec.upto (s : _root_.Go.ChangeSpec) : _root_.Go.OpenSpec := { _root_.Go.OpenSpec.ofChange s with cond := some uptoSmall }

/-- 'sawmilllaw18.BuckVolume', WHERE WHAT IT READS IS OF BULK AT MOST 1048576: true; the input reads as it did. -/
def buckVolumeUptoRow : OpenClaim := { program := "ytkhljpbkebnnmaadoor", sum := "4ca5222f592ef42a1dded4bd97bf0de3cbb3f505f0a343d7a6cc2664e0fc9d9a", func := "sawmill/sawmilllaw18.BuckVolume", spec := "buckVolume", unfollowed := true, recurses := true, named := ["sawmill/cutting.none"], apart := false, laid := [("sawmill/cutting.none", laid_sawmill_cutting_none)], narrowed := true }
def BuckVolumeUptoSaid : Prop := buckVolumeUptoRow.holds Tryd.pinned (OpenSpec.upto buckVolumeSpec)

/-- 'sawmilllaw18.BuckPrice', WHERE WHAT IT READS IS OF BULK AT MOST 1048576: true; the input reads as it did. -/
def buckPriceUptoRow : OpenClaim := { program := "ytkhljpbkebnnmaadoor", sum := "4ca5222f592ef42a1dded4bd97bf0de3cbb3f505f0a343d7a6cc2664e0fc9d9a", func := "sawmill/sawmilllaw18.BuckPrice", spec := "buckPrice", unfollowed := true, recurses := true, named := ["sawmill/cutting.none"], apart := false, laid := [("sawmill/cutting.none", laid_sawmill_cutting_none)], narrowed := true }
def BuckPriceUptoSaid : Prop := buckPriceUptoRow.holds Tryd.pinned (OpenSpec.upto buckPriceSpec)

end Rows
end Go.Proofs.YtkhljpbkebnnmaaDoor
