/-
  NARROWER THAN 'FOR EVERY INPUT', by the rows' own cells (each row's printed sentence says how): BuckLines: laid · BuckBests: laid · BuckLogs: laid.
  DERIVED. THE GIVEN ROWS OF THIS SEAT. 3 by the template 'for every input the law returns true; each argument reads behind the call as it read before'; 0 by the template 'total and deterministic' (their statements: YtkhljpbkebnnmaaGreatDoorTotals.lean).
  GIVEN WITH THE SEED: the statements are not yours to turn. If you find one false, say at which input.
  Laid BY PROGRAM, IN A SANDBOX (cutbox-rows.mjs): the forced cells as the released guide's own fill.sh prints them over the translation 9bce773addfb68ca… (all of the seat's roots in one cut). By AI agents, Wed Nov 11 2026. No macro, syntax, notation, axiom, sorry.
-/
import Derived.Test.YtkhljpbkebnnmaaGreatDoorChecked
import GoSem.Claim
import GoSem.ClaimJoined
import GoSem.ClaimMapViews
import Derived.JoinedTies
import Derived.KernelRfl
namespace Go.Proofs.YtkhljpbkebnnmaaGreatDoor
/- THE CELL 'sum', in the pinned program and in every row, IS THE sha256 OF THE DUMP (.gsa) THAT YtkhljpbkebnnmaaGreatDoorProg.lean LOADS. Nothing in Lean hashes anything: it is a label: what it is worth is what the hold of that sum in a sandbox is worth. -/
noncomputable def Tryz.pinned : Pinned := { name := "ytkhljpbkebnnmaagreatdoor", sum := "9bce773addfb68ca0fd7772e61bb5001208f6adf1d8070b543f36b13075fc19c", checked := Tryz.checked }
namespace Rows
def none {H : Type} : Left H := { results := [], args := [] }

/- WHAT THE LISTED PACKAGE-LEVEL VARIABLES READ AS WHEN THE CALL BEGINS. Each datum BY PROGRAM (the guide's laid-datum.mjs) off the statement by which the dump's own 'gosem.cut.vars' lays the variable. In a bare row this is a premise. The card (YtkhljpbkebnnmaaGreatDoorCards.lean) ties it to the program's text. -/
def laid_sawmill_cutting_none {H : Type} : DataW H := .agg [.lit (.int .i64 (-1)), .lit (.int .i64 (-1))]

/-- 'sawmilllaw18.BuckLines': WHATEVER THE INPUT: true; the input reads as it did. -/
def buckLinesSpec : ChangeSpec := { name := "buckLines", fn := fun _ => fun
  | [d] => { results := [.lit (.bool true)], args := [d] }
  | _ => none }
def buckLinesRow : OpenClaim := { program := "ytkhljpbkebnnmaagreatdoor", sum := "9bce773addfb68ca0fd7772e61bb5001208f6adf1d8070b543f36b13075fc19c", func := "sawmill/sawmilllaw18.BuckLines", spec := "buckLines", unfollowed := true, recurses := true, named := ["sawmill/cutting.none"], apart := false, laid := [("sawmill/cutting.none", laid_sawmill_cutting_none)] }
def BuckLinesSaid : Prop := buckLinesRow.holds Tryz.pinned (OpenSpec.ofChange buckLinesSpec)

/-- ITS FALSE NEIGHBOUR: 'it returns false'. Refute it at one input. -/
def buckLinesWrong : ChangeSpec := { name := "buckLines", fn := fun _ => fun
  | [d] => { results := [.lit (.bool false)], args := [d] }
  | _ => none }
def BuckLinesWrongFalsely : Prop := buckLinesRow.holds Tryz.pinned (OpenSpec.ofChange buckLinesWrong)

/-- 'sawmilllaw18.BuckBests': WHATEVER THE INPUT: true; the input reads as it did. -/
def buckBestsSpec : ChangeSpec := { name := "buckBests", fn := fun _ => fun
  | [d] => { results := [.lit (.bool true)], args := [d] }
  | _ => none }
def buckBestsRow : OpenClaim := { program := "ytkhljpbkebnnmaagreatdoor", sum := "9bce773addfb68ca0fd7772e61bb5001208f6adf1d8070b543f36b13075fc19c", func := "sawmill/sawmilllaw18.BuckBests", spec := "buckBests", unfollowed := true, recurses := true, named := ["sawmill/cutting.none"], apart := false, laid := [("sawmill/cutting.none", laid_sawmill_cutting_none)] }
def BuckBestsSaid : Prop := buckBestsRow.holds Tryz.pinned (OpenSpec.ofChange buckBestsSpec)

/-- ITS FALSE NEIGHBOUR: 'it returns false'. Refute it at one input. -/
def buckBestsWrong : ChangeSpec := { name := "buckBests", fn := fun _ => fun
  | [d] => { results := [.lit (.bool false)], args := [d] }
  | _ => none }
def BuckBestsWrongFalsely : Prop := buckBestsRow.holds Tryz.pinned (OpenSpec.ofChange buckBestsWrong)

/-- 'sawmilllaw18.BuckLogs': WHATEVER THE INPUT: true; the input reads as it did. -/
def buckLogsSpec : ChangeSpec := { name := "buckLogs", fn := fun _ => fun
  | [d1, d2] => { results := [.lit (.bool true)], args := [d1, d2] }
  | _ => none }
def buckLogsRow : OpenClaim := { program := "ytkhljpbkebnnmaagreatdoor", sum := "9bce773addfb68ca0fd7772e61bb5001208f6adf1d8070b543f36b13075fc19c", func := "sawmill/sawmilllaw18.BuckLogs", spec := "buckLogs", unfollowed := true, recurses := true, named := ["sawmill/cutting.none"], apart := false, laid := [("sawmill/cutting.none", laid_sawmill_cutting_none)] }
def BuckLogsSaid : Prop := buckLogsRow.holds Tryz.pinned (OpenSpec.ofChange buckLogsSpec)

/-- ITS FALSE NEIGHBOUR: 'it returns false'. Refute it at one input. -/
def buckLogsWrong : ChangeSpec := { name := "buckLogs", fn := fun _ => fun
  | [d1, d2] => { results := [.lit (.bool false)], args := [d1, d2] }
  | _ => none }
def BuckLogsWrongFalsely : Prop := buckLogsRow.holds Tryz.pinned (OpenSpec.ofChange buckLogsWrong)

/- THE SECOND FORM. 'bulk': how many values and letters a reading holds, each counted each time it is reached (what is shared counts as often as it is met; a slice's spare places count too). A statement '..UptoSaid' is the law's where the arguments, and the package variables that the reading takes, are together of bulk at most 1048576: NARROWER than '..Said'. Prove '..Said' where nothing that the law and all that it calls make is longer than what came in: it says more and counts as full. Else prove '..UptoSaid'. A law counts once. -/
mutual
def uptoBulk {H : Type} : DataW H → Nat
  | .lit (.string bytes) => bytes.length + 1
  | .lit _ => 1
  | .nil => 1
  | .ptr d => uptoBulk d + 1
  | .slice elems spare => uptoBulkAll elems + uptoBulkAll spare + 1
  | .agg parts => uptoBulkAll parts + 1
  | .iface _ d => uptoBulk d + 1
  | .map entries => uptoBulkEntries entries + 1
  | .held _ => 1
def uptoBulkAll {H : Type} : List (DataW H) → Nat
  | [] => 0
  | d :: r => uptoBulk d + uptoBulkAll r
def uptoBulkEntries {H : Type} : List (Lit × DataW H) → Nat
  | [] => 0
  | x :: r => uptoBulkEntry x + uptoBulkEntries r
def uptoBulkEntry {H : Type} : Lit × DataW H → Nat
  | (.string bytes, d) => bytes.length + uptoBulk d + 1
  | (_, d) => uptoBulk d + 1
 end
def uptoSmall : (H : Type) → List (DataW H) → Bool := fun _ ds => decide (uptoBulkAll ds ≤ 1048576)
def OpenSpec.upto (s : _root_.Go.ChangeSpec) : _root_.Go.OpenSpec := { _root_.Go.OpenSpec.ofChange s with cond := some uptoSmall }

/-- 'sawmilllaw18.BuckLines', WHERE WHAT IT READS IS OF BULK AT MOST 1048576: true; the input reads as it did. -/
def buckLinesUptoRow : OpenClaim := { program := "ytkhljpbkebnnmaagreatdoor", sum := "9bce773addfb68ca0fd7772e61bb5001208f6adf1d8070b543f36b13075fc19c", func := "sawmill/sawmilllaw18.BuckLines", spec := "buckLines", unfollowed := true, recurses := true, named := ["sawmill/cutting.none"], apart := false, laid := [("sawmill/cutting.none", laid_sawmill_cutting_none)], narrowed := true }
def BuckLinesUptoSaid : Prop := buckLinesUptoRow.holds Tryz.pinned (OpenSpec.upto buckLinesSpec)

/-- 'sawmilllaw18.BuckBests', WHERE WHAT IT READS IS OF BULK AT MOST 1048576: true; the input reads as it did. -/
def buckBestsUptoRow : OpenClaim := { program := "ytkhljpbkebnnmaagreatdoor", sum := "9bce773addfb68ca0fd7772e61bb5001208f6adf1d8070b543f36b13075fc19c", func := "sawmill/sawmilllaw18.BuckBests", spec := "buckBests", unfollowed := true, recurses := true, named := ["sawmill/cutting.none"], apart := false, laid := [("sawmill/cutting.none", laid_sawmill_cutting_none)], narrowed := true }
def BuckBestsUptoSaid : Prop := buckBestsUptoRow.holds Tryz.pinned (OpenSpec.upto buckBestsSpec)

/-- 'sawmilllaw18.BuckLogs', WHERE WHAT IT READS IS OF BULK AT MOST 1048576: true; the input reads as it did. -/
def buckLogsUptoRow : OpenClaim := { program := "ytkhljpbkebnnmaagreatdoor", sum := "9bce773addfb68ca0fd7772e61bb5001208f6adf1d8070b543f36b13075fc19c", func := "sawmill/sawmilllaw18.BuckLogs", spec := "buckLogs", unfollowed := true, recurses := true, named := ["sawmill/cutting.none"], apart := false, laid := [("sawmill/cutting.none", laid_sawmill_cutting_none)], narrowed := true }
def BuckLogsUptoSaid : Prop := buckLogsUptoRow.holds Tryz.pinned (OpenSpec.upto buckLogsSpec)

end Rows
end Go.Proofs.YtkhljpbkebnnmaaGreatDoor
