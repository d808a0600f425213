/-
  No cell of these rows narrows 'for every input' (looked for: loops, veiled, ifaces, maps, wideKeys, modest, calm, conditions, laid).
  DERIVED. THE GIVEN ROWS OF THIS SEAT. 7 by the template 'for every input the law returns true; each argument reads behind the call as it read before'; 0 by the template 'total and deterministic' (their statements: YthkjkhffljlidaaTotals.lean).
  GIVEN WITH THE SEED: the statements are not yours to turn. If you find one false, say at which input.
  Laid BY PROGRAM, IN A SANDBOX (cutbox-rows.mjs): the forced cells as the released guide's own fill.sh prints them over the translation 9a7e271f71b923dc… (all of the seat's roots in one cut). By AI agents, Wed Nov 11 2026. No macro, syntax, notation, axiom, sorry.
-/
import Derived.Test.YthkjkhffljlidaaChecked
import GoSem.Claim
import GoSem.ClaimJoined
import GoSem.ClaimMapViews
import Derived.JoinedTies
import Derived.KernelRfl
namespace Go.Proofs.Ythkjkhffljlidaa
/- THE CELL 'sum', in the pinned program and in every row, IS THE sha256 OF THE DUMP (.gsa) THAT YthkjkhffljlidaaProg.lean LOADS. Nothing in Lean hashes anything: it is a label: what it is worth is what the hold of that sum in a sandbox is worth. -/
noncomputable def Try.pinned : Pinned := { name := "ythkjkhffljlidaa", sum := "9a7e271f71b923dc7b258d7fd96d4893451a82660311914eb23e8e99c7e0239d", checked := Try.checked }
namespace Rows
def none {H : Type} : Left H := { results := [], args := [] }

/-- 'sawmilllaw57.JournalBlocks': WHATEVER THE INPUT: true; the input reads as it did. -/
def journalBlocksSpec : ChangeSpec := { name := "journalBlocks", fn := fun _ => fun
  | [d1, d2] => { results := [.lit (.bool true)], args := [d1, d2] }
  | _ => none }
def journalBlocksRow : OpenClaim := { program := "ythkjkhffljlidaa", sum := "9a7e271f71b923dc7b258d7fd96d4893451a82660311914eb23e8e99c7e0239d", func := "sawmill/sawmilllaw57.JournalBlocks", spec := "journalBlocks", inPlace := ["internal/abi.NoEscape"], unfollowed := true, recurses := true, apart := false }
def JournalBlocksSaid : Prop := journalBlocksRow.holds Try.pinned (OpenSpec.ofChange journalBlocksSpec)

/-- ITS FALSE NEIGHBOUR: 'it returns false'. Refute it at one input. -/
def journalBlocksWrong : ChangeSpec := { name := "journalBlocks", fn := fun _ => fun
  | [d1, d2] => { results := [.lit (.bool false)], args := [d1, d2] }
  | _ => none }
def JournalBlocksWrongFalsely : Prop := journalBlocksRow.holds Try.pinned (OpenSpec.ofChange journalBlocksWrong)

/-- 'sawmilllaw57.JournalDetects': WHATEVER THE INPUT: true; the input reads as it did. -/
def journalDetectsSpec : ChangeSpec := { name := "journalDetects", fn := fun _ => fun
  | [d1, d2, d3] => { results := [.lit (.bool true)], args := [d1, d2, d3] }
  | _ => none }
def journalDetectsRow : OpenClaim := { program := "ythkjkhffljlidaa", sum := "9a7e271f71b923dc7b258d7fd96d4893451a82660311914eb23e8e99c7e0239d", func := "sawmill/sawmilllaw57.JournalDetects", spec := "journalDetects", inPlace := ["internal/abi.NoEscape"], unfollowed := true, recurses := true, apart := false }
def JournalDetectsSaid : Prop := journalDetectsRow.holds Try.pinned (OpenSpec.ofChange journalDetectsSpec)

/-- ITS FALSE NEIGHBOUR: 'it returns false'. Refute it at one input. -/
def journalDetectsWrong : ChangeSpec := { name := "journalDetects", fn := fun _ => fun
  | [d1, d2, d3] => { results := [.lit (.bool false)], args := [d1, d2, d3] }
  | _ => none }
def JournalDetectsWrongFalsely : Prop := journalDetectsRow.holds Try.pinned (OpenSpec.ofChange journalDetectsWrong)

/-- 'sawmilllaw57.JournalOpens': WHATEVER THE INPUT: true; the input reads as it did. -/
def journalOpensSpec : ChangeSpec := { name := "journalOpens", fn := fun _ => fun
  | [d] => { results := [.lit (.bool true)], args := [d] }
  | _ => none }
def journalOpensRow : OpenClaim := { program := "ythkjkhffljlidaa", sum := "9a7e271f71b923dc7b258d7fd96d4893451a82660311914eb23e8e99c7e0239d", func := "sawmill/sawmilllaw57.JournalOpens", spec := "journalOpens", inPlace := ["internal/abi.NoEscape"], unfollowed := true, recurses := true, apart := false }
def JournalOpensSaid : Prop := journalOpensRow.holds Try.pinned (OpenSpec.ofChange journalOpensSpec)

/-- ITS FALSE NEIGHBOUR: 'it returns false'. Refute it at one input. -/
def journalOpensWrong : ChangeSpec := { name := "journalOpens", fn := fun _ => fun
  | [d] => { results := [.lit (.bool false)], args := [d] }
  | _ => none }
def JournalOpensWrongFalsely : Prop := journalOpensRow.holds Try.pinned (OpenSpec.ofChange journalOpensWrong)

/-- 'sawmilllaw57.JournalRuns': WHATEVER THE INPUT: true; the input reads as it did. -/
def journalRunsSpec : ChangeSpec := { name := "journalRuns", fn := fun _ => fun
  | [d1, d2] => { results := [.lit (.bool true)], args := [d1, d2] }
  | _ => none }
def journalRunsRow : OpenClaim := { program := "ythkjkhffljlidaa", sum := "9a7e271f71b923dc7b258d7fd96d4893451a82660311914eb23e8e99c7e0239d", func := "sawmill/sawmilllaw57.JournalRuns", spec := "journalRuns", inPlace := ["internal/abi.NoEscape"], unfollowed := true, recurses := true, apart := false }
def JournalRunsSaid : Prop := journalRunsRow.holds Try.pinned (OpenSpec.ofChange journalRunsSpec)

/-- ITS FALSE NEIGHBOUR: 'it returns false'. Refute it at one input. -/
def journalRunsWrong : ChangeSpec := { name := "journalRuns", fn := fun _ => fun
  | [d1, d2] => { results := [.lit (.bool false)], args := [d1, d2] }
  | _ => none }
def JournalRunsWrongFalsely : Prop := journalRunsRow.holds Try.pinned (OpenSpec.ofChange journalRunsWrong)

/-- 'sawmilllaw57.JournalRefuses': WHATEVER THE INPUT: true; the input reads as it did. -/
def journalRefusesSpec : ChangeSpec := { name := "journalRefuses", fn := fun _ => fun
  | [d1, d2, d3] => { results := [.lit (.bool true)], args := [d1, d2, d3] }
  | _ => none }
def journalRefusesRow : OpenClaim := { program := "ythkjkhffljlidaa", sum := "9a7e271f71b923dc7b258d7fd96d4893451a82660311914eb23e8e99c7e0239d", func := "sawmill/sawmilllaw57.JournalRefuses", spec := "journalRefuses", inPlace := ["internal/abi.NoEscape"], unfollowed := true, recurses := true, apart := false }
def JournalRefusesSaid : Prop := journalRefusesRow.holds Try.pinned (OpenSpec.ofChange journalRefusesSpec)

/-- ITS FALSE NEIGHBOUR: 'it returns false'. Refute it at one input. -/
def journalRefusesWrong : ChangeSpec := { name := "journalRefuses", fn := fun _ => fun
  | [d1, d2, d3] => { results := [.lit (.bool false)], args := [d1, d2, d3] }
  | _ => none }
def JournalRefusesWrongFalsely : Prop := journalRefusesRow.holds Try.pinned (OpenSpec.ofChange journalRefusesWrong)

/-- 'sawmilllaw57.JournalAtomic': WHATEVER THE INPUT: true; the input reads as it did. -/
def journalAtomicSpec : ChangeSpec := { name := "journalAtomic", fn := fun _ => fun
  | [d1, d2, d3] => { results := [.lit (.bool true)], args := [d1, d2, d3] }
  | _ => none }
def journalAtomicRow : OpenClaim := { program := "ythkjkhffljlidaa", sum := "9a7e271f71b923dc7b258d7fd96d4893451a82660311914eb23e8e99c7e0239d", func := "sawmill/sawmilllaw57.JournalAtomic", spec := "journalAtomic", inPlace := ["internal/abi.NoEscape"], unfollowed := true, recurses := true, apart := false }
def JournalAtomicSaid : Prop := journalAtomicRow.holds Try.pinned (OpenSpec.ofChange journalAtomicSpec)

/-- ITS FALSE NEIGHBOUR: 'it returns false'. Refute it at one input. -/
def journalAtomicWrong : ChangeSpec := { name := "journalAtomic", fn := fun _ => fun
  | [d1, d2, d3] => { results := [.lit (.bool false)], args := [d1, d2, d3] }
  | _ => none }
def JournalAtomicWrongFalsely : Prop := journalAtomicRow.holds Try.pinned (OpenSpec.ofChange journalAtomicWrong)

/-- 'sawmilllaw57.JournalTwice': WHATEVER THE INPUT: true; the input reads as it did. -/
def journalTwiceSpec : ChangeSpec := { name := "journalTwice", fn := fun _ => fun
  | [d1, d2, d3] => { results := [.lit (.bool true)], args := [d1, d2, d3] }
  | _ => none }
def journalTwiceRow : OpenClaim := { program := "ythkjkhffljlidaa", sum := "9a7e271f71b923dc7b258d7fd96d4893451a82660311914eb23e8e99c7e0239d", func := "sawmill/sawmilllaw57.JournalTwice", spec := "journalTwice", inPlace := ["internal/abi.NoEscape"], unfollowed := true, recurses := true, apart := false }
def JournalTwiceSaid : Prop := journalTwiceRow.holds Try.pinned (OpenSpec.ofChange journalTwiceSpec)

/-- ITS FALSE NEIGHBOUR: 'it returns false'. Refute it at one input. -/
def journalTwiceWrong : ChangeSpec := { name := "journalTwice", fn := fun _ => fun
  | [d1, d2, d3] => { results := [.lit (.bool false)], args := [d1, d2, d3] }
  | _ => none }
def JournalTwiceWrongFalsely : Prop := journalTwiceRow.holds Try.pinned (OpenSpec.ofChange journalTwiceWrong)

/- THE SECOND FORM. 'bulk': how many values and letters a reading holds, each counted each time it is reached (what is shared counts as often as it is met; a slice's spare places count too). A statement '..UptoSaid' is the law's where the arguments, and the package variables that the reading takes, are together of bulk at most 1048576: NARROWER than '..Said'. Prove '..Said' where nothing that the law and all that it calls make is longer than what came in: it says more and counts as full. Else prove '..UptoSaid'. A law counts once. -/
mutual
def uptoBulk {H : Type} : DataW H → Nat
  | .lit (.string bytes) => bytes.length + 1
  | .lit _ => 1
  | .nil => 1
  | .ptr d => uptoBulk d + 1
  | .slice elems spare => uptoBulkAll elems + uptoBulkAll spare + 1
  | .agg parts => uptoBulkAll parts + 1
  | .iface _ d => uptoBulk d + 1
  | .map entries => uptoBulkEntries entries + 1
  | .held _ => 1
def uptoBulkAll {H : Type} : List (DataW H) → Nat
  | [] => 0
  | d :: r => uptoBulk d + uptoBulkAll r
def uptoBulkEntries {H : Type} : List (Lit × DataW H) → Nat
  | [] => 0
  | x :: r => uptoBulkEntry x + uptoBulkEntries r
def uptoBulkEntry {H : Type} : Lit × DataW H → Nat
  | (.string bytes, d) => bytes.length + uptoBulk d + 1
  | (_, d) => uptoBulk d + 1
 end
def uptoSmall : (H : Type) → List (DataW H) → Bool := fun _ ds => decide (uptoBulkAll ds ≤ 1048576)
def OpenSpec.upto (s : _root_.Go.ChangeSpec) : _root_.Go.OpenSpec := { _root_.Go.OpenSpec.ofChange s with cond := some uptoSmall }

/-- 'sawmilllaw57.JournalBlocks', WHERE WHAT IT READS IS OF BULK AT MOST 1048576: true; the input reads as it did. -/
def journalBlocksUptoRow : OpenClaim := { program := "ythkjkhffljlidaa", sum := "9a7e271f71b923dc7b258d7fd96d4893451a82660311914eb23e8e99c7e0239d", func := "sawmill/sawmilllaw57.JournalBlocks", spec := "journalBlocks", inPlace := ["internal/abi.NoEscape"], unfollowed := true, recurses := true, apart := false, narrowed := true }
def JournalBlocksUptoSaid : Prop := journalBlocksUptoRow.holds Try.pinned (OpenSpec.upto journalBlocksSpec)

/-- 'sawmilllaw57.JournalDetects', WHERE WHAT IT READS IS OF BULK AT MOST 1048576: true; the input reads as it did. -/
def journalDetectsUptoRow : OpenClaim := { program := "ythkjkhffljlidaa", sum := "9a7e271f71b923dc7b258d7fd96d4893451a82660311914eb23e8e99c7e0239d", func := "sawmill/sawmilllaw57.JournalDetects", spec := "journalDetects", inPlace := ["internal/abi.NoEscape"], unfollowed := true, recurses := true, apart := false, narrowed := true }
def JournalDetectsUptoSaid : Prop := journalDetectsUptoRow.holds Try.pinned (OpenSpec.upto journalDetectsSpec)

/-- 'sawmilllaw57.JournalOpens', WHERE WHAT IT READS IS OF BULK AT MOST 1048576: true; the input reads as it did. -/
def journalOpensUptoRow : OpenClaim := { program := "ythkjkhffljlidaa", sum := "9a7e271f71b923dc7b258d7fd96d4893451a82660311914eb23e8e99c7e0239d", func := "sawmill/sawmilllaw57.JournalOpens", spec := "journalOpens", inPlace := ["internal/abi.NoEscape"], unfollowed := true, recurses := true, apart := false, narrowed := true }
def JournalOpensUptoSaid : Prop := journalOpensUptoRow.holds Try.pinned (OpenSpec.upto journalOpensSpec)

/-- 'sawmilllaw57.JournalRuns', WHERE WHAT IT READS IS OF BULK AT MOST 1048576: true; the input reads as it did. -/
def journalRunsUptoRow : OpenClaim := { program := "ythkjkhffljlidaa", sum := "9a7e271f71b923dc7b258d7fd96d4893451a82660311914eb23e8e99c7e0239d", func := "sawmill/sawmilllaw57.JournalRuns", spec := "journalRuns", inPlace := ["internal/abi.NoEscape"], unfollowed := true, recurses := true, apart := false, narrowed := true }
def JournalRunsUptoSaid : Prop := journalRunsUptoRow.holds Try.pinned (OpenSpec.upto journalRunsSpec)

/-- 'sawmilllaw57.JournalRefuses', WHERE WHAT IT READS IS OF BULK AT MOST 1048576: true; the input reads as it did. -/
def journalRefusesUptoRow : OpenClaim := { program := "ythkjkhffljlidaa", sum := "9a7e271f71b923dc7b258d7fd96d4893451a82660311914eb23e8e99c7e0239d", func := "sawmill/sawmilllaw57.JournalRefuses", spec := "journalRefuses", inPlace := ["internal/abi.NoEscape"], unfollowed := true, recurses := true, apart := false, narrowed := true }
def JournalRefusesUptoSaid : Prop := journalRefusesUptoRow.holds Try.pinned (OpenSpec.upto journalRefusesSpec)

/-- 'sawmilllaw57.JournalAtomic', WHERE WHAT IT READS IS OF BULK AT MOST 1048576: true; the input reads as it did. -/
def journalAtomicUptoRow : OpenClaim := { program := "ythkjkhffljlidaa", sum := "9a7e271f71b923dc7b258d7fd96d4893451a82660311914eb23e8e99c7e0239d", func := "sawmill/sawmilllaw57.JournalAtomic", spec := "journalAtomic", inPlace := ["internal/abi.NoEscape"], unfollowed := true, recurses := true, apart := false, narrowed := true }
def JournalAtomicUptoSaid : Prop := journalAtomicUptoRow.holds Try.pinned (OpenSpec.upto journalAtomicSpec)

/-- 'sawmilllaw57.JournalTwice', WHERE WHAT IT READS IS OF BULK AT MOST 1048576: true; the input reads as it did. -/
def journalTwiceUptoRow : OpenClaim := { program := "ythkjkhffljlidaa", sum := "9a7e271f71b923dc7b258d7fd96d4893451a82660311914eb23e8e99c7e0239d", func := "sawmill/sawmilllaw57.JournalTwice", spec := "journalTwice", inPlace := ["internal/abi.NoEscape"], unfollowed := true, recurses := true, apart := false, narrowed := true }
def JournalTwiceUptoSaid : Prop := journalTwiceUptoRow.holds Try.pinned (OpenSpec.upto journalTwiceSpec)

end Rows
end Go.Proofs.Ythkjkhffljlidaa
