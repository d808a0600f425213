/-
  No cell of these rows narrows 'for every input' (looked for: loops, veiled, ifaces, maps, wideKeys, modest, calm, conditions, laid).
  DERIVED. THE GIVEN ROWS OF THIS SEAT. 8 by the template 'for every input the law returns true; each argument reads behind the call as it read before'; 0 by the template 'total and deterministic' (their statements: YtanlfjboahfanaaTotals.lean).
  GIVEN WITH THE SEED: the statements are not yours to turn. If you find one false, say at which input.
  Laid BY PROGRAM, IN A SANDBOX (cutbox-rows.mjs): the forced cells as the released guide's own fill.sh prints them over the translation 7f7e41cee5f7887d… (all of the seat's roots in one cut). By AI agents, Wed Nov 11 2026. No macro, syntax, notation, axiom, sorry.
-/
import Derived.Test.YtanlfjboahfanaaChecked
import GoSem.Claim
import GoSem.ClaimJoined
import GoSem.ClaimMapViews
import Derived.JoinedTies
import Derived.KernelRfl
namespace Go.Proofs.Ytanlfjboahfanaa
/- THE CELL 'sum', in the pinned program and in every row, IS THE sha256 OF THE DUMP (.gsa) THAT YtanlfjboahfanaaProg.lean LOADS. Nothing in Lean hashes anything: it is a label: what it is worth is what the hold of that sum in a sandbox is worth. -/
noncomputable def Try.pinned : Pinned := { name := "ytanlfjboahfanaa", sum := "7f7e41cee5f7887d527d8e8f13e51627458db4f457cddc0d76b34cd6d30be389", checked := Try.checked }
namespace Rows
def none {H : Type} : Left H := { results := [], args := [] }

/-- 'sawmilllaw14.ShapeSections': WHATEVER THE INPUT: true; the input reads as it did. -/
def shapeSectionsSpec : ChangeSpec := { name := "shapeSections", fn := fun _ => fun
  | [d] => { results := [.lit (.bool true)], args := [d] }
  | _ => none }
def shapeSectionsRow : OpenClaim := { program := "ytanlfjboahfanaa", sum := "7f7e41cee5f7887d527d8e8f13e51627458db4f457cddc0d76b34cd6d30be389", func := "sawmill/sawmilllaw14.ShapeSections", spec := "shapeSections", unfollowed := true, recurses := true, apart := false }
def ShapeSectionsSaid : Prop := shapeSectionsRow.holds Try.pinned (OpenSpec.ofChange shapeSectionsSpec)

/-- ITS FALSE NEIGHBOUR: 'it returns false'. Refute it at one input. -/
def shapeSectionsWrong : ChangeSpec := { name := "shapeSections", fn := fun _ => fun
  | [d] => { results := [.lit (.bool false)], args := [d] }
  | _ => none }
def ShapeSectionsWrongFalsely : Prop := shapeSectionsRow.holds Try.pinned (OpenSpec.ofChange shapeSectionsWrong)

/-- 'sawmilllaw14.ShapeLogs': WHATEVER THE INPUT: true; the input reads as it did. -/
def shapeLogsSpec : ChangeSpec := { name := "shapeLogs", fn := fun _ => fun
  | [d] => { results := [.lit (.bool true)], args := [d] }
  | _ => none }
def shapeLogsRow : OpenClaim := { program := "ytanlfjboahfanaa", sum := "7f7e41cee5f7887d527d8e8f13e51627458db4f457cddc0d76b34cd6d30be389", func := "sawmill/sawmilllaw14.ShapeLogs", spec := "shapeLogs", unfollowed := true, recurses := true, apart := false }
def ShapeLogsSaid : Prop := shapeLogsRow.holds Try.pinned (OpenSpec.ofChange shapeLogsSpec)

/-- ITS FALSE NEIGHBOUR: 'it returns false'. Refute it at one input. -/
def shapeLogsWrong : ChangeSpec := { name := "shapeLogs", fn := fun _ => fun
  | [d] => { results := [.lit (.bool false)], args := [d] }
  | _ => none }
def ShapeLogsWrongFalsely : Prop := shapeLogsRow.holds Try.pinned (OpenSpec.ofChange shapeLogsWrong)

/-- 'sawmilllaw14.ShapeSweeps': WHATEVER THE INPUT: true; the input reads as it did. -/
def shapeSweepsSpec : ChangeSpec := { name := "shapeSweeps", fn := fun _ => fun
  | [d] => { results := [.lit (.bool true)], args := [d] }
  | _ => none }
def shapeSweepsRow : OpenClaim := { program := "ytanlfjboahfanaa", sum := "7f7e41cee5f7887d527d8e8f13e51627458db4f457cddc0d76b34cd6d30be389", func := "sawmill/sawmilllaw14.ShapeSweeps", spec := "shapeSweeps", unfollowed := true, recurses := true, apart := false }
def ShapeSweepsSaid : Prop := shapeSweepsRow.holds Try.pinned (OpenSpec.ofChange shapeSweepsSpec)

/-- ITS FALSE NEIGHBOUR: 'it returns false'. Refute it at one input. -/
def shapeSweepsWrong : ChangeSpec := { name := "shapeSweeps", fn := fun _ => fun
  | [d] => { results := [.lit (.bool false)], args := [d] }
  | _ => none }
def ShapeSweepsWrongFalsely : Prop := shapeSweepsRow.holds Try.pinned (OpenSpec.ofChange shapeSweepsWrong)

/-- 'sawmilllaw14.ShapeStraight': WHATEVER THE INPUT: true; the input reads as it did. -/
def shapeStraightSpec : ChangeSpec := { name := "shapeStraight", fn := fun _ => fun
  | [d1, d2] => { results := [.lit (.bool true)], args := [d1, d2] }
  | _ => none }
def shapeStraightRow : OpenClaim := { program := "ytanlfjboahfanaa", sum := "7f7e41cee5f7887d527d8e8f13e51627458db4f457cddc0d76b34cd6d30be389", func := "sawmill/sawmilllaw14.ShapeStraight", spec := "shapeStraight", unfollowed := true, recurses := true, apart := false }
def ShapeStraightSaid : Prop := shapeStraightRow.holds Try.pinned (OpenSpec.ofChange shapeStraightSpec)

/-- ITS FALSE NEIGHBOUR: 'it returns false'. Refute it at one input. -/
def shapeStraightWrong : ChangeSpec := { name := "shapeStraight", fn := fun _ => fun
  | [d1, d2] => { results := [.lit (.bool false)], args := [d1, d2] }
  | _ => none }
def ShapeStraightWrongFalsely : Prop := shapeStraightRow.holds Try.pinned (OpenSpec.ofChange shapeStraightWrong)

/-- 'sawmilllaw14.ShapeEnds': WHATEVER THE INPUT: true; the input reads as it did. -/
def shapeEndsSpec : ChangeSpec := { name := "shapeEnds", fn := fun _ => fun
  | [d] => { results := [.lit (.bool true)], args := [d] }
  | _ => none }
def shapeEndsRow : OpenClaim := { program := "ytanlfjboahfanaa", sum := "7f7e41cee5f7887d527d8e8f13e51627458db4f457cddc0d76b34cd6d30be389", func := "sawmill/sawmilllaw14.ShapeEnds", spec := "shapeEnds", unfollowed := true, recurses := true, apart := false }
def ShapeEndsSaid : Prop := shapeEndsRow.holds Try.pinned (OpenSpec.ofChange shapeEndsSpec)

/-- ITS FALSE NEIGHBOUR: 'it returns false'. Refute it at one input. -/
def shapeEndsWrong : ChangeSpec := { name := "shapeEnds", fn := fun _ => fun
  | [d] => { results := [.lit (.bool false)], args := [d] }
  | _ => none }
def ShapeEndsWrongFalsely : Prop := shapeEndsRow.holds Try.pinned (OpenSpec.ofChange shapeEndsWrong)

/-- 'sawmilllaw14.ShapeAreas': WHATEVER THE INPUT: true; the input reads as it did. -/
def shapeAreasSpec : ChangeSpec := { name := "shapeAreas", fn := fun _ => fun
  | [d1, d2] => { results := [.lit (.bool true)], args := [d1, d2] }
  | _ => none }
def shapeAreasRow : OpenClaim := { program := "ytanlfjboahfanaa", sum := "7f7e41cee5f7887d527d8e8f13e51627458db4f457cddc0d76b34cd6d30be389", func := "sawmill/sawmilllaw14.ShapeAreas", spec := "shapeAreas", unfollowed := true, recurses := true, apart := false }
def ShapeAreasSaid : Prop := shapeAreasRow.holds Try.pinned (OpenSpec.ofChange shapeAreasSpec)

/-- ITS FALSE NEIGHBOUR: 'it returns false'. Refute it at one input. -/
def shapeAreasWrong : ChangeSpec := { name := "shapeAreas", fn := fun _ => fun
  | [d1, d2] => { results := [.lit (.bool false)], args := [d1, d2] }
  | _ => none }
def ShapeAreasWrongFalsely : Prop := shapeAreasRow.holds Try.pinned (OpenSpec.ofChange shapeAreasWrong)

/-- 'sawmilllaw14.ShapeMoves': WHATEVER THE INPUT: true; the input reads as it did. -/
def shapeMovesSpec : ChangeSpec := { name := "shapeMoves", fn := fun _ => fun
  | [d1, d2, d3] => { results := [.lit (.bool true)], args := [d1, d2, d3] }
  | _ => none }
def shapeMovesRow : OpenClaim := { program := "ytanlfjboahfanaa", sum := "7f7e41cee5f7887d527d8e8f13e51627458db4f457cddc0d76b34cd6d30be389", func := "sawmill/sawmilllaw14.ShapeMoves", spec := "shapeMoves", unfollowed := true, recurses := true, apart := false }
def ShapeMovesSaid : Prop := shapeMovesRow.holds Try.pinned (OpenSpec.ofChange shapeMovesSpec)

/-- ITS FALSE NEIGHBOUR: 'it returns false'. Refute it at one input. -/
def shapeMovesWrong : ChangeSpec := { name := "shapeMoves", fn := fun _ => fun
  | [d1, d2, d3] => { results := [.lit (.bool false)], args := [d1, d2, d3] }
  | _ => none }
def ShapeMovesWrongFalsely : Prop := shapeMovesRow.holds Try.pinned (OpenSpec.ofChange shapeMovesWrong)

/-- 'sawmilllaw14.ShapeAlong': WHATEVER THE INPUT: true; the input reads as it did. -/
def shapeAlongSpec : ChangeSpec := { name := "shapeAlong", fn := fun _ => fun
  | [d1, d2] => { results := [.lit (.bool true)], args := [d1, d2] }
  | _ => none }
def shapeAlongRow : OpenClaim := { program := "ytanlfjboahfanaa", sum := "7f7e41cee5f7887d527d8e8f13e51627458db4f457cddc0d76b34cd6d30be389", func := "sawmill/sawmilllaw14.ShapeAlong", spec := "shapeAlong", unfollowed := true, recurses := true, apart := false }
def ShapeAlongSaid : Prop := shapeAlongRow.holds Try.pinned (OpenSpec.ofChange shapeAlongSpec)

/-- ITS FALSE NEIGHBOUR: 'it returns false'. Refute it at one input. -/
def shapeAlongWrong : ChangeSpec := { name := "shapeAlong", fn := fun _ => fun
  | [d1, d2] => { results := [.lit (.bool false)], args := [d1, d2] }
  | _ => none }
def ShapeAlongWrongFalsely : Prop := shapeAlongRow.holds Try.pinned (OpenSpec.ofChange shapeAlongWrong)

/- THE SECOND FORM. 'bulk': how many values and letters a reading holds, each counted each time it is reached (what is shared counts as often as it is met; a slice's spare places count too). A statement '..UptoSaid' is the law's where the arguments, and the package variables that the reading takes, are together of bulk at most 1048576: NARROWER than '..Said'. Prove '..Said' where nothing that the law and all that it calls make is longer than what came in: it says more and counts as full. Else prove '..UptoSaid'. A law counts once. -/
mutual
def uptoBulk {H : Type} : DataW H → Nat
  | .lit (.string bytes) => bytes.length + 1
  | .lit _ => 1
  | .nil => 1
  | .ptr d => uptoBulk d + 1
  | .slice elems spare => uptoBulkAll elems + uptoBulkAll spare + 1
  | .agg parts => uptoBulkAll parts + 1
  | .iface _ d => uptoBulk d + 1
  | .map entries => uptoBulkEntries entries + 1
  | .held _ => 1
def uptoBulkAll {H : Type} : List (DataW H) → Nat
  | [] => 0
  | d :: r => uptoBulk d + uptoBulkAll r
def uptoBulkEntries {H : Type} : List (Lit × DataW H) → Nat
  | [] => 0
  | x :: r => uptoBulkEntry x + uptoBulkEntries r
def uptoBulkEntry {H : Type} : Lit × DataW H → Nat
  | (.string bytes, d) => bytes.length + uptoBulk d + 1
  | (_, d) => uptoBulk d + 1
 end
def uptoSmall : (H : Type) → List (DataW H) → Bool := fun _ ds => decide (uptoBulkAll ds ≤ 1048576)
def OpenSpec.upto (s : _root_.Go.ChangeSpec) : _root_.Go.OpenSpec := { _root_.Go.OpenSpec.ofChange s with cond := some uptoSmall }

/-- 'sawmilllaw14.ShapeSections', WHERE WHAT IT READS IS OF BULK AT MOST 1048576: true; the input reads as it did. -/
def shapeSectionsUptoRow : OpenClaim := { program := "ytanlfjboahfanaa", sum := "7f7e41cee5f7887d527d8e8f13e51627458db4f457cddc0d76b34cd6d30be389", func := "sawmill/sawmilllaw14.ShapeSections", spec := "shapeSections", unfollowed := true, recurses := true, apart := false, narrowed := true }
def ShapeSectionsUptoSaid : Prop := shapeSectionsUptoRow.holds Try.pinned (OpenSpec.upto shapeSectionsSpec)

/-- 'sawmilllaw14.ShapeLogs', WHERE WHAT IT READS IS OF BULK AT MOST 1048576: true; the input reads as it did. -/
def shapeLogsUptoRow : OpenClaim := { program := "ytanlfjboahfanaa", sum := "7f7e41cee5f7887d527d8e8f13e51627458db4f457cddc0d76b34cd6d30be389", func := "sawmill/sawmilllaw14.ShapeLogs", spec := "shapeLogs", unfollowed := true, recurses := true, apart := false, narrowed := true }
def ShapeLogsUptoSaid : Prop := shapeLogsUptoRow.holds Try.pinned (OpenSpec.upto shapeLogsSpec)

/-- 'sawmilllaw14.ShapeSweeps', WHERE WHAT IT READS IS OF BULK AT MOST 1048576: true; the input reads as it did. -/
def shapeSweepsUptoRow : OpenClaim := { program := "ytanlfjboahfanaa", sum := "7f7e41cee5f7887d527d8e8f13e51627458db4f457cddc0d76b34cd6d30be389", func := "sawmill/sawmilllaw14.ShapeSweeps", spec := "shapeSweeps", unfollowed := true, recurses := true, apart := false, narrowed := true }
def ShapeSweepsUptoSaid : Prop := shapeSweepsUptoRow.holds Try.pinned (OpenSpec.upto shapeSweepsSpec)

/-- 'sawmilllaw14.ShapeStraight', WHERE WHAT IT READS IS OF BULK AT MOST 1048576: true; the input reads as it did. -/
def shapeStraightUptoRow : OpenClaim := { program := "ytanlfjboahfanaa", sum := "7f7e41cee5f7887d527d8e8f13e51627458db4f457cddc0d76b34cd6d30be389", func := "sawmill/sawmilllaw14.ShapeStraight", spec := "shapeStraight", unfollowed := true, recurses := true, apart := false, narrowed := true }
def ShapeStraightUptoSaid : Prop := shapeStraightUptoRow.holds Try.pinned (OpenSpec.upto shapeStraightSpec)

/-- 'sawmilllaw14.ShapeEnds', WHERE WHAT IT READS IS OF BULK AT MOST 1048576: true; the input reads as it did. -/
def shapeEndsUptoRow : OpenClaim := { program := "ytanlfjboahfanaa", sum := "7f7e41cee5f7887d527d8e8f13e51627458db4f457cddc0d76b34cd6d30be389", func := "sawmill/sawmilllaw14.ShapeEnds", spec := "shapeEnds", unfollowed := true, recurses := true, apart := false, narrowed := true }
def ShapeEndsUptoSaid : Prop := shapeEndsUptoRow.holds Try.pinned (OpenSpec.upto shapeEndsSpec)

/-- 'sawmilllaw14.ShapeAreas', WHERE WHAT IT READS IS OF BULK AT MOST 1048576: true; the input reads as it did. -/
def shapeAreasUptoRow : OpenClaim := { program := "ytanlfjboahfanaa", sum := "7f7e41cee5f7887d527d8e8f13e51627458db4f457cddc0d76b34cd6d30be389", func := "sawmill/sawmilllaw14.ShapeAreas", spec := "shapeAreas", unfollowed := true, recurses := true, apart := false, narrowed := true }
def ShapeAreasUptoSaid : Prop := shapeAreasUptoRow.holds Try.pinned (OpenSpec.upto shapeAreasSpec)

/-- 'sawmilllaw14.ShapeMoves', WHERE WHAT IT READS IS OF BULK AT MOST 1048576: true; the input reads as it did. -/
def shapeMovesUptoRow : OpenClaim := { program := "ytanlfjboahfanaa", sum := "7f7e41cee5f7887d527d8e8f13e51627458db4f457cddc0d76b34cd6d30be389", func := "sawmill/sawmilllaw14.ShapeMoves", spec := "shapeMoves", unfollowed := true, recurses := true, apart := false, narrowed := true }
def ShapeMovesUptoSaid : Prop := shapeMovesUptoRow.holds Try.pinned (OpenSpec.upto shapeMovesSpec)

/-- 'sawmilllaw14.ShapeAlong', WHERE WHAT IT READS IS OF BULK AT MOST 1048576: true; the input reads as it did. -/
def shapeAlongUptoRow : OpenClaim := { program := "ytanlfjboahfanaa", sum := "7f7e41cee5f7887d527d8e8f13e51627458db4f457cddc0d76b34cd6d30be389", func := "sawmill/sawmilllaw14.ShapeAlong", spec := "shapeAlong", unfollowed := true, recurses := true, apart := false, narrowed := true }
def ShapeAlongUptoSaid : Prop := shapeAlongUptoRow.holds Try.pinned (OpenSpec.upto shapeAlongSpec)

end Rows
end Go.Proofs.Ytanlfjboahfanaa
