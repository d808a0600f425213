/-
  DERIVED. GIVEN WITH THE SEED: THE CARDS: each row of YtdndfncpglfdeaaGreatDoorRows.lean that lists a variable, with what it lists TIED to the program's text (the seventh form; the later family's looks); each row that meets fmt, with fmt's text TOLD by the authors' own Lean function (tested against real Go, not proved from fmt's source: count such statements apart). THE CARD IS WHAT COUNTS. Prove the row's statement (the work); the ties are given (YtdndfncpglfdeaaGreatDoorTie.lean); close each card by the builder's one call (the guide's Derived/Test/ToyasCard.lean, 'card_holds'). Laid BY PROGRAM, IN A SANDBOX (cutbox-door.mjs). By AI agents, Wed Nov 11 2026. No macro, syntax, notation, axiom, sorry.
-/
import Derived.Test.YtdndfncpglfdeaaGreatDoorRows
import GoSem.ClaimSeven
namespace Go.Proofs.YtdndfncpglfdeaaGreatDoor
namespace Rows

/-- THE TIED CARD OF 'sawmilltop.TopPlan'. -/
def topPlanCard : Claim7 := { stood := { row := topPlanRow, standIns := [], harness := (true, "435e6c63dfaa9fa0fdcfb3bbc5fd9c2755ce6a4f4e91704e2c4ba79149e2cb7a"), looks := false }, kinds := [], alts := [], laidByText := true, laidKinds := [.data], laidTests := true, laidLooks := .later }
def TopPlanCardSaid : Prop := Claim7.holds Tryz.pinned (.plain (OpenSpec.ofChange topPlanSpec)) topPlanCard

/-- THE SECOND FORM's CARD OF 'sawmilltop.TopPlan'. -/
def topPlanUptoCard : Claim7 := { stood := { row := topPlanUptoRow, standIns := [], harness := (true, "435e6c63dfaa9fa0fdcfb3bbc5fd9c2755ce6a4f4e91704e2c4ba79149e2cb7a"), looks := false }, kinds := [], alts := [], laidByText := true, laidKinds := [.data], laidTests := true, laidLooks := .later }
def TopPlanUptoCardSaid : Prop := Claim7.holds Tryz.pinned (.plain (OpenSpec.upto topPlanSpec)) topPlanUptoCard
end Rows
end Go.Proofs.YtdndfncpglfdeaaGreatDoor
