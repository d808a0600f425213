/-
  DERIVED. GIVEN WITH THE SEED: THE CARDS: each row of YtkhljpbkebnnmaaGreatDoorRows.lean that lists a variable, with what it lists TIED to the program's text (the seventh form; the later family's looks); each row that meets fmt, with fmt's text TOLD by the authors' own Lean function (tested against real Go, not proved from fmt's source: count such statements apart). THE CARD IS WHAT COUNTS. Prove the row's statement (the work); the ties are given (YtkhljpbkebnnmaaGreatDoorTie.lean); close each card by the builder's one call (the guide's Derived/Test/ToyasCard.lean, 'card_holds'). Laid BY PROGRAM, IN A SANDBOX (cutbox-door.mjs). By AI agents, Wed Nov 11 2026. No macro, syntax, notation, axiom, sorry.
-/
import Derived.Test.YtkhljpbkebnnmaaGreatDoorRows
import GoSem.ClaimSeven
namespace Go.Proofs.YtkhljpbkebnnmaaGreatDoor
namespace Rows

/-- THE TIED CARD OF 'sawmilllaw18.BuckLines'. -/
def buckLinesCard : Claim7 := { stood := { row := buckLinesRow, standIns := [], harness := (true, "424c978efe8e01dde649b30e666a2ffbdae511d8162f1af9ada03b59528555b3"), looks := false }, kinds := [], alts := [], laidByText := true, laidKinds := [.data], laidTests := true, laidLooks := .later }
def BuckLinesCardSaid : Prop := Claim7.holds Tryz.pinned (.plain (OpenSpec.ofChange buckLinesSpec)) buckLinesCard

/-- THE TIED CARD OF 'sawmilllaw18.BuckBests'. -/
def buckBestsCard : Claim7 := { stood := { row := buckBestsRow, standIns := [], harness := (true, "424c978efe8e01dde649b30e666a2ffbdae511d8162f1af9ada03b59528555b3"), looks := false }, kinds := [], alts := [], laidByText := true, laidKinds := [.data], laidTests := true, laidLooks := .later }
def BuckBestsCardSaid : Prop := Claim7.holds Tryz.pinned (.plain (OpenSpec.ofChange buckBestsSpec)) buckBestsCard

/-- THE TIED CARD OF 'sawmilllaw18.BuckLogs'. -/
def buckLogsCard : Claim7 := { stood := { row := buckLogsRow, standIns := [], harness := (true, "424c978efe8e01dde649b30e666a2ffbdae511d8162f1af9ada03b59528555b3"), looks := false }, kinds := [], alts := [], laidByText := true, laidKinds := [.data], laidTests := true, laidLooks := .later }
def BuckLogsCardSaid : Prop := Claim7.holds Tryz.pinned (.plain (OpenSpec.ofChange buckLogsSpec)) buckLogsCard

/-- THE SECOND FORM's CARD OF 'sawmilllaw18.BuckLines'. -/
def buckLinesUptoCard : Claim7 := { stood := { row := buckLinesUptoRow, standIns := [], harness := (true, "424c978efe8e01dde649b30e666a2ffbdae511d8162f1af9ada03b59528555b3"), looks := false }, kinds := [], alts := [], laidByText := true, laidKinds := [.data], laidTests := true, laidLooks := .later }
def BuckLinesUptoCardSaid : Prop := Claim7.holds Tryz.pinned (.plain (OpenSpec.upto buckLinesSpec)) buckLinesUptoCard

/-- THE SECOND FORM's CARD OF 'sawmilllaw18.BuckBests'. -/
def buckBestsUptoCard : Claim7 := { stood := { row := buckBestsUptoRow, standIns := [], harness := (true, "424c978efe8e01dde649b30e666a2ffbdae511d8162f1af9ada03b59528555b3"), looks := false }, kinds := [], alts := [], laidByText := true, laidKinds := [.data], laidTests := true, laidLooks := .later }
def BuckBestsUptoCardSaid : Prop := Claim7.holds Tryz.pinned (.plain (OpenSpec.upto buckBestsSpec)) buckBestsUptoCard

/-- THE SECOND FORM's CARD OF 'sawmilllaw18.BuckLogs'. -/
def buckLogsUptoCard : Claim7 := { stood := { row := buckLogsUptoRow, standIns := [], harness := (true, "424c978efe8e01dde649b30e666a2ffbdae511d8162f1af9ada03b59528555b3"), looks := false }, kinds := [], alts := [], laidByText := true, laidKinds := [.data], laidTests := true, laidLooks := .later }
def BuckLogsUptoCardSaid : Prop := Claim7.holds Tryz.pinned (.plain (OpenSpec.upto buckLogsSpec)) buckLogsUptoCard
end Rows
end Go.Proofs.YtkhljpbkebnnmaaGreatDoor
