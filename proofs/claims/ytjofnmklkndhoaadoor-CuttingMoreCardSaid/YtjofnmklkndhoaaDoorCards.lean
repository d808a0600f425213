/-
  DERIVED. GIVEN WITH THE SEED: THE CARDS: each row of YtjofnmklkndhoaaDoorRows.lean that lists a variable, with what it lists TIED to the program's text (the seventh form; the later family's looks); each row that meets fmt, with fmt's text TOLD by the authors' own Lean function (tested against real Go, not proved from fmt's source: count such statements apart). THE CARD IS WHAT COUNTS. Prove the row's statement (the work); the ties are given (YtjofnmklkndhoaaDoorTie.lean); close each card by the builder's one call (the guide's Derived/Test/ToyasCard.lean, 'card_holds'). Laid BY PROGRAM, IN A SANDBOX (cutbox-door.mjs). By AI agents, Wed Nov 11 2026. No macro, syntax, notation, axiom, sorry.
-/
import Derived.Test.YtjofnmklkndhoaaDoorRows
import GoSem.ClaimSeven
namespace Go.Proofs.YtjofnmklkndhoaaDoor
namespace Rows

/-- THE TIED CARD OF 'sawmilllaw17.CuttingChecks'. -/
def cuttingChecksCard : Claim7 := { stood := { row := cuttingChecksRow, standIns := [], harness := (true, "8cc4d363acecc1db8e4fc52ba717a6db12974bedcf377ce03d8470720d4cf090"), looks := false }, kinds := [], alts := [], laidByText := true, laidKinds := [.data], laidTests := true, laidLooks := .later }
def CuttingChecksCardSaid : Prop := Claim7.holds Tryd.pinned (.plain (OpenSpec.ofChange cuttingChecksSpec)) cuttingChecksCard

/-- THE TIED CARD OF 'sawmilllaw17.CuttingCuts'. -/
def cuttingCutsCard : Claim7 := { stood := { row := cuttingCutsRow, standIns := [], harness := (true, "8cc4d363acecc1db8e4fc52ba717a6db12974bedcf377ce03d8470720d4cf090"), looks := false }, kinds := [], alts := [], laidByText := true, laidKinds := [.data], laidTests := true, laidLooks := .later }
def CuttingCutsCardSaid : Prop := Claim7.holds Tryd.pinned (.plain (OpenSpec.ofChange cuttingCutsSpec)) cuttingCutsCard

/-- THE TIED CARD OF 'sawmilllaw17.CuttingBests'. -/
def cuttingBestsCard : Claim7 := { stood := { row := cuttingBestsRow, standIns := [], harness := (true, "8cc4d363acecc1db8e4fc52ba717a6db12974bedcf377ce03d8470720d4cf090"), looks := false }, kinds := [], alts := [], laidByText := true, laidKinds := [.data], laidTests := true, laidLooks := .later }
def CuttingBestsCardSaid : Prop := Claim7.holds Tryd.pinned (.plain (OpenSpec.ofChange cuttingBestsSpec)) cuttingBestsCard

/-- THE TIED CARD OF 'sawmilllaw17.CuttingUniform'. -/
def cuttingUniformCard : Claim7 := { stood := { row := cuttingUniformRow, standIns := [], harness := (true, "8cc4d363acecc1db8e4fc52ba717a6db12974bedcf377ce03d8470720d4cf090"), looks := false }, kinds := [], alts := [], laidByText := true, laidKinds := [.data], laidTests := true, laidLooks := .later }
def CuttingUniformCardSaid : Prop := Claim7.holds Tryd.pinned (.plain (OpenSpec.ofChange cuttingUniformSpec)) cuttingUniformCard

/-- THE TIED CARD OF 'sawmilllaw17.CuttingBest'. -/
def cuttingBestCard : Claim7 := { stood := { row := cuttingBestRow, standIns := [], harness := (true, "8cc4d363acecc1db8e4fc52ba717a6db12974bedcf377ce03d8470720d4cf090"), looks := false }, kinds := [], alts := [], laidByText := true, laidKinds := [.data], laidTests := true, laidLooks := .later }
def CuttingBestCardSaid : Prop := Claim7.holds Tryd.pinned (.plain (OpenSpec.ofChange cuttingBestSpec)) cuttingBestCard

/-- THE TIED CARD OF 'sawmilllaw17.CuttingParts'. -/
def cuttingPartsCard : Claim7 := { stood := { row := cuttingPartsRow, standIns := [], harness := (true, "8cc4d363acecc1db8e4fc52ba717a6db12974bedcf377ce03d8470720d4cf090"), looks := false }, kinds := [], alts := [], laidByText := true, laidKinds := [.data], laidTests := true, laidLooks := .later }
def CuttingPartsCardSaid : Prop := Claim7.holds Tryd.pinned (.plain (OpenSpec.ofChange cuttingPartsSpec)) cuttingPartsCard

/-- THE TIED CARD OF 'sawmilllaw17.CuttingMore'. -/
def cuttingMoreCard : Claim7 := { stood := { row := cuttingMoreRow, standIns := [], harness := (true, "8cc4d363acecc1db8e4fc52ba717a6db12974bedcf377ce03d8470720d4cf090"), looks := false }, kinds := [], alts := [], laidByText := true, laidKinds := [.data], laidTests := true, laidLooks := .later }
def CuttingMoreCardSaid : Prop := Claim7.holds Tryd.pinned (.plain (OpenSpec.ofChange cuttingMoreSpec)) cuttingMoreCard

/-- THE TIED CARD OF 'sawmilllaw17.CuttingScales'. -/
def cuttingScalesCard : Claim7 := { stood := { row := cuttingScalesRow, standIns := [], harness := (true, "8cc4d363acecc1db8e4fc52ba717a6db12974bedcf377ce03d8470720d4cf090"), looks := false }, kinds := [], alts := [], laidByText := true, laidKinds := [.data], laidTests := true, laidLooks := .later }
def CuttingScalesCardSaid : Prop := Claim7.holds Tryd.pinned (.plain (OpenSpec.ofChange cuttingScalesSpec)) cuttingScalesCard

/-- THE SECOND FORM's CARD OF 'sawmilllaw17.CuttingChecks'. -/
def cuttingChecksUptoCard : Claim7 := { stood := { row := cuttingChecksUptoRow, standIns := [], harness := (true, "8cc4d363acecc1db8e4fc52ba717a6db12974bedcf377ce03d8470720d4cf090"), looks := false }, kinds := [], alts := [], laidByText := true, laidKinds := [.data], laidTests := true, laidLooks := .later }
def CuttingChecksUptoCardSaid : Prop := Claim7.holds Tryd.pinned (.plain (OpenSpec.upto cuttingChecksSpec)) cuttingChecksUptoCard

/-- THE SECOND FORM's CARD OF 'sawmilllaw17.CuttingCuts'. -/
def cuttingCutsUptoCard : Claim7 := { stood := { row := cuttingCutsUptoRow, standIns := [], harness := (true, "8cc4d363acecc1db8e4fc52ba717a6db12974bedcf377ce03d8470720d4cf090"), looks := false }, kinds := [], alts := [], laidByText := true, laidKinds := [.data], laidTests := true, laidLooks := .later }
def CuttingCutsUptoCardSaid : Prop := Claim7.holds Tryd.pinned (.plain (OpenSpec.upto cuttingCutsSpec)) cuttingCutsUptoCard

/-- THE SECOND FORM's CARD OF 'sawmilllaw17.CuttingBests'. -/
def cuttingBestsUptoCard : Claim7 := { stood := { row := cuttingBestsUptoRow, standIns := [], harness := (true, "8cc4d363acecc1db8e4fc52ba717a6db12974bedcf377ce03d8470720d4cf090"), looks := false }, kinds := [], alts := [], laidByText := true, laidKinds := [.data], laidTests := true, laidLooks := .later }
def CuttingBestsUptoCardSaid : Prop := Claim7.holds Tryd.pinned (.plain (OpenSpec.upto cuttingBestsSpec)) cuttingBestsUptoCard

/-- THE SECOND FORM's CARD OF 'sawmilllaw17.CuttingUniform'. -/
def cuttingUniformUptoCard : Claim7 := { stood := { row := cuttingUniformUptoRow, standIns := [], harness := (true, "8cc4d363acecc1db8e4fc52ba717a6db12974bedcf377ce03d8470720d4cf090"), looks := false }, kinds := [], alts := [], laidByText := true, laidKinds := [.data], laidTests := true, laidLooks := .later }
def CuttingUniformUptoCardSaid : Prop := Claim7.holds Tryd.pinned (.plain (OpenSpec.upto cuttingUniformSpec)) cuttingUniformUptoCard

/-- THE SECOND FORM's CARD OF 'sawmilllaw17.CuttingBest'. -/
def cuttingBestUptoCard : Claim7 := { stood := { row := cuttingBestUptoRow, standIns := [], harness := (true, "8cc4d363acecc1db8e4fc52ba717a6db12974bedcf377ce03d8470720d4cf090"), looks := false }, kinds := [], alts := [], laidByText := true, laidKinds := [.data], laidTests := true, laidLooks := .later }
def CuttingBestUptoCardSaid : Prop := Claim7.holds Tryd.pinned (.plain (OpenSpec.upto cuttingBestSpec)) cuttingBestUptoCard

/-- THE SECOND FORM's CARD OF 'sawmilllaw17.CuttingParts'. -/
def cuttingPartsUptoCard : Claim7 := { stood := { row := cuttingPartsUptoRow, standIns := [], harness := (true, "8cc4d363acecc1db8e4fc52ba717a6db12974bedcf377ce03d8470720d4cf090"), looks := false }, kinds := [], alts := [], laidByText := true, laidKinds := [.data], laidTests := true, laidLooks := .later }
def CuttingPartsUptoCardSaid : Prop := Claim7.holds Tryd.pinned (.plain (OpenSpec.upto cuttingPartsSpec)) cuttingPartsUptoCard

/-- THE SECOND FORM's CARD OF 'sawmilllaw17.CuttingMore'. -/
def cuttingMoreUptoCard : Claim7 := { stood := { row := cuttingMoreUptoRow, standIns := [], harness := (true, "8cc4d363acecc1db8e4fc52ba717a6db12974bedcf377ce03d8470720d4cf090"), looks := false }, kinds := [], alts := [], laidByText := true, laidKinds := [.data], laidTests := true, laidLooks := .later }
def CuttingMoreUptoCardSaid : Prop := Claim7.holds Tryd.pinned (.plain (OpenSpec.upto cuttingMoreSpec)) cuttingMoreUptoCard

/-- THE SECOND FORM's CARD OF 'sawmilllaw17.CuttingScales'. -/
def cuttingScalesUptoCard : Claim7 := { stood := { row := cuttingScalesUptoRow, standIns := [], harness := (true, "8cc4d363acecc1db8e4fc52ba717a6db12974bedcf377ce03d8470720d4cf090"), looks := false }, kinds := [], alts := [], laidByText := true, laidKinds := [.data], laidTests := true, laidLooks := .later }
def CuttingScalesUptoCardSaid : Prop := Claim7.holds Tryd.pinned (.plain (OpenSpec.upto cuttingScalesSpec)) cuttingScalesUptoCard
end Rows
end Go.Proofs.YtjofnmklkndhoaaDoor
