/-
  DERIVED. GIVEN WITH THE SEED: THE CARDS: each row of YtkhljpbkebnnmaaDoorRows.lean that lists a variable, with what it lists TIED to the program's text (the seventh form; the later family's looks); each row that meets fmt, with fmt's text TOLD by the authors' own Lean function (tested against real Go, not proved from fmt's source: count such statements apart). THE CARD IS WHAT COUNTS. Prove the row's statement (the work); the ties are given (YtkhljpbkebnnmaaDoorTie.lean); close each card by the builder's one call (the guide's Derived/Test/ToyasCard.lean, 'card_holds'). Laid BY PROGRAM, IN A SANDBOX (cutbox-door.mjs). By AI agents, Wed Nov 11 2026. No macro, syntax, notation, axiom, sorry.
-/
import Derived.Test.YtkhljpbkebnnmaaDoorRows
import GoSem.ClaimSeven
namespace Go.Proofs.YtkhljpbkebnnmaaDoor
namespace Rows

/-- THE TIED CARD OF 'sawmilllaw18.BuckVolume'. -/
def buckVolumeCard : Claim7 := { stood := { row := buckVolumeRow, standIns := [], harness := (true, "640c831d9f6935426baa7bb6bbf87a286fbd62a05d9f26e69ada8376dff39672"), looks := false }, kinds := [], alts := [], laidByText := true, laidKinds := [.data], laidTests := true, laidLooks := .later }
def BuckVolumeCardSaid : Prop := Claim7.holds Tryd.pinned (.plain (OpenSpec.ofChange buckVolumeSpec)) buckVolumeCard

/-- THE TIED CARD OF 'sawmilllaw18.BuckPrice'. -/
def buckPriceCard : Claim7 := { stood := { row := buckPriceRow, standIns := [], harness := (true, "640c831d9f6935426baa7bb6bbf87a286fbd62a05d9f26e69ada8376dff39672"), looks := false }, kinds := [], alts := [], laidByText := true, laidKinds := [.data], laidTests := true, laidLooks := .later }
def BuckPriceCardSaid : Prop := Claim7.holds Tryd.pinned (.plain (OpenSpec.ofChange buckPriceSpec)) buckPriceCard

/-- THE SECOND FORM's CARD OF 'sawmilllaw18.BuckVolume'. -/
def buckVolumeUptoCard : Claim7 := { stood := { row := buckVolumeUptoRow, standIns := [], harness := (true, "640c831d9f6935426baa7bb6bbf87a286fbd62a05d9f26e69ada8376dff39672"), looks := false }, kinds := [], alts := [], laidByText := true, laidKinds := [.data], laidTests := true, laidLooks := .later }
def BuckVolumeUptoCardSaid : Prop := Claim7.holds Tryd.pinned (.plain (OpenSpec.upto buckVolumeSpec)) buckVolumeUptoCard

/-- THE SECOND FORM's CARD OF 'sawmilllaw18.BuckPrice'. -/
def buckPriceUptoCard : Claim7 := { stood := { row := buckPriceUptoRow, standIns := [], harness := (true, "640c831d9f6935426baa7bb6bbf87a286fbd62a05d9f26e69ada8376dff39672"), looks := false }, kinds := [], alts := [], laidByText := true, laidKinds := [.data], laidTests := true, laidLooks := .later }
def BuckPriceUptoCardSaid : Prop := Claim7.holds Tryd.pinned (.plain (OpenSpec.upto buckPriceSpec)) buckPriceUptoCard
end Rows
end Go.Proofs.YtkhljpbkebnnmaaDoor
