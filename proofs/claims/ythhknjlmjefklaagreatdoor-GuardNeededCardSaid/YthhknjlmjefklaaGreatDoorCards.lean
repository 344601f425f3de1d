/-
  DERIVED. GIVEN WITH THE SEED: THE CARDS: each row of YthhknjlmjefklaaGreatDoorRows.lean that lists a variable, with what it lists TIED to the program's text (the seventh form; the later family's looks); each row that meets fmt, with fmt's text TOLD by the authors' own Lean function (tested against real Go, not proved from fmt's source: count such statements apart). THE CARD IS WHAT COUNTS. Prove the row's statement (the work); the ties are given (YthhknjlmjefklaaGreatDoorTie.lean); close each card by the builder's one call (the guide's Derived/Test/ToyasCard.lean, 'card_holds'). Laid BY PROGRAM, IN A SANDBOX (cutbox-door.mjs). By AI agents, Wed Nov 11 2026. No macro, syntax, notation, axiom, sorry.
-/
import Derived.Test.YthhknjlmjefklaaGreatDoorRows
import GoSem.ClaimSeven
namespace Go.Proofs.YthhknjlmjefklaaGreatDoor
namespace Rows

/-- THE TIED CARD OF 'lispproverlaw14.GuardMeaning'. -/
def guardMeaningCard : Claim7 := { stood := { row := guardMeaningRow, standIns := [], harness := (true, "3800797135e9e268b1c693874e46621278a459145b7fc558c3272dbf2ff3d1c6"), looks := true }, kinds := [], alts := [], laidByText := true, laidKinds := [.data, .data, .data, .sentinel, .sentinel], laidTests := true, laidLooks := .later }
def GuardMeaningCardSaid : Prop := Claim7.holds Tryz.pinned (.plain (OpenSpec.ofChange guardMeaningSpec)) guardMeaningCard

/-- THE TIED CARD OF 'lispproverlaw14.GuardNeeded'. -/
def guardNeededCard : Claim7 := { stood := { row := guardNeededRow, standIns := [], harness := (true, "3800797135e9e268b1c693874e46621278a459145b7fc558c3272dbf2ff3d1c6"), looks := true }, kinds := [], alts := [], laidByText := true, laidKinds := [.data, .data, .data, .sentinel, .sentinel], laidTests := true, laidLooks := .later }
def GuardNeededCardSaid : Prop := Claim7.holds Tryz.pinned (.plain (OpenSpec.ofChange guardNeededSpec)) guardNeededCard

/-- THE SECOND FORM's CARD OF 'lispproverlaw14.GuardMeaning'. -/
def guardMeaningUptoCard : Claim7 := { stood := { row := guardMeaningUptoRow, standIns := [], harness := (true, "3800797135e9e268b1c693874e46621278a459145b7fc558c3272dbf2ff3d1c6"), looks := true }, kinds := [], alts := [], laidByText := true, laidKinds := [.data, .data, .data, .sentinel, .sentinel], laidTests := true, laidLooks := .later }
def GuardMeaningUptoCardSaid : Prop := Claim7.holds Tryz.pinned (.plain (OpenSpec.upto guardMeaningSpec)) guardMeaningUptoCard

/-- THE SECOND FORM's CARD OF 'lispproverlaw14.GuardNeeded'. -/
def guardNeededUptoCard : Claim7 := { stood := { row := guardNeededUptoRow, standIns := [], harness := (true, "3800797135e9e268b1c693874e46621278a459145b7fc558c3272dbf2ff3d1c6"), looks := true }, kinds := [], alts := [], laidByText := true, laidKinds := [.data, .data, .data, .sentinel, .sentinel], laidTests := true, laidLooks := .later }
def GuardNeededUptoCardSaid : Prop := Claim7.holds Tryz.pinned (.plain (OpenSpec.upto guardNeededSpec)) guardNeededUptoCard
end Rows
end Go.Proofs.YthhknjlmjefklaaGreatDoor
