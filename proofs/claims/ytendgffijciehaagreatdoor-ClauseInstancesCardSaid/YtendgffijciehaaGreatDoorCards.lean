/-
  DERIVED. GIVEN WITH THE SEED: THE CARDS: each row of YtendgffijciehaaGreatDoorRows.lean that lists a variable, with what it lists TIED to the program's text (the seventh form; the later family's looks); each row that meets fmt, with fmt's text TOLD by the authors' own Lean function (tested against real Go, not proved from fmt's source: count such statements apart). THE CARD IS WHAT COUNTS. Prove the row's statement (the work); the ties are given (YtendgffijciehaaGreatDoorTie.lean); close each card by the builder's one call (the guide's Derived/Test/ToyasCard.lean, 'card_holds'). Laid BY PROGRAM, IN A SANDBOX (cutbox-door.mjs). By AI agents, Wed Nov 11 2026. No macro, syntax, notation, axiom, sorry.
-/
import Derived.Test.YtendgffijciehaaGreatDoorRows
import GoSem.ClaimSeven
namespace Go.Proofs.YtendgffijciehaaGreatDoor
namespace Rows

/-- THE TIED CARD OF 'lispproverlaw19.ClauseTautology'. -/
def clauseTautologyCard : Claim7 := { stood := { row := clauseTautologyRow, standIns := [], harness := (true, "a2cf836bdb7801d26a4053a6be68d1fba1933184b8e1c8e60dc882477748abca"), looks := false }, kinds := [], alts := [], laidByText := true, laidKinds := [.data, .data, .data], laidTests := true, laidLooks := .later }
def ClauseTautologyCardSaid : Prop := Claim7.holds Tryz.pinned (.plain (OpenSpec.ofChange clauseTautologySpec)) clauseTautologyCard

/-- THE TIED CARD OF 'lispproverlaw19.ClauseSets'. -/
def clauseSetsCard : Claim7 := { stood := { row := clauseSetsRow, standIns := [], harness := (true, "a2cf836bdb7801d26a4053a6be68d1fba1933184b8e1c8e60dc882477748abca"), looks := false }, kinds := [], alts := [], laidByText := true, laidKinds := [.data, .data, .data], laidTests := true, laidLooks := .later }
def ClauseSetsCardSaid : Prop := Claim7.holds Tryz.pinned (.plain (OpenSpec.ofChange clauseSetsSpec)) clauseSetsCard

/-- THE TIED CARD OF 'lispproverlaw19.ClauseInstances'. -/
def clauseInstancesCard : Claim7 := { stood := { row := clauseInstancesRow, standIns := [], harness := (true, "a2cf836bdb7801d26a4053a6be68d1fba1933184b8e1c8e60dc882477748abca"), looks := false }, kinds := [], alts := [], laidByText := true, laidKinds := [.data, .data, .data], laidTests := true, laidLooks := .later }
def ClauseInstancesCardSaid : Prop := Claim7.holds Tryz.pinned (.plain (OpenSpec.ofChange clauseInstancesSpec)) clauseInstancesCard

/-- THE TIED CARD OF 'lispproverlaw19.ClauseSubsumes'. -/
def clauseSubsumesCard : Claim7 := { stood := { row := clauseSubsumesRow, standIns := [], harness := (true, "a2cf836bdb7801d26a4053a6be68d1fba1933184b8e1c8e60dc882477748abca"), looks := false }, kinds := [], alts := [], laidByText := true, laidKinds := [.data, .data, .data], laidTests := true, laidLooks := .later }
def ClauseSubsumesCardSaid : Prop := Claim7.holds Tryz.pinned (.plain (OpenSpec.ofChange clauseSubsumesSpec)) clauseSubsumesCard

/-- THE TIED CARD OF 'lispproverlaw19.ClauseLong'. -/
def clauseLongCard : Claim7 := { stood := { row := clauseLongRow, standIns := [], harness := (true, "a2cf836bdb7801d26a4053a6be68d1fba1933184b8e1c8e60dc882477748abca"), looks := false }, kinds := [], alts := [], laidByText := true, laidKinds := [.data, .data, .data], laidTests := true, laidLooks := .later }
def ClauseLongCardSaid : Prop := Claim7.holds Tryz.pinned (.plain (OpenSpec.ofChange clauseLongSpec)) clauseLongCard

/-- THE SECOND FORM's CARD OF 'lispproverlaw19.ClauseTautology'. -/
def clauseTautologyUptoCard : Claim7 := { stood := { row := clauseTautologyUptoRow, standIns := [], harness := (true, "a2cf836bdb7801d26a4053a6be68d1fba1933184b8e1c8e60dc882477748abca"), looks := false }, kinds := [], alts := [], laidByText := true, laidKinds := [.data, .data, .data], laidTests := true, laidLooks := .later }
def ClauseTautologyUptoCardSaid : Prop := Claim7.holds Tryz.pinned (.plain (OpenSpec.upto clauseTautologySpec)) clauseTautologyUptoCard

/-- THE SECOND FORM's CARD OF 'lispproverlaw19.ClauseSets'. -/
def clauseSetsUptoCard : Claim7 := { stood := { row := clauseSetsUptoRow, standIns := [], harness := (true, "a2cf836bdb7801d26a4053a6be68d1fba1933184b8e1c8e60dc882477748abca"), looks := false }, kinds := [], alts := [], laidByText := true, laidKinds := [.data, .data, .data], laidTests := true, laidLooks := .later }
def ClauseSetsUptoCardSaid : Prop := Claim7.holds Tryz.pinned (.plain (OpenSpec.upto clauseSetsSpec)) clauseSetsUptoCard

/-- THE SECOND FORM's CARD OF 'lispproverlaw19.ClauseInstances'. -/
def clauseInstancesUptoCard : Claim7 := { stood := { row := clauseInstancesUptoRow, standIns := [], harness := (true, "a2cf836bdb7801d26a4053a6be68d1fba1933184b8e1c8e60dc882477748abca"), looks := false }, kinds := [], alts := [], laidByText := true, laidKinds := [.data, .data, .data], laidTests := true, laidLooks := .later }
def ClauseInstancesUptoCardSaid : Prop := Claim7.holds Tryz.pinned (.plain (OpenSpec.upto clauseInstancesSpec)) clauseInstancesUptoCard

/-- THE SECOND FORM's CARD OF 'lispproverlaw19.ClauseSubsumes'. -/
def clauseSubsumesUptoCard : Claim7 := { stood := { row := clauseSubsumesUptoRow, standIns := [], harness := (true, "a2cf836bdb7801d26a4053a6be68d1fba1933184b8e1c8e60dc882477748abca"), looks := false }, kinds := [], alts := [], laidByText := true, laidKinds := [.data, .data, .data], laidTests := true, laidLooks := .later }
def ClauseSubsumesUptoCardSaid : Prop := Claim7.holds Tryz.pinned (.plain (OpenSpec.upto clauseSubsumesSpec)) clauseSubsumesUptoCard

/-- THE SECOND FORM's CARD OF 'lispproverlaw19.ClauseLong'. -/
def clauseLongUptoCard : Claim7 := { stood := { row := clauseLongUptoRow, standIns := [], harness := (true, "a2cf836bdb7801d26a4053a6be68d1fba1933184b8e1c8e60dc882477748abca"), looks := false }, kinds := [], alts := [], laidByText := true, laidKinds := [.data, .data, .data], laidTests := true, laidLooks := .later }
def ClauseLongUptoCardSaid : Prop := Claim7.holds Tryz.pinned (.plain (OpenSpec.upto clauseLongSpec)) clauseLongUptoCard
end Rows
end Go.Proofs.YtendgffijciehaaGreatDoor
