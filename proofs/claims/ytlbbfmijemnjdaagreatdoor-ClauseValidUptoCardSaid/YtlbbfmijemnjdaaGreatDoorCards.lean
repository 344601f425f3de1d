/-
  DERIVED. GIVEN WITH THE SEED: THE CARDS: each row of YtlbbfmijemnjdaaGreatDoorRows.lean that lists a variable, with what it lists TIED to the program's text (the seventh form; the later family's looks); each row that meets fmt, with fmt's text TOLD by the authors' own Lean function (tested against real Go, not proved from fmt's source: count such statements apart). THE CARD IS WHAT COUNTS. Prove the row's statement (the work); the ties are given (YtlbbfmijemnjdaaGreatDoorTie.lean); close each card by the builder's one call (the guide's Derived/Test/ToyasCard.lean, 'card_holds'). Laid BY PROGRAM, IN A SANDBOX (cutbox-door.mjs). By AI agents, Wed Nov 11 2026. No macro, syntax, notation, axiom, sorry.
-/
import Derived.Test.YtlbbfmijemnjdaaGreatDoorRows
import GoSem.ClaimSeven
namespace Go.Proofs.YtlbbfmijemnjdaaGreatDoor
namespace Rows

/-- THE TIED CARD OF 'lispproverlaw19.ClauseValid'. -/
def clauseValidCard : Claim7 := { stood := { row := clauseValidRow, standIns := [], harness := (true, "8e05e9499ecad25e08d1e0f76152dd5276be0f4512c6e2f5ae91c5c22bff4f2d"), looks := true }, kinds := [], alts := [], laidByText := true, laidKinds := [.data, .data, .data, .sentinel, .sentinel], laidTests := true, laidLooks := .later }
def ClauseValidCardSaid : Prop := Claim7.holds Tryz.pinned (.plain (OpenSpec.ofChange clauseValidSpec)) clauseValidCard

/-- THE TIED CARD OF 'lispproverlaw19.ClauseMany'. -/
def clauseManyCard : Claim7 := { stood := { row := clauseManyRow, standIns := [], harness := (true, "8e05e9499ecad25e08d1e0f76152dd5276be0f4512c6e2f5ae91c5c22bff4f2d"), looks := true }, kinds := [], alts := [], laidByText := true, laidKinds := [.data, .data, .data, .sentinel, .sentinel], laidTests := true, laidLooks := .later }
def ClauseManyCardSaid : Prop := Claim7.holds Tryz.pinned (.plain (OpenSpec.ofChange clauseManySpec)) clauseManyCard

/-- THE SECOND FORM's CARD OF 'lispproverlaw19.ClauseValid'. -/
def clauseValidUptoCard : Claim7 := { stood := { row := clauseValidUptoRow, standIns := [], harness := (true, "8e05e9499ecad25e08d1e0f76152dd5276be0f4512c6e2f5ae91c5c22bff4f2d"), looks := true }, kinds := [], alts := [], laidByText := true, laidKinds := [.data, .data, .data, .sentinel, .sentinel], laidTests := true, laidLooks := .later }
def ClauseValidUptoCardSaid : Prop := Claim7.holds Tryz.pinned (.plain (OpenSpec.upto clauseValidSpec)) clauseValidUptoCard

/-- THE SECOND FORM's CARD OF 'lispproverlaw19.ClauseMany'. -/
def clauseManyUptoCard : Claim7 := { stood := { row := clauseManyUptoRow, standIns := [], harness := (true, "8e05e9499ecad25e08d1e0f76152dd5276be0f4512c6e2f5ae91c5c22bff4f2d"), looks := true }, kinds := [], alts := [], laidByText := true, laidKinds := [.data, .data, .data, .sentinel, .sentinel], laidTests := true, laidLooks := .later }
def ClauseManyUptoCardSaid : Prop := Claim7.holds Tryz.pinned (.plain (OpenSpec.upto clauseManySpec)) clauseManyUptoCard
end Rows
end Go.Proofs.YtlbbfmijemnjdaaGreatDoor
