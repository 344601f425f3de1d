/-
  DERIVED. GIVEN WITH THE SEED: THE CARDS: each row of YtbpmpdadppamgaaGreatDoorRows.lean that lists a variable, with what it lists TIED to the program's text (the seventh form; the later family's looks); each row that meets fmt, with fmt's text TOLD by the authors' own Lean function (tested against real Go, not proved from fmt's source: count such statements apart). THE CARD IS WHAT COUNTS. Prove the row's statement (the work); the ties are given (YtbpmpdadppamgaaGreatDoorTie.lean); close each card by the builder's one call (the guide's Derived/Test/ToyasCard.lean, 'card_holds'). Laid BY PROGRAM, IN A SANDBOX (cutbox-door.mjs). By AI agents, Wed Nov 11 2026. No macro, syntax, notation, axiom, sorry.
-/
import Derived.Test.YtbpmpdadppamgaaGreatDoorRows
import GoSem.ClaimSeven
namespace Go.Proofs.YtbpmpdadppamgaaGreatDoor
namespace Rows

/-- THE TIED CARD OF 'lispproverlaw19.ClauseSound'. -/
def clauseSoundCard : Claim7 := { stood := { row := clauseSoundRow, standIns := [], harness := (true, "a646a782e48b8f31bf10dbc24f4f6963fffa68000d3d7c8fb5a6cf755d2d683b"), looks := true }, kinds := [], alts := [], laidByText := true, laidKinds := [.data, .data, .data, .sentinel, .sentinel], laidTests := true, laidLooks := .later }
def ClauseSoundCardSaid : Prop := Claim7.holds Tryz.pinned (.plain (OpenSpec.ofChange clauseSoundSpec)) clauseSoundCard

/-- THE TIED CARD OF 'lispproverlaw19.ClauseFormula'. -/
def clauseFormulaCard : Claim7 := { stood := { row := clauseFormulaRow, standIns := [], harness := (true, "a646a782e48b8f31bf10dbc24f4f6963fffa68000d3d7c8fb5a6cf755d2d683b"), looks := true }, kinds := [], alts := [], laidByText := true, laidKinds := [.data, .data, .data, .sentinel, .sentinel], laidTests := true, laidLooks := .later }
def ClauseFormulaCardSaid : Prop := Claim7.holds Tryz.pinned (.plain (OpenSpec.ofChange clauseFormulaSpec)) clauseFormulaCard

/-- THE TIED CARD OF 'lispproverlaw19.ClauseEquivalent'. -/
def clauseEquivalentCard : Claim7 := { stood := { row := clauseEquivalentRow, standIns := [], harness := (true, "a646a782e48b8f31bf10dbc24f4f6963fffa68000d3d7c8fb5a6cf755d2d683b"), looks := true }, kinds := [], alts := [], laidByText := true, laidKinds := [.data, .data, .data], laidTests := true, laidLooks := .later }
def ClauseEquivalentCardSaid : Prop := Claim7.holds Tryz.pinned (.plain (OpenSpec.ofChange clauseEquivalentSpec)) clauseEquivalentCard

/-- THE SECOND FORM's CARD OF 'lispproverlaw19.ClauseSound'. -/
def clauseSoundUptoCard : Claim7 := { stood := { row := clauseSoundUptoRow, standIns := [], harness := (true, "a646a782e48b8f31bf10dbc24f4f6963fffa68000d3d7c8fb5a6cf755d2d683b"), looks := true }, kinds := [], alts := [], laidByText := true, laidKinds := [.data, .data, .data, .sentinel, .sentinel], laidTests := true, laidLooks := .later }
def ClauseSoundUptoCardSaid : Prop := Claim7.holds Tryz.pinned (.plain (OpenSpec.upto clauseSoundSpec)) clauseSoundUptoCard

/-- THE SECOND FORM's CARD OF 'lispproverlaw19.ClauseFormula'. -/
def clauseFormulaUptoCard : Claim7 := { stood := { row := clauseFormulaUptoRow, standIns := [], harness := (true, "a646a782e48b8f31bf10dbc24f4f6963fffa68000d3d7c8fb5a6cf755d2d683b"), looks := true }, kinds := [], alts := [], laidByText := true, laidKinds := [.data, .data, .data, .sentinel, .sentinel], laidTests := true, laidLooks := .later }
def ClauseFormulaUptoCardSaid : Prop := Claim7.holds Tryz.pinned (.plain (OpenSpec.upto clauseFormulaSpec)) clauseFormulaUptoCard

/-- THE SECOND FORM's CARD OF 'lispproverlaw19.ClauseEquivalent'. -/
def clauseEquivalentUptoCard : Claim7 := { stood := { row := clauseEquivalentUptoRow, standIns := [], harness := (true, "a646a782e48b8f31bf10dbc24f4f6963fffa68000d3d7c8fb5a6cf755d2d683b"), looks := true }, kinds := [], alts := [], laidByText := true, laidKinds := [.data, .data, .data], laidTests := true, laidLooks := .later }
def ClauseEquivalentUptoCardSaid : Prop := Claim7.holds Tryz.pinned (.plain (OpenSpec.upto clauseEquivalentSpec)) clauseEquivalentUptoCard
end Rows
end Go.Proofs.YtbpmpdadppamgaaGreatDoor
