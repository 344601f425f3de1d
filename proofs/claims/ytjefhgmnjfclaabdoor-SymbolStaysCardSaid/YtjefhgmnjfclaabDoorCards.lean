/-
  DERIVED. GIVEN WITH THE SEED: THE CARDS: each row of YtjefhgmnjfclaabDoorRows.lean that lists a variable, with what it lists TIED to the program's text (the seventh form; the later family's looks); each row that meets fmt, with fmt's text TOLD by the authors' own Lean function (tested against real Go, not proved from fmt's source: count such statements apart). THE CARD IS WHAT COUNTS. Prove the row's statement (the work); the ties are given (YtjefhgmnjfclaabDoorTie.lean); close each card by the builder's one call (the guide's Derived/Test/ToyasCard.lean, 'card_holds'). Laid BY PROGRAM, IN A SANDBOX (cutbox-door.mjs). By AI agents, Wed Nov 11 2026. No macro, syntax, notation, axiom, sorry.
-/
import Derived.Test.YtjefhgmnjfclaabDoorRows
import GoSem.ClaimSeven
namespace Go.Proofs.YtjefhgmnjfclaabDoor
namespace Rows

/-- THE TIED CARD OF 'lispproverlaw4.SymbolNames'. -/
def symbolNamesCard : Claim7 := { stood := { row := symbolNamesRow, standIns := [], harness := (true, "57d3b050088e96b6819fbfe2f72ba5c24c273e101a86b1425f7dbb1863810fd7"), looks := true }, kinds := [], alts := [], laidByText := true, laidKinds := [.data, .data, .data, .sentinel, .sentinel], laidTests := true, laidLooks := .later }
def SymbolNamesCardSaid : Prop := Claim7.holds Tryd.pinned (.plain (OpenSpec.ofChange symbolNamesSpec)) symbolNamesCard

/-- THE TIED CARD OF 'lispproverlaw4.SymbolDefines'. -/
def symbolDefinesCard : Claim7 := { stood := { row := symbolDefinesRow, standIns := [], harness := (true, "57d3b050088e96b6819fbfe2f72ba5c24c273e101a86b1425f7dbb1863810fd7"), looks := true }, kinds := [], alts := [], laidByText := true, laidKinds := [.data, .data, .data, .sentinel, .sentinel], laidTests := true, laidLooks := .later }
def SymbolDefinesCardSaid : Prop := Claim7.holds Tryd.pinned (.plain (OpenSpec.ofChange symbolDefinesSpec)) symbolDefinesCard

/-- THE TIED CARD OF 'lispproverlaw4.SymbolMany'. -/
def symbolManyCard : Claim7 := { stood := { row := symbolManyRow, standIns := [], harness := (true, "57d3b050088e96b6819fbfe2f72ba5c24c273e101a86b1425f7dbb1863810fd7"), looks := true }, kinds := [], alts := [], laidByText := true, laidKinds := [.data, .data, .data, .sentinel, .sentinel], laidTests := true, laidLooks := .later }
def SymbolManyCardSaid : Prop := Claim7.holds Tryd.pinned (.plain (OpenSpec.ofChange symbolManySpec)) symbolManyCard

/-- THE TIED CARD OF 'lispproverlaw4.SymbolInterns'. -/
def symbolInternsCard : Claim7 := { stood := { row := symbolInternsRow, standIns := [], harness := (true, "57d3b050088e96b6819fbfe2f72ba5c24c273e101a86b1425f7dbb1863810fd7"), looks := true }, kinds := [], alts := [], laidByText := true, laidKinds := [.data, .data, .data, .sentinel, .sentinel], laidTests := true, laidLooks := .later }
def SymbolInternsCardSaid : Prop := Claim7.holds Tryd.pinned (.plain (OpenSpec.ofChange symbolInternsSpec)) symbolInternsCard

/-- THE TIED CARD OF 'lispproverlaw4.SymbolVisible'. -/
def symbolVisibleCard : Claim7 := { stood := { row := symbolVisibleRow, standIns := [], harness := (true, "57d3b050088e96b6819fbfe2f72ba5c24c273e101a86b1425f7dbb1863810fd7"), looks := true }, kinds := [], alts := [], laidByText := true, laidKinds := [.data, .data, .data, .sentinel, .sentinel], laidTests := true, laidLooks := .later }
def SymbolVisibleCardSaid : Prop := Claim7.holds Tryd.pinned (.plain (OpenSpec.ofChange symbolVisibleSpec)) symbolVisibleCard

/-- THE TIED CARD OF 'lispproverlaw4.SymbolStays'. -/
def symbolStaysCard : Claim7 := { stood := { row := symbolStaysRow, standIns := [], harness := (true, "57d3b050088e96b6819fbfe2f72ba5c24c273e101a86b1425f7dbb1863810fd7"), looks := true }, kinds := [], alts := [], laidByText := true, laidKinds := [.data, .data, .data, .sentinel, .sentinel], laidTests := true, laidLooks := .later }
def SymbolStaysCardSaid : Prop := Claim7.holds Tryd.pinned (.plain (OpenSpec.ofChange symbolStaysSpec)) symbolStaysCard

/-- THE SECOND FORM's CARD OF 'lispproverlaw4.SymbolNames'. -/
def symbolNamesUptoCard : Claim7 := { stood := { row := symbolNamesUptoRow, standIns := [], harness := (true, "57d3b050088e96b6819fbfe2f72ba5c24c273e101a86b1425f7dbb1863810fd7"), looks := true }, kinds := [], alts := [], laidByText := true, laidKinds := [.data, .data, .data, .sentinel, .sentinel], laidTests := true, laidLooks := .later }
def SymbolNamesUptoCardSaid : Prop := Claim7.holds Tryd.pinned (.plain (OpenSpec.upto symbolNamesSpec)) symbolNamesUptoCard

/-- THE SECOND FORM's CARD OF 'lispproverlaw4.SymbolDefines'. -/
def symbolDefinesUptoCard : Claim7 := { stood := { row := symbolDefinesUptoRow, standIns := [], harness := (true, "57d3b050088e96b6819fbfe2f72ba5c24c273e101a86b1425f7dbb1863810fd7"), looks := true }, kinds := [], alts := [], laidByText := true, laidKinds := [.data, .data, .data, .sentinel, .sentinel], laidTests := true, laidLooks := .later }
def SymbolDefinesUptoCardSaid : Prop := Claim7.holds Tryd.pinned (.plain (OpenSpec.upto symbolDefinesSpec)) symbolDefinesUptoCard

/-- THE SECOND FORM's CARD OF 'lispproverlaw4.SymbolMany'. -/
def symbolManyUptoCard : Claim7 := { stood := { row := symbolManyUptoRow, standIns := [], harness := (true, "57d3b050088e96b6819fbfe2f72ba5c24c273e101a86b1425f7dbb1863810fd7"), looks := true }, kinds := [], alts := [], laidByText := true, laidKinds := [.data, .data, .data, .sentinel, .sentinel], laidTests := true, laidLooks := .later }
def SymbolManyUptoCardSaid : Prop := Claim7.holds Tryd.pinned (.plain (OpenSpec.upto symbolManySpec)) symbolManyUptoCard

/-- THE SECOND FORM's CARD OF 'lispproverlaw4.SymbolInterns'. -/
def symbolInternsUptoCard : Claim7 := { stood := { row := symbolInternsUptoRow, standIns := [], harness := (true, "57d3b050088e96b6819fbfe2f72ba5c24c273e101a86b1425f7dbb1863810fd7"), looks := true }, kinds := [], alts := [], laidByText := true, laidKinds := [.data, .data, .data, .sentinel, .sentinel], laidTests := true, laidLooks := .later }
def SymbolInternsUptoCardSaid : Prop := Claim7.holds Tryd.pinned (.plain (OpenSpec.upto symbolInternsSpec)) symbolInternsUptoCard

/-- THE SECOND FORM's CARD OF 'lispproverlaw4.SymbolVisible'. -/
def symbolVisibleUptoCard : Claim7 := { stood := { row := symbolVisibleUptoRow, standIns := [], harness := (true, "57d3b050088e96b6819fbfe2f72ba5c24c273e101a86b1425f7dbb1863810fd7"), looks := true }, kinds := [], alts := [], laidByText := true, laidKinds := [.data, .data, .data, .sentinel, .sentinel], laidTests := true, laidLooks := .later }
def SymbolVisibleUptoCardSaid : Prop := Claim7.holds Tryd.pinned (.plain (OpenSpec.upto symbolVisibleSpec)) symbolVisibleUptoCard

/-- THE SECOND FORM's CARD OF 'lispproverlaw4.SymbolStays'. -/
def symbolStaysUptoCard : Claim7 := { stood := { row := symbolStaysUptoRow, standIns := [], harness := (true, "57d3b050088e96b6819fbfe2f72ba5c24c273e101a86b1425f7dbb1863810fd7"), looks := true }, kinds := [], alts := [], laidByText := true, laidKinds := [.data, .data, .data, .sentinel, .sentinel], laidTests := true, laidLooks := .later }
def SymbolStaysUptoCardSaid : Prop := Claim7.holds Tryd.pinned (.plain (OpenSpec.upto symbolStaysSpec)) symbolStaysUptoCard
end Rows
end Go.Proofs.YtjefhgmnjfclaabDoor
