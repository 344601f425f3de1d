/-
  DERIVED. GIVEN WITH THE SEED: THE CARDS: each row of YtmkcnjfhdfanoaaGreatDoorRows.lean that lists a variable, with what it lists TIED to the program's text (the seventh form; the later family's looks); each row that meets fmt, with fmt's text TOLD by the authors' own Lean function (tested against real Go, not proved from fmt's source: count such statements apart). THE CARD IS WHAT COUNTS. Prove the row's statement (the work); the ties are given (YtmkcnjfhdfanoaaGreatDoorTie.lean); close each card by the builder's one call (the guide's Derived/Test/ToyasCard.lean, 'card_holds'). Laid BY PROGRAM, IN A SANDBOX (cutbox-door.mjs). By AI agents, Wed Nov 11 2026. No macro, syntax, notation, axiom, sorry.
-/
import Derived.Test.YtmkcnjfhdfanoaaGreatDoorRows
import GoSem.ClaimSeven
namespace Go.Proofs.YtmkcnjfhdfanoaaGreatDoor
namespace Rows

/-- THE TIED CARD OF 'lispproverlaw7.PrimitiveNames'. -/
def primitiveNamesCard : Claim7 := { stood := { row := primitiveNamesRow, standIns := [], harness := (true, "93deb11a3ee28a51a4270994e6372befa86fff1e58a30afe110143a39939c1e4"), looks := true }, kinds := [], alts := [], laidByText := true, laidKinds := [.data, .data, .data, .sentinel, .sentinel, .listed, .data], laidTests := true, laidLooks := .later }
def PrimitiveNamesCardSaid : Prop := Claim7.holds Tryz.pinned (.plain (OpenSpec.ofChange primitiveNamesSpec)) primitiveNamesCard

/-- THE TIED CARD OF 'lispproverlaw7.PrimitiveApplies'. -/
def primitiveAppliesCard : Claim7 := { stood := { row := primitiveAppliesRow, standIns := [], harness := (true, "93deb11a3ee28a51a4270994e6372befa86fff1e58a30afe110143a39939c1e4"), looks := true }, kinds := [], alts := [], laidByText := true, laidKinds := [.data, .data, .data, .sentinel, .sentinel, .listed, .data], laidTests := true, laidLooks := .later }
def PrimitiveAppliesCardSaid : Prop := Claim7.holds Tryz.pinned (.plain (OpenSpec.ofChange primitiveAppliesSpec)) primitiveAppliesCard

/-- THE TIED CARD OF 'lispproverlaw7.PrimitiveFits'. -/
def primitiveFitsCard : Claim7 := { stood := { row := primitiveFitsRow, standIns := [], harness := (true, "93deb11a3ee28a51a4270994e6372befa86fff1e58a30afe110143a39939c1e4"), looks := true }, kinds := [], alts := [], laidByText := true, laidKinds := [.data, .data, .data, .sentinel, .sentinel, .listed, .data], laidTests := true, laidLooks := .later }
def PrimitiveFitsCardSaid : Prop := Claim7.holds Tryz.pinned (.plain (OpenSpec.ofChange primitiveFitsSpec)) primitiveFitsCard

/-- THE TIED CARD OF 'lispproverlaw7.PrimitiveUnknown'. -/
def primitiveUnknownCard : Claim7 := { stood := { row := primitiveUnknownRow, standIns := [], harness := (true, "93deb11a3ee28a51a4270994e6372befa86fff1e58a30afe110143a39939c1e4"), looks := true }, kinds := [], alts := [], laidByText := true, laidKinds := [.data, .data, .data, .sentinel, .sentinel, .listed, .data], laidTests := true, laidLooks := .later }
def PrimitiveUnknownCardSaid : Prop := Claim7.holds Tryz.pinned (.plain (OpenSpec.ofChange primitiveUnknownSpec)) primitiveUnknownCard

/-- THE TIED CARD OF 'lispproverlaw7.PrimitiveBytes'. -/
def primitiveBytesCard : Claim7 := { stood := { row := primitiveBytesRow, standIns := [], harness := (true, "93deb11a3ee28a51a4270994e6372befa86fff1e58a30afe110143a39939c1e4"), looks := true }, kinds := [], alts := [], laidByText := true, laidKinds := [.data, .data, .data, .sentinel, .sentinel, .listed, .data], laidTests := true, laidLooks := .later }
def PrimitiveBytesCardSaid : Prop := Claim7.holds Tryz.pinned (.plain (OpenSpec.ofChange primitiveBytesSpec)) primitiveBytesCard

/-- THE TIED CARD OF 'lispproverlaw7.PrimitiveLimits'. -/
def primitiveLimitsCard : Claim7 := { stood := { row := primitiveLimitsRow, standIns := [], harness := (true, "93deb11a3ee28a51a4270994e6372befa86fff1e58a30afe110143a39939c1e4"), looks := true }, kinds := [], alts := [], laidByText := true, laidKinds := [.data, .data, .data, .sentinel, .sentinel, .listed, .data], laidTests := true, laidLooks := .later }
def PrimitiveLimitsCardSaid : Prop := Claim7.holds Tryz.pinned (.plain (OpenSpec.ofChange primitiveLimitsSpec)) primitiveLimitsCard

/-- THE TIED CARD OF 'lispproverlaw7.PrimitiveClosed'. -/
def primitiveClosedCard : Claim7 := { stood := { row := primitiveClosedRow, standIns := [], harness := (true, "93deb11a3ee28a51a4270994e6372befa86fff1e58a30afe110143a39939c1e4"), looks := true }, kinds := [], alts := [], laidByText := true, laidKinds := [.data, .data, .data, .sentinel, .sentinel, .listed, .data], laidTests := true, laidLooks := .later }
def PrimitiveClosedCardSaid : Prop := Claim7.holds Tryz.pinned (.plain (OpenSpec.ofChange primitiveClosedSpec)) primitiveClosedCard

/-- THE TIED CARD OF 'lispproverlaw7.PrimitiveConses'. -/
def primitiveConsesCard : Claim7 := { stood := { row := primitiveConsesRow, standIns := [], harness := (true, "93deb11a3ee28a51a4270994e6372befa86fff1e58a30afe110143a39939c1e4"), looks := true }, kinds := [], alts := [], laidByText := true, laidKinds := [.data, .data, .data, .sentinel, .sentinel, .listed, .data], laidTests := true, laidLooks := .later }
def PrimitiveConsesCardSaid : Prop := Claim7.holds Tryz.pinned (.plain (OpenSpec.ofChange primitiveConsesSpec)) primitiveConsesCard

/-- THE TIED CARD OF 'lispproverlaw7.PrimitiveFloors'. -/
def primitiveFloorsCard : Claim7 := { stood := { row := primitiveFloorsRow, standIns := [], harness := (true, "93deb11a3ee28a51a4270994e6372befa86fff1e58a30afe110143a39939c1e4"), looks := true }, kinds := [], alts := [], laidByText := true, laidKinds := [.data, .data, .data, .sentinel, .sentinel, .listed, .data], laidTests := true, laidLooks := .later }
def PrimitiveFloorsCardSaid : Prop := Claim7.holds Tryz.pinned (.plain (OpenSpec.ofChange primitiveFloorsSpec)) primitiveFloorsCard

/-- THE SECOND FORM's CARD OF 'lispproverlaw7.PrimitiveNames'. -/
def primitiveNamesUptoCard : Claim7 := { stood := { row := primitiveNamesUptoRow, standIns := [], harness := (true, "93deb11a3ee28a51a4270994e6372befa86fff1e58a30afe110143a39939c1e4"), looks := true }, kinds := [], alts := [], laidByText := true, laidKinds := [.data, .data, .data, .sentinel, .sentinel, .listed, .data], laidTests := true, laidLooks := .later }
def PrimitiveNamesUptoCardSaid : Prop := Claim7.holds Tryz.pinned (.plain (OpenSpec.upto primitiveNamesSpec)) primitiveNamesUptoCard

/-- THE SECOND FORM's CARD OF 'lispproverlaw7.PrimitiveApplies'. -/
def primitiveAppliesUptoCard : Claim7 := { stood := { row := primitiveAppliesUptoRow, standIns := [], harness := (true, "93deb11a3ee28a51a4270994e6372befa86fff1e58a30afe110143a39939c1e4"), looks := true }, kinds := [], alts := [], laidByText := true, laidKinds := [.data, .data, .data, .sentinel, .sentinel, .listed, .data], laidTests := true, laidLooks := .later }
def PrimitiveAppliesUptoCardSaid : Prop := Claim7.holds Tryz.pinned (.plain (OpenSpec.upto primitiveAppliesSpec)) primitiveAppliesUptoCard

/-- THE SECOND FORM's CARD OF 'lispproverlaw7.PrimitiveFits'. -/
def primitiveFitsUptoCard : Claim7 := { stood := { row := primitiveFitsUptoRow, standIns := [], harness := (true, "93deb11a3ee28a51a4270994e6372befa86fff1e58a30afe110143a39939c1e4"), looks := true }, kinds := [], alts := [], laidByText := true, laidKinds := [.data, .data, .data, .sentinel, .sentinel, .listed, .data], laidTests := true, laidLooks := .later }
def PrimitiveFitsUptoCardSaid : Prop := Claim7.holds Tryz.pinned (.plain (OpenSpec.upto primitiveFitsSpec)) primitiveFitsUptoCard

/-- THE SECOND FORM's CARD OF 'lispproverlaw7.PrimitiveUnknown'. -/
def primitiveUnknownUptoCard : Claim7 := { stood := { row := primitiveUnknownUptoRow, standIns := [], harness := (true, "93deb11a3ee28a51a4270994e6372befa86fff1e58a30afe110143a39939c1e4"), looks := true }, kinds := [], alts := [], laidByText := true, laidKinds := [.data, .data, .data, .sentinel, .sentinel, .listed, .data], laidTests := true, laidLooks := .later }
def PrimitiveUnknownUptoCardSaid : Prop := Claim7.holds Tryz.pinned (.plain (OpenSpec.upto primitiveUnknownSpec)) primitiveUnknownUptoCard

/-- THE SECOND FORM's CARD OF 'lispproverlaw7.PrimitiveBytes'. -/
def primitiveBytesUptoCard : Claim7 := { stood := { row := primitiveBytesUptoRow, standIns := [], harness := (true, "93deb11a3ee28a51a4270994e6372befa86fff1e58a30afe110143a39939c1e4"), looks := true }, kinds := [], alts := [], laidByText := true, laidKinds := [.data, .data, .data, .sentinel, .sentinel, .listed, .data], laidTests := true, laidLooks := .later }
def PrimitiveBytesUptoCardSaid : Prop := Claim7.holds Tryz.pinned (.plain (OpenSpec.upto primitiveBytesSpec)) primitiveBytesUptoCard

/-- THE SECOND FORM's CARD OF 'lispproverlaw7.PrimitiveLimits'. -/
def primitiveLimitsUptoCard : Claim7 := { stood := { row := primitiveLimitsUptoRow, standIns := [], harness := (true, "93deb11a3ee28a51a4270994e6372befa86fff1e58a30afe110143a39939c1e4"), looks := true }, kinds := [], alts := [], laidByText := true, laidKinds := [.data, .data, .data, .sentinel, .sentinel, .listed, .data], laidTests := true, laidLooks := .later }
def PrimitiveLimitsUptoCardSaid : Prop := Claim7.holds Tryz.pinned (.plain (OpenSpec.upto primitiveLimitsSpec)) primitiveLimitsUptoCard

/-- THE SECOND FORM's CARD OF 'lispproverlaw7.PrimitiveClosed'. -/
def primitiveClosedUptoCard : Claim7 := { stood := { row := primitiveClosedUptoRow, standIns := [], harness := (true, "93deb11a3ee28a51a4270994e6372befa86fff1e58a30afe110143a39939c1e4"), looks := true }, kinds := [], alts := [], laidByText := true, laidKinds := [.data, .data, .data, .sentinel, .sentinel, .listed, .data], laidTests := true, laidLooks := .later }
def PrimitiveClosedUptoCardSaid : Prop := Claim7.holds Tryz.pinned (.plain (OpenSpec.upto primitiveClosedSpec)) primitiveClosedUptoCard

/-- THE SECOND FORM's CARD OF 'lispproverlaw7.PrimitiveConses'. -/
def primitiveConsesUptoCard : Claim7 := { stood := { row := primitiveConsesUptoRow, standIns := [], harness := (true, "93deb11a3ee28a51a4270994e6372befa86fff1e58a30afe110143a39939c1e4"), looks := true }, kinds := [], alts := [], laidByText := true, laidKinds := [.data, .data, .data, .sentinel, .sentinel, .listed, .data], laidTests := true, laidLooks := .later }
def PrimitiveConsesUptoCardSaid : Prop := Claim7.holds Tryz.pinned (.plain (OpenSpec.upto primitiveConsesSpec)) primitiveConsesUptoCard

/-- THE SECOND FORM's CARD OF 'lispproverlaw7.PrimitiveFloors'. -/
def primitiveFloorsUptoCard : Claim7 := { stood := { row := primitiveFloorsUptoRow, standIns := [], harness := (true, "93deb11a3ee28a51a4270994e6372befa86fff1e58a30afe110143a39939c1e4"), looks := true }, kinds := [], alts := [], laidByText := true, laidKinds := [.data, .data, .data, .sentinel, .sentinel, .listed, .data], laidTests := true, laidLooks := .later }
def PrimitiveFloorsUptoCardSaid : Prop := Claim7.holds Tryz.pinned (.plain (OpenSpec.upto primitiveFloorsSpec)) primitiveFloorsUptoCard
end Rows
end Go.Proofs.YtmkcnjfhdfanoaaGreatDoor
