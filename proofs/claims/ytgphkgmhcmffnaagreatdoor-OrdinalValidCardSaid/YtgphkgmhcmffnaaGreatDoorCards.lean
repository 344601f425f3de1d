/-
  DERIVED. GIVEN WITH THE SEED: THE CARDS: each row of YtgphkgmhcmffnaaGreatDoorRows.lean that lists a variable, with what it lists TIED to the program's text (the seventh form; the later family's looks); each row that meets fmt, with fmt's text TOLD by the authors' own Lean function (tested against real Go, not proved from fmt's source: count such statements apart). THE CARD IS WHAT COUNTS. Prove the row's statement (the work); the ties are given (YtgphkgmhcmffnaaGreatDoorTie.lean); close each card by the builder's one call (the guide's Derived/Test/ToyasCard.lean, 'card_holds'). Laid BY PROGRAM, IN A SANDBOX (cutbox-door.mjs). By AI agents, Wed Nov 11 2026. No macro, syntax, notation, axiom, sorry.
-/
import Derived.Test.YtgphkgmhcmffnaaGreatDoorRows
import GoSem.ClaimSeven
namespace Go.Proofs.YtgphkgmhcmffnaaGreatDoor
namespace Rows

/-- THE TIED CARD OF 'lispproverlaw3.OrdinalPowers'. -/
def ordinalPowersCard : Claim7 := { stood := { row := ordinalPowersRow, standIns := [], harness := (true, "331bbebf4af7527dee651a32bdba9831e58a6f31baea0791d3cf828a1cef4cd3"), looks := true }, kinds := [], alts := [], laidByText := true, laidKinds := [.data, .data, .data, .sentinel, .sentinel], laidTests := true, laidLooks := .later }
def OrdinalPowersCardSaid : Prop := Claim7.holds Tryz.pinned (.plain (OpenSpec.ofChange ordinalPowersSpec)) ordinalPowersCard

/-- THE TIED CARD OF 'lispproverlaw3.OrdinalLess'. -/
def ordinalLessCard : Claim7 := { stood := { row := ordinalLessRow, standIns := [], harness := (true, "331bbebf4af7527dee651a32bdba9831e58a6f31baea0791d3cf828a1cef4cd3"), looks := true }, kinds := [], alts := [], laidByText := true, laidKinds := [.data, .data, .data, .sentinel, .sentinel], laidTests := true, laidLooks := .later }
def OrdinalLessCardSaid : Prop := Claim7.holds Tryz.pinned (.plain (OpenSpec.ofChange ordinalLessSpec)) ordinalLessCard

/-- THE TIED CARD OF 'lispproverlaw3.OrdinalTotal'. -/
def ordinalTotalCard : Claim7 := { stood := { row := ordinalTotalRow, standIns := [], harness := (true, "331bbebf4af7527dee651a32bdba9831e58a6f31baea0791d3cf828a1cef4cd3"), looks := true }, kinds := [], alts := [], laidByText := true, laidKinds := [.data, .data, .data, .sentinel, .sentinel], laidTests := true, laidLooks := .later }
def OrdinalTotalCardSaid : Prop := Claim7.holds Tryz.pinned (.plain (OpenSpec.ofChange ordinalTotalSpec)) ordinalTotalCard

/-- THE TIED CARD OF 'lispproverlaw3.OrdinalAdds'. -/
def ordinalAddsCard : Claim7 := { stood := { row := ordinalAddsRow, standIns := [], harness := (true, "331bbebf4af7527dee651a32bdba9831e58a6f31baea0791d3cf828a1cef4cd3"), looks := true }, kinds := [], alts := [], laidByText := true, laidKinds := [.data, .data, .data, .sentinel, .sentinel], laidTests := true, laidLooks := .later }
def OrdinalAddsCardSaid : Prop := Claim7.holds Tryz.pinned (.plain (OpenSpec.ofChange ordinalAddsSpec)) ordinalAddsCard

/-- THE TIED CARD OF 'lispproverlaw3.OrdinalMultiplies'. -/
def ordinalMultipliesCard : Claim7 := { stood := { row := ordinalMultipliesRow, standIns := [], harness := (true, "331bbebf4af7527dee651a32bdba9831e58a6f31baea0791d3cf828a1cef4cd3"), looks := true }, kinds := [], alts := [], laidByText := true, laidKinds := [.data, .data, .data, .sentinel, .sentinel], laidTests := true, laidLooks := .later }
def OrdinalMultipliesCardSaid : Prop := Claim7.holds Tryz.pinned (.plain (OpenSpec.ofChange ordinalMultipliesSpec)) ordinalMultipliesCard

/-- THE TIED CARD OF 'lispproverlaw3.OrdinalAlgebra'. -/
def ordinalAlgebraCard : Claim7 := { stood := { row := ordinalAlgebraRow, standIns := [], harness := (true, "331bbebf4af7527dee651a32bdba9831e58a6f31baea0791d3cf828a1cef4cd3"), looks := true }, kinds := [], alts := [], laidByText := true, laidKinds := [.data, .data, .data, .sentinel, .sentinel], laidTests := true, laidLooks := .later }
def OrdinalAlgebraCardSaid : Prop := Claim7.holds Tryz.pinned (.plain (OpenSpec.ofChange ordinalAlgebraSpec)) ordinalAlgebraCard

/-- THE TIED CARD OF 'lispproverlaw3.OrdinalFormats'. -/
def ordinalFormatsCard : Claim7 := { stood := { row := ordinalFormatsRow, standIns := [], harness := (true, "331bbebf4af7527dee651a32bdba9831e58a6f31baea0791d3cf828a1cef4cd3"), looks := true }, kinds := [], alts := [], laidByText := true, laidKinds := [.data, .data, .data, .sentinel, .sentinel], laidTests := true, laidLooks := .later }
def OrdinalFormatsCardSaid : Prop := Claim7.holds Tryz.pinned (.plain (OpenSpec.ofChange ordinalFormatsSpec)) ordinalFormatsCard

/-- THE TIED CARD OF 'lispproverlaw3.OrdinalValid'. -/
def ordinalValidCard : Claim7 := { stood := { row := ordinalValidRow, standIns := [], harness := (true, "331bbebf4af7527dee651a32bdba9831e58a6f31baea0791d3cf828a1cef4cd3"), looks := true }, kinds := [], alts := [], laidByText := true, laidKinds := [.data, .data, .data, .sentinel, .sentinel], laidTests := true, laidLooks := .later }
def OrdinalValidCardSaid : Prop := Claim7.holds Tryz.pinned (.plain (OpenSpec.ofChange ordinalValidSpec)) ordinalValidCard

/-- THE TIED CARD OF 'lispproverlaw3.OrdinalParts'. -/
def ordinalPartsCard : Claim7 := { stood := { row := ordinalPartsRow, standIns := [], harness := (true, "331bbebf4af7527dee651a32bdba9831e58a6f31baea0791d3cf828a1cef4cd3"), looks := true }, kinds := [], alts := [], laidByText := true, laidKinds := [.data, .data, .data, .sentinel, .sentinel], laidTests := true, laidLooks := .later }
def OrdinalPartsCardSaid : Prop := Claim7.holds Tryz.pinned (.plain (OpenSpec.ofChange ordinalPartsSpec)) ordinalPartsCard

/-- THE SECOND FORM's CARD OF 'lispproverlaw3.OrdinalPowers'. -/
def ordinalPowersUptoCard : Claim7 := { stood := { row := ordinalPowersUptoRow, standIns := [], harness := (true, "331bbebf4af7527dee651a32bdba9831e58a6f31baea0791d3cf828a1cef4cd3"), looks := true }, kinds := [], alts := [], laidByText := true, laidKinds := [.data, .data, .data, .sentinel, .sentinel], laidTests := true, laidLooks := .later }
def OrdinalPowersUptoCardSaid : Prop := Claim7.holds Tryz.pinned (.plain (OpenSpec.upto ordinalPowersSpec)) ordinalPowersUptoCard

/-- THE SECOND FORM's CARD OF 'lispproverlaw3.OrdinalLess'. -/
def ordinalLessUptoCard : Claim7 := { stood := { row := ordinalLessUptoRow, standIns := [], harness := (true, "331bbebf4af7527dee651a32bdba9831e58a6f31baea0791d3cf828a1cef4cd3"), looks := true }, kinds := [], alts := [], laidByText := true, laidKinds := [.data, .data, .data, .sentinel, .sentinel], laidTests := true, laidLooks := .later }
def OrdinalLessUptoCardSaid : Prop := Claim7.holds Tryz.pinned (.plain (OpenSpec.upto ordinalLessSpec)) ordinalLessUptoCard

/-- THE SECOND FORM's CARD OF 'lispproverlaw3.OrdinalTotal'. -/
def ordinalTotalUptoCard : Claim7 := { stood := { row := ordinalTotalUptoRow, standIns := [], harness := (true, "331bbebf4af7527dee651a32bdba9831e58a6f31baea0791d3cf828a1cef4cd3"), looks := true }, kinds := [], alts := [], laidByText := true, laidKinds := [.data, .data, .data, .sentinel, .sentinel], laidTests := true, laidLooks := .later }
def OrdinalTotalUptoCardSaid : Prop := Claim7.holds Tryz.pinned (.plain (OpenSpec.upto ordinalTotalSpec)) ordinalTotalUptoCard

/-- THE SECOND FORM's CARD OF 'lispproverlaw3.OrdinalAdds'. -/
def ordinalAddsUptoCard : Claim7 := { stood := { row := ordinalAddsUptoRow, standIns := [], harness := (true, "331bbebf4af7527dee651a32bdba9831e58a6f31baea0791d3cf828a1cef4cd3"), looks := true }, kinds := [], alts := [], laidByText := true, laidKinds := [.data, .data, .data, .sentinel, .sentinel], laidTests := true, laidLooks := .later }
def OrdinalAddsUptoCardSaid : Prop := Claim7.holds Tryz.pinned (.plain (OpenSpec.upto ordinalAddsSpec)) ordinalAddsUptoCard

/-- THE SECOND FORM's CARD OF 'lispproverlaw3.OrdinalMultiplies'. -/
def ordinalMultipliesUptoCard : Claim7 := { stood := { row := ordinalMultipliesUptoRow, standIns := [], harness := (true, "331bbebf4af7527dee651a32bdba9831e58a6f31baea0791d3cf828a1cef4cd3"), looks := true }, kinds := [], alts := [], laidByText := true, laidKinds := [.data, .data, .data, .sentinel, .sentinel], laidTests := true, laidLooks := .later }
def OrdinalMultipliesUptoCardSaid : Prop := Claim7.holds Tryz.pinned (.plain (OpenSpec.upto ordinalMultipliesSpec)) ordinalMultipliesUptoCard

/-- THE SECOND FORM's CARD OF 'lispproverlaw3.OrdinalAlgebra'. -/
def ordinalAlgebraUptoCard : Claim7 := { stood := { row := ordinalAlgebraUptoRow, standIns := [], harness := (true, "331bbebf4af7527dee651a32bdba9831e58a6f31baea0791d3cf828a1cef4cd3"), looks := true }, kinds := [], alts := [], laidByText := true, laidKinds := [.data, .data, .data, .sentinel, .sentinel], laidTests := true, laidLooks := .later }
def OrdinalAlgebraUptoCardSaid : Prop := Claim7.holds Tryz.pinned (.plain (OpenSpec.upto ordinalAlgebraSpec)) ordinalAlgebraUptoCard

/-- THE SECOND FORM's CARD OF 'lispproverlaw3.OrdinalFormats'. -/
def ordinalFormatsUptoCard : Claim7 := { stood := { row := ordinalFormatsUptoRow, standIns := [], harness := (true, "331bbebf4af7527dee651a32bdba9831e58a6f31baea0791d3cf828a1cef4cd3"), looks := true }, kinds := [], alts := [], laidByText := true, laidKinds := [.data, .data, .data, .sentinel, .sentinel], laidTests := true, laidLooks := .later }
def OrdinalFormatsUptoCardSaid : Prop := Claim7.holds Tryz.pinned (.plain (OpenSpec.upto ordinalFormatsSpec)) ordinalFormatsUptoCard

/-- THE SECOND FORM's CARD OF 'lispproverlaw3.OrdinalValid'. -/
def ordinalValidUptoCard : Claim7 := { stood := { row := ordinalValidUptoRow, standIns := [], harness := (true, "331bbebf4af7527dee651a32bdba9831e58a6f31baea0791d3cf828a1cef4cd3"), looks := true }, kinds := [], alts := [], laidByText := true, laidKinds := [.data, .data, .data, .sentinel, .sentinel], laidTests := true, laidLooks := .later }
def OrdinalValidUptoCardSaid : Prop := Claim7.holds Tryz.pinned (.plain (OpenSpec.upto ordinalValidSpec)) ordinalValidUptoCard

/-- THE SECOND FORM's CARD OF 'lispproverlaw3.OrdinalParts'. -/
def ordinalPartsUptoCard : Claim7 := { stood := { row := ordinalPartsUptoRow, standIns := [], harness := (true, "331bbebf4af7527dee651a32bdba9831e58a6f31baea0791d3cf828a1cef4cd3"), looks := true }, kinds := [], alts := [], laidByText := true, laidKinds := [.data, .data, .data, .sentinel, .sentinel], laidTests := true, laidLooks := .later }
def OrdinalPartsUptoCardSaid : Prop := Claim7.holds Tryz.pinned (.plain (OpenSpec.upto ordinalPartsSpec)) ordinalPartsUptoCard
end Rows
end Go.Proofs.YtgphkgmhcmffnaaGreatDoor
