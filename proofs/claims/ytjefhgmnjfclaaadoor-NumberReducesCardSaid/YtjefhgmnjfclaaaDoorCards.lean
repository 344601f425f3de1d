/-
  DERIVED. GIVEN WITH THE SEED: THE CARDS: each row of YtjefhgmnjfclaaaDoorRows.lean that lists a variable, with what it lists TIED to the program's text (the seventh form; the later family's looks); each row that meets fmt, with fmt's text TOLD by the authors' own Lean function (tested against real Go, not proved from fmt's source: count such statements apart). THE CARD IS WHAT COUNTS. Prove the row's statement (the work); the ties are given (YtjefhgmnjfclaaaDoorTie.lean); close each card by the builder's one call (the guide's Derived/Test/ToyasCard.lean, 'card_holds'). Laid BY PROGRAM, IN A SANDBOX (cutbox-door.mjs). By AI agents, Wed Nov 11 2026. No macro, syntax, notation, axiom, sorry.
-/
import Derived.Test.YtjefhgmnjfclaaaDoorRows
import GoSem.ClaimSeven
namespace Go.Proofs.YtjefhgmnjfclaaaDoor
namespace Rows

/-- THE TIED CARD OF 'lispproverlaw1.NumberProducts'. -/
def numberProductsCard : Claim7 := { stood := { row := numberProductsRow, standIns := [], harness := (true, "72d7a2a68840b122529fc6452b29c64d21b1b2e340c24d67b5b1abec331290d2"), looks := true }, kinds := [], alts := [], laidByText := true, laidKinds := [.data, .data, .data, .sentinel, .sentinel], laidTests := true, laidLooks := .later }
def NumberProductsCardSaid : Prop := Claim7.holds Tryd.pinned (.plain (OpenSpec.ofChange numberProductsSpec)) numberProductsCard

/-- THE TIED CARD OF 'lispproverlaw1.NumberQuotients'. -/
def numberQuotientsCard : Claim7 := { stood := { row := numberQuotientsRow, standIns := [], harness := (true, "72d7a2a68840b122529fc6452b29c64d21b1b2e340c24d67b5b1abec331290d2"), looks := true }, kinds := [], alts := [], laidByText := true, laidKinds := [.data, .data, .data, .sentinel, .sentinel], laidTests := true, laidLooks := .later }
def NumberQuotientsCardSaid : Prop := Claim7.holds Tryd.pinned (.plain (OpenSpec.ofChange numberQuotientsSpec)) numberQuotientsCard

/-- THE TIED CARD OF 'lispproverlaw1.NumberGcds'. -/
def numberGcdsCard : Claim7 := { stood := { row := numberGcdsRow, standIns := [], harness := (true, "72d7a2a68840b122529fc6452b29c64d21b1b2e340c24d67b5b1abec331290d2"), looks := true }, kinds := [], alts := [], laidByText := true, laidKinds := [.data, .data, .data, .sentinel, .sentinel], laidTests := true, laidLooks := .later }
def NumberGcdsCardSaid : Prop := Claim7.holds Tryd.pinned (.plain (OpenSpec.ofChange numberGcdsSpec)) numberGcdsCard

/-- THE TIED CARD OF 'lispproverlaw1.NumberReduces'. -/
def numberReducesCard : Claim7 := { stood := { row := numberReducesRow, standIns := [], harness := (true, "72d7a2a68840b122529fc6452b29c64d21b1b2e340c24d67b5b1abec331290d2"), looks := true }, kinds := [], alts := [], laidByText := true, laidKinds := [.data, .data, .data, .sentinel, .sentinel], laidTests := true, laidLooks := .later }
def NumberReducesCardSaid : Prop := Claim7.holds Tryd.pinned (.plain (OpenSpec.ofChange numberReducesSpec)) numberReducesCard

/-- THE TIED CARD OF 'lispproverlaw1.NumberRing'. -/
def numberRingCard : Claim7 := { stood := { row := numberRingRow, standIns := [], harness := (true, "72d7a2a68840b122529fc6452b29c64d21b1b2e340c24d67b5b1abec331290d2"), looks := true }, kinds := [], alts := [], laidByText := true, laidKinds := [.data, .data, .data, .sentinel, .sentinel], laidTests := true, laidLooks := .later }
def NumberRingCardSaid : Prop := Claim7.holds Tryd.pinned (.plain (OpenSpec.ofChange numberRingSpec)) numberRingCard

/-- THE TIED CARD OF 'lispproverlaw1.NumberDivides'. -/
def numberDividesCard : Claim7 := { stood := { row := numberDividesRow, standIns := [], harness := (true, "72d7a2a68840b122529fc6452b29c64d21b1b2e340c24d67b5b1abec331290d2"), looks := true }, kinds := [], alts := [], laidByText := true, laidKinds := [.data, .data, .data, .sentinel, .sentinel], laidTests := true, laidLooks := .later }
def NumberDividesCardSaid : Prop := Claim7.holds Tryd.pinned (.plain (OpenSpec.ofChange numberDividesSpec)) numberDividesCard

/-- THE TIED CARD OF 'lispproverlaw1.NumberOrder'. -/
def numberOrderCard : Claim7 := { stood := { row := numberOrderRow, standIns := [], harness := (true, "72d7a2a68840b122529fc6452b29c64d21b1b2e340c24d67b5b1abec331290d2"), looks := true }, kinds := [], alts := [], laidByText := true, laidKinds := [.data, .data, .data, .sentinel, .sentinel], laidTests := true, laidLooks := .later }
def NumberOrderCardSaid : Prop := Claim7.holds Tryd.pinned (.plain (OpenSpec.ofChange numberOrderSpec)) numberOrderCard

/-- THE TIED CARD OF 'lispproverlaw1.NumberSums'. -/
def numberSumsCard : Claim7 := { stood := { row := numberSumsRow, standIns := [], harness := (true, "72d7a2a68840b122529fc6452b29c64d21b1b2e340c24d67b5b1abec331290d2"), looks := true }, kinds := [], alts := [], laidByText := true, laidKinds := [.data, .data, .data, .sentinel, .sentinel], laidTests := true, laidLooks := .later }
def NumberSumsCardSaid : Prop := Claim7.holds Tryd.pinned (.plain (OpenSpec.ofChange numberSumsSpec)) numberSumsCard

/-- THE TIED CARD OF 'lispproverlaw1.NumberValid'. -/
def numberValidCard : Claim7 := { stood := { row := numberValidRow, standIns := [], harness := (true, "72d7a2a68840b122529fc6452b29c64d21b1b2e340c24d67b5b1abec331290d2"), looks := true }, kinds := [], alts := [], laidByText := true, laidKinds := [.data, .data, .data, .sentinel, .sentinel], laidTests := true, laidLooks := .later }
def NumberValidCardSaid : Prop := Claim7.holds Tryd.pinned (.plain (OpenSpec.ofChange numberValidSpec)) numberValidCard

/-- THE TIED CARD OF 'lispproverlaw1.NumberInts'. -/
def numberIntsCard : Claim7 := { stood := { row := numberIntsRow, standIns := [], harness := (true, "72d7a2a68840b122529fc6452b29c64d21b1b2e340c24d67b5b1abec331290d2"), looks := true }, kinds := [], alts := [], laidByText := true, laidKinds := [.data, .data, .data, .sentinel, .sentinel], laidTests := true, laidLooks := .later }
def NumberIntsCardSaid : Prop := Claim7.holds Tryd.pinned (.plain (OpenSpec.ofChange numberIntsSpec)) numberIntsCard

/-- THE SECOND FORM's CARD OF 'lispproverlaw1.NumberProducts'. -/
def numberProductsUptoCard : Claim7 := { stood := { row := numberProductsUptoRow, standIns := [], harness := (true, "72d7a2a68840b122529fc6452b29c64d21b1b2e340c24d67b5b1abec331290d2"), looks := true }, kinds := [], alts := [], laidByText := true, laidKinds := [.data, .data, .data, .sentinel, .sentinel], laidTests := true, laidLooks := .later }
def NumberProductsUptoCardSaid : Prop := Claim7.holds Tryd.pinned (.plain (OpenSpec.upto numberProductsSpec)) numberProductsUptoCard

/-- THE SECOND FORM's CARD OF 'lispproverlaw1.NumberQuotients'. -/
def numberQuotientsUptoCard : Claim7 := { stood := { row := numberQuotientsUptoRow, standIns := [], harness := (true, "72d7a2a68840b122529fc6452b29c64d21b1b2e340c24d67b5b1abec331290d2"), looks := true }, kinds := [], alts := [], laidByText := true, laidKinds := [.data, .data, .data, .sentinel, .sentinel], laidTests := true, laidLooks := .later }
def NumberQuotientsUptoCardSaid : Prop := Claim7.holds Tryd.pinned (.plain (OpenSpec.upto numberQuotientsSpec)) numberQuotientsUptoCard

/-- THE SECOND FORM's CARD OF 'lispproverlaw1.NumberGcds'. -/
def numberGcdsUptoCard : Claim7 := { stood := { row := numberGcdsUptoRow, standIns := [], harness := (true, "72d7a2a68840b122529fc6452b29c64d21b1b2e340c24d67b5b1abec331290d2"), looks := true }, kinds := [], alts := [], laidByText := true, laidKinds := [.data, .data, .data, .sentinel, .sentinel], laidTests := true, laidLooks := .later }
def NumberGcdsUptoCardSaid : Prop := Claim7.holds Tryd.pinned (.plain (OpenSpec.upto numberGcdsSpec)) numberGcdsUptoCard

/-- THE SECOND FORM's CARD OF 'lispproverlaw1.NumberReduces'. -/
def numberReducesUptoCard : Claim7 := { stood := { row := numberReducesUptoRow, standIns := [], harness := (true, "72d7a2a68840b122529fc6452b29c64d21b1b2e340c24d67b5b1abec331290d2"), looks := true }, kinds := [], alts := [], laidByText := true, laidKinds := [.data, .data, .data, .sentinel, .sentinel], laidTests := true, laidLooks := .later }
def NumberReducesUptoCardSaid : Prop := Claim7.holds Tryd.pinned (.plain (OpenSpec.upto numberReducesSpec)) numberReducesUptoCard

/-- THE SECOND FORM's CARD OF 'lispproverlaw1.NumberRing'. -/
def numberRingUptoCard : Claim7 := { stood := { row := numberRingUptoRow, standIns := [], harness := (true, "72d7a2a68840b122529fc6452b29c64d21b1b2e340c24d67b5b1abec331290d2"), looks := true }, kinds := [], alts := [], laidByText := true, laidKinds := [.data, .data, .data, .sentinel, .sentinel], laidTests := true, laidLooks := .later }
def NumberRingUptoCardSaid : Prop := Claim7.holds Tryd.pinned (.plain (OpenSpec.upto numberRingSpec)) numberRingUptoCard

/-- THE SECOND FORM's CARD OF 'lispproverlaw1.NumberDivides'. -/
def numberDividesUptoCard : Claim7 := { stood := { row := numberDividesUptoRow, standIns := [], harness := (true, "72d7a2a68840b122529fc6452b29c64d21b1b2e340c24d67b5b1abec331290d2"), looks := true }, kinds := [], alts := [], laidByText := true, laidKinds := [.data, .data, .data, .sentinel, .sentinel], laidTests := true, laidLooks := .later }
def NumberDividesUptoCardSaid : Prop := Claim7.holds Tryd.pinned (.plain (OpenSpec.upto numberDividesSpec)) numberDividesUptoCard

/-- THE SECOND FORM's CARD OF 'lispproverlaw1.NumberOrder'. -/
def numberOrderUptoCard : Claim7 := { stood := { row := numberOrderUptoRow, standIns := [], harness := (true, "72d7a2a68840b122529fc6452b29c64d21b1b2e340c24d67b5b1abec331290d2"), looks := true }, kinds := [], alts := [], laidByText := true, laidKinds := [.data, .data, .data, .sentinel, .sentinel], laidTests := true, laidLooks := .later }
def NumberOrderUptoCardSaid : Prop := Claim7.holds Tryd.pinned (.plain (OpenSpec.upto numberOrderSpec)) numberOrderUptoCard

/-- THE SECOND FORM's CARD OF 'lispproverlaw1.NumberSums'. -/
def numberSumsUptoCard : Claim7 := { stood := { row := numberSumsUptoRow, standIns := [], harness := (true, "72d7a2a68840b122529fc6452b29c64d21b1b2e340c24d67b5b1abec331290d2"), looks := true }, kinds := [], alts := [], laidByText := true, laidKinds := [.data, .data, .data, .sentinel, .sentinel], laidTests := true, laidLooks := .later }
def NumberSumsUptoCardSaid : Prop := Claim7.holds Tryd.pinned (.plain (OpenSpec.upto numberSumsSpec)) numberSumsUptoCard

/-- THE SECOND FORM's CARD OF 'lispproverlaw1.NumberValid'. -/
def numberValidUptoCard : Claim7 := { stood := { row := numberValidUptoRow, standIns := [], harness := (true, "72d7a2a68840b122529fc6452b29c64d21b1b2e340c24d67b5b1abec331290d2"), looks := true }, kinds := [], alts := [], laidByText := true, laidKinds := [.data, .data, .data, .sentinel, .sentinel], laidTests := true, laidLooks := .later }
def NumberValidUptoCardSaid : Prop := Claim7.holds Tryd.pinned (.plain (OpenSpec.upto numberValidSpec)) numberValidUptoCard

/-- THE SECOND FORM's CARD OF 'lispproverlaw1.NumberInts'. -/
def numberIntsUptoCard : Claim7 := { stood := { row := numberIntsUptoRow, standIns := [], harness := (true, "72d7a2a68840b122529fc6452b29c64d21b1b2e340c24d67b5b1abec331290d2"), looks := true }, kinds := [], alts := [], laidByText := true, laidKinds := [.data, .data, .data, .sentinel, .sentinel], laidTests := true, laidLooks := .later }
def NumberIntsUptoCardSaid : Prop := Claim7.holds Tryd.pinned (.plain (OpenSpec.upto numberIntsSpec)) numberIntsUptoCard
end Rows
end Go.Proofs.YtjefhgmnjfclaaaDoor
