/-
  DERIVED. GIVEN WITH THE SEED: THE CARDS: each row of YtcdgckbdplkdbaaGreatDoorRows.lean that lists a variable, with what it lists TIED to the program's text (the seventh form; the later family's looks); each row that meets fmt, with fmt's text TOLD by the authors' own Lean function (tested against real Go, not proved from fmt's source: count such statements apart). THE CARD IS WHAT COUNTS. Prove the row's statement (the work); the ties are given (YtcdgckbdplkdbaaGreatDoorTie.lean); close each card by the builder's one call (the guide's Derived/Test/ToyasCard.lean, 'card_holds'). Laid BY PROGRAM, IN A SANDBOX (cutbox-door.mjs). By AI agents, Wed Nov 11 2026. No macro, syntax, notation, axiom, sorry.
-/
import Derived.Test.YtcdgckbdplkdbaaGreatDoorRows
import GoSem.ClaimSeven
namespace Go.Proofs.YtcdgckbdplkdbaaGreatDoor
namespace Rows

/-- THE TIED CARD OF 'lispproverlaw2.ObjectValid'. -/
def objectValidCard : Claim7 := { stood := { row := objectValidRow, standIns := [], harness := (true, "7fa376b797cd5de84c066d70d8b0ebd31c745d2ba0fdfd8a9d4b242f0972eb5f"), looks := true }, kinds := [], alts := [], laidByText := true, laidKinds := [.data, .data, .data, .sentinel, .sentinel], laidTests := true, laidLooks := .later }
def ObjectValidCardSaid : Prop := Claim7.holds Tryz.pinned (.plain (OpenSpec.ofChange objectValidSpec)) objectValidCard

/-- THE TIED CARD OF 'lispproverlaw2.ObjectMade'. -/
def objectMadeCard : Claim7 := { stood := { row := objectMadeRow, standIns := [], harness := (true, "7fa376b797cd5de84c066d70d8b0ebd31c745d2ba0fdfd8a9d4b242f0972eb5f"), looks := true }, kinds := [], alts := [], laidByText := true, laidKinds := [.data, .data, .data, .sentinel, .sentinel], laidTests := true, laidLooks := .later }
def ObjectMadeCardSaid : Prop := Claim7.holds Tryz.pinned (.plain (OpenSpec.ofChange objectMadeSpec)) objectMadeCard

/-- THE TIED CARD OF 'lispproverlaw2.ObjectOrder'. -/
def objectOrderCard : Claim7 := { stood := { row := objectOrderRow, standIns := [], harness := (true, "7fa376b797cd5de84c066d70d8b0ebd31c745d2ba0fdfd8a9d4b242f0972eb5f"), looks := true }, kinds := [], alts := [], laidByText := true, laidKinds := [.data, .data, .data, .sentinel, .sentinel], laidTests := true, laidLooks := .later }
def ObjectOrderCardSaid : Prop := Claim7.holds Tryz.pinned (.plain (OpenSpec.ofChange objectOrderSpec)) objectOrderCard

/-- THE TIED CARD OF 'lispproverlaw2.ObjectLists'. -/
def objectListsCard : Claim7 := { stood := { row := objectListsRow, standIns := [], harness := (true, "7fa376b797cd5de84c066d70d8b0ebd31c745d2ba0fdfd8a9d4b242f0972eb5f"), looks := true }, kinds := [], alts := [], laidByText := true, laidKinds := [.data, .data, .data, .sentinel, .sentinel], laidTests := true, laidLooks := .later }
def ObjectListsCardSaid : Prop := Claim7.holds Tryz.pinned (.plain (OpenSpec.ofChange objectListsSpec)) objectListsCard

/-- THE TIED CARD OF 'lispproverlaw2.ObjectCompares'. -/
def objectComparesCard : Claim7 := { stood := { row := objectComparesRow, standIns := [], harness := (true, "7fa376b797cd5de84c066d70d8b0ebd31c745d2ba0fdfd8a9d4b242f0972eb5f"), looks := true }, kinds := [], alts := [], laidByText := true, laidKinds := [.data, .data, .data, .sentinel, .sentinel], laidTests := true, laidLooks := .later }
def ObjectComparesCardSaid : Prop := Claim7.holds Tryz.pinned (.plain (OpenSpec.ofChange objectComparesSpec)) objectComparesCard

/-- THE TIED CARD OF 'lispproverlaw2.ObjectArithmetic'. -/
def objectArithmeticCard : Claim7 := { stood := { row := objectArithmeticRow, standIns := [], harness := (true, "7fa376b797cd5de84c066d70d8b0ebd31c745d2ba0fdfd8a9d4b242f0972eb5f"), looks := true }, kinds := [], alts := [], laidByText := true, laidKinds := [.data, .data, .data, .sentinel, .sentinel], laidTests := true, laidLooks := .later }
def ObjectArithmeticCardSaid : Prop := Claim7.holds Tryz.pinned (.plain (OpenSpec.ofChange objectArithmeticSpec)) objectArithmeticCard

/-- THE SECOND FORM's CARD OF 'lispproverlaw2.ObjectValid'. -/
def objectValidUptoCard : Claim7 := { stood := { row := objectValidUptoRow, standIns := [], harness := (true, "7fa376b797cd5de84c066d70d8b0ebd31c745d2ba0fdfd8a9d4b242f0972eb5f"), looks := true }, kinds := [], alts := [], laidByText := true, laidKinds := [.data, .data, .data, .sentinel, .sentinel], laidTests := true, laidLooks := .later }
def ObjectValidUptoCardSaid : Prop := Claim7.holds Tryz.pinned (.plain (OpenSpec.upto objectValidSpec)) objectValidUptoCard

/-- THE SECOND FORM's CARD OF 'lispproverlaw2.ObjectMade'. -/
def objectMadeUptoCard : Claim7 := { stood := { row := objectMadeUptoRow, standIns := [], harness := (true, "7fa376b797cd5de84c066d70d8b0ebd31c745d2ba0fdfd8a9d4b242f0972eb5f"), looks := true }, kinds := [], alts := [], laidByText := true, laidKinds := [.data, .data, .data, .sentinel, .sentinel], laidTests := true, laidLooks := .later }
def ObjectMadeUptoCardSaid : Prop := Claim7.holds Tryz.pinned (.plain (OpenSpec.upto objectMadeSpec)) objectMadeUptoCard

/-- THE SECOND FORM's CARD OF 'lispproverlaw2.ObjectOrder'. -/
def objectOrderUptoCard : Claim7 := { stood := { row := objectOrderUptoRow, standIns := [], harness := (true, "7fa376b797cd5de84c066d70d8b0ebd31c745d2ba0fdfd8a9d4b242f0972eb5f"), looks := true }, kinds := [], alts := [], laidByText := true, laidKinds := [.data, .data, .data, .sentinel, .sentinel], laidTests := true, laidLooks := .later }
def ObjectOrderUptoCardSaid : Prop := Claim7.holds Tryz.pinned (.plain (OpenSpec.upto objectOrderSpec)) objectOrderUptoCard

/-- THE SECOND FORM's CARD OF 'lispproverlaw2.ObjectLists'. -/
def objectListsUptoCard : Claim7 := { stood := { row := objectListsUptoRow, standIns := [], harness := (true, "7fa376b797cd5de84c066d70d8b0ebd31c745d2ba0fdfd8a9d4b242f0972eb5f"), looks := true }, kinds := [], alts := [], laidByText := true, laidKinds := [.data, .data, .data, .sentinel, .sentinel], laidTests := true, laidLooks := .later }
def ObjectListsUptoCardSaid : Prop := Claim7.holds Tryz.pinned (.plain (OpenSpec.upto objectListsSpec)) objectListsUptoCard

/-- THE SECOND FORM's CARD OF 'lispproverlaw2.ObjectCompares'. -/
def objectComparesUptoCard : Claim7 := { stood := { row := objectComparesUptoRow, standIns := [], harness := (true, "7fa376b797cd5de84c066d70d8b0ebd31c745d2ba0fdfd8a9d4b242f0972eb5f"), looks := true }, kinds := [], alts := [], laidByText := true, laidKinds := [.data, .data, .data, .sentinel, .sentinel], laidTests := true, laidLooks := .later }
def ObjectComparesUptoCardSaid : Prop := Claim7.holds Tryz.pinned (.plain (OpenSpec.upto objectComparesSpec)) objectComparesUptoCard

/-- THE SECOND FORM's CARD OF 'lispproverlaw2.ObjectArithmetic'. -/
def objectArithmeticUptoCard : Claim7 := { stood := { row := objectArithmeticUptoRow, standIns := [], harness := (true, "7fa376b797cd5de84c066d70d8b0ebd31c745d2ba0fdfd8a9d4b242f0972eb5f"), looks := true }, kinds := [], alts := [], laidByText := true, laidKinds := [.data, .data, .data, .sentinel, .sentinel], laidTests := true, laidLooks := .later }
def ObjectArithmeticUptoCardSaid : Prop := Claim7.holds Tryz.pinned (.plain (OpenSpec.upto objectArithmeticSpec)) objectArithmeticUptoCard
end Rows
end Go.Proofs.YtcdgckbdplkdbaaGreatDoor
