/-
  DERIVED. GIVEN WITH THE SEED: THE CARDS: each row of YtcdgckbdplkdbaaDoorRows.lean that lists a variable, with what it lists TIED to the program's text (the seventh form; the later family's looks); each row that meets fmt, with fmt's text TOLD by the authors' own Lean function (tested against real Go, not proved from fmt's source: count such statements apart). THE CARD IS WHAT COUNTS. Prove the row's statement (the work); the ties are given (YtcdgckbdplkdbaaDoorTie.lean); close each card by the builder's one call (the guide's Derived/Test/ToyasCard.lean, 'card_holds'). Laid BY PROGRAM, IN A SANDBOX (cutbox-door.mjs). By AI agents, Wed Nov 11 2026. No macro, syntax, notation, axiom, sorry.
-/
import Derived.Test.YtcdgckbdplkdbaaDoorRows
import GoSem.ClaimSeven
namespace Go.Proofs.YtcdgckbdplkdbaaDoor
namespace Rows

/-- THE TIED CARD OF 'lispproverlaw2.ObjectField'. -/
def objectFieldCard : Claim7 := { stood := { row := objectFieldRow, standIns := [], harness := (true, "24da92a0626319f44a2b85a9428e4512a9a7d804ffc187c2b742a1d5e039945f"), looks := true }, kinds := [], alts := [], laidByText := true, laidKinds := [.data, .data, .data, .sentinel, .sentinel], laidTests := true, laidLooks := .later }
def ObjectFieldCardSaid : Prop := Claim7.holds Tryd.pinned (.plain (OpenSpec.ofChange objectFieldSpec)) objectFieldCard

/-- THE SECOND FORM's CARD OF 'lispproverlaw2.ObjectField'. -/
def objectFieldUptoCard : Claim7 := { stood := { row := objectFieldUptoRow, standIns := [], harness := (true, "24da92a0626319f44a2b85a9428e4512a9a7d804ffc187c2b742a1d5e039945f"), looks := true }, kinds := [], alts := [], laidByText := true, laidKinds := [.data, .data, .data, .sentinel, .sentinel], laidTests := true, laidLooks := .later }
def ObjectFieldUptoCardSaid : Prop := Claim7.holds Tryd.pinned (.plain (OpenSpec.upto objectFieldSpec)) objectFieldUptoCard
end Rows
end Go.Proofs.YtcdgckbdplkdbaaDoor
