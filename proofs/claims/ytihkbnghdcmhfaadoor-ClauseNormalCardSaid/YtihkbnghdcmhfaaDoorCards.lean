/-
  DERIVED. GIVEN WITH THE SEED: THE CARDS: each row of YtihkbnghdcmhfaaDoorRows.lean that lists a variable, with what it lists TIED to the program's text (the seventh form; the later family's looks); each row that meets fmt, with fmt's text TOLD by the authors' own Lean function (tested against real Go, not proved from fmt's source: count such statements apart). THE CARD IS WHAT COUNTS. Prove the row's statement (the work); the ties are given (YtihkbnghdcmhfaaDoorTie.lean); close each card by the builder's one call (the guide's Derived/Test/ToyasCard.lean, 'card_holds'). Laid BY PROGRAM, IN A SANDBOX (cutbox-door.mjs). By AI agents, Wed Nov 11 2026. No macro, syntax, notation, axiom, sorry.
-/
import Derived.Test.YtihkbnghdcmhfaaDoorRows
import GoSem.ClaimSeven
namespace Go.Proofs.YtihkbnghdcmhfaaDoor
namespace Rows

/-- THE TIED CARD OF 'lispproverlaw19.ClauseNormal'. -/
def clauseNormalCard : Claim7 := { stood := { row := clauseNormalRow, standIns := [], harness := (true, "9b7407f37c22dc7033f28264dda8e17d2a6bf3ec69163dca09a841745474ff24"), looks := false }, kinds := [], alts := [], laidByText := true, laidKinds := [.data, .data, .data], laidTests := true, laidLooks := .later }
def ClauseNormalCardSaid : Prop := Claim7.holds Tryd.pinned (.plain (OpenSpec.ofChange clauseNormalSpec)) clauseNormalCard

/-- THE SECOND FORM's CARD OF 'lispproverlaw19.ClauseNormal'. -/
def clauseNormalUptoCard : Claim7 := { stood := { row := clauseNormalUptoRow, standIns := [], harness := (true, "9b7407f37c22dc7033f28264dda8e17d2a6bf3ec69163dca09a841745474ff24"), looks := false }, kinds := [], alts := [], laidByText := true, laidKinds := [.data, .data, .data], laidTests := true, laidLooks := .later }
def ClauseNormalUptoCardSaid : Prop := Claim7.holds Tryd.pinned (.plain (OpenSpec.upto clauseNormalSpec)) clauseNormalUptoCard
end Rows
end Go.Proofs.YtihkbnghdcmhfaaDoor
