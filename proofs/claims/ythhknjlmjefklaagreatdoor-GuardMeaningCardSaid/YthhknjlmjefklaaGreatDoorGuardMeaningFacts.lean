/- The closed facts of the row of GuardMeaning. -/
import Derived.Test.YthhknjlmjefklaaGreatDoorGuardMeaningCon
namespace Go.Proofs.YthhknjlmjefklaaGreatDoor.guardMeaning
open Go.ChangeShapes Go.WideShapes Go.ChangeAt Go.RowKit

theorem q0 : (Rows.guardMeaningRow.inPlace == Tryz.pinned.checked.prog.inPlace 3) = true := by kernel_rfl
theorem q1 : (Rows.guardMeaningRow.unfollowed == Tryz.pinned.checked.prog.unfollowed 3) = true := by kernel_rfl
theorem q2 : (Rows.guardMeaningRow.recurses == Tryz.pinned.checked.prog.recurses 3) = true := by kernel_rfl
theorem q3 : (Rows.guardMeaningRow.named == Tryz.pinned.checked.prog.varsNamed 3) = true := by kernel_rfl
theorem q4 : (laidOutB Tryz.pinned.checked.prog) = true := by kernel_rfl
theorem q5 : (mapsRowed Tryz.pinned.checked.prog) = true := by kernel_rfl
theorem q6 : (Rows.guardMeaningRow.plainKeys == Tryz.pinned.checked.prog.plainKeys) = true := by kernel_rfl
theorem q7 : (Tryz.pinned.checked.prog.stopsHeard) = true := by kernel_rfl
theorem q8 : (Tryz.pinned.checked.prog.mayEnter) = true := by kernel_rfl
theorem q9 : (Rows.guardMeaningRow.lifted == Tryz.pinned.checked.prog.liftsFinal) = true := by kernel_rfl
theorem q10 : (Tryz.pinned.checked.prog.make == some Rows.guardMeaningRow.make) = true := by kernel_rfl
theorem both {a b : Bool} (h : a = true) (k : b = true) : (a && b) = true := by rw [h, k]; rfl
theorem closed : joinedFacts Tryz.pinned.checked.prog 3 Tryz.f3 (OpenSpec.ofChange Rows.guardMeaningSpec).bare Rows.guardMeaningRow = true := by
  unfold joinedFacts
  repeat' (with_reducible refine both ?_ ?_)
  all_goals first | with_reducible exact q0 | with_reducible exact q1 | with_reducible exact q2 | with_reducible exact q3 | with_reducible exact q4 | with_reducible exact q5 | with_reducible exact q6 | with_reducible exact q7 | with_reducible exact q8 | with_reducible exact q9 | with_reducible exact q10 | kernel_rfl
end Go.Proofs.YthhknjlmjefklaaGreatDoor.guardMeaning
