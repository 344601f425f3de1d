/- The closed facts of the row of GuardNeeded. -/
import Derived.Test.YthhknjlmjefklaaGreatDoorGuardNeededCon
namespace Go.Proofs.YthhknjlmjefklaaGreatDoor.guardNeeded
open Go.Proofs.Tryz
open Go.ChangeShapes Go.WideShapes Go.ChangeAt Go.RowKit
theorem q0:(Rows.guardNeededRow.inPlace == Tryz.pinned.checked.prog.inPlace 4)=true:=by kernel_rfl
theorem q1:(Rows.guardNeededRow.unfollowed == Tryz.pinned.checked.prog.unfollowed 4)=true:=by kernel_rfl
theorem q2:(Rows.guardNeededRow.recurses == Tryz.pinned.checked.prog.recurses 4)=true:=by kernel_rfl
theorem q3:(Rows.guardNeededRow.named == Tryz.pinned.checked.prog.varsNamed 4)=true:=by kernel_rfl
theorem q4:(laidOutB Tryz.pinned.checked.prog)=true:=by kernel_rfl
theorem q5:(mapsRowed Tryz.pinned.checked.prog)=true:=by kernel_rfl
theorem q6:(Rows.guardNeededRow.plainKeys == Tryz.pinned.checked.prog.plainKeys)=true:=by kernel_rfl
theorem q7:(Tryz.pinned.checked.prog.stopsHeard)=true:=by kernel_rfl
theorem q8:(Tryz.pinned.checked.prog.mayEnter)=true:=by kernel_rfl
theorem q9:(Rows.guardNeededRow.lifted == Tryz.pinned.checked.prog.liftsFinal)=true:=by kernel_rfl
theorem q10:(Tryz.pinned.checked.prog.make == some Rows.guardNeededRow.make)=true:=by kernel_rfl
theorem both{a b:Bool}(h:a=true)(k:b=true):(a && b)=true:=by rw[h,k];rfl
theorem closed:joinedFacts Tryz.pinned.checked.prog 4 f4 (OpenSpec.ofChange Rows.guardNeededSpec).bare Rows.guardNeededRow=true:=by
 unfold joinedFacts
 repeat' (with_reducible refine both ?_ ?_)
 all_goals first | with_reducible exact q0 | with_reducible exact q1 | with_reducible exact q2 | with_reducible exact q3 | with_reducible exact q4 | with_reducible exact q5 | with_reducible exact q6 | with_reducible exact q7 | with_reducible exact q8 | with_reducible exact q9 | with_reducible exact q10 | kernel_rfl
end Go.Proofs.YthhknjlmjefklaaGreatDoor.guardNeeded
