/- The closed facts of the row of ClauseEquivalent. -/
import Derived.Test.YtbpmpdadppamgaaGreatDoorClauseEquivalentCon
namespace Go.Proofs.YtbpmpdadppamgaaGreatDoor.clauseEquivalent
open Go.Proofs.Tryz
open Go.ChangeShapes Go.WideShapes Go.ChangeAt Go.RowKit
theorem q0:(Rows.clauseEquivalentRow.inPlace == Tryz.pinned.checked.prog.inPlace 5)=true:=by kernel_rfl
theorem q1:(Rows.clauseEquivalentRow.unfollowed == Tryz.pinned.checked.prog.unfollowed 5)=true:=by kernel_rfl
theorem q2:(Rows.clauseEquivalentRow.recurses == Tryz.pinned.checked.prog.recurses 5)=true:=by kernel_rfl
theorem q3:(Rows.clauseEquivalentRow.named == Tryz.pinned.checked.prog.varsNamed 5)=true:=by kernel_rfl
theorem q4:(laidOutB Tryz.pinned.checked.prog)=true:=by kernel_rfl
theorem q5:(mapsRowed Tryz.pinned.checked.prog)=true:=by kernel_rfl
theorem q6:(Rows.clauseEquivalentRow.plainKeys == Tryz.pinned.checked.prog.plainKeys)=true:=by kernel_rfl
theorem q7:(Tryz.pinned.checked.prog.stopsHeard)=true:=by kernel_rfl
theorem q8:(Tryz.pinned.checked.prog.mayEnter)=true:=by kernel_rfl
theorem q9:(Rows.clauseEquivalentRow.lifted == Tryz.pinned.checked.prog.liftsFinal)=true:=by kernel_rfl
theorem ow:(Tryz.pinned.checked.prog.make == some Rows.clauseEquivalentRow.make)=true:=by kernel_rfl
theorem both{a b:Bool}(h:a=true)(k:b=true):(a && b)=true:=by rw[h,k];rfl
theorem closed:joinedFacts Tryz.pinned.checked.prog 5 f5 (OpenSpec.ofChange Rows.clauseEquivalentSpec).bare Rows.clauseEquivalentRow=true:=by
 unfold joinedFacts
 repeat' (with_reducible refine both ?_ ?_)
 all_goals first | with_reducible exact q0 | with_reducible exact q1 | with_reducible exact q2 | with_reducible exact q3 | with_reducible exact q4 | with_reducible exact q5 | with_reducible exact q6 | with_reducible exact q7 | with_reducible exact q8 | with_reducible exact q9 | with_reducible exact ow | kernel_rfl
end Go.Proofs.YtbpmpdadppamgaaGreatDoor.clauseEquivalent
