/- object.Compare and the reference's Compare on plain trees. -/
import Derived.Test.YtgphkgmhcmffnaaGreatDoorTr
import Derived.Test.YtgphkgmhcmffnaaGreatDoorJV
import Derived.Test.YtgphkgmhcmffnaaGreatDoorJW
namespace Go.Proofs.YtgphkgmhcmffnaaGreatDoor
open Go.RowKit

def rkI (k : Int) : Int := if k = 1 then 0 else if k = 3 then 1 else if k = 2 then 2 else 3
theorem Tr.rk (t : Tr) : rkI t.ob.kind = t.rank := by cases t <;> rfl
theorem Tr.cons_pair {a d : Tr} : (Tr.cons a d).ob.pair = [a.ob, d.ob] := rfl
theorem cmp_diff {a b : Tr} (h : a.rank ≠ b.rank) (hlt : a.rank < b.rank) : Tr.cmp a b = -1 := by rw [Tr.cmp_rank h, if_pos hlt]
theorem cmp_diff' {a b : Tr} (h : a.rank ≠ b.rank) (hlt : ¬ a.rank < b.rank) : Tr.cmp a b = 1 := by rw [Tr.cmp_rank h, if_neg hlt]
end Go.Proofs.YtgphkgmhcmffnaaGreatDoor
