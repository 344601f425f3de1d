/- The laws of chapter 7 as contracts of the machine. -/
import Derived.Test.YtmkcnjfhdfanoaaGreatDoorKSr
import Derived.Test.YtmkcnjfhdfanoaaGreatDoorKN
namespace Go.Proofs.YtmkcnjfhdfanoaaGreatDoor
open Go.RowKit

theorem names7_any (W : World) (hG : Gx W) (p s : List UInt8) (_ : p.length ≤ 9223372036854775807) (_ : s.length ≤ 9223372036854775807) (n : Int) (_ : -9223372036854775808 ≤ n) (_ : n ≤ 9223372036854775807) :
    Calls Tryz.prog 3 #[.agg #[str p, str s], .int .i64 n] W fun e W' => e = .returned (.bool true) ∧ Below W.heap.size W W' :=
  (p_PrimitiveNames p s n).law (ok := fun _ => False) hG ⟨_, _, rfl, rv_sy _ _ _ _, _, _, rfl, .val _, rfl⟩
end Go.Proofs.YtmkcnjfhdfanoaaGreatDoor
