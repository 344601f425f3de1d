/- number.Divide: quotient rounded down and remainder. -/
import Derived.Test.YtcdgckbdplkdbaaDoorNumE
import Derived.Test.YtcdgckbdplkdbaaDoorQuot
namespace Go.Proofs.YtcdgckbdplkdbaaDoor
open Go.RowKit

def RetStr2 (a b : List UInt8) (w : World) (e : Ending) (w' : World) : Prop := e = .returned (.tuple #[.string ⟨a.toArray⟩, .string ⟨b.toArray⟩]) ∧ Below w.heap.size w w'
theorem natAbs_limbs {x : Int} {n : Nat} (h : (Dec.limbs 1000000000 x.natAbs).length = n) : n = 0 ↔ x = 0 := by
  subst h
  constructor
  · intro h
    have := (Dec.limbs_eq_nil (B := 1000000000) (by omega)).1 (List.eq_nil_of_length_eq_zero h)
    omega
  · rintro rfl; rfl
theorem length_limbs_div {a b n : Nat} (h : (Dec.limbs 1000000000 a).length = n) : (Dec.limbs 1000000000 (a / b)).length ≤ n := by
  rw [← h]; exact Dec.limbs_length_mono (by omega) (Nat.div_le_self a b)
theorem length_limbs_mod {a b n : Nat} (hb : 0 < b) (h : (Dec.limbs 1000000000 b).length = n) : (Dec.limbs 1000000000 (a % b)).length ≤ n := by
  rw [← h]; exact Dec.limbs_length_mono (by omega) (Nat.le_of_lt (Nat.mod_lt a hb))
theorem two_new (w : World) (T : TypeId) (u0 v0 u1 v1 : Value) : BlkIs ((w.alloc (.cells #[u0, v0] T)).alloc (.cells #[u1, v1] T)) w.heap.size T #[u0, v0] ∧ BlkIs ((w.alloc (.cells #[u0, v0] T)).alloc (.cells #[u1, v1] T)) (w.heap.size + 1) T #[u1, v1] := by
  obtain ⟨a, b, _⟩ := two_blocks w T u0 v0 u1 v1
  exact ⟨a.out, b.out⟩

theorem upd1 {w : World} {g : Nat} {t : TypeId} {u v v' : Value} (h : BlkIs w g t #[u, v]) : BlkIs (w.setCell ⟨g, 1, none⟩ v') g t #[u, v'] := by
  have := h.set_ 1 v'
  simpa using this
end Go.Proofs.YtcdgckbdplkdbaaDoor
