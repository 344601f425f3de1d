/- IsInteger of both texts; the reference's Items; lispprovermake.Objects. -/
import Derived.Test.YtgphkgmhcmffnaaGreatDoorMkB
import Derived.Test.YtgphkgmhcmffnaaGreatDoorRcmp
namespace Go.Proofs.YtgphkgmhcmffnaaGreatDoor
open Go.RowKit

set_option maxHeartbeats 400000 in
theorem oIsInteger_any (o : Ob) (A : Option Addr) (n c : Nat) (w : World) : Calls Tryz.prog 103 #[objV o (.slice A n c)] w (RetBel (.bool (decide (o.kind = 1 ∧ o.den = [49]))) w) := by
  obtain ⟨k, nm, d, p, s, t, l⟩ := o
  dsimp only
  by_cases hk : k = 1
  · subst hk
    by_cases h1 : d = [49]
    · subst h1
      rw [decide_eq_true ⟨rfl, rfl⟩]
      go_enter Tryz.func103, Tryz.ntmps103
      go_wp2
      go_ret
      exact ⟨rfl, box _ _⟩
    · rw [decide_eq_false (fun h => h1 h.2)]
      have hz : (d == [49]) = false := by rw [beq_eq_false_iff_ne]; exact h1
      clear h1
      go_enter Tryz.func103, Tryz.ntmps103
      go_wp2
      go_ret
      exact ⟨rfl, box _ _⟩
  · rw [decide_eq_false (fun h => hk h.1)]
    have hz : (k == 1) = false := by rw [beq_eq_false_iff_ne]; exact hk
    clear hk
    go_enter Tryz.func103, Tryz.ntmps103
    go_wp2
    go_ret
    exact ⟨rfl, box _ _⟩
set_option maxHeartbeats 400000 in
theorem rIsInteger_any (o : Ob) (A : Option Addr) (n c : Nat) (w : World) : Calls Tryz.prog 104 #[objV o (.slice A n c)] w (RetBel (.bool (decide (o.kind = 1 ∧ o.den = [49]))) w) := by
  obtain ⟨k, nm, d, p, s, t, l⟩ := o
  dsimp only
  by_cases hk : k = 1
  · subst hk
    by_cases h1 : d = [49]
    · subst h1
      rw [decide_eq_true ⟨rfl, rfl⟩]
      go_enter Tryz.func104, Tryz.ntmps104
      go_wp2
      go_ret
      exact ⟨rfl, box _ _⟩
    · rw [decide_eq_false (fun h => h1 h.2)]
      have hz : (d == [49]) = false := by rw [beq_eq_false_iff_ne]; exact h1
      clear h1
      go_enter Tryz.func104, Tryz.ntmps104
      go_wp2
      go_ret
      exact ⟨rfl, box _ _⟩
  · rw [decide_eq_false (fun h => hk h.1)]
    have hz : (k == 1) = false := by rw [beq_eq_false_iff_ne]; exact hk
    clear hk
    go_enter Tryz.func104, Tryz.ntmps104
    go_wp2
    go_ret
    exact ⟨rfl, box _ _⟩
/-- as RetItems, where the reference's nil is meant -/
def RetItemsR (ok : Nat → Prop) (o : Ob) (w : World) (e : Ending) (w' : World) : Prop :=
  ∃ l x, Tail o l x ∧ ¬ ConsO x ∧ Below w.heap.size w w' ∧ ((x = nilO ∧ ∃ A n c, e = .returned (.tuple #[.slice A n c, .bool true]) ∧ Rd (fun b => ok b ∨ w.heap.size ≤ b) w' (.slice A n c) (.row (l.map Ob.enc))) ∨ (x ≠ nilO ∧ e = .returned (.tuple #[.slice none 0 0, .bool false])))
end Go.Proofs.YtgphkgmhcmffnaaGreatDoor
