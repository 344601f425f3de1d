/- A slice of integers that reads as a list of natural numbers: nil, empty or not. -/
import Derived.Test.YtcdgckbdplkdbaaDoorDec
import Derived.WalkKit
import Derived.WalkSpells
namespace Go.Proofs.YtcdgckbdplkdbaaDoor
open Go.RowKit

/-- the slice value '.slice A n c' reads as the list l of numbers of kind k -/
structure Sl (w : World) (k : IntKind) (A : Option Addr) (n c : Nat) (l : List Nat) : Prop where
  len : l.length = n
  cap : n ≤ c
  cells : 0 < n → ∃ b o, A = some ⟨b, o, none⟩ ∧ b < w.heap.size ∧ ∀ i, i < n → w.cell? ⟨b, o + i, none⟩ = some (.int k (l.getD i 0 : Nat))

section
variable {w w' : World} {k : IntKind} {A : Option Addr} {n c : Nat} {l : List Nat}
theorem Sl.nil (w : World) (k : IntKind) (A : Option Addr) (c : Nat) : Sl w k A 0 c [] := ⟨rfl, Nat.zero_le _, fun h => absurd h (by omega)⟩
theorem Sl.below (h : Sl w k A n c l) (hb : Below w.heap.size w w') : Sl w' k A n c l :=
  ⟨h.len, h.cap, fun hn => by
    obtain ⟨b, o, e, hlt, hc⟩ := h.cells hn
    exact ⟨b, o, e, Nat.lt_of_lt_of_le hlt hb.size, fun i hi => (hb.cell (p := ⟨b, o + i, none⟩) hlt).trans (hc i hi)⟩⟩
theorem Sl.take (h : Sl w k A n c l) {m : Nat} (hm : m ≤ n) : Sl w k A m c (l.take m) :=
  ⟨by rw [List.length_take, h.len]; omega, Nat.le_trans hm h.cap, fun h0 => by
    obtain ⟨b, o, e, hlt, hc⟩ := h.cells (by omega)
    refine ⟨b, o, e, hlt, fun i hi => ?_⟩
    rw [hc i (by omega), List.getD_eq_getElem?_getD, List.getD_eq_getElem?_getD, List.getElem?_take_of_lt hi]⟩
theorem Sl.drew (h : Sl w k A n c l) (m : Nat) : Sl (w.drewN m) k A n c l := ⟨h.len, h.cap, h.cells⟩
end
theorem below_drewN {B : Nat} {a w : World} (h : Below B a w) (n : Nat) : Below B a (w.drewN n) := ⟨h.os, h.tape, h.output, h.size, h.block⟩
theorem ex_drew2 (w : World) (a b : Nat) : ∃ k, (w.drewN a).drewN b = w.drewN k := ⟨a + b, by rw [World.drewN_drewN]⟩
theorem ex_drew3 (w : World) (a b c : Nat) : ∃ k, ((w.drewN a).drewN b).drewN c = w.drewN k := ⟨a + b + c, by rw [World.drewN_drewN, World.drewN_drewN, Nat.add_assoc]⟩
/-- a call hands back a slice that reads as l; what lay there before stands -/
def RetSl (k : IntKind) (l : List Nat) (w : World) (e : Ending) (w' : World) : Prop := ∃ A n c, e = .returned (.slice A n c) ∧ Sl w' k A n c l ∧ Below w.heap.size w w' ∧ ∀ b o, A = some ⟨b, o, none⟩ → w.heap.size ≤ b
end Go.Proofs.YtcdgckbdplkdbaaDoor
