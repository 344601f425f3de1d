/- A block of cells known whole. -/
import Derived.Test.YtcdgckbdplkdbaaDoorProg
import Derived.WalkKit
import Derived.WalkSpells
import Derived.OwnWalk
import Derived.Deep.Draws
namespace Go.Proofs.YtcdgckbdplkdbaaDoor
open Go.RowKit

def BlkIs (w : World) (g : Nat) (t : TypeId) (cs : Array Value) : Prop := w.heap[g]? = some (.cells cs t (0, 0))
theorem BlkIs.lt {w : World} {g : Nat} {t : TypeId} {cs : Array Value} (h : BlkIs w g t cs) : g < w.heap.size := by
  rcases Nat.lt_or_ge g w.heap.size with hlt | hge
  · exact hlt
  · unfold BlkIs at h; rw [Array.getElem?_eq_none hge] at h; cases h
theorem BlkIs.cell {w : World} {g : Nat} {t : TypeId} {cs : Array Value} (h : BlkIs w g t cs) (i : Nat) : w.cell? ⟨g, i, none⟩ = cs[i]? := by
  unfold BlkIs at h; simp [World.cell?, h]
theorem BlkIs.frozen {w : World} {g : Nat} {t : TypeId} {cs : Array Value} (h : BlkIs w g t cs) (i : Nat) : w.frozen? ⟨g, i, none⟩ = false := by
  unfold BlkIs at h; simp [World.frozen?, h]
theorem BlkIs.keep {w w' : World} {g : Nat} {t : TypeId} {cs : Array Value} (h : BlkIs w g t cs) (e : w'.heap[g]? = w.heap[g]?) : BlkIs w' g t cs := e.trans h
theorem BlkIs.alloc {w : World} {g : Nat} {t : TypeId} {cs : Array Value} (h : BlkIs w g t cs) (o : Obj) : BlkIs (w.alloc o) g t cs := h.keep (Below.heap_alloc w o g h.lt)
theorem BlkIs.new (w : World) (t : TypeId) (cs : Array Value) : BlkIs (w.alloc (.cells cs t)) w.heap.size t cs := heap_alloc_new w _
theorem BlkIs.set_ {w : World} {g : Nat} {t : TypeId} {cs : Array Value} (h : BlkIs w g t cs) (i : Nat) (u : Value) : BlkIs (w.setCell ⟨g, i, none⟩ u) g t (cs.setIfInBounds i u) := by
  unfold BlkIs at h ⊢; simp [World.setCell, Array.getElem?_modify, h]
theorem BlkIs.far {w : World} {g : Nat} {t : TypeId} {cs : Array Value} (h : BlkIs w g t cs) {p : Addr} (hp : g ≠ p.block) (u : Value) : BlkIs (w.setCell p u) g t cs := h.keep (Below.heap_setCell w p u g hp)
theorem BlkIs.below {w w' : World} {g : Nat} {t : TypeId} {cs : Array Value} (h : BlkIs w g t cs) (hb : Below w.heap.size w w') : BlkIs w' g t cs := h.keep (hb.block g h.lt)
theorem BlkIs.two {w : World} {g : Nat} {t : TypeId} {u v : Value} (h : BlkIs w g t #[u, v]) : w.cell? ⟨g, 0, none⟩ = some u ∧ w.cell? ⟨g, 1, none⟩ = some v ∧ w.frozen? ⟨g, 0, none⟩ = false ∧ w.frozen? ⟨g, 1, none⟩ = false ∧ g < w.heap.size :=
  ⟨h.cell 0, h.cell 1, h.frozen 0, h.frozen 1, h.lt⟩
theorem BlkIs.drew {w : World} {g : Nat} {t : TypeId} {cs : Array Value} (h : BlkIs w g t cs) : BlkIs w.drew g t cs := h
theorem BlkIs.drewN {w : World} {g : Nat} {t : TypeId} {cs : Array Value} (h : BlkIs w g t cs) (n : Nat) : BlkIs (w.drewN n) g t cs := h
theorem BlkIs.at0 {w : World} {g : Nat} {t : TypeId} {u v : Value} (h : BlkIs w g t #[u, v]) (u' : Value) : BlkIs (w.setCell ⟨g, 0, none⟩ u') g t #[u', v] := by
  simpa using h.set_ 0 u'
theorem BlkIs.at1 {w : World} {g : Nat} {t : TypeId} {u v : Value} (h : BlkIs w g t #[u, v]) (v' : Value) : BlkIs (w.setCell ⟨g, 1, none⟩ v') g t #[u, v'] := by
  simpa using h.set_ 1 v'
theorem BlkIs.new1 (w : World) (o : Obj) (t : TypeId) (cs : Array Value) : BlkIs ((w.alloc o).alloc (.cells cs t)) (w.heap.size + 1) t cs := by
  have := BlkIs.new (w.alloc o) t cs
  simpa using this
theorem box (w : World) (o : Obj) : Below w.heap.size w (w.alloc o) := (Below.refl _ _).alloc (Nat.le_refl _) _
theorem via {w w1 : World} {o : Obj} (h : Below (w.alloc o).heap.size (w.alloc o) w1) : Below w.heap.size w w1 := (box w o).trans (h.mono (box w o).size)
theorem via2 {a w w1 : World} {o : Obj} (h0 : Below a.heap.size a w) (h : Below (w.alloc o).heap.size (w.alloc o) w1) : Below a.heap.size a w1 := h0.trans ((via h).mono h0.size)
theorem then_ {a w w1 : World} (h0 : Below a.heap.size a w) (h : Below w.heap.size w w1) : Below a.heap.size a w1 := h0.trans (h.mono h0.size)
theorem box2 {a w : World} (h0 : Below a.heap.size a w) (o : Obj) : Below a.heap.size a (w.alloc o) := h0.alloc h0.size o
theorem below_dN {a w : World} (h0 : Below a.heap.size a w) (n : Nat) : Below a.heap.size a (w.drewN n) := ⟨h0.os, h0.tape, h0.output, h0.size, h0.block⟩
theorem set2 {a w : World} (h0 : Below a.heap.size a w) {g i : Nat} (hg : a.heap.size ≤ g) (u : Value) : Below a.heap.size a (w.setCell ⟨g, i, none⟩ u) := h0.setCell (p := ⟨g, i, none⟩) hg u
theorem BlkIs.via {w w1 : World} {t : TypeId} {cs : Array Value} (h : Below (w.alloc (.cells cs t)).heap.size (w.alloc (.cells cs t)) w1) : BlkIs w1 w.heap.size t cs := (BlkIs.new w t cs).below h
theorem BlkIs.seven {w : World} {g : Nat} {t : TypeId} {c0 c1 c2 c3 c4 c5 c6 : Value} (h : BlkIs w g t #[c0, c1, c2, c3, c4, c5, c6]) :
    w.cell? ⟨g, 0, none⟩ = some c0 ∧ w.cell? ⟨g, 1, none⟩ = some c1 ∧ w.cell? ⟨g, 2, none⟩ = some c2 ∧ w.cell? ⟨g, 3, none⟩ = some c3 ∧ w.cell? ⟨g, 4, none⟩ = some c4 ∧ w.cell? ⟨g, 5, none⟩ = some c5 ∧ w.cell? ⟨g, 6, none⟩ = some c6 ∧ g < w.heap.size :=
  ⟨h.cell 0, h.cell 1, h.cell 2, h.cell 3, h.cell 4, h.cell 5, h.cell 6, h.lt⟩
end Go.Proofs.YtcdgckbdplkdbaaDoor
