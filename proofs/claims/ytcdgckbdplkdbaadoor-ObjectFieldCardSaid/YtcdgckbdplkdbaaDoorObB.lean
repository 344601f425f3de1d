/- Objects: the leaves, Cons and the small questions; of package object and of the reference. -/
import Derived.Test.YtcdgckbdplkdbaaDoorOb
import Derived.Test.YtcdgckbdplkdbaaDoorOwnD
namespace Go.Proofs.YtcdgckbdplkdbaaDoor
open Go.RowKit

def RetObj (ok : Nat → Prop) (o : Ob) (w : World) (e : Ending) (w' : World) : Prop :=
  ∃ A n c, e = .returned (objV o (.slice A n c)) ∧ Rd (fun b => ok b ∨ w.heap.size ≤ b) w' (.slice A n c) (.row (o.pair.map Ob.enc)) ∧ Below w.heap.size w w'
/-- a leaf: nothing in memory -/
def RetLeaf (o : Ob) (w : World) (e : Ending) (w' : World) : Prop := e = .returned (objV o (.slice none 0 0)) ∧ Below w.heap.size w w'
theorem RetLeaf.obj {ok : Nat → Prop} {o : Ob} {w w' : World} {e : Ending} (h : RetLeaf o w e w') (hp : o.pair = []) : RetObj ok o w e w' :=
  ⟨none, 0, 0, h.1, by rw [hp]; exact .nil _ _, h.2⟩
theorem BlkIs.new2 (w : World) (o o' : Obj) (t : TypeId) (cs : Array Value) : BlkIs (((w.alloc o).alloc o').alloc (.cells cs t)) (w.heap.size + 1 + 1) t cs := by
  have := BlkIs.new ((w.alloc o).alloc o') t cs
  simpa using this
abbrev zeroCells : Array Value := #[.int .i64 0, .string ⟨#[]⟩, .string ⟨#[]⟩, .string ⟨#[]⟩, .string ⟨#[]⟩, .string ⟨#[]⟩, .slice none 0 0]
abbrev lispB : List UInt8 := [108, 105, 115, 112]
abbrev nilB : List UInt8 := [110, 105, 108]
abbrev symO (p s : List UInt8) : Ob := ⟨2, [], [], p, s, [], []⟩
abbrev nilO : Ob := symO lispB nilB
abbrev tO : Ob := symO lispB [116]
abbrev numO (n d : List UInt8) : Ob := ⟨1, n, d, [], [], [], []⟩
abbrev txtO (t : List UInt8) : Ob := ⟨3, [], [], [], [], t, []⟩
abbrev consO (a d : Ob) : Ob := ⟨4, [], [], [], [], [], [a, d]⟩

set_option maxHeartbeats 400000 in
/-- a return of an object that lies in the result's box -/
theorem ret_obj {fn : Func} {a : Act} {g r : Nat} {w : World} {t : TypeId} {c0 c1 c2 c3 c4 c5 c6 : Value} {R : Ending → World → Prop} (hf : fn.results = #[.cell r 27]) (ht : a.tmps[r]? = some (.pointer (some ⟨g, 0, none⟩))) (hB : BlkIs w g t #[c0, c1, c2, c3, c4, c5, c6]) (hd : a.defers = []) (hR : R (.returned (.agg #[c0, c1, c2, c3, c4, c5, c6])) w) : bodyPost Tryd.prog fn R .ret a w := by
  obtain ⟨h0, h1, h2, h3, h4, h5, h6, _⟩ := hB.seven
  refine bodyPost_ret (v := .agg #[c0, c1, c2, c3, c4, c5, c6]) ?_ hd hR
  simp [results, hf, ht, go_sem, h0, h1, h2, h3, h4, h5, h6]

set_option maxHeartbeats 400000 in
theorem oSymbol_any (w : World) (p s : List UInt8) : Calls Tryd.prog 36 #[.agg #[str p, str s]] w (RetLeaf (symO p s) w) := by
  go_enter Tryd.func36, Tryd.ntmps36
  go_wp2
  go_outline
  exact bodyPost_ret (v := objV (symO p s) (.slice none 0 0)) (by simp [results, Tryd.results36, go_sem]) rfl ⟨rfl, box2 (box _ _) _⟩

set_option maxHeartbeats 400000 in
theorem oText_any (w : World) (t : List UInt8) : Calls Tryd.prog 14 #[str t] w (RetLeaf (txtO t) w) := by
  go_enter Tryd.func14, Tryd.ntmps14
  go_wp2
  go_outline
  exact bodyPost_ret (v := objV (txtO t) (.slice none 0 0)) (by simp [results, Tryd.results14, go_sem]) rfl ⟨rfl, box _ _⟩

end Go.Proofs.YtcdgckbdplkdbaaDoor
