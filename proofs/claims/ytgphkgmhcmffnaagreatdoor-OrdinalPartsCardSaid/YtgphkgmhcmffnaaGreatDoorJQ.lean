/- Lisp objects: a plain type, and how one lies in memory. -/
import Derived.Test.YtgphkgmhcmffnaaGreatDoorJP
import Derived.Deep.LoopGhost
namespace Go.Proofs.YtgphkgmhcmffnaaGreatDoor
open Go.RowKit

/-- an object, all its fields -/
structure Ob where
  kind : Int
  num : List UInt8
  den : List UInt8
  sp : List UInt8
  sn : List UInt8
  text : List UInt8
  pair : List Ob
namespace Ob
mutual
def enc : Ob → List Dt
  | ⟨k, n, d, p, s, t, l⟩ => [.val (.int .i64 k), .val (str n), .val (str d), .val (str p), .val (str s), .val (str t), .row (encL l)]
def encL : List Ob → List (List Dt)
  | [] => []
  | o :: r => enc o :: encL r
end
mutual
/-- how many objects it holds, itself counted -/
def size : Ob → Nat
  | ⟨_, _, _, _, _, _, l⟩ => sizeL l + 1
def sizeL : List Ob → Nat
  | [] => 0
  | o :: r => size o + sizeL r
end
theorem encL_map (l : List Ob) : encL l = l.map enc := by
  induction l with
  | nil => rfl
  | cons o r ih => rw [encL, ih]; rfl
theorem enc_eq (o : Ob) : o.enc = [.val (.int .i64 o.kind), .val (str o.num), .val (str o.den), .val (str o.sp), .val (str o.sn), .val (str o.text), .row (o.pair.map enc)] := by
  cases o; rw [enc, encL_map]
theorem enc_len (o : Ob) : o.enc.length = 7 := by rw [enc_eq]; rfl
theorem size_pos (o : Ob) : 0 < o.size := by cases o; rw [size]; omega
theorem sizeL_mem {l : List Ob} {o : Ob} (h : o ∈ l) : o.size ≤ sizeL l := by
  induction l with
  | nil => cases h
  | cons x r ih =>
    rw [sizeL]
    rcases List.mem_cons.1 h with rfl | h
    · omega
    · have := ih h; omega
theorem size_pair {o x : Ob} (h : x ∈ o.pair) : x.size < o.size := by
  cases o with
  | mk k n d p s t l =>
    rw [size]
    have := sizeL_mem (l := l) h
    omega
/-- objects by their size -/
theorem ind {motive : Ob → Prop} (step : ∀ o, (∀ x ∈ o.pair, motive x) → motive o) (o : Ob) : motive o := by
  have : ∀ n (o : Ob), o.size ≤ n → motive o := by
    intro n
    induction n with
    | zero => intro o h; have := size_pos o; omega
    | succ n ih => intro o h; exact step o fun x hx => ih x (by have := size_pair hx; omega)
  exact this o.size o (Nat.le_refl _)
/-- lengths and kinds within Go's bounds, all the way down -/
inductive Wf : Ob → Prop
  | mk (o : Ob) (hk0 : -9223372036854775808 ≤ o.kind) (hk1 : o.kind ≤ 9223372036854775807) (hn : o.num.length ≤ 9223372036854775807) (hd : o.den.length ≤ 9223372036854775807) (hp : o.sp.length ≤ 9223372036854775807) (hs : o.sn.length ≤ 9223372036854775807) (ht : o.text.length ≤ 9223372036854775807) (hl : o.pair.length ≤ 9223372036854775807) (h : ∀ x ∈ o.pair, Wf x) : Wf o
theorem Wf.kids {o x : Ob} (h : o.Wf) (hx : x ∈ o.pair) : x.Wf := by
  cases h with
  | mk _ _ _ _ _ _ _ _ _ h => exact h x hx
theorem Wf.len {o : Ob} (h : o.Wf) : o.pair.length ≤ 9223372036854775807 := by
  cases h with
  | mk _ _ _ _ _ _ _ _ hl _ => exact hl
end Ob

/-- the value of an object, P being its last field -/
abbrev objV (o : Ob) (P : Value) : Value := .agg #[.int .i64 o.kind, str o.num, str o.den, str o.sp, str o.sn, str o.text, P]
abbrev obCells (o : Ob) (P : Value) : Array Value := #[.int .i64 o.kind, str o.num, str o.den, str o.sp, str o.sn, str o.text, P]
theorem Rd.objs {ok : Nat → Prop} {w wr : World} {A : Option Addr} {n c : Nat} {l : List Ob} (h : Rd ok w (.slice A n c) (.row (l.map Ob.enc))) (hbr : Below w.heap.size w wr) {i : Nat} (hi : i < n) :
    ∃ (b o : Nat) (hl : i < l.length) (A' : Option Addr) (n' c' : Nat), A = some ⟨b, o, none⟩ ∧ b < w.heap.size ∧ ok b ∧
      wr.cell? ⟨b, o + i * 7, none⟩ = some (.int .i64 (l[i]).kind) ∧ wr.cell? ⟨b, o + i * 7 + 1, none⟩ = some (str (l[i]).num) ∧ wr.cell? ⟨b, o + i * 7 + 2, none⟩ = some (str (l[i]).den) ∧ wr.cell? ⟨b, o + i * 7 + 3, none⟩ = some (str (l[i]).sp) ∧
      wr.cell? ⟨b, o + i * 7 + 4, none⟩ = some (str (l[i]).sn) ∧ wr.cell? ⟨b, o + i * 7 + 5, none⟩ = some (str (l[i]).text) ∧ wr.cell? ⟨b, o + i * 7 + 6, none⟩ = some (.slice A' n' c') ∧ Rd ok w (.slice A' n' c') (.row ((l[i]).pair.map Ob.enc)) := by
  have hlen := h.len
  rw [List.length_map] at hlen
  obtain ⟨b, o, k, rfl, hb, hok, hk, hf⟩ := h.cells (by omega)
  have e : (l.map Ob.enc)[i]'(by rw [List.length_map]; omega) = (l[i]'(by omega)).enc := List.getElem_map _
  have hk' := hk i (by rw [List.length_map]; omega)
  rw [e, Ob.enc_len] at hk'
  subst hk'
  have hf' : ∀ j (hj : j < 7), ∃ u, w.cell? ⟨b, o + i * 7 + j, none⟩ = some u ∧ Rd ok w u ((l[i]'(by omega)).enc[j]'(by rw [Ob.enc_len]; exact hj)) := fun j hj => by
    obtain ⟨u, h1, h2⟩ := hf i j (by rw [List.length_map]; omega) (by rw [e, Ob.enc_len]; exact hj)
    simp only [e] at h2
    exact ⟨u, h1, h2⟩
  simp only [Ob.enc_eq] at hf'
  obtain ⟨u0, h0, r0⟩ := hf' 0 (by omega)
  obtain ⟨u1, h1, r1⟩ := hf' 1 (by omega)
  obtain ⟨u2, h2, r2⟩ := hf' 2 (by omega)
  obtain ⟨u3, h3, r3⟩ := hf' 3 (by omega)
  obtain ⟨u4, h4, r4⟩ := hf' 4 (by omega)
  obtain ⟨u5, h5, r5⟩ := hf' 5 (by omega)
  obtain ⟨u6, h6, r6⟩ := hf' 6 (by omega)
  simp only [List.getElem_cons_zero, List.getElem_cons_succ] at r0 r1 r2 r3 r4 r5 r6
  rw [r0.val_eq] at h0
  rw [r1.val_eq] at h1
  rw [r2.val_eq] at h2
  rw [r3.val_eq] at h3
  rw [r4.val_eq] at h4
  rw [r5.val_eq] at h5
  obtain ⟨A', n', c', rfl, _⟩ := r6.slice
  exact ⟨b, o, by omega, A', n', c', rfl, hb, hok, (hbr.cell (p := ⟨b, o + i * 7, none⟩) hb).trans h0, (hbr.cell (p := ⟨b, o + i * 7 + 1, none⟩) hb).trans h1, (hbr.cell (p := ⟨b, o + i * 7 + 2, none⟩) hb).trans h2, (hbr.cell (p := ⟨b, o + i * 7 + 3, none⟩) hb).trans h3, (hbr.cell (p := ⟨b, o + i * 7 + 4, none⟩) hb).trans h4, (hbr.cell (p := ⟨b, o + i * 7 + 5, none⟩) hb).trans h5, (hbr.cell (p := ⟨b, o + i * 7 + 6, none⟩) hb).trans h6, r6⟩
/-- the seven cells of a box stored anew -/
theorem BlkIs.put7 {w : World} {g : Nat} {t : TypeId} {c0 c1 c2 c3 c4 c5 c6 v0 v1 v2 v3 v4 v5 v6 : Value} (h : BlkIs w g t #[c0, c1, c2, c3, c4, c5, c6]) :
    BlkIs (((((((w.setCell ⟨g, 0, none⟩ v0).setCell ⟨g, 1, none⟩ v1).setCell ⟨g, 2, none⟩ v2).setCell ⟨g, 3, none⟩ v3).setCell ⟨g, 4, none⟩ v4).setCell ⟨g, 5, none⟩ v5).setCell ⟨g, 6, none⟩ v6) g t #[v0, v1, v2, v3, v4, v5, v6] := by
  have := ((((((h.set_ 0 v0).set_ 1 v1).set_ 2 v2).set_ 3 v3).set_ 4 v4).set_ 5 v5).set_ 6 v6
  simpa using this
theorem BlkIs.far7 {w : World} {g g' : Nat} {t : TypeId} {cs : Array Value} (h : BlkIs w g t cs) (hg : g ≠ g') (v0 v1 v2 v3 v4 v5 v6 : Value) :
    BlkIs (((((((w.setCell ⟨g', 0, none⟩ v0).setCell ⟨g', 1, none⟩ v1).setCell ⟨g', 2, none⟩ v2).setCell ⟨g', 3, none⟩ v3).setCell ⟨g', 4, none⟩ v4).setCell ⟨g', 5, none⟩ v5).setCell ⟨g', 6, none⟩ v6) g t cs :=
  ((((((h.far (p := ⟨g', 0, none⟩) hg _).far (p := ⟨g', 1, none⟩) hg _).far (p := ⟨g', 2, none⟩) hg _).far (p := ⟨g', 3, none⟩) hg _).far (p := ⟨g', 4, none⟩) hg _).far (p := ⟨g', 5, none⟩) hg _).far (p := ⟨g', 6, none⟩) hg _
theorem set7 {a w : World} (h0 : Below a.heap.size a w) {g : Nat} (hg : a.heap.size ≤ g) (v0 v1 v2 v3 v4 v5 v6 : Value) :
    Below a.heap.size a (((((((w.setCell ⟨g, 0, none⟩ v0).setCell ⟨g, 1, none⟩ v1).setCell ⟨g, 2, none⟩ v2).setCell ⟨g, 3, none⟩ v3).setCell ⟨g, 4, none⟩ v4).setCell ⟨g, 5, none⟩ v5).setCell ⟨g, 6, none⟩ v6) :=
  set2 (set2 (set2 (set2 (set2 (set2 (set2 h0 hg _) hg _) hg _) hg _) hg _) hg _) hg _
theorem BlkIs.frozen7 {w : World} {g : Nat} {t : TypeId} {cs : Array Value} (h : BlkIs w g t cs) : w.frozen? ⟨g, 0, none⟩ = false ∧ w.frozen? ⟨g, 1, none⟩ = false ∧ w.frozen? ⟨g, 2, none⟩ = false ∧ w.frozen? ⟨g, 3, none⟩ = false ∧ w.frozen? ⟨g, 4, none⟩ = false ∧ w.frozen? ⟨g, 5, none⟩ = false ∧ w.frozen? ⟨g, 6, none⟩ = false :=
  ⟨h.frozen 0, h.frozen 1, h.frozen 2, h.frozen 3, h.frozen 4, h.frozen 5, h.frozen 6⟩
end Go.Proofs.YtgphkgmhcmffnaaGreatDoor
/- Plain functions on objects: nodes, equality, the order. -/
namespace Go.Proofs.YtgphkgmhcmffnaaGreatDoor
open Go.RowKit

namespace Ob
mutual
/-- the nodes: a cons has a car and a cdr; whatever else has one node -/
def nodes : Ob → Nat
  | ⟨_, _, _, _, _, _, l⟩ => if l.length = 2 then nodesL l + 1 else 1
def nodesL : List Ob → Nat
  | [] => 0
  | o :: r => nodes o + nodesL r
end
theorem nodes_two {o a d : Ob} (h : o.pair = [a, d]) : o.nodes = a.nodes + d.nodes + 1 := by
  obtain ⟨k, n, e, p, s, t, l⟩ := o
  simp only at h
  subst h
  simp only [nodes, nodesL, List.length_cons, List.length_nil, if_true]
  omega
theorem nodes_one {o : Ob} (h : o.pair.length ≠ 2) : o.nodes = 1 := by
  obtain ⟨k, n, e, p, s, t, l⟩ := o
  rw [nodes, if_neg h]
theorem nodes_pos (o : Ob) : 1 ≤ o.nodes := by
  by_cases h : o.pair.length = 2
  · obtain ⟨k, n, e, p, s, t, l⟩ := o
    rw [nodes, if_pos h]; omega
  · rw [nodes_one h]; omega
theorem two_of_length {l : List Ob} (h : l.length = 2) : ∃ a d, l = [a, d] := by
  match l, h with
  | [a, d], _ => exact ⟨a, d, rfl⟩
end Ob
end Go.Proofs.YtgphkgmhcmffnaaGreatDoor
/- Objects: the leaves, Cons and the small questions; of package object and of the reference. -/
namespace Go.Proofs.YtgphkgmhcmffnaaGreatDoor
open Go.RowKit

def RetObj (ok : Nat → Prop) (o : Ob) (w : World) (e : Ending) (w' : World) : Prop :=
  ∃ A n c, e = .returned (objV o (.slice A n c)) ∧ Rd (fun b => ok b ∨ w.heap.size ≤ b) w' (.slice A n c) (.row (o.pair.map Ob.enc)) ∧ Below w.heap.size w w'
/-- a leaf: nothing in memory -/
def RetLeaf (o : Ob) (w : World) (e : Ending) (w' : World) : Prop := e = .returned (objV o (.slice none 0 0)) ∧ Below w.heap.size w w'
theorem RetLeaf.obj {ok : Nat → Prop} {o : Ob} {w w' : World} {e : Ending} (h : RetLeaf o w e w') (hp : o.pair = []) : RetObj ok o w e w' :=
  ⟨none, 0, 0, h.1, by rw [hp]; exact .nil _ _, h.2⟩
theorem BlkIs.new2 (w : World) (o o' : Obj) (t : TypeId) (cs : Array Value) : BlkIs (((w.alloc o).alloc o').alloc (.cells cs t)) (w.heap.size + 1 + 1) t cs := by
  have := BlkIs.new ((w.alloc o).alloc o') t cs
  simpa using this
abbrev zeroCells : Array Value := #[.int .i64 0, .string ⟨#[]⟩, .string ⟨#[]⟩, .string ⟨#[]⟩, .string ⟨#[]⟩, .string ⟨#[]⟩, .slice none 0 0]
abbrev lispB : List UInt8 := [108, 105, 115, 112]
abbrev nilB : List UInt8 := [110, 105, 108]
abbrev symO (p s : List UInt8) : Ob := ⟨2, [], [], p, s, [], []⟩
abbrev nilO : Ob := symO lispB nilB
abbrev tO : Ob := symO lispB [116]
abbrev numO (n d : List UInt8) : Ob := ⟨1, n, d, [], [], [], []⟩
abbrev txtO (t : List UInt8) : Ob := ⟨3, [], [], [], [], t, []⟩
abbrev consO (a d : Ob) : Ob := ⟨4, [], [], [], [], [], [a, d]⟩

set_option maxHeartbeats 400000 in
/-- a return of an object that lies in the result's box -/
theorem ret_obj {fn : Func} {a : Act} {g r : Nat} {w : World} {t : TypeId} {c0 c1 c2 c3 c4 c5 c6 : Value} {R : Ending → World → Prop} (hf : fn.results = #[.cell r 31]) (ht : a.tmps[r]? = some (.pointer (some ⟨g, 0, none⟩))) (hB : BlkIs w g t #[c0, c1, c2, c3, c4, c5, c6]) (hd : a.defers = []) (hR : R (.returned (.agg #[c0, c1, c2, c3, c4, c5, c6])) w) : bodyPost Tryz.prog fn R .ret a w := by
  obtain ⟨h0, h1, h2, h3, h4, h5, h6, _⟩ := hB.seven
  refine bodyPost_ret (v := .agg #[c0, c1, c2, c3, c4, c5, c6]) ?_ hd hR
  simp [results, hf, ht, go_sem, h0, h1, h2, h3, h4, h5, h6]

set_option maxHeartbeats 400000 in
theorem rSymbol_any (w : World) (p s : List UInt8) : Calls Tryz.prog 52 #[.agg #[str p, str s]] w (RetLeaf (symO p s) w) := by
  go_enter Tryz.func52, Tryz.ntmps52
  go_wp2
  exact bodyPost_ret (v := objV (symO p s) (.slice none 0 0)) (by simp [results, Tryz.results52, go_sem]) rfl ⟨rfl, box2 (box _ _) _⟩

set_option maxHeartbeats 400000 in
theorem rText_any (w : World) (t : List UInt8) : Calls Tryz.prog 54 #[str t] w (RetLeaf (txtO t) w) := by
  go_enter Tryz.func54, Tryz.ntmps54
  go_wp2
  exact bodyPost_ret (v := objV (txtO t) (.slice none 0 0)) (by simp [results, Tryz.results54, go_sem]) rfl ⟨rfl, box _ _⟩
end Go.Proofs.YtgphkgmhcmffnaaGreatDoor
/- object.rest and Nodes: how many nodes an object has. -/
namespace Go.Proofs.YtgphkgmhcmffnaaGreatDoor
open Go.RowKit

/-- what rest gives: what is left, or a negative number -/
def RestIs (o : Ob) (left r : Int) : Prop := ((o.nodes : Int) ≤ left → r = left - o.nodes) ∧ (left < o.nodes → r < 0) ∧ r < left ∧ (0 ≤ left → -left - 1 ≤ r) ∧ (left < 0 → r = left - 1)
def RetRest (o : Ob) (left : Int) (w : World) (e : Ending) (w' : World) : Prop := ∃ r : Int, e = .returned (.int .i64 r) ∧ RestIs o left r ∧ Below w.heap.size w w'
theorem rest_end {x : Ob} {m : Int} (h : ¬ (0 < m ∧ x.pair.length = 2)) : RestIs x m (m - 1) := by
  have hp := x.nodes_pos
  refine ⟨fun h1 => ?_, fun h1 => ?_, by omega, fun h1 => by omega, fun _ => rfl⟩
  · have : x.pair.length ≠ 2 := fun e => h ⟨by omega, e⟩
    rw [Ob.nodes_one this]; rfl
  · rcases Int.lt_or_le 0 m with h2 | h2
    · have : x.pair.length ≠ 2 := fun e => h ⟨h2, e⟩
      rw [Ob.nodes_one this] at h1
      omega
    · omega
theorem rest_step {x a d : Ob} {m r1 r : Int} (hx : x.pair = [a, d]) (hm : 0 < m) (h1 : RestIs a (m - 1) r1) (h2 : RestIs d r1 r) : RestIs x m r := by
  have hn := Ob.nodes_two hx
  have pa := a.nodes_pos
  have pd := d.nodes_pos
  obtain ⟨a1, a2, a3, a4, a5⟩ := h1
  obtain ⟨b1, b2, b3, b4, b5⟩ := h2
  have a4' := a4 (by omega)
  refine ⟨fun h => ?_, fun h => ?_, by omega, fun _ => ?_, fun h => by omega⟩
  · have e1 := a1 (by omega)
    have e2 := b1 (by omega)
    omega
  · by_cases h3 : m - 1 < a.nodes
    · have e1 := a2 h3
      have e2 := b5 e1
      omega
    · have e1 := a1 (by omega)
      exact b2 (by omega)
  · by_cases h3 : r1 < 0
    · have := b5 h3; omega
    · have := b4 (by omega); omega
set_option maxHeartbeats 2000000 in
set_option maxRecDepth 100000 in
theorem rest_any (ok : Nat → Prop) : ∀ (N : Nat) (o : Ob), o.size ≤ N → ∀ (A : Option Addr) (n c : Nat) (left : Int) (w : World), Rd ok w (.slice A n c) (.row (o.pair.map Ob.enc)) → -10 ≤ left → left ≤ 3001 →
    Calls Tryz.prog 111 #[objV o (.slice A n c), .int .i64 left] w (RetRest o left w) := by
  intro N
  induction N with
  | zero => intro o h; have := Ob.size_pos o; omega
  | succ N ih =>
    intro o hN A n c left w hP hl0 hl1
    go_enter Tryz.func111, Tryz.ntmps111
    go_wp2
    go_loopg [1] o.size (fun gx lv wr => ∃ (x : Ob) (m : Int) (A2 : Option Addr) (n2 c2 : Nat), lv = .int .i64 m ∧ Hid (BlkIs wr w.heap.size 31 (obCells x (.slice A2 n2 c2))) ∧ Rd ok w (.slice A2 n2 c2) (.row (x.pair.map Ob.enc)) ∧ x.size ≤ N + 1 ∧ -4000 ≤ m ∧ m ≤ 3001 ∧ Hid (∀ r, RestIs x m r → RestIs o left r) ∧ x.size ≤ gx ∧ Below w.heap.size w wr)
    case atStart => exact ⟨o, left, A, n, c, rfl, Lib.hid (BlkIs.new w _ _), hP, hN, by omega, hl1, Lib.hid (fun _ h => h), Nat.le_refl _, box _ _⟩
    case round =>
      obtain ⟨x, m, A2, n2, c2, rfl, HB, hr, hxN, hm0, hm1, HR, hg, hb⟩ := hrel
      obtain ⟨c0, c1, c3, c4, c5, c6, c7, hlt⟩ := HB.out.seven
      obtain ⟨f0, f1, f2, f3, f4, f5, f6⟩ := HB.out.frozen7
      have hlen := hr.len
      rw [List.length_map] at hlen
      by_cases hc : 0 < m ∧ n2 = 2
      · obtain ⟨hmp, hn2⟩ := hc
        subst hn2
        obtain ⟨a, d, had⟩ := Ob.two_of_length hlen
        have HST := Lib.hid (fun r1 r => rest_step (r1 := r1) (r := r) had hmp)
        have hsa := Ob.size_pair (o := x) (x := a) (by rw [had]; simp)
        have hsd := Ob.size_pair (o := x) (x := d) (by rw [had]; simp)
        rw [had] at hr
        clear hlen had
        obtain ⟨b, q, _, A3, n3, c3', rfl, hbl, _, a0, a1, a2, a3, a4, a5, a6, ha⟩ := hr.objs hb (i := 0) (by omega)
        simp only [List.getElem_cons_zero, Nat.zero_mul, Nat.add_zero] at a0 a1 a2 a3 a4 a5 a6 ha
        have hbl' := Nat.lt_of_lt_of_le hbl hb.size
        have HC := Lib.hid (ih a (by omega) A3 n3 c3' (m - 1) wr (ha.under hb) (by omega) (by omega))
        go_wp2_with fail
        refine HC.out.mono ?_
        rintro e w1 ⟨r1, rfl, hr1, hb1⟩
        have hbw1 := then_ hb hb1
        have HB1 := Lib.hid (HB.out.below hb1)
        clear c0 c1 c3 c4 c5 c6 c7 f0 f1 f2 f3 f4 f5 f6 a0 a1 a2 a3 a4 a5 a6
        obtain ⟨c0, c1, c3, c4, c5, c6, c7, hlt1⟩ := HB1.out.seven
        obtain ⟨f0, f1, f2, f3, f4, f5, f6⟩ := HB1.out.frozen7
        obtain ⟨b', q', _, A4, n4, c4', eA, _, _, d0, d1, d2, d3, d4, d5, d6, hd⟩ := hr.objs hbw1 (i := 1) (by omega)
        injection eA with eA
        injection eA with eb eq
        subst eb eq
        simp only [List.getElem_cons_zero, List.getElem_cons_succ, Nat.one_mul] at d0 d1 d2 d3 d4 d5 d6 hd
        have hbl1 := Nat.lt_of_lt_of_le hbl hbw1.size
        have hb4 := hr1.2.2.1
        have hb5 := hr1.2.2.2.1 (by omega)
        have HR1 := Lib.hid hr1
        clear hr1
        go_wp2
        go_roundg d.size
        case measure => omega
        case rel => exact ⟨d, r1, A4, n4, c4', rfl, Lib.hid HB1.out.put7, hd, by omega, by omega, by omega, Lib.hid (fun r h => HR.out r (HST.out r1 r HR1.out h)), Nat.le_refl _, set7 hbw1 (Nat.le_refl _) _ _ _ _ _ _ _⟩
      · have HE : Hid (RestIs o left (m - 1)) := HR.out _ (rest_end (by rw [hlen]; exact hc))
        by_cases hmp : 0 < m
        · have hn2 : ((n2 : Int) == 2) = false := by rw [beq_eq_false_iff_ne]; omega
          clear hlen hc
          go_wp2
          go_ret
          exact ⟨m - 1, rfl, HE.out, hb⟩
        · clear hlen hc
          go_wp2
          go_ret
          exact ⟨m - 1, rfl, HE.out, hb⟩
/-- object.Nodes -/
theorem nodes_of {o : Ob} {r : Int} (h : RestIs o 3001 r) : 3001 - max 0 r = if o.nodes ≤ 3001 then (o.nodes : Int) else 3001 := by
  obtain ⟨h1, h2, h3, _, _⟩ := h
  have := o.nodes_pos
  split
  · have := h1 (by omega); omega
  · have := h2 (by omega); omega
def nodesP (o : Ob) : Int := if o.nodes ≤ 3001 then (o.nodes : Int) else 3001
set_option maxHeartbeats 1000000 in
theorem oNodes_any (ok : Nat → Prop) (o : Ob) (A : Option Addr) (n c : Nat) (w : World) (hP : Rd ok w (.slice A n c) (.row (o.pair.map Ob.enc))) :
    Calls Tryz.prog 83 #[objV o (.slice A n c)] w (RetBel (.int .i64 (nodesP o)) w) := by
  go_enter Tryz.func83, Tryz.ntmps83
  go_wp2_with fail
  refine (rest_any ok o.size o (Nat.le_refl _) A n c 3001 _ (hP.under (box _ _)) (by omega) (by omega)).mono ?_
  rintro e w1 ⟨r, rfl, hr, hb1⟩
  have HN := Lib.hid (nodes_of hr)
  have h1 := hr.2.2.1
  have h2 := hr.2.2.2.1 (by omega)
  clear hr
  by_cases h0 : 0 < r
  · have HM : Hid (3001 - r = nodesP o) := by show _ = _; have := HN.out; unfold nodesP; omega
    go_wp2
    go_ret
    exact ⟨by first | (rw [← HM.out]; rfl) | (rw [show nodesP o = 3001 - max 0 r from HN.out.symm]; rfl), via hb1⟩
  · have HM : Hid (3001 = nodesP o) := by show _ = _; have := HN.out; unfold nodesP; omega
    go_wp2
    go_ret
    exact ⟨by first | (rw [← HM.out]; rfl) | (rw [show nodesP o = 3001 - max 0 r from HN.out.symm]; rfl), via hb1⟩
end Go.Proofs.YtgphkgmhcmffnaaGreatDoor
