/- Lisp objects: a plain type, and how one lies in memory. -/
import Derived.Test.YtendgffijciehaaGreatDoorFA
import Derived.Deep.LoopGhost
import Derived.Deep.RegionHeld3
import Derived.Deep.RegionLaw
import Derived.Deep.DeepCutAuto
import Derived.StillTailTactics
import Derived.Deep.QuietTactic
import Derived.BigQuiet
import Derived.Lib.Bytealg
import Derived.BigRegion
import Derived.IntWalk
import Derived.Laws.BytesArg
namespace Go.Proofs.YtendgffijciehaaGreatDoor
open Go.RowKit

/-- an object, all its fields -/
structure Ob where
  kind : Int
  num : List UInt8
  den : List UInt8
  sp : List UInt8
  sn : List UInt8
  text : List UInt8
  pair : List Ob
namespace Ob
mutual
def enc : Ob → List Dt
  | ⟨k, n, d, p, s, t, l⟩ => [.val (.int .i64 k), .val (str n), .val (str d), .val (str p), .val (str s), .val (str t), .row (encL l)]
def encL : List Ob → List (List Dt)
  | [] => []
  | o :: r => enc o :: encL r
end
mutual
/-- how many objects it holds, itself counted -/
def size : Ob → Nat
  | ⟨_, _, _, _, _, _, l⟩ => sizeL l + 1
def sizeL : List Ob → Nat
  | [] => 0
  | o :: r => size o + sizeL r
end
theorem encL_map (l : List Ob) : encL l = l.map enc := by
  induction l with
  | nil => rfl
  | cons o r ih => rw [encL, ih]; rfl
theorem enc_eq (o : Ob) : o.enc = [.val (.int .i64 o.kind), .val (str o.num), .val (str o.den), .val (str o.sp), .val (str o.sn), .val (str o.text), .row (o.pair.map enc)] := by
  cases o; rw [enc, encL_map]
theorem enc_len (o : Ob) : o.enc.length = 7 := by rw [enc_eq]; rfl
theorem size_pos (o : Ob) : 0 < o.size := by cases o; rw [size]; omega
theorem sizeL_mem {l : List Ob} {o : Ob} (h : o ∈ l) : o.size ≤ sizeL l := by
  induction l with
  | nil => cases h
  | cons x r ih =>
    rw [sizeL]
    rcases List.mem_cons.1 h with rfl | h
    · omega
    · have := ih h; omega
theorem size_pair {o x : Ob} (h : x ∈ o.pair) : x.size < o.size := by
  cases o with
  | mk k n d p s t l =>
    rw [size]
    have := sizeL_mem (l := l) h
    omega
/-- objects by their size -/
theorem ind {motive : Ob → Prop} (step : ∀ o, (∀ x ∈ o.pair, motive x) → motive o) (o : Ob) : motive o := by
  have : ∀ n (o : Ob), o.size ≤ n → motive o := by
    intro n
    induction n with
    | zero => intro o h; have := size_pos o; omega
    | succ n ih => intro o h; exact step o fun x hx => ih x (by have := size_pair hx; omega)
  exact this o.size o (Nat.le_refl _)
/-- lengths and kinds within Go's bounds, all the way down -/
inductive Wf : Ob → Prop
  | mk (o : Ob) (hk0 : -9223372036854775808 ≤ o.kind) (hk1 : o.kind ≤ 9223372036854775807) (hn : o.num.length ≤ 9223372036854775807) (hd : o.den.length ≤ 9223372036854775807) (hp : o.sp.length ≤ 9223372036854775807) (hs : o.sn.length ≤ 9223372036854775807) (ht : o.text.length ≤ 9223372036854775807) (hl : o.pair.length ≤ 9223372036854775807) (h : ∀ x ∈ o.pair, Wf x) : Wf o
theorem Wf.kids {o x : Ob} (h : o.Wf) (hx : x ∈ o.pair) : x.Wf := by
  cases h with
  | mk _ _ _ _ _ _ _ _ _ h => exact h x hx
theorem Wf.len {o : Ob} (h : o.Wf) : o.pair.length ≤ 9223372036854775807 := by
  cases h with
  | mk _ _ _ _ _ _ _ _ hl _ => exact hl
end Ob

/-- the value of an object, P being its last field -/
abbrev objV (o : Ob) (P : Value) : Value := .agg #[.int .i64 o.kind, str o.num, str o.den, str o.sp, str o.sn, str o.text, P]
abbrev obCells (o : Ob) (P : Value) : Array Value := #[.int .i64 o.kind, str o.num, str o.den, str o.sp, str o.sn, str o.text, P]
theorem Rd.objs {ok : Nat → Prop} {w wr : World} {A : Option Addr} {n c : Nat} {l : List Ob} (h : Rd ok w (.slice A n c) (.row (l.map Ob.enc))) (hbr : Below w.heap.size w wr) {i : Nat} (hi : i < n) :
    ∃ (b o : Nat) (hl : i < l.length) (A' : Option Addr) (n' c' : Nat), A = some ⟨b, o, none⟩ ∧ b < w.heap.size ∧ ok b ∧
      wr.cell? ⟨b, o + i * 7, none⟩ = some (.int .i64 (l[i]).kind) ∧ wr.cell? ⟨b, o + i * 7 + 1, none⟩ = some (str (l[i]).num) ∧ wr.cell? ⟨b, o + i * 7 + 2, none⟩ = some (str (l[i]).den) ∧ wr.cell? ⟨b, o + i * 7 + 3, none⟩ = some (str (l[i]).sp) ∧
      wr.cell? ⟨b, o + i * 7 + 4, none⟩ = some (str (l[i]).sn) ∧ wr.cell? ⟨b, o + i * 7 + 5, none⟩ = some (str (l[i]).text) ∧ wr.cell? ⟨b, o + i * 7 + 6, none⟩ = some (.slice A' n' c') ∧ Rd ok w (.slice A' n' c') (.row ((l[i]).pair.map Ob.enc)) := by
  have hlen := h.len
  rw [List.length_map] at hlen
  obtain ⟨b, o, k, rfl, hb, hok, hk, hf⟩ := h.cells (by omega)
  have e : (l.map Ob.enc)[i]'(by rw [List.length_map]; omega) = (l[i]'(by omega)).enc := List.getElem_map _
  have hk' := hk i (by rw [List.length_map]; omega)
  rw [e, Ob.enc_len] at hk'
  subst hk'
  have hf' : ∀ j (hj : j < 7), ∃ u, w.cell? ⟨b, o + i * 7 + j, none⟩ = some u ∧ Rd ok w u ((l[i]'(by omega)).enc[j]'(by rw [Ob.enc_len]; exact hj)) := fun j hj => by
    obtain ⟨u, h1, h2⟩ := hf i j (by rw [List.length_map]; omega) (by rw [e, Ob.enc_len]; exact hj)
    simp only [e] at h2
    exact ⟨u, h1, h2⟩
  simp only [Ob.enc_eq] at hf'
  obtain ⟨u0, h0, r0⟩ := hf' 0 (by omega)
  obtain ⟨u1, h1, r1⟩ := hf' 1 (by omega)
  obtain ⟨u2, h2, r2⟩ := hf' 2 (by omega)
  obtain ⟨u3, h3, r3⟩ := hf' 3 (by omega)
  obtain ⟨u4, h4, r4⟩ := hf' 4 (by omega)
  obtain ⟨u5, h5, r5⟩ := hf' 5 (by omega)
  obtain ⟨u6, h6, r6⟩ := hf' 6 (by omega)
  simp only [List.getElem_cons_zero, List.getElem_cons_succ] at r0 r1 r2 r3 r4 r5 r6
  rw [r0.val_eq] at h0
  rw [r1.val_eq] at h1
  rw [r2.val_eq] at h2
  rw [r3.val_eq] at h3
  rw [r4.val_eq] at h4
  rw [r5.val_eq] at h5
  obtain ⟨A', n', c', rfl, _⟩ := r6.slice
  exact ⟨b, o, by omega, A', n', c', rfl, hb, hok, (hbr.cell (p := ⟨b, o + i * 7, none⟩) hb).trans h0, (hbr.cell (p := ⟨b, o + i * 7 + 1, none⟩) hb).trans h1, (hbr.cell (p := ⟨b, o + i * 7 + 2, none⟩) hb).trans h2, (hbr.cell (p := ⟨b, o + i * 7 + 3, none⟩) hb).trans h3, (hbr.cell (p := ⟨b, o + i * 7 + 4, none⟩) hb).trans h4, (hbr.cell (p := ⟨b, o + i * 7 + 5, none⟩) hb).trans h5, (hbr.cell (p := ⟨b, o + i * 7 + 6, none⟩) hb).trans h6, r6⟩
/-- the seven cells of a box stored anew -/
theorem BlkIs.put7 {w : World} {g : Nat} {t : TypeId} {c0 c1 c2 c3 c4 c5 c6 v0 v1 v2 v3 v4 v5 v6 : Value} (h : BlkIs w g t #[c0, c1, c2, c3, c4, c5, c6]) :
    BlkIs (((((((w.setCell ⟨g, 0, none⟩ v0).setCell ⟨g, 1, none⟩ v1).setCell ⟨g, 2, none⟩ v2).setCell ⟨g, 3, none⟩ v3).setCell ⟨g, 4, none⟩ v4).setCell ⟨g, 5, none⟩ v5).setCell ⟨g, 6, none⟩ v6) g t #[v0, v1, v2, v3, v4, v5, v6] := by
  have := ((((((h.set_ 0 v0).set_ 1 v1).set_ 2 v2).set_ 3 v3).set_ 4 v4).set_ 5 v5).set_ 6 v6
  simpa using this
theorem BlkIs.far7 {w : World} {g g' : Nat} {t : TypeId} {cs : Array Value} (h : BlkIs w g t cs) (hg : g ≠ g') (v0 v1 v2 v3 v4 v5 v6 : Value) :
    BlkIs (((((((w.setCell ⟨g', 0, none⟩ v0).setCell ⟨g', 1, none⟩ v1).setCell ⟨g', 2, none⟩ v2).setCell ⟨g', 3, none⟩ v3).setCell ⟨g', 4, none⟩ v4).setCell ⟨g', 5, none⟩ v5).setCell ⟨g', 6, none⟩ v6) g t cs :=
  ((((((h.far (p := ⟨g', 0, none⟩) hg _).far (p := ⟨g', 1, none⟩) hg _).far (p := ⟨g', 2, none⟩) hg _).far (p := ⟨g', 3, none⟩) hg _).far (p := ⟨g', 4, none⟩) hg _).far (p := ⟨g', 5, none⟩) hg _).far (p := ⟨g', 6, none⟩) hg _
theorem set7 {a w : World} (h0 : Below a.heap.size a w) {g : Nat} (hg : a.heap.size ≤ g) (v0 v1 v2 v3 v4 v5 v6 : Value) :
    Below a.heap.size a (((((((w.setCell ⟨g, 0, none⟩ v0).setCell ⟨g, 1, none⟩ v1).setCell ⟨g, 2, none⟩ v2).setCell ⟨g, 3, none⟩ v3).setCell ⟨g, 4, none⟩ v4).setCell ⟨g, 5, none⟩ v5).setCell ⟨g, 6, none⟩ v6) :=
  set2 (set2 (set2 (set2 (set2 (set2 (set2 h0 hg _) hg _) hg _) hg _) hg _) hg _) hg _
theorem BlkIs.frozen7 {w : World} {g : Nat} {t : TypeId} {cs : Array Value} (h : BlkIs w g t cs) : w.frozen? ⟨g, 0, none⟩ = false ∧ w.frozen? ⟨g, 1, none⟩ = false ∧ w.frozen? ⟨g, 2, none⟩ = false ∧ w.frozen? ⟨g, 3, none⟩ = false ∧ w.frozen? ⟨g, 4, none⟩ = false ∧ w.frozen? ⟨g, 5, none⟩ = false ∧ w.frozen? ⟨g, 6, none⟩ = false :=
  ⟨h.frozen 0, h.frozen 1, h.frozen 2, h.frozen 3, h.frozen 4, h.frozen 5, h.frozen 6⟩
end Go.Proofs.YtendgffijciehaaGreatDoor
/- Plain functions on objects: nodes, equality, the order. -/
namespace Go.Proofs.YtendgffijciehaaGreatDoor
open Go.RowKit

namespace Ob
mutual
/-- the nodes: a cons has a car and a cdr; whatever else has one node -/
def nodes : Ob → Nat
  | ⟨_, _, _, _, _, _, l⟩ => if l.length = 2 then nodesL l + 1 else 1
def nodesL : List Ob → Nat
  | [] => 0
  | o :: r => nodes o + nodesL r
end
theorem nodes_two {o a d : Ob} (h : o.pair = [a, d]) : o.nodes = a.nodes + d.nodes + 1 := by
  obtain ⟨k, n, e, p, s, t, l⟩ := o
  simp only at h
  subst h
  simp only [nodes, nodesL, List.length_cons, List.length_nil, if_true]
  omega
theorem nodes_one {o : Ob} (h : o.pair.length ≠ 2) : o.nodes = 1 := by
  obtain ⟨k, n, e, p, s, t, l⟩ := o
  rw [nodes, if_neg h]
theorem nodes_pos (o : Ob) : 1 ≤ o.nodes := by
  by_cases h : o.pair.length = 2
  · obtain ⟨k, n, e, p, s, t, l⟩ := o
    rw [nodes, if_pos h]; omega
  · rw [nodes_one h]; omega
theorem two_of_length {l : List Ob} (h : l.length = 2) : ∃ a d, l = [a, d] := by
  match l, h with
  | [a, d], _ => exact ⟨a, d, rfl⟩
end Ob
end Go.Proofs.YtendgffijciehaaGreatDoor
/- Objects: the leaves, Cons and the small questions; of package object and of the reference. -/
namespace Go.Proofs.YtendgffijciehaaGreatDoor
open Go.RowKit

def RetObj (ok : Nat → Prop) (o : Ob) (w : World) (e : Ending) (w' : World) : Prop :=
  ∃ A n c, e = .returned (objV o (.slice A n c)) ∧ Rd (fun b => ok b ∨ w.heap.size ≤ b) w' (.slice A n c) (.row (o.pair.map Ob.enc)) ∧ Below w.heap.size w w'
/-- a leaf: nothing in memory -/
def RetLeaf (o : Ob) (w : World) (e : Ending) (w' : World) : Prop := e = .returned (objV o (.slice none 0 0)) ∧ Below w.heap.size w w'
theorem RetLeaf.obj {ok : Nat → Prop} {o : Ob} {w w' : World} {e : Ending} (h : RetLeaf o w e w') (hp : o.pair = []) : RetObj ok o w e w' :=
  ⟨none, 0, 0, h.1, by rw [hp]; exact .nil _ _, h.2⟩
theorem BlkIs.new2 (w : World) (o o' : Obj) (t : TypeId) (cs : Array Value) : BlkIs (((w.alloc o).alloc o').alloc (.cells cs t)) (w.heap.size + 1 + 1) t cs := by
  have := BlkIs.new ((w.alloc o).alloc o') t cs
  simpa using this
abbrev zeroCells : Array Value := #[.int .i64 0, .string ⟨#[]⟩, .string ⟨#[]⟩, .string ⟨#[]⟩, .string ⟨#[]⟩, .string ⟨#[]⟩, .slice none 0 0]
abbrev lispB : List UInt8 := [108, 105, 115, 112]
abbrev nilB : List UInt8 := [110, 105, 108]
abbrev symO (p s : List UInt8) : Ob := ⟨2, [], [], p, s, [], []⟩
abbrev nilO : Ob := symO lispB nilB
abbrev tO : Ob := symO lispB [116]
abbrev numO (n d : List UInt8) : Ob := ⟨1, n, d, [], [], [], []⟩
abbrev txtO (t : List UInt8) : Ob := ⟨3, [], [], [], [], t, []⟩
abbrev consO (a d : Ob) : Ob := ⟨4, [], [], [], [], [], [a, d]⟩

set_option maxHeartbeats 400000 in
/-- a return of an object that lies in the result's box -/
theorem ret_obj {fn : Func} {a : Act} {g r : Nat} {w : World} {t : TypeId} {c0 c1 c2 c3 c4 c5 c6 : Value} {R : Ending → World → Prop} (hf : fn.results = #[.cell r 35]) (ht : a.tmps[r]? = some (.pointer (some ⟨g, 0, none⟩))) (hB : BlkIs w g t #[c0, c1, c2, c3, c4, c5, c6]) (hd : a.defers = []) (hR : R (.returned (.agg #[c0, c1, c2, c3, c4, c5, c6])) w) : bodyPost Tryz.prog fn R .ret a w := by
  obtain ⟨h0, h1, h2, h3, h4, h5, h6, _⟩ := hB.seven
  refine bodyPost_ret (v := .agg #[c0, c1, c2, c3, c4, c5, c6]) ?_ hd hR
  simp [results, hf, ht, go_sem, h0, h1, h2, h3, h4, h5, h6]

set_option maxHeartbeats 400000 in
theorem rSymbol_any (w : World) (p s : List UInt8) : Calls Tryz.prog 52 #[.agg #[str p, str s]] w (RetLeaf (symO p s) w) := by
  go_enter Tryz.func52, Tryz.ntmps52
  go_wp2
  exact bodyPost_ret (v := objV (symO p s) (.slice none 0 0)) (by simp [results, Tryz.results52, go_sem]) rfl ⟨rfl, box2 (box _ _) _⟩

set_option maxHeartbeats 400000 in
theorem rText_any (w : World) (t : List UInt8) : Calls Tryz.prog 124 #[str t] w (RetLeaf (txtO t) w) := by
  go_enter Tryz.func124, Tryz.ntmps124
  go_wp2
  exact bodyPost_ret (v := objV (txtO t) (.slice none 0 0)) (by simp [results, Tryz.results124, go_sem]) rfl ⟨rfl, box _ _⟩
end Go.Proofs.YtendgffijciehaaGreatDoor
/- object.rest and Nodes: how many nodes an object has. -/
namespace Go.Proofs.YtendgffijciehaaGreatDoor
open Go.RowKit

def nodesP (o : Ob) : Int := if o.nodes ≤ 3001 then (o.nodes : Int) else 3001
end Go.Proofs.YtendgffijciehaaGreatDoor
/- Rational numbers: what reducing a fraction gives, and how long its numerals are. -/
namespace Go.Proofs.YtendgffijciehaaGreatDoor
open Go.RowKit

theorem qd_pos {x : Int} {g : Nat} (h : 0 < g) : qd x (g : Int) = x / g := by
  unfold qd
  rw [if_neg (by omega), if_pos (by omega)]
theorem rd_rat (x y : Int) : rdN x y = (Rat.divInt x y).num ∧ rdD x y = ((Rat.divInt x y).den : Int) := by
  rw [Rat.num_divInt, Rat.den_divInt]
  by_cases hy : y = 0
  · subst hy; simp [rdN, rdD]
  · have hg : 0 < Nat.gcd x.natAbs y.natAbs := Nat.gcd_pos_of_pos_right _ (by omega)
    have e : y.gcd x = Nat.gcd x.natAbs y.natAbs := Nat.gcd_comm _ _
    unfold rdN rdD
    rw [if_neg hy, if_neg hy, if_neg hy, qd_pos hg, qd_pos hg, e]
    refine ⟨?_, ?_⟩
    · congr 1
      unfold rdX
      split
      · rw [Int.sign_eq_neg_one_of_neg (by assumption)]; omega
      · rw [Int.sign_eq_one_of_pos (by omega)]; omega
    · unfold rdY
      rw [Int.natCast_ediv]
      congr 1
      split <;> omega
/-- numerator and denominator have at most k digits -/
structure Rb (k : Nat) (q : Rat) : Prop where
  num : q.num.natAbs < 10 ^ k
  den : q.den < 10 ^ k
  pos : 1 ≤ k
theorem Rb.mk' {k : Nat} {x y : Int} (hk : 1 ≤ k) (hx : x.natAbs < 10 ^ k) (hy : y.natAbs < 10 ^ k) : Rb k (Rat.divInt x y) := by
  refine ⟨?_, ?_, hk⟩
  · rw [Rat.num_divInt]
    refine Nat.lt_of_le_of_lt (Nat.le_trans (Int.natAbs_ediv_le_natAbs _ _) ?_) hx
    rw [Int.natAbs_mul]
    rcases Int.lt_trichotomy y 0 with h | h | h
    · rw [Int.sign_eq_neg_one_of_neg h]; simp
    · subst h; simp
    · rw [Int.sign_eq_one_of_pos h]; simp
  · rw [Rat.den_divInt]
    split
    · exact Nat.one_lt_pow (by omega) (by omega)
    · exact Nat.lt_of_le_of_lt (Nat.div_le_self _ _) hy
theorem Rb.mono {k m : Nat} {q : Rat} (h : Rb k q) (hm : k ≤ m) : Rb m q :=
  ⟨Nat.lt_of_lt_of_le h.num (Nat.pow_le_pow_right (by omega) hm), Nat.lt_of_lt_of_le h.den (Nat.pow_le_pow_right (by omega) hm), by have := h.pos; omega⟩
theorem Rb.nlen {k : Nat} {q : Rat} (h : Rb k q) : (Lib.itoa q.num).length ≤ k + 1 := itoa_length_any _ h.pos h.num
theorem Rb.dlen {k : Nat} {q : Rat} (h : Rb k q) : (Lib.itoa (q.den : Int)).length ≤ k + 1 := itoa_length_any _ h.pos (by rw [Int.natAbs_natCast]; exact h.den)

/-- a number as an object -/
abbrev ratO (q : Rat) : Ob := numO (Lib.itoa q.num) (Lib.itoa (q.den : Int))
end Go.Proofs.YtendgffijciehaaGreatDoor
/- Objects: the constructors and the small questions of package object. -/
namespace Go.Proofs.YtendgffijciehaaGreatDoor
open Go.RowKit

/-- two objects side by side in one block read as a pair -/
theorem rd_pair {ok : Nat → Prop} {a d : Ob} {A A' : Option Addr} {n n' c c' : Nat} {w : World} {g : Nat} {t : TypeId} (hB : BlkIs w g t #[.int .i64 a.kind, str a.num, str a.den, str a.sp, str a.sn, str a.text, .slice A n c, .int .i64 d.kind, str d.num, str d.den, str d.sp, str d.sn, str d.text, .slice A' n' c'])
    (hg : ok g) (ha : Rd ok w (.slice A n c) (.row (a.pair.map Ob.enc))) (hd : Rd ok w (.slice A' n' c') (.row (d.pair.map Ob.enc))) : Rd ok w (.slice (some ⟨g, 0, none⟩) 2 2) (.row ([a, d].map Ob.enc)) := by
  refine Rd.mk (k := 7) rfl (Nat.le_refl _) hB.lt hg (fun i hi => ?_) (fun i j hi hj => ?_)
  · rw [List.getElem_map, Ob.enc_len]
  · simp only [List.getElem_map, Ob.enc_len] at hj
    have hi' : i < 2 := hi
    rw [hB.cell]
    rcases i with _ | _ | i
    · rcases j with _ | _ | _ | _ | _ | _ | _ | j
      all_goals first | omega | skip
      all_goals simp only [List.map_cons, List.getElem_cons_zero, Ob.enc_eq, List.getElem_cons_succ]
      all_goals first | exact ⟨_, rfl, .val _⟩ | exact ⟨_, rfl, ha⟩
    · rcases j with _ | _ | _ | _ | _ | _ | _ | j
      all_goals first | omega | skip
      all_goals simp only [List.map_cons, List.getElem_cons_zero, Ob.enc_eq, List.getElem_cons_succ]
      all_goals first | exact ⟨_, rfl, .val _⟩ | exact ⟨_, rfl, hd⟩
    · omega
theorem cons_ret (ok : Nat → Prop) (a d : Ob) (A A' : Option Addr) (n n' c c' : Nat) (w : World) {b1 b2 b3 : Obj} {t : TypeId} (ha : Rd ok w (.slice A n c) (.row (a.pair.map Ob.enc))) (hd : Rd ok w (.slice A' n' c') (.row (d.pair.map Ob.enc))) :
    RetObj ok (consO a d) w (.returned (objV (consO a d) (.slice (some ⟨w.heap.size + 1 + 1 + 1, 0, none⟩) 2 2))) ((((w.alloc b1).alloc b2).alloc b3).alloc (.cells #[.int .i64 a.kind, str a.num, str a.den, str a.sp, str a.sn, str a.text, .slice A n c, .int .i64 d.kind, str d.num, str d.den, str d.sp, str d.sn, str d.text, .slice A' n' c'] t)) := by
  have hb : Below w.heap.size w (((w.alloc b1).alloc b2).alloc b3) := box2 (box2 (box _ _) _) _
  refine ⟨_, 2, 2, rfl, ?_, box2 hb _⟩
  have hB := BlkIs.new (((w.alloc b1).alloc b2).alloc b3) t #[.int .i64 a.kind, str a.num, str a.den, str a.sp, str a.sn, str a.text, .slice A n c, .int .i64 d.kind, str d.num, str d.den, str d.sp, str d.sn, str d.text, .slice A' n' c']
  have e : (((w.alloc b1).alloc b2).alloc b3).heap.size = w.heap.size + 1 + 1 + 1 := by simp
  rw [e] at hB
  exact rd_pair hB (.inr (by omega)) ((ha.under (box2 hb _)).mono fun _ h _ => .inl h) ((hd.under (box2 hb _)).mono fun _ h _ => .inl h)
end Go.Proofs.YtendgffijciehaaGreatDoor
/- Arithmetic of objects: fix, value, Sum, Product, Opposite, Reciprocal, Less of package object. -/
namespace Go.Proofs.YtendgffijciehaaGreatDoor
open Go.RowKit

end Go.Proofs.YtendgffijciehaaGreatDoor
/- Arithmetic of objects: Sum, Product, Opposite, Reciprocal, Less of package object. -/
namespace Go.Proofs.YtendgffijciehaaGreatDoor
open Go.RowKit

theorem far7 (w : World) {g g' : Nat} (hg : g ≠ g') (i : Nat) (v0 v1 v2 v3 v4 v5 v6 : Value) :
    (((((((w.setCell ⟨g', 0, none⟩ v0).setCell ⟨g', 1, none⟩ v1).setCell ⟨g', 2, none⟩ v2).setCell ⟨g', 3, none⟩ v3).setCell ⟨g', 4, none⟩ v4).setCell ⟨g', 5, none⟩ v5).setCell ⟨g', 6, none⟩ v6).cell? ⟨g, i, none⟩ = w.cell? ⟨g, i, none⟩ := by
  have e : ∀ (w : World) (j : Nat) (v : Value), (w.setCell ⟨g', j, none⟩ v).cell? ⟨g, i, none⟩ = w.cell? ⟨g, i, none⟩ := fun w j v => World.cell?_of_block (Below.heap_setCell w ⟨g', j, none⟩ v g hg)
  rw [e, e, e, e, e, e, e]
end Go.Proofs.YtendgffijciehaaGreatDoor
/- Arithmetic of objects: Opposite, Reciprocal, Less of package object; IsNil, IsInteger. -/
namespace Go.Proofs.YtendgffijciehaaGreatDoor
open Go.RowKit

set_option maxHeartbeats 400000 in
theorem oIsNil_any (o : Ob) (A : Option Addr) (n c : Nat) (w : World) : Calls Tryz.prog 55 #[objV o (.slice A n c)] w (RetBel (.bool (decide (o.kind = 2 ∧ o.sp = lispB ∧ o.sn = nilB))) w) := by
  obtain ⟨k, nm, d, p, s, t, l⟩ := o
  dsimp only
  by_cases hk : k = 2
  · subst hk
    by_cases h1 : p = lispB
    · subst h1
      by_cases h2 : s = nilB
      · subst h2
        rw [decide_eq_true ⟨rfl, rfl, rfl⟩]
        go_enter Tryz.func55, Tryz.ntmps55
        go_wp2
        go_ret
        exact ⟨rfl, box _ _⟩
      · rw [decide_eq_false (fun h => h2 h.2.2)]
        have hz : (s == nilB) = false := by rw [beq_eq_false_iff_ne]; exact h2
        clear h2
        go_enter Tryz.func55, Tryz.ntmps55
        go_wp2
        go_ret
        exact ⟨rfl, box _ _⟩
    · rw [decide_eq_false (fun h => h1 h.2.1)]
      have hz : (p == lispB) = false := by rw [beq_eq_false_iff_ne]; exact h1
      clear h1
      go_enter Tryz.func55, Tryz.ntmps55
      go_wp2
      go_ret
      exact ⟨rfl, box _ _⟩
  · rw [decide_eq_false (fun h => hk h.1)]
    have hz : (k == 2) = false := by rw [beq_eq_false_iff_ne]; exact hk
    clear hk
    go_enter Tryz.func55, Tryz.ntmps55
    go_wp2
    go_ret
    exact ⟨rfl, box _ _⟩
end Go.Proofs.YtendgffijciehaaGreatDoor
/- Lists of objects: List and Items of package object. -/
namespace Go.Proofs.YtendgffijciehaaGreatDoor
open Go.RowKit

def listO : List Ob → Ob
  | [] => nilO
  | a :: r => consO a (listO r)
theorem Rd.far7 {ok : Nat → Prop} {w : World} {v : Value} {d : Dt} {g : Nat} (h : Rd ok w v d) (hg : ∀ b, ok b → b ≠ g) (v0 v1 v2 v3 v4 v5 v6 : Value) :
    Rd ok (((((((w.setCell ⟨g, 0, none⟩ v0).setCell ⟨g, 1, none⟩ v1).setCell ⟨g, 2, none⟩ v2).setCell ⟨g, 3, none⟩ v3).setCell ⟨g, 4, none⟩ v4).setCell ⟨g, 5, none⟩ v5).setCell ⟨g, 6, none⟩ v6) v d :=
  ((((((h.far (p := ⟨g, 0, none⟩) hg _).far (p := ⟨g, 1, none⟩) hg _).far (p := ⟨g, 2, none⟩) hg _).far (p := ⟨g, 3, none⟩) hg _).far (p := ⟨g, 4, none⟩) hg _).far (p := ⟨g, 5, none⟩) hg _).far (p := ⟨g, 6, none⟩) hg _
theorem drop_cons {l : List Ob} {j : Nat} (h : j < l.length) : listO (l.drop j) = consO l[j] (listO (l.drop (j + 1))) := by
  rw [List.drop_eq_getElem_cons h]; rfl
end Go.Proofs.YtendgffijciehaaGreatDoor
/- object.Valid is true for objects built of 1, nil and a short string by conses; object.Compare at a string and a symbol. -/
namespace Go.Proofs.YtendgffijciehaaGreatDoor
open Go.RowKit

end Go.Proofs.YtendgffijciehaaGreatDoor
/- Plain trees: the well-formed objects, and their order. -/
namespace Go.Proofs.YtendgffijciehaaGreatDoor
open Go.RowKit

inductive Tr where
  | num (q : Rat)
  | txt (t : List UInt8)
  | sym (p s : List UInt8)
  | cons (a d : Tr)
namespace Tr
def ob : Tr → Ob
  | .num q => ratO q
  | .txt t => txtO t
  | .sym p s => symO p s
  | .cons a d => consO a.ob d.ob
/-- numbers of at most k digits, and short strings -/
def Ok (k : Nat) : Tr → Prop
  | .num q => Rb k q
  | .txt t => t.length ≤ 100000
  | .sym p s => p.length ≤ 100000 ∧ s.length ≤ 100000
  | .cons a d => a.Ok k ∧ d.Ok k
theorem Ok.mono {k m : Nat} (hm : k ≤ m) : ∀ {t : Tr}, t.Ok k → t.Ok m
  | .num _, h => Rb.mono h hm
  | .txt _, h => h
  | .sym _ _, h => h
  | .cons _ _, h => ⟨Ok.mono hm h.1, Ok.mono hm h.2⟩
theorem Ok.wf {k : Nat} (hk : k ≤ 100000) : ∀ {t : Tr}, t.Ok k → t.ob.Wf
  | .num q, h => by
    have h1 := Rb.nlen h
    have h2 := Rb.dlen h
    exact .mk (ratO q) (by show (-9223372036854775808 : Int) ≤ 1; omega) (by show (1 : Int) ≤ _; omega) (by show (Lib.itoa q.num).length ≤ _; omega) (by show (Lib.itoa (q.den : Int)).length ≤ _; omega) (Nat.zero_le _) (Nat.zero_le _) (Nat.zero_le _) (Nat.zero_le _) (fun x hx => by cases hx)
  | .txt t, h => by
    have h' : t.length ≤ 100000 := h
    exact .mk (txtO t) (by show (-9223372036854775808 : Int) ≤ 3; omega) (by show (3 : Int) ≤ _; omega) (Nat.zero_le _) (Nat.zero_le _) (Nat.zero_le _) (Nat.zero_le _) (by show t.length ≤ _; omega) (Nat.zero_le _) (fun x hx => by cases hx)
  | .sym p s, h => by
    obtain ⟨h1, h2⟩ := h
    exact .mk (symO p s) (by show (-9223372036854775808 : Int) ≤ 2; omega) (by show (2 : Int) ≤ _; omega) (Nat.zero_le _) (Nat.zero_le _) (by show p.length ≤ _; omega) (by show s.length ≤ _; omega) (Nat.zero_le _) (Nat.zero_le _) (fun x hx => by cases hx)
  | .cons a d, h => by
    have h1 := Ok.wf hk h.1
    have h2 := Ok.wf hk h.2
    exact .mk (consO a.ob d.ob) (by show (-9223372036854775808 : Int) ≤ 4; omega) (by show (4 : Int) ≤ _; omega) (Nat.zero_le _) (Nat.zero_le _) (Nat.zero_le _) (Nat.zero_le _) (Nat.zero_le _) (by show 2 ≤ 9223372036854775807; omega) (fun x hx => by
      simp only [List.mem_cons, List.not_mem_nil, or_false] at hx
      rcases hx with rfl | rfl <;> assumption)
def list : List Tr → Tr
  | [] => .sym lispB nilB
  | a :: r => .cons a (list r)
theorem list_ob : ∀ l : List Tr, (list l).ob = listO (l.map ob)
  | [] => rfl
  | a :: r => by show consO a.ob (list r).ob = _; rw [list_ob r]; rfl
end Tr
end Go.Proofs.YtendgffijciehaaGreatDoor
/- object.Equal: all fields are equal. -/
namespace Go.Proofs.YtendgffijciehaaGreatDoor
open Go.RowKit

def RetEq (p : Prop) (w : World) (e : Ending) (w' : World) : Prop := ∃ b : Bool, e = .returned (.bool b) ∧ (b = true ↔ p) ∧ Below w.heap.size w w'
theorem iff_no {p : Prop} (h : ¬ p) : (false = true) ↔ p := ⟨(fun e => by cases e), fun e => absurd e h⟩
theorem iff_yes {p : Prop} (h : p) : (true = true) ↔ p := ⟨fun _ => h, fun _ => rfl⟩
theorem ob_iff (k : Int) (n d p s t : List UInt8) (l m : List Ob) : l = m ↔ (⟨k, n, d, p, s, t, l⟩ : Ob) = ⟨k, n, d, p, s, t, m⟩ := ⟨fun e => by rw [e], fun e => by injection e⟩
theorem init_last {l m : List Ob} {n : Nat} (hl : l.length = n) (hm : m.length = n) (h0 : 0 < n) (h : ∀ j (h1 : j < l.length) (h2 : j < m.length), j < n - 1 → l[j] = m[j]) : (l[n - 1]'(by omega) = m[n - 1]'(by omega)) ↔ l = m := by
  constructor
  · intro e
    apply List.ext_getElem (by omega)
    intro i h1 h2
    by_cases hi : i < n - 1
    · exact h i h1 h2 hi
    · obtain rfl : i = n - 1 := by omega
      exact e
  · intro e; subst e; rfl

set_option maxHeartbeats 8000000 in
set_option maxRecDepth 100000 in
theorem oEqual_any (ok ok' : Nat → Prop) : ∀ (N : Nat) (a b : Ob), a.size ≤ N → a.Wf → ∀ (A A' : Option Addr) (n n' c c' : Nat) (w : World), Rd ok w (.slice A n c) (.row (a.pair.map Ob.enc)) → Rd ok' w (.slice A' n' c') (.row (b.pair.map Ob.enc)) →
    Calls Tryz.prog 78 #[objV a (.slice A n c), objV b (.slice A' n' c')] w (RetEq (a = b) w) := by
  intro N
  induction N with
  | zero => intro a b h; have := Ob.size_pos a; omega
  | succ N ih =>
    intro a b hN hW A A' n n' c c' w hA hB
    go_enter Tryz.func78, Tryz.ntmps78
    go_wp2
    go_loopg [5] a.size (fun gx _ wr => ∃ (x y : Ob) (A2 A3 : Option Addr) (n2 n3 c2 c3 : Nat), Hid (BlkIs wr w.heap.size 35 (obCells x (.slice A2 n2 c2))) ∧ Hid (BlkIs wr (w.heap.size + 1) 35 (obCells y (.slice A3 n3 c3))) ∧ Rd ok w (.slice A2 n2 c2) (.row (x.pair.map Ob.enc)) ∧ Rd ok' w (.slice A3 n3 c3) (.row (y.pair.map Ob.enc)) ∧ x.size ≤ N + 1 ∧ x.Wf ∧ Hid (x = y ↔ a = b) ∧ x.size ≤ gx ∧ Below w.heap.size w wr)
    case atStart => exact ⟨a, b, A, A', n, n', c, c', Lib.hid ((BlkIs.new w _ _).alloc _), Lib.hid (BlkIs.new1 w _ _ _), hA, hB, hN, hW, Lib.hid Iff.rfl, Nat.le_refl _, box2 (box _ _) _⟩
    case round =>
      obtain ⟨⟨xk, xn, xd, xp, xs, xt, xl⟩, ⟨yk, yn, yd, yp, ys, yt, yl⟩, A2, A3, n2, n3, c2, c3, HX, HY, hx, hy, hxN, hxW, HI, hg, hb⟩ := hrel
      obtain ⟨u0, u1, u2, u3, u4, u5, u6, hu⟩ := HX.out.seven
      obtain ⟨v0, v1, v2, v3, v4, v5, v6, hv⟩ := HY.out.seven
      have hxl := hx.len
      have hyl := hy.len
      rw [List.length_map] at hxl hyl
      have hw1 := hxW.len
      dsimp only at hxl hyl hw1 u0 u1 u2 u3 u4 u5 u6 v0 v1 v2 v3 v4 v5 v6
      have HN := fun (h : ¬ ((Ob.mk xk xn xd xp xs xt xl) = (Ob.mk yk yn yd yp ys yt yl))) => Lib.hid (fun e => h (HI.out.2 e))
      by_cases hk : xk = yk
      case neg =>
        have hz : (xk != yk) = true := by rw [bne_iff_ne]; exact hk
        have HF := HN (fun e => hk (by injection e))
        clear HN hk hxl hyl
        go_wp2
        go_ret
        exact ⟨false, rfl, iff_no HF.out, hb⟩
      subst hk
      by_cases hn : xn = yn
      case neg =>
        have hz : (xn == yn) = false := by rw [beq_eq_false_iff_ne]; exact hn
        have HF := HN (fun e => hn (by injection e))
        clear HN hn hxl hyl
        go_wp2
        go_ret
        exact ⟨false, rfl, iff_no HF.out, hb⟩
      subst hn
      by_cases hd : xd = yd
      case neg =>
        have hz : (xd == yd) = false := by rw [beq_eq_false_iff_ne]; exact hd
        have HF := HN (fun e => hd (by injection e))
        clear HN hd hxl hyl
        go_wp2
        go_ret
        exact ⟨false, rfl, iff_no HF.out, hb⟩
      subst hd
      by_cases hp : xp = yp
      case neg =>
        have hz : (xp == yp) = false := by rw [beq_eq_false_iff_ne]; exact hp
        have HF := HN (fun e => hp (by injection e))
        clear HN hp hxl hyl
        go_wp2
        go_ret
        exact ⟨false, rfl, iff_no HF.out, hb⟩
      subst hp
      by_cases hs : xs = ys
      case neg =>
        have hz : (xs == ys) = false := by rw [beq_eq_false_iff_ne]; exact hs
        have HF := HN (fun e => hs (by injection e))
        clear HN hs hxl hyl
        go_wp2
        go_ret
        exact ⟨false, rfl, iff_no HF.out, hb⟩
      subst hs
      by_cases ht : xt = yt
      case neg =>
        have hz : (xt == yt) = false := by rw [beq_eq_false_iff_ne]; exact ht
        have HF := HN (fun e => ht (by injection e))
        clear HN ht hxl hyl
        go_wp2
        go_ret
        exact ⟨false, rfl, iff_no HF.out, hb⟩
      subst ht
      by_cases hl : n2 = n3
      case neg =>
        have hz : ((n2 : Int) != (n3 : Int)) = true := by rw [bne_iff_ne]; omega
        have HF := HN (fun e => hl (by injection e with _ _ _ _ _ _ e; rw [← hxl, ← hyl, e]))
        clear HN hl hxl hyl
        go_wp2
        go_ret
        exact ⟨false, rfl, iff_no HF.out, hb⟩
      subst hl
      clear HN
      have HXL := Lib.hid hxl
      have HYL := Lib.hid hyl
      rw [hxl] at hw1
      clear hxl hyl
      by_cases h0 : n2 = 0
      · subst h0
        have HT : Hid (a = b) := HI.out.1 (by rw [List.eq_nil_of_length_eq_zero HXL.out, List.eq_nil_of_length_eq_zero HYL.out])
        go_wp2
        go_ret
        exact ⟨true, rfl, iff_yes HT.out, hb⟩
      · have hz0 : ((n2 : Int) == 0) = false := by rw [beq_eq_false_iff_ne]; omega
        go_wp2
        clear u0 u1 u2 u3 u4 u5 u6 hu v0 v1 v2 v3 v4 v5 v6 hv
        go_loopw [56] (fun ix wq => ∃ i : Nat, i ≤ n2 - 1 ∧ ix = .int .i64 i ∧ Hid (∀ j (h1 : j < xl.length) (h2 : j < yl.length), j < i → xl[j] = yl[j]) ∧ Hid (BlkIs wq w.heap.size 35 (obCells ⟨xk, xn, xd, xp, xs, xt, xl⟩ (.slice A2 n2 c2))) ∧ Hid (BlkIs wq (w.heap.size + 1) 35 (obCells ⟨xk, xn, xd, xp, xs, xt, yl⟩ (.slice A3 n2 c3))) ∧ Below w.heap.size w wq) (fun ix _ => n2 - 1 - (intOf ix).toNat)
        case atStart => exact ⟨0, Nat.zero_le _, rfl, Lib.hid (fun j _ _ h => absurd h (by omega)), HX, HY, hb⟩
        case round =>
          clear HX HY hb
          obtain ⟨i, hi, rfl, HJ, HX, HY, hb⟩ := hrel
          obtain ⟨u0, u1, u2, u3, u4, u5, u6, hu⟩ := HX.out.seven
          obtain ⟨v0, v1, v2, v3, v4, v5, v6, hv⟩ := HY.out.seven
          obtain ⟨f0, f1, f2, f3, f4, f5, f6⟩ := HX.out.frozen7
          obtain ⟨g0, g1, g2, g3, g4, g5, g6⟩ := HY.out.frozen7
          by_cases hin : i < n2 - 1
          · obtain ⟨p1, q1, hil, A4, n4, c4, rfl, hp1, _, a0, a1, a2, a3, a4, a5, a6, ha⟩ := hx.objs hb (i := i) (by omega)
            obtain ⟨p2, q2, hil', A5, n5, c5, rfl, hp2, _, b0, b1, b2, b3, b4, b5, b6, hb'⟩ := hy.objs hb (i := i) (by omega)
            have hp1' := Nat.lt_of_lt_of_le hp1 hb.size
            have hp2' := Nat.lt_of_lt_of_le hp2 hb.size
            have hsz := Ob.size_pair (o := ⟨xk, xn, xd, xp, xs, xt, xl⟩) (x := xl[i]) (List.getElem_mem hil)
            have hwf := hxW.kids (x := xl[i]) (List.getElem_mem hil)
            have HC : Hid (∀ wd : World, Below w.heap.size w wd → Calls Tryz.prog 78 #[objV xl[i] (.slice A4 n4 c4), objV yl[i] (.slice A5 n5 c5)] wd (RetEq (xl[i] = yl[i]) wd)) := fun wd hd => ih xl[i] yl[i] (by omega) hwf A4 A5 n4 n5 c4 c5 wd (ha.under hd) (hb'.under hd)
            have hi1 : (0 : Int) ≤ (i : Int) := by omega
            have hi2 : (i : Int) < n2 := by omega
            have hi3 : i < n2 := by omega
            have hbd := hb.drew
            go_upto_region 9 with (fail)
            go_still_tail 10, (by kernel_rfl)
            go_wp2_with fail
            refine (HC.out _ hbd).mono ?_
            rintro e w1 ⟨bb, rfl, hbb, hb1⟩
            have hbw1 := then_ hbd hb1
            cases bb with
            | false =>
              have HF : Hid (¬ a = b) := fun e => by
                have e2 := HI.out.2 e
                injection e2 with _ _ _ _ _ _ e2
                have := hbb.2 (by subst e2; rfl)
                cases this
              clear hbb
              go_wp2
              go_ret
              exact ⟨false, rfl, iff_no HF.out, hbw1⟩
            | true =>
              have HE := Lib.hid (hbb.1 rfl)
              clear hbb
              go_wp2
              go_roundw
              case rel => exact ⟨i + 1, by omega, by go_num, Lib.hid (fun j h1 h2 h => by
                rcases Nat.lt_or_ge j i with h3 | h3
                · exact HJ.out j h1 h2 h3
                · obtain rfl : j = i := by omega
                  exact HE.out), Lib.hid (HX.out.drew.below hb1), Lib.hid (HY.out.drew.below hb1), hbw1⟩
              case measure => simp only [intOf]; omega
          · obtain rfl : i = n2 - 1 := by omega
            obtain ⟨p1, q1, hil, A4, n4, c4, rfl, hp1, _, a0, a1, a2, a3, a4, a5, a6, ha⟩ := hx.objs hb (i := n2 - 1) (by omega)
            obtain ⟨p2, q2, hil', A5, n5, c5, rfl, hp2, _, b0, b1, b2, b3, b4, b5, b6, hb'⟩ := hy.objs hb (i := n2 - 1) (by omega)
            have hp1' := Nat.lt_of_lt_of_le hp1 hb.size
            have hp2' := Nat.lt_of_lt_of_le hp2 hb.size
            have hsz := Ob.size_pair (o := ⟨xk, xn, xd, xp, xs, xt, xl⟩) (x := xl[n2 - 1]) (List.getElem_mem hil)
            have hwf := hxW.kids (x := xl[n2 - 1]) (List.getElem_mem hil)
            have HL := Lib.hid (init_last HXL.out HYL.out (by omega) HJ.out)
            have hi1 : (0 : Int) ≤ (n2 : Int) - 1 := by omega
            have hi2 : (n2 : Int) - 1 < n2 := by omega
            have hi3 : ((n2 : Int) - 1).toNat = n2 - 1 := by omega
            have hbd := hb.drew
            go_upto_region 12 with (fail)
            have w1 : IntKind.i64.wrap ((n2 : Int) - 1) = (n2 : Int) - 1 := IntWalk.i64_in _ (by omega)
            go_region
            clear w1
            go_wp2
            go_roundg (xl[n2 - 1].size)
            case measure => omega
            case rel =>
              exact ⟨xl[n2 - 1], yl[n2 - 1], A4, A5, n4, n5, c4, c5, Lib.hid ((HX.out.put7.far7 (by omega) _ _ _ _ _ _ _).drew), Lib.hid ((HY.out.far7 (by omega) _ _ _ _ _ _ _).put7.drew), ha, hb', by omega, hwf, Lib.hid (HL.out.trans ((ob_iff xk xn xd xp xs xt xl yl).trans HI.out)), Nat.le_refl _, (set7 (set7 hb (Nat.le_refl _) _ _ _ _ _ _ _) (Nat.le_succ _) _ _ _ _ _ _ _).drew⟩
end Go.Proofs.YtendgffijciehaaGreatDoor
/- lispproverlaw2.first returns true; object.Compare at a string and a symbol. -/
namespace Go.Proofs.YtendgffijciehaaGreatDoor
open Go.RowKit

/-- numerator and denominator as strings -/
def sn (q : Rat) : List UInt8 := Lib.itoa q.num
end Go.Proofs.YtendgffijciehaaGreatDoor
/- lispproverref1.Valid: which strings are decimals. -/
namespace Go.Proofs.YtendgffijciehaaGreatDoor
open Go.RowKit

theorem isDec_nil {l : List UInt8} (h0 : (l == [48]) = false) (h : Dec.mag l = []) : Dec.isDec l = false := by
  unfold Dec.isDec; rw [h0, h]; rfl
theorem isDec_48 {l : List UInt8} {c : UInt8} {r : List UInt8} (h0 : (l == [48]) = false) (h : Dec.mag l = c :: r) (hc : c.toNat = 48) : Dec.isDec l = false := by
  rw [isDec_head48 h hc, h0]
theorem byte_drop {D : ByteArray} {l : List UInt8} (h : D.data.toList = l) (f k : Nat) (hf : f ≤ k) (hk : k < D.size) : ∃ hl : k - f < (l.drop f).length, D[k] = (l.drop f)[k - f] := by
  obtain ⟨h1, e⟩ := byte_at h k hk
  refine ⟨by rw [List.length_drop]; omega, ?_⟩
  rw [e]
  simp only [List.getElem_drop]
  congr 1
  omega
theorem cons_of_pos {l : List UInt8} (h : 0 < l.length) : ∃ c r, l = c :: r := by
  cases l with
  | nil => simp at h
  | cons c r => exact ⟨c, r, rfl⟩

set_option maxHeartbeats 1000000 in
theorem refValid_any (l : List UInt8) (w : World) (hl : l.length ≤ 9223372036854775807) :
    Calls Tryz.prog 131 #[.string ⟨l.toArray⟩] w fun e w' => e = .returned (.bool (Dec.isDec l)) ∧ w = w' := by
  obtain ⟨D, hD⟩ : ∃ D : ByteArray, D = ⟨l.toArray⟩ := ⟨_, rfl⟩
  rw [← hD]
  have HT : Hid (D.data.toList = l) := by rw [hD]; exact (rfl : l.toArray.toList = l)
  clear hD
  have hsz : D.size ≤ 9223372036854775807 := by rw [Lib.size_eq, HT.out]; exact hl
  cases h48 : (l == [48]) with
  | true =>
    have hE : (D.toList == [48]) = true := by rw [Lib.toList_data, HT.out]; exact h48
    have HR : Hid (Dec.isDec l = true) := by show _ = _; unfold Dec.isDec; rw [h48]; rfl
    clear h48
    go_enter Tryz.func131, Tryz.ntmps131
    go_wp2
    go_ret
    exact ⟨by rw [HR.out]; rfl, rfl⟩
  | false =>
    have hE : (D.toList == [48]) = false := by rw [Lib.toList_data, HT.out]; exact h48
    have H48 := Lib.hid h48
    clear h48
    by_cases h0 : D.size = 0
    · have HR := Lib.hid (isDec_nil H48.out (by rw [← HT.out, List.eq_nil_of_length_eq_zero (l := D.data.toList) (by rw [← Lib.size_eq]; exact h0)]; rfl))
      go_enter Tryz.func131, Tryz.ntmps131
      go_wp2
      go_ret
      exact ⟨by rw [HR.out]; rfl, rfl⟩
    · have hpos : 0 < D.size := by omega
      obtain ⟨hl0, e0⟩ := byte_at HT.out 0 hpos
      obtain ⟨c0, r0, hcr⟩ := cons_of_pos hl0
      have ec : D[0] = c0 := by rw [e0]; simp [hcr]
      by_cases h45 : c0 = 45
      · have HM : Hid (Dec.mag l = l.drop 1) := by show _ = _; rw [hcr, h45, Dec.mag_cons45]; rfl
        have hb45 : ((D[0].toNat : Int) == 45) = true := by rw [ec, h45]; rfl
        clear h45 e0 ec hcr hl0
        by_cases hf : D.size ≤ 1
        · have HR := Lib.hid (isDec_nil H48.out (by rw [HM.out, List.drop_of_length_le (by rw [← HT.out, ← Lib.size_eq]; exact hf)]))
          go_enter Tryz.func131, Tryz.ntmps131
          go_wp2
          go_ret
          exact ⟨by rw [HR.out]; rfl, rfl⟩
        · have hfs : 1 < D.size := by omega
          obtain ⟨hlf, ef⟩ := byte_drop HT.out 1 1 (Nat.le_refl _) hfs
          obtain ⟨c, r, hcr⟩ := cons_of_pos (l := l.drop 1) (by omega)
          have ec : D[1] = c := by rw [ef]; simp [hcr]
          by_cases h8 : D[1].toNat = 48
          · have HR := Lib.hid (isDec_48 H48.out (HM.out.trans hcr) (by rw [← ec]; exact h8))
            have hb48 : ((D[1].toNat : Int) == 48) = true := by rw [beq_iff_eq]; omega
            clear h8 ef ec hcr hlf
            go_enter Tryz.func131, Tryz.ntmps131
            go_wp2
            go_ret
            exact ⟨by rw [HR.out]; rfl, rfl⟩
          · have HF := Lib.hid (isDec_head (HM.out.trans hcr) (by rw [← ec]; exact h8))
            have hb48 : ((D[1].toNat : Int) == 48) = false := by rw [beq_eq_false_iff_ne]; omega
            clear h8 ef ec hcr hlf
            go_enter Tryz.func131, Tryz.ntmps131
            go_wp2
            go_loop [4] (fun ix => ∃ k : Nat, 1 ≤ k ∧ k ≤ D.size ∧ ix = .int .i64 k ∧ Hid (Dec.digs ((Dec.mag l).take (k - 1)) = true)) (fun ix => D.size - (intOf ix).toNat)
            case atStart => exact ⟨1, Nat.le_refl _, by omega, rfl, (rfl : Dec.digs ((Dec.mag l).take 0) = true)⟩
            case round =>
              obtain ⟨k, hfk, hk, rfl, HK⟩ := hrel
              by_cases hlt : k < D.size
              · obtain ⟨hkl, ek⟩ := byte_drop HT.out 1 k hfk hlt
                have EK := Lib.hid ek
                clear ek
                rcases Nat.lt_or_ge D[k].toNat 48 with h1 | h1
                · have HR : Hid (Dec.isDec l = false) := by show _ = _; rw [HF.out, HM.out]; exact digs_not hkl (.inl (by rw [← EK.out]; exact h1))
                  go_wp2
                  go_ret
                  exact ⟨by rw [HR.out]; rfl, rfl⟩
                · rcases Nat.lt_or_ge 57 D[k].toNat with h2 | h2
                  · have HR : Hid (Dec.isDec l = false) := by show _ = _; rw [HF.out, HM.out]; exact digs_not hkl (.inr (by rw [← EK.out]; exact h2))
                    go_wp2
                    go_ret
                    exact ⟨by rw [HR.out]; rfl, rfl⟩
                  · go_wp2
                    go_round
                    case rel => exact ⟨k + 1, by omega, by omega, by go_num, Lib.hid (by
                      have h3 := HK.out
                      rw [HM.out] at h3 ⊢
                      rw [show k + 1 - 1 = (k - 1) + 1 by omega]
                      exact digs_take_succ hkl h3 (by rw [← EK.out]; exact h1) (by rw [← EK.out]; exact h2))⟩
                    case measure => simp only [intOf]; omega
              · have HR : Hid (Dec.isDec l = true) := by
                  show _ = _
                  rw [HF.out]
                  have := HK.out
                  rwa [List.take_of_length_le (by rw [HM.out, List.length_drop, ← HT.out, ← Lib.size_eq]; omega)] at this
                go_wp2
                go_ret
                exact ⟨by rw [HR.out]; rfl, rfl⟩
      · have HM : Hid (Dec.mag l = l.drop 0) := by show _ = _; rw [hcr]; simp [Dec.mag, h45]
        have hb45 : ((D[0].toNat : Int) == 45) = false := by
          rw [ec, beq_eq_false_iff_ne]; intro e
          exact h45 (UInt8.toNat_inj.1 (by have : c0.toNat = 45 := by omega
                                           simpa using this))
        clear h45 e0 ec hcr hl0
        by_cases hf : D.size ≤ 0
        · omega
        · have hfs : 0 < D.size := by omega
          obtain ⟨hlf, ef⟩ := byte_drop HT.out 0 0 (Nat.le_refl _) hfs
          obtain ⟨c, r, hcr⟩ := cons_of_pos (l := l.drop 0) (by omega)
          have ec : D[0] = c := by rw [ef]; simp [hcr]
          by_cases h8 : D[0].toNat = 48
          · have HR := Lib.hid (isDec_48 H48.out (HM.out.trans hcr) (by rw [← ec]; exact h8))
            have hb48 : ((D[0].toNat : Int) == 48) = true := by rw [beq_iff_eq]; omega
            clear h8 ef ec hcr hlf
            go_enter Tryz.func131, Tryz.ntmps131
            go_wp2
            go_ret
            exact ⟨by rw [HR.out]; rfl, rfl⟩
          · have HF := Lib.hid (isDec_head (HM.out.trans hcr) (by rw [← ec]; exact h8))
            have hb48 : ((D[0].toNat : Int) == 48) = false := by rw [beq_eq_false_iff_ne]; omega
            clear h8 ef ec hcr hlf
            go_enter Tryz.func131, Tryz.ntmps131
            go_wp2
            go_loop [4] (fun ix => ∃ k : Nat, 0 ≤ k ∧ k ≤ D.size ∧ ix = .int .i64 k ∧ Hid (Dec.digs ((Dec.mag l).take (k - 0)) = true)) (fun ix => D.size - (intOf ix).toNat)
            case atStart => exact ⟨0, Nat.le_refl _, by omega, rfl, (rfl : Dec.digs ((Dec.mag l).take 0) = true)⟩
            case round =>
              obtain ⟨k, hfk, hk, rfl, HK⟩ := hrel
              by_cases hlt : k < D.size
              · obtain ⟨hkl, ek⟩ := byte_drop HT.out 0 k hfk hlt
                have EK := Lib.hid ek
                clear ek
                rcases Nat.lt_or_ge D[k].toNat 48 with h1 | h1
                · have HR : Hid (Dec.isDec l = false) := by show _ = _; rw [HF.out, HM.out]; exact digs_not hkl (.inl (by rw [← EK.out]; exact h1))
                  go_wp2
                  go_ret
                  exact ⟨by rw [HR.out]; rfl, rfl⟩
                · rcases Nat.lt_or_ge 57 D[k].toNat with h2 | h2
                  · have HR : Hid (Dec.isDec l = false) := by show _ = _; rw [HF.out, HM.out]; exact digs_not hkl (.inr (by rw [← EK.out]; exact h2))
                    go_wp2
                    go_ret
                    exact ⟨by rw [HR.out]; rfl, rfl⟩
                  · go_wp2
                    go_round
                    case rel => exact ⟨k + 1, by omega, by omega, by go_num, Lib.hid (by
                      have h3 := HK.out
                      rw [HM.out] at h3 ⊢
                      rw [show k + 1 - 0 = (k - 0) + 1 by omega]
                      exact digs_take_succ hkl h3 (by rw [← EK.out]; exact h1) (by rw [← EK.out]; exact h2))⟩
                    case measure => simp only [intOf]; omega
              · have HR : Hid (Dec.isDec l = true) := by
                  show _ = _
                  rw [HF.out]
                  have := HK.out
                  rwa [List.take_of_length_le (by rw [HM.out, List.length_drop, ← HT.out, ← Lib.size_eq]; omega)] at this
                go_wp2
                go_ret
                exact ⟨by rw [HR.out]; rfl, rfl⟩
theorem refv (l : List UInt8) (z : Bool) (hz : Dec.isDec l = z) (hl : l.length ≤ 9223372036854775807) (w : World) : Calls Tryz.prog 131 #[.string ⟨l.toArray⟩] w fun e w' => e = .returned (.bool z) ∧ w = w' := by
  have := refValid_any l w hl
  rwa [hz] at this

end Go.Proofs.YtendgffijciehaaGreatDoor
/- lispproverref1.trim, digits: the digits of a decimal. -/
namespace Go.Proofs.YtendgffijciehaaGreatDoor
open Go.RowKit

theorem infoInt : (Tryz.prog.info? 3).map (fun i => (i.zero, i.size, i.bytes)) = some (some (.int .i64 0), 1, 8) := by kernel_rfl

set_option maxHeartbeats 400000 in
theorem refTrim_any (A : Option Addr) (n c : Nat) (l : List Nat) (w : World) (h : Sl w .i64 A n c l) (hn : n ≤ 1000000000) :
    Calls Tryz.prog 132 #[.slice A n c] w fun e w' => e = .returned (.slice A (Dec.trimZ l).length c) ∧ w = w' := by
  have hlen := h.len
  have hcap := h.cap
  go_enter Tryz.func132, Tryz.ntmps132
  go_wp2
  go_loop [3] (fun v => ∃ m : Nat, v = .int .i64 m ∧ m ≤ n ∧ Hid (Dec.trimZ (l.take m) = Dec.trimZ l)) (fun v => (intOf v).toNat)
  case atStart => exact ⟨n, rfl, Nat.le_refl _, Lib.hid (by rw [List.take_of_length_le (by omega)])⟩
  case round =>
    obtain ⟨m, rfl, hm, HT⟩ := hrel
    by_cases h0 : 0 < m
    · obtain ⟨b, o, rfl, hb, hc⟩ := h.cells (by omega)
      have hcm := hc (m - 1) (by omega)
      clear hc
      go_wp2
      · have hz : l.getD (m - 1) 0 = 0 := by simpa using ‹((l[m - 1]?.getD 0 : Nat) == (0 : Int)) = true›
        go_round
        case rel => exact ⟨m - 1, by go_num, by omega, Lib.hid (by rw [trimZ_step h0 (by omega) hz]; exact HT.out)⟩
        case measure => simp only [intOf]; omega
      · have hz : l.getD (m - 1) 0 ≠ 0 := by simpa using ‹((l[m - 1]?.getD 0 : Nat) == (0 : Int)) = false›
        go_ret
        refine ⟨?_, rfl⟩
        have e : (Dec.trimZ l).length = m := by
          rw [← HT.out, trimZ_stop h0 (by omega) hz, List.length_take]; omega
        rw [e]; rfl
    · have e : (Dec.trimZ l).length = m := by
        rw [← HT.out, show m = 0 by omega]; rfl
      have HE := Lib.hid e
      clear e
      go_wp2
      go_ret
      refine ⟨?_, rfl⟩
      rw [HE.out]; rfl

def RetDig (K : Nat) (v : Int) (w : World) (e : Ending) (w' : World) : Prop :=
  ∃ A n c, e = .returned (.tuple #[.bool (decide (v < 0)), .slice A n c]) ∧ Sl w' .i64 A n c (Dec.limbs 10 v.natAbs) ∧ n ≤ K ∧ Below w.heap.size w w'
theorem revDigs_cons (c : UInt8) (r : List UInt8) : Dec.revDigs (c :: r) = Dec.revDigs r ++ [c.toNat - 48] := by simp [Dec.revDigs]
theorem revDigs_drop (l : List UInt8) (j : Nat) (h0 : 0 < j) (hj : j ≤ l.length) : Dec.revDigs (l.drop (j - 1)) = Dec.revDigs (l.drop j) ++ [(l[j - 1]'(by omega)).toNat - 48] := by
  obtain ⟨m, rfl⟩ : ∃ m, j = m + 1 := ⟨j - 1, by omega⟩
  simp only [Nat.add_sub_cancel]
  rw [List.drop_eq_getElem_cons (by omega), revDigs_cons]

set_option maxHeartbeats 1000000 in
theorem refDigits_any (l : List UInt8) (w : World) (hl : l.length ≤ 2500000) :
    Calls Tryz.prog 109 #[.string ⟨l.toArray⟩] w (RetDig (l.length + 1) (Dec.dval l) w) := by
  cases hv : Dec.isDec l with
  | false =>
    have HV := Lib.hid (refv l false hv (by omega) w)
    have HD : Hid (Dec.dval l = 0) := by show _ = _; unfold Dec.dval; rw [hv]; rfl
    clear hv
    go_enter Tryz.func109, Tryz.ntmps109
    go_wp2_with fail
    refine HV.out.mono ?_
    rintro e w' ⟨rfl, rfl⟩
    go_wp2
    go_ret2
    exact ⟨none, 0, 0, by rw [HD.out]; rfl, by rw [HD.out]; exact Sl.nil _ _ _ _, by omega, Below.refl _ _⟩
  | true =>
    have HV := Lib.hid (refv l true hv (by omega) w)
    obtain ⟨D, hD⟩ : ∃ D : ByteArray, D = ⟨l.toArray⟩ := ⟨_, rfl⟩
    rw [← hD] at HV
    rw [← hD]
    have HT : Hid (D.data.toList = l) := by rw [hD]; exact (rfl : l.toArray.toList = l)
    clear hD
    have hsz : D.size ≤ 2500000 := by rw [Lib.size_eq, HT.out]; exact hl
    have HSz : Hid (D.size = l.length) := by show _ = _; rw [Lib.size_eq, HT.out]
    by_cases h0 : l = [48]
    · have hE : (D.toList == [48]) = true := by rw [Lib.toList_data, HT.out, h0]; rfl
      have HD : Hid (Dec.dval l = 0) := by rw [h0]; exact Dec.dval_zero
      clear hv h0
      go_enter Tryz.func109, Tryz.ntmps109
      go_wp2_with fail
      refine HV.out.mono ?_
      rintro e w' ⟨rfl, rfl⟩
      go_wp2
      go_ret2
      exact ⟨none, 0, 0, by rw [HD.out]; rfl, by rw [HD.out]; exact Sl.nil _ _ _ _, by omega, Below.refl _ _⟩
    · have hE : (D.toList == [48]) = false := by rw [Lib.toList_data, HT.out]; simpa using h0
      obtain ⟨hd, hh⟩ := (Dec.isDec_iff h0).1 hv
      have hz := (Dec.decDigits_nval _ hd hh).2
      have HDv : Hid (Dec.dval l = if Dec.neg l then -(Dec.nval (Dec.mag l) : Int) else Dec.nval (Dec.mag l)) := by show _ = _; unfold Dec.dval; rw [if_pos hv]
      have HRv := Lib.hid (Dec.revDigs_limbs hd hh)
      have HDg := Lib.hid hd
      have hlp : 0 < l.length := by
        rcases Nat.eq_zero_or_pos l.length with e | e
        · obtain ⟨c, r, e2, _⟩ := hh
          have := Dec.mag_length_le l
          rw [e2, List.length_cons] at this
          omega
        · exact e
      have hpos : 0 < D.size := by rw [HSz.out]; exact hlp
      obtain ⟨_, e0⟩ := byte_at HT.out 0 hpos
      obtain ⟨c0, r0, hcr⟩ := cons_of_pos hlp
      have ec : D[0] = c0 := by rw [e0]; simp [hcr]
      clear hv h0 hd hh e0
      by_cases h45 : c0 = 45
      · have HM : Hid (Dec.mag l = l.drop 1) := by show _ = _; rw [hcr, h45, Dec.mag_cons45]; rfl
        have hng : Dec.neg l = true := by rw [hcr, h45]; rfl
        have HN : Hid (decide (Dec.dval l < 0) = true ∧ (Dec.dval l).natAbs = Dec.nval (Dec.mag l)) := by show _ ∧ _; rw [HDv.out, hng, if_pos rfl]; exact ⟨decide_eq_true (by omega), by omega⟩
        have hb45 : ((D[0].toNat : Int) == 45) = true := by rw [ec, h45]; rfl
        clear h45 ec hcr hng hz
        go_enter Tryz.func109, Tryz.ntmps109
        go_wp2_with fail
        refine HV.out.mono ?_
        rintro e w' ⟨rfl, rfl⟩
        go_wp2
        go_loopw [6, 7] (fun out ix wr => ∃ (j c2 m : Nat) (A2 : Option Addr), 1 ≤ j ∧ j ≤ D.size ∧ ix = .int .i64 ((j : Int) - 1) ∧ out = .slice A2 m c2 ∧ m + j = D.size ∧ Own wr w.heap.size 3 .i64 A2 m c2 (Dec.revDigs (l.drop j)) ∧ Below w.heap.size w wr) (fun _ ix _ => (intOf ix + 1).toNat)
        case atStart => exact ⟨D.size, 0, 0, none, by omega, Nat.le_refl _, rfl, rfl, by omega, by rw [List.drop_of_length_le (by rw [HSz.out]; exact Nat.le_refl _)]; exact Own.nil _ _ _ _, Below.refl _ _⟩
        case round =>
          obtain ⟨j, c2, m, A2, hfj, hj, rfl, rfl, hmj, hown, hb⟩ := hrel
          have HMJ := Lib.hid hmj
          have hmle : m ≤ 2500000 := by omega
          clear hmj
          by_cases hlt : 1 < j
          · have hj1 : j - 1 < D.size := by omega
            obtain ⟨hkl, ek⟩ := byte_at HT.out (j - 1) hj1
            have hdg := List.all_eq_true.1 HDg.out D[j - 1] (by rw [HM.out, ek]; exact List.mem_drop_iff_getElem.2 ⟨j - 1 - 1, by omega, by congr 1; omega⟩)
            simp only [Dec.dig, Bool.and_eq_true, decide_eq_true_eq] at hdg
            obtain ⟨g1, g2⟩ := hdg
            have HRD := Lib.hid (revDigs_drop l j (by omega) (by rw [← HSz.out]; exact hj))
            have EK := Lib.hid ek
            clear ek
            have hi1 : (0 : Int) ≤ (j : Int) - 1 := by omega
            have hi2 : (j : Int) - 1 < D.size := by omega
            have hi3 : ((j : Int) - 1).toNat = j - 1 := by omega
            go_wp2_with (at_builtin; refine wpList_app (w0 := w) rfl _ _ _ rfl 3 .i64 8 Tryz.underlying146 infoInt (by omega) _ _ _ _ rfl hown _ (D[j - 1].toNat - 48) (by omega) rfl (by omega) hb ?_; intro A3 c3 w2 hown2 hb2 _ _ _)
            go_roundw
            case rel => exact ⟨j - 1, c3, m + 1, A3, by omega, by omega, by go_num, rfl, by have := HMJ.out; omega, by rw [HRD.out, ← EK.out]; exact hown2, hb2⟩
            case measure => simp only [intOf]; omega
          · obtain rfl : j = 1 := by omega
            go_wp2
            go_ret2
            refine ⟨A2, m, c2, by rw [HN.out.1]; rfl, ?_, by have := HMJ.out; have := HSz.out; omega, hb⟩
            rw [HN.out.2, ← HRv.out, HM.out]
            exact hown.sl
      · have HM : Hid (Dec.mag l = l.drop 0) := by show _ = _; rw [hcr]; simp [Dec.mag, h45]
        have hng : Dec.neg l = false := by rw [hcr]; simp [Dec.neg, h45]
        have HN : Hid (decide (Dec.dval l < 0) = false ∧ (Dec.dval l).natAbs = Dec.nval (Dec.mag l)) := by show _ ∧ _; rw [HDv.out, hng, if_neg (by simp)]; exact ⟨decide_eq_false (by omega), by omega⟩
        have hb45 : ((D[0].toNat : Int) == 45) = false := by
          rw [ec, beq_eq_false_iff_ne]; intro e
          exact h45 (UInt8.toNat_inj.1 (by have : c0.toNat = 45 := by omega
                                           simpa using this))
        clear h45 ec hcr hng hz
        go_enter Tryz.func109, Tryz.ntmps109
        go_wp2_with fail
        refine HV.out.mono ?_
        rintro e w' ⟨rfl, rfl⟩
        go_wp2
        go_loopw [6, 7] (fun out ix wr => ∃ (j c2 m : Nat) (A2 : Option Addr), 0 ≤ j ∧ j ≤ D.size ∧ ix = .int .i64 ((j : Int) - 1) ∧ out = .slice A2 m c2 ∧ m + j = D.size ∧ Own wr w.heap.size 3 .i64 A2 m c2 (Dec.revDigs (l.drop j)) ∧ Below w.heap.size w wr) (fun _ ix _ => (intOf ix + 1).toNat)
        case atStart => exact ⟨D.size, 0, 0, none, by omega, Nat.le_refl _, rfl, rfl, by omega, by rw [List.drop_of_length_le (by rw [HSz.out]; exact Nat.le_refl _)]; exact Own.nil _ _ _ _, Below.refl _ _⟩
        case round =>
          obtain ⟨j, c2, m, A2, hfj, hj, rfl, rfl, hmj, hown, hb⟩ := hrel
          have HMJ := Lib.hid hmj
          have hmle : m ≤ 2500000 := by omega
          clear hmj
          by_cases hlt : 0 < j
          · have hj1 : j - 1 < D.size := by omega
            obtain ⟨hkl, ek⟩ := byte_at HT.out (j - 1) hj1
            have hdg := List.all_eq_true.1 HDg.out D[j - 1] (by rw [HM.out, ek]; exact List.mem_drop_iff_getElem.2 ⟨j - 1 - 0, by omega, by congr 1; omega⟩)
            simp only [Dec.dig, Bool.and_eq_true, decide_eq_true_eq] at hdg
            obtain ⟨g1, g2⟩ := hdg
            have HRD := Lib.hid (revDigs_drop l j (by omega) (by rw [← HSz.out]; exact hj))
            have EK := Lib.hid ek
            clear ek
            have hi1 : (0 : Int) ≤ (j : Int) - 1 := by omega
            have hi2 : (j : Int) - 1 < D.size := by omega
            have hi3 : ((j : Int) - 1).toNat = j - 1 := by omega
            go_wp2_with (at_builtin; refine wpList_app (w0 := w) rfl _ _ _ rfl 3 .i64 8 Tryz.underlying146 infoInt (by omega) _ _ _ _ rfl hown _ (D[j - 1].toNat - 48) (by omega) rfl (by omega) hb ?_; intro A3 c3 w2 hown2 hb2 _ _ _)
            go_roundw
            case rel => exact ⟨j - 1, c3, m + 1, A3, by omega, by omega, by go_num, rfl, by have := HMJ.out; omega, by rw [HRD.out, ← EK.out]; exact hown2, hb2⟩
            case measure => simp only [intOf]; omega
          · obtain rfl : j = 0 := by omega
            go_wp2
            go_ret2
            refine ⟨A2, m, c2, by rw [HN.out.1]; rfl, ?_, by have := HMJ.out; have := HSz.out; omega, hb⟩
            rw [HN.out.2, ← HRv.out, HM.out]
            exact hown.sl
end Go.Proofs.YtendgffijciehaaGreatDoor
/- lispproverref1.order: compares the values of two lists of digits. -/
namespace Go.Proofs.YtendgffijciehaaGreatDoor
open Go.RowKit

set_option maxHeartbeats 400000 in
theorem order_same (B : Nat) (hB : 2 ≤ B) (A A' : Option Addr) (n c c' : Nat) (x y : List Nat) (w : World) (hx : Sl w .i64 A n c x) (hy : Sl w .i64 A' n c' y) (hn : n ≤ 1000000000)
    (hsx : Dec.Small B x) (hsy : Dec.Small B y) :
    Calls Tryz.prog 133 #[.slice A n c, .slice A' n c'] w (Cmp (Dec.lval B x) (Dec.lval B y) w) := by
  have hlx := hx.len
  have hly := hy.len
  have HX := Lib.hid hlx
  have HY := Lib.hid hly
  clear hlx hly
  go_enter Tryz.func133, Tryz.ntmps133
  go_wp2
  go_loopw [5] (fun i wr => ∃ k q : Nat, k ≤ n ∧ i = .int .i64 ((k : Int) - 1) ∧ Hid (x.drop k = y.drop k) ∧ wr = w.drewN q) (fun i _ => (intOf i + 1).toNat)
  case atStart => exact ⟨n, 0, Nat.le_refl _, rfl, (by rw [List.drop_of_length_le (by rw [HX.out]; exact Nat.le_refl _), List.drop_of_length_le (by rw [HY.out]; exact Nat.le_refl _)] : x.drop n = y.drop n), rfl⟩
  case round =>
    obtain ⟨k, q, hk, rfl, HD, rfl⟩ := hrel
    by_cases h0 : 0 < k
    · obtain ⟨b, o, rfl, hb, hc⟩ := hx.cells (by omega)
      obtain ⟨b', o', rfl, hb', hc'⟩ := hy.cells (by omega)
      have hcm := hc (k - 1) (by omega)
      have hcm' := hc' (k - 1) (by omega)
      clear hc hc' hb hb'
      have hi1 : (0 : Int) ≤ (k : Int) - 1 := by omega
      have hi2 : (k : Int) - 1 < n := by omega
      have hi3 : ((k : Int) - 1).toNat = k - 1 := by omega
      generalize hu : x.getD (k - 1) 0 = u at hcm
      generalize hv : y.getD (k - 1) 0 = v at hcm'
      have HU := Lib.hid hu
      have HV := Lib.hid hv
      clear hu hv
      rcases Nat.lt_trichotomy u v with hlt | heq | hgt
      · have e2 : decide ((u : Int) < v) = true := by simp; omega
        go_wp2
        go_quiet (fail)
        go_wp2
        go_ret
        refine ⟨?_, ex_drew2 _ _ _⟩
        rw [ordI_lt (Dec.lval_lt_of_top (i := k - 1) hsx hB (by rw [HX.out]; omega) (by rw [HX.out, HY.out]) (by rw [Nat.sub_add_cancel h0]; exact HD.out) (by rw [HU.out, HV.out]; exact hlt))]
        rfl
      · have e2 : decide ((u : Int) < v) = false := by simp; omega
        have e3 : decide ((v : Int) < u) = false := by simp; omega
        go_wp2
        go_quiet (fail)
        go_wp2
        go_quiet (fail)
        go_wp2
        go_roundw
        case rel => exact ⟨k - 1, _, by omega, by go_num, drop_pred h0 (by rw [HX.out]; exact hk) (by rw [HX.out, HY.out]) HD.out (by rw [HU.out, HV.out, heq]), rfl⟩
        case measure => simp only [intOf]; omega
      · have e2 : decide ((u : Int) < v) = false := by simp; omega
        have e3 : decide ((v : Int) < u) = true := by simp; omega
        go_wp2
        go_quiet (fail)
        go_wp2
        go_quiet (fail)
        go_wp2
        go_ret
        refine ⟨?_, ex_drew3 _ _ _ _⟩
        rw [ordI_gt (Dec.lval_lt_of_top (i := k - 1) hsy hB (by rw [HY.out]; omega) (by rw [HX.out, HY.out]) (by rw [Nat.sub_add_cancel h0]; exact HD.out.symm) (by rw [HU.out, HV.out]; exact hgt))]
        rfl
    · have hk0 : k = 0 := by omega
      subst hk0
      go_wp2
      go_ret
      refine ⟨?_, _, rfl⟩
      have e : x = y := by simpa using HD.out
      rw [e, ordI_eq]
      rfl

set_option maxHeartbeats 400000 in
theorem orderR_any (B : Nat) (hB : 2 ≤ B) (A A' : Option Addr) (n n' c c' a b : Nat) (w : World) (hx : Sl w .i64 A n c (Dec.limbs B a)) (hy : Sl w .i64 A' n' c' (Dec.limbs B b)) (hn : n ≤ 1000000000) (hn' : n' ≤ 1000000000) :
    Calls Tryz.prog 133 #[.slice A n c, .slice A' n' c'] w (Cmp a b w) := by
  rcases Nat.lt_trichotomy n n' with hlt | heq | hgt
  · have e1 : ((n : Int) != n') = true := by rw [bne_iff_ne]; omega
    have hv : a < b := Dec.lt_of_length_lt hB (by rw [hx.len, hy.len]; exact hlt)
    have HV := Lib.hid (ordI_lt hv)
    clear hv hx hy
    go_enter Tryz.func133, Tryz.ntmps133
    go_wp2
    go_ret
    refine ⟨?_, 0, rfl⟩
    rw [HV.out]
    rfl
  · subst heq
    have := order_same B hB A A' n c c' _ _ w hx hy hn (Dec.limbs_small hB a) (Dec.limbs_small hB b)
    rwa [Dec.lval_limbs hB, Dec.lval_limbs hB] at this
  · have e1 : ((n : Int) != n') = true := by rw [bne_iff_ne]; omega
    have e2 : decide (n < n') = false := by simp; omega
    have hv : b < a := Dec.lt_of_length_lt hB (by rw [hx.len, hy.len]; exact hgt)
    have HV := Lib.hid (ordI_gt hv)
    clear hv hx hy
    go_enter Tryz.func133, Tryz.ntmps133
    go_wp2
    go_ret
    refine ⟨?_, 0, rfl⟩
    rw [HV.out]
    rfl
end Go.Proofs.YtendgffijciehaaGreatDoor
/- lispproverref1.plus and minus: digits of the sum and of the difference. -/
namespace Go.Proofs.YtendgffijciehaaGreatDoor
open Go.RowKit

theorem getD_out {l : List Nat} {k n : Nat} (h : l.length = n) (hk : ¬ k < n) : l.getD k 0 = 0 := by
  rw [List.getD_eq_getElem?_getD, List.getElem?_eq_none (by omega)]; rfl

end Go.Proofs.YtendgffijciehaaGreatDoor
/- lispproverref1.minus: the digits of the difference. -/
namespace Go.Proofs.YtendgffijciehaaGreatDoor
open Go.RowKit

set_option maxHeartbeats 2000000 in
theorem refMinus_any (A A' : Option Addr) (n n' c c' : Nat) (x y : List Nat) (w : World) (hx : Sl w .i64 A n c x) (hy : Sl w .i64 A' n' c' y) (hn : n ≤ 100000000) (hnn : n' ≤ n)
    (hsx : Dec.Small 10 x) (hsy : Dec.Small 10 y) (hle : Dec.lval 10 y ≤ Dec.lval 10 x) :
    Calls Tryz.prog 134 #[.slice A n c, .slice A' n' c'] w (RetSl .i64 (Dec.limbs 10 (Dec.lval 10 x - Dec.lval 10 y)) w) := by
  go_enter Tryz.func134, Tryz.ntmps134
  go_wp2
  go_loopw [5, 6, 7] (fun out br ix wr => ∃ (k : Nat) (A2 : Option Addr) (c2 : Nat) (o : List Nat) (bw : Nat), k ≤ n ∧ ix = .int .i64 k ∧ out = .slice A2 k c2 ∧ br = .int .i64 bw ∧ bw ≤ 1 ∧ Own wr w.heap.size 3 .i64 A2 k c2 o ∧ Dec.Small 10 o ∧ Hid (Dec.lval 10 (x.take k) + 10 ^ k * bw = Dec.lval 10 o + Dec.lval 10 (y.take k)) ∧ Below w.heap.size w wr) (fun _ _ ix _ => n - (intOf ix).toNat)
  case atStart => exact ⟨0, none, 0, [], 0, by omega, rfl, rfl, rfl, by omega, Own.nil _ _ _ _, Dec.Small.nil, Lib.hid (by simp [Dec.lval]), Below.refl _ _⟩
  case round =>
    obtain ⟨k, A2, c2, o, bw, hk, rfl, rfl, rfl, hbw, hown, hso, HV, hb⟩ := hrel
    have HO := Lib.hid hown.len
    by_cases hkn : k < n
    · obtain ⟨b, off, rfl, _, hcx⟩ := (hx.below hb).cells (by omega)
      have hcu := hcx k hkn
      clear hcx
      have hu := getD_lt (l := x) hsx (by omega) k
      have HR := fun d t => Lib.hid (Dec.minus_round (B := 10) (a := x) (b := y) (d := d) (n := t) HO.out HV.out)
      by_cases hkm : k < n'
      · obtain ⟨b', off', rfl, _, hcy'⟩ := (hy.below hb).cells (by omega)
        have hcv := hcy' k hkm
        clear hcy'
        have hv := getD_lt (l := y) hsy (by omega) k
        generalize x.getD k 0 = u at hcu hu HR
        generalize y.getD k 0 = v at hcv hv HR
        by_cases hneg : (u : Int) - bw - v < 0
        · have HR1 := Lib.hid ((HR 1 (u + 10 - bw - v)).out (by omega))
          clear HR
          go_wp2_with (at_builtin; refine wpList_app (w0 := w) rfl _ _ _ rfl 3 .i64 8 Tryz.underlying146 infoInt (by omega) _ _ _ o rfl hown _ (u + 10 - bw - v) (by omega) rfl (by omega) hb ?_; intro A3 c3 w2 hown2 hb2 _ _ _)
          go_roundw
          case rel => exact ⟨k + 1, A3, c3, o ++ [u + 10 - bw - v], 1, by omega, by go_num, rfl, rfl, by omega, hown2, hso.append (Dec.Small.cons (by omega) Dec.Small.nil), HR1, hb2⟩
          case measure => simp only [intOf]; omega
        · have HR1 := Lib.hid ((HR 0 (u - bw - v)).out (by omega))
          clear HR
          go_wp2_with (at_builtin; refine wpList_app (w0 := w) rfl _ _ _ rfl 3 .i64 8 Tryz.underlying146 infoInt (by omega) _ _ _ o rfl hown _ (u - bw - v) (by omega) rfl (by omega) hb ?_; intro A3 c3 w2 hown2 hb2 _ _ _)
          go_roundw
          case rel => exact ⟨k + 1, A3, c3, o ++ [u - bw - v], 0, by omega, by go_num, rfl, rfl, by omega, hown2, hso.append (Dec.Small.cons (by omega) Dec.Small.nil), HR1, hb2⟩
          case measure => simp only [intOf]; omega
      · have hv := getD_out hy.len hkm
        rw [hv] at HR
        clear hv
        generalize x.getD k 0 = u at hcu hu HR
        by_cases hneg : (u : Int) - bw < 0
        · have HR1 := Lib.hid ((HR 1 (u + 10 - bw)).out (by omega))
          clear HR
          go_wp2_with (at_builtin; refine wpList_app (w0 := w) rfl _ _ _ rfl 3 .i64 8 Tryz.underlying146 infoInt (by omega) _ _ _ o rfl hown _ (u + 10 - bw) (by omega) rfl (by omega) hb ?_; intro A3 c3 w2 hown2 hb2 _ _ _)
          go_roundw
          case rel => exact ⟨k + 1, A3, c3, o ++ [u + 10 - bw], 1, by omega, by go_num, rfl, rfl, by omega, hown2, hso.append (Dec.Small.cons (by omega) Dec.Small.nil), HR1, hb2⟩
          case measure => simp only [intOf]; omega
        · have HR1 := Lib.hid ((HR 0 (u - bw)).out (by omega))
          clear HR
          go_wp2_with (at_builtin; refine wpList_app (w0 := w) rfl _ _ _ rfl 3 .i64 8 Tryz.underlying146 infoInt (by omega) _ _ _ o rfl hown _ (u - bw) (by omega) rfl (by omega) hb ?_; intro A3 c3 w2 hown2 hb2 _ _ _)
          go_roundw
          case rel => exact ⟨k + 1, A3, c3, o ++ [u - bw], 0, by omega, by go_num, rfl, rfl, by omega, hown2, hso.append (Dec.Small.cons (by omega) Dec.Small.nil), HR1, hb2⟩
          case measure => simp only [intOf]; omega
    · have hkk : k = n := by omega
      subst hkk
      have HF : Hid (Dec.lval 10 o = Dec.lval 10 x - Dec.lval 10 y) := by
        have h := HV.out
        rw [List.take_of_length_le (by rw [hx.len]; omega), List.take_of_length_le (by rw [hy.len]; omega)] at h
        have hlt := Dec.lval_lt (B := 10) (by omega) hso
        rw [HO.out] at hlt
        show _ = _
        rcases Nat.eq_zero_or_pos bw with e | e
        · subst e; omega
        · obtain rfl : bw = 1 := by omega
          omega
      have hsl := hown.sl
      go_wp2_with fail
      refine (refTrim_any _ _ _ _ _ hsl (by omega)).mono ?_
      rintro e w' ⟨rfl, rfl⟩
      go_wp2
      go_ret
      refine ⟨_, _, _, rfl, ?_, hb, hown.fresh⟩
      have := hsl.trimmed (B := 10) (by omega) hso
      rw [HF.out] at this
      exact this
end Go.Proofs.YtendgffijciehaaGreatDoor
/- lispproverref1.text: the decimal of a sign and digits. -/
namespace Go.Proofs.YtendgffijciehaaGreatDoor
open Go.RowKit

theorem Sl.str {P : Program} {w : World} {A : Option Addr} {n c : Nat} {l : List Nat} (h : Sl w .u8 A n c l) (hn : 0 < n) (src e dst : TypeId) (hs : P.underlying src = some (.slice e)) (he : P.underlying e = some (.int .u8)) (hd : P.underlying dst = some .string) :
    (convert src dst (.slice A n c)).run P w = .ok (.string ⟨(l.map UInt8.ofNat).toArray⟩) w := by
  obtain ⟨b, o, rfl, _, hc⟩ := h.cells hn
  have := run_convert_bytes_arg (P := P) w src e hs he b o n c (l.map fun (x : Nat) => (x : Int)) (by rw [List.length_map, h.len]) (fun i hi => by
    rw [hc i hi, List.getD_eq_getElem?_getD, List.getD_eq_getElem?_getD, List.getElem?_map, List.getElem?_eq_getElem (by rw [h.len]; exact hi)]; rfl) dst hd
  rw [this]
  simp [strOfNums]

theorem text_bytes (ng : Bool) {v : Nat} (hv : v ≠ 0) : ((if ng then [45] else []) ++ ((Dec.limbs 10 v).drop 0).reverse.map (fun d => 48 + d)).map UInt8.ofNat = numStr ng v := by
  unfold numStr
  rw [itoa_sign ng hv, List.map_append, List.drop_zero, List.map_map, ← Dec.limbs10_decDigits hv]
  cases ng <;> rfl
theorem drop_rev {l : List Nat} {j : Nat} (h0 : 0 < j) (hj : j ≤ l.length) : ((l.drop (j - 1)).reverse.map fun d => 48 + d) = ((l.drop j).reverse.map fun d => 48 + d) ++ [48 + l.getD (j - 1) 0] := by
  obtain ⟨m, rfl⟩ : ∃ m, j = m + 1 := ⟨j - 1, by omega⟩
  rw [Nat.add_sub_cancel, List.drop_eq_getElem_cons (by omega), List.reverse_cons, List.map_append, List.getD_eq_getElem?_getD, List.getElem?_eq_getElem (by omega)]
  rfl

set_option maxHeartbeats 1000000 in
set_option maxRecDepth 100000 in
theorem refText_any (ng : Bool) (A : Option Addr) (n c : Nat) (x : List Nat) (w : World) (hx : Sl w .i64 A n c x) (hn : n ≤ 100000000) (hs : Dec.Small 10 x) :
    Calls Tryz.prog 112 #[.bool ng, .slice A n c] w (RetStr (numStr ng (Dec.lval 10 x)) w) := by
  have HT := Lib.hid (refTrim_any A n c x w hx (by omega))
  have hsl := hx.trimmed (B := 10) (by omega) hs
  have htl := trimZ_length_le x
  have hxl := hx.len
  have HL := Lib.hid hsl.len
  generalize (Dec.trimZ x).length = m at HT hsl htl HL
  generalize Dec.lval 10 x = v at hsl HL
  have hm : m ≤ 100000000 := by omega
  clear htl hxl
  by_cases h0 : v = 0
  · subst h0
    have hm0 : m = 0 := by rw [← HL.out]; rfl
    subst hm0
    rw [numStr_zero]
    go_enter Tryz.func112, Tryz.ntmps112
    go_wp2_with fail
    refine HT.out.mono ?_
    rintro e w' ⟨rfl, rfl⟩
    go_wp2
    go_ret
    exact ⟨rfl, Below.refl _ _⟩
  · have hmp : 0 < m := by
      rcases Nat.eq_zero_or_pos m with e | e
      · exact absurd ((Dec.limbs_eq_nil (B := 10) (by omega)).1 (List.eq_nil_of_length_eq_zero (by rw [HL.out]; exact e))) h0
      · exact e
    have hm0 : ((m : Int) == 0) = false := by rw [beq_eq_false_iff_ne]; omega
    have HF := Lib.hid h0
    clear h0
    have hsm := Dec.limbs_small (B := 10) (by omega) v
    cases ng with
    | true =>
      have HG : Hid (([45] ++ ((Dec.limbs 10 v).drop 0).reverse.map (fun d => 48 + d)).map UInt8.ofNat = numStr true v) := text_bytes true HF.out
      go_enter Tryz.func112, Tryz.ntmps112
      go_wp2_with fail
      refine HT.out.mono ?_
      rintro e w' ⟨rfl, rfl⟩
      go_wp2_with (at_builtin; refine wpList_app (w0 := w) rfl _ _ _ rfl 5 .u8 1 Tryz.underlying186 infoByte (by omega) _ _ _ [] rfl (Own.nil _ _ _ _) _ 45 (by omega) rfl (by omega) (Below.refl _ _) ?_; intro A1 c1 w1 hown1 hb1 _ _ _)
      go_loopw [5, 6] (fun out ix wr => ∃ (j c2 : Nat) (A2 : Option Addr), j ≤ m ∧ ix = .int .i64 ((j : Int) - 1) ∧ out = .slice A2 (1 + (m - j)) c2 ∧ Own wr w.heap.size 5 .u8 A2 (1 + (m - j)) c2 ([45] ++ ((Dec.limbs 10 v).drop j).reverse.map (fun d => 48 + d)) ∧ Below w.heap.size w wr) (fun _ ix _ => (intOf ix + 1).toNat)
      case atStart => exact ⟨m, c1, A1, Nat.le_refl _, rfl, by rw [Nat.sub_self], by rw [Nat.sub_self, List.drop_of_length_le (by rw [HL.out]; exact Nat.le_refl _)]; exact hown1, hb1⟩
      case round =>
        obtain ⟨j, c2, A2, hj, rfl, rfl, hown, hb⟩ := hrel
        by_cases hj0 : 0 < j
        · obtain ⟨b, o, rfl, _, hcx⟩ := (hsl.below hb).cells (by omega)
          have hcu := hcx (j - 1) (by omega)
          clear hcx
          have hu := getD_lt hsm (by omega) (j - 1)
          have HR := Lib.hid (drop_rev (l := Dec.limbs 10 v) hj0 (by rw [HL.out]; exact hj))
          generalize (Dec.limbs 10 v).getD (j - 1) 0 = u at hcu hu HR
          have hi1 : (0 : Int) ≤ (j : Int) - 1 := by omega
          have hi2 : (j : Int) - 1 < m := by omega
          have hi3 : ((j : Int) - 1).toNat = j - 1 := by omega
          have hw8 : IntKind.u8.wrap (48 + (u : Int)) = 48 + u := by rw [IntKind.wrap_u8]; omega
          go_wp2_with (at_builtin; refine wpList_app (w0 := w) rfl _ _ _ rfl 5 .u8 1 Tryz.underlying186 infoByte (by omega) _ _ _ _ rfl hown _ (48 + u) (by omega) rfl (by omega) hb ?_; intro A3 c3 w2 hown2 hb2 _ _ _)
          go_roundw
          case rel => exact ⟨j - 1, c3, A3, by omega, by go_num, by congr 1; omega, by rw [HR.out, ← List.append_assoc, show 1 + (m - (j - 1)) = 1 + (m - j) + 1 by omega]; exact hown2, hb2⟩
          case measure => simp only [intOf]; omega
        · have hjz : j = 0 := by omega
          subst hjz
          have hst := hown.sl.str (P := Tryz.prog) (by omega) 186 5 9 Tryz.underlying186 Tryz.underlying5 Tryz.underlying9
          rw [HG.out] at hst
          obtain ⟨S, hS⟩ : ∃ S : ByteArray, S = ⟨(numStr true v).toArray⟩ := ⟨_, rfl⟩
          rw [← hS] at hst
          have HS := Lib.hid hS
          clear hS
          simp only [Nat.sub_zero] at hst
          go_wp2
          go_ret
          exact ⟨by rw [← HS.out]; rfl, hb⟩
    | false =>
      have HG : Hid (([] ++ ((Dec.limbs 10 v).drop 0).reverse.map (fun d => 48 + d)).map UInt8.ofNat = numStr false v) := text_bytes false HF.out
      go_enter Tryz.func112, Tryz.ntmps112
      go_wp2_with fail
      refine HT.out.mono ?_
      rintro e w' ⟨rfl, rfl⟩
      go_wp2
      go_loopw [5, 6] (fun out ix wr => ∃ (j c2 : Nat) (A2 : Option Addr), j ≤ m ∧ ix = .int .i64 ((j : Int) - 1) ∧ out = .slice A2 (m - j) c2 ∧ Own wr w.heap.size 5 .u8 A2 (m - j) c2 ([] ++ ((Dec.limbs 10 v).drop j).reverse.map (fun d => 48 + d)) ∧ Below w.heap.size w wr) (fun _ ix _ => (intOf ix + 1).toNat)
      case atStart => exact ⟨m, 0, none, Nat.le_refl _, rfl, by rw [Nat.sub_self], by rw [Nat.sub_self, List.drop_of_length_le (by rw [HL.out]; exact Nat.le_refl _)]; exact Own.nil _ _ _ _, Below.refl _ _⟩
      case round =>
        obtain ⟨j, c2, A2, hj, rfl, rfl, hown, hb⟩ := hrel
        by_cases hj0 : 0 < j
        · obtain ⟨b, o, rfl, _, hcx⟩ := (hsl.below hb).cells (by omega)
          have hcu := hcx (j - 1) (by omega)
          clear hcx
          have hu := getD_lt hsm (by omega) (j - 1)
          have HR := Lib.hid (drop_rev (l := Dec.limbs 10 v) hj0 (by rw [HL.out]; exact hj))
          generalize (Dec.limbs 10 v).getD (j - 1) 0 = u at hcu hu HR
          have hi1 : (0 : Int) ≤ (j : Int) - 1 := by omega
          have hi2 : (j : Int) - 1 < m := by omega
          have hi3 : ((j : Int) - 1).toNat = j - 1 := by omega
          have hw8 : IntKind.u8.wrap (48 + (u : Int)) = 48 + u := by rw [IntKind.wrap_u8]; omega
          go_wp2_with (at_builtin; refine wpList_app (w0 := w) rfl _ _ _ rfl 5 .u8 1 Tryz.underlying186 infoByte (by omega) _ _ _ _ rfl hown _ (48 + u) (by omega) rfl (by omega) hb ?_; intro A3 c3 w2 hown2 hb2 _ _ _)
          go_roundw
          case rel => exact ⟨j - 1, c3, A3, by omega, by go_num, by congr 1; omega, by rw [HR.out, ← List.append_assoc, show m - (j - 1) = m - j + 1 by omega]; exact hown2, hb2⟩
          case measure => simp only [intOf]; omega
        · have hjz : j = 0 := by omega
          subst hjz
          have hst := hown.sl.str (P := Tryz.prog) (by omega) 186 5 9 Tryz.underlying186 Tryz.underlying5 Tryz.underlying9
          rw [HG.out] at hst
          obtain ⟨S, hS⟩ : ∃ S : ByteArray, S = ⟨(numStr false v).toArray⟩ := ⟨_, rfl⟩
          rw [← hS] at hst
          have HS := Lib.hid hS
          clear hS
          simp only [Nat.sub_zero] at hst
          go_wp2
          go_ret
          exact ⟨by rw [← HS.out]; rfl, hb⟩
end Go.Proofs.YtendgffijciehaaGreatDoor
/- lispproverref1.times: the digits of the product. -/
namespace Go.Proofs.YtendgffijciehaaGreatDoor
open Go.RowKit

end Go.Proofs.YtendgffijciehaaGreatDoor
/- lispproverref1.over: quotient and remainder of two absolute values. -/
namespace Go.Proofs.YtendgffijciehaaGreatDoor
open Go.RowKit

theorem lval_cons10 (u R : Nat) : Dec.lval 10 ([u] ++ Dec.limbs 10 R) = u + 10 * R := by
  show u + 10 * Dec.lval 10 (Dec.limbs 10 R) = _
  rw [Dec.lval_limbs (by omega)]
theorem small_cons10 {u : Nat} (hu : u < 10) (R : Nat) : Dec.Small 10 ([u] ++ Dec.limbs 10 R) := Dec.Small.cons hu (Dec.limbs_small (by omega) R)
theorem div_step10 {a b R u j : Nat} {q : List Nat} (hj : 0 < j) (hja : j ≤ (Dec.limbs 10 a).length) (hjq : j ≤ q.length) (hu : (Dec.limbs 10 a).getD (j - 1) 0 = u)
    (h : Dec.lval 10 ((Dec.limbs 10 a).drop j) = Dec.lval 10 (q.drop j) * b + R) :
    Dec.lval 10 ((Dec.limbs 10 a).drop (j - 1)) = Dec.lval 10 ((q.set (j - 1) ((u + 10 * R) / b)).drop (j - 1)) * b + (u + 10 * R) % b := by
  obtain ⟨m, rfl⟩ : ∃ m, j = m + 1 := ⟨j - 1, by omega⟩
  rw [Nat.add_sub_cancel] at hu ⊢
  rw [set_drop _ _ _ (by omega), Dec.lval_drop _ _ m (by omega), hu, Dec.lval]
  exact Dec.div_round h
def RetOver (a b : Nat) (w : World) (e : Ending) (w' : World) : Prop :=
  ∃ A n c A' n' c', e = .returned (.tuple #[.slice A n c, .slice A' n' c']) ∧ Sl w' .i64 A n c (Dec.limbs 10 (a / b)) ∧ Sl w' .i64 A' n' c' (Dec.limbs 10 (a % b)) ∧ Below w.heap.size w w'

theorem set_zero {q : List Nat} {i : Nat} (hz : q.getD i 0 = 0) : q.set i 0 = q := by
  apply List.ext_getElem?
  intro k
  by_cases h : i = k
  · subst h
    by_cases hi : i < q.length
    · rw [List.getElem?_set_self hi, List.getElem?_eq_getElem hi]
      rw [List.getD_eq_getElem?_getD, List.getElem?_eq_getElem hi] at hz
      simpa using hz.symm
    · rw [List.getElem?_eq_none (by simpa using hi), List.getElem?_eq_none (by omega)]
  · rw [List.getElem?_set_ne h]
theorem below_apps1 {wr w2 : World} {o : Obj} (hblk : ∀ g, g < (wr.alloc o).heap.size → (some ⟨wr.heap.size, 0, none⟩ : Option Addr) ≠ some ⟨g, 0, none⟩ → w2.heap[g]? = (wr.alloc o).heap[g]?) (hsz : (wr.alloc o).heap.size ≤ w2.heap.size)
    (hos : w2.os = (wr.alloc o).os) (htp : w2.tape = (wr.alloc o).tape) (hou : w2.output = (wr.alloc o).output) : Below wr.heap.size wr w2 :=
  ⟨hos, htp, hou, by have : (wr.alloc o).heap.size = wr.heap.size + 1 := by simp
                     omega, fun g hg => (hblk g (by simp; omega) (by intro e; injection e with e; injection e with e; omega)).trans (Below.heap_alloc wr _ g hg)⟩
theorem over_step {R' R2 b t : Nat} (hb0 : 0 < b) (h : R2 + t * b = R') (hlt : R2 < b) : t = R' / b ∧ R2 = R' % b := by
  subst h
  exact ⟨by rw [Nat.add_mul_div_right _ _ hb0, Nat.div_eq_of_lt hlt, Nat.zero_add], by rw [Nat.add_mul_mod_self_right, Nat.mod_eq_of_lt hlt]⟩
theorem set_set (q : List Nat) (i x y : Nat) : (q.set i x).set i y = q.set i y := List.set_set x
theorem getD_set_self {q : List Nat} {i x : Nat} (h : i < q.length) : (q.set i x).getD i 0 = x := by
  rw [List.getD_eq_getElem?_getD, List.getElem?_set_self h]; rfl

set_option maxHeartbeats 2000000 in
set_option maxRecDepth 100000 in
theorem refOver_any (A A' : Option Addr) (n n' c c' a b : Nat) (w : World) (hx : Sl w .i64 A n c (Dec.limbs 10 a)) (hy : Sl w .i64 A' n' c' (Dec.limbs 10 b)) (hn : n ≤ 2500000) (hn' : n' ≤ 2500000) (hb0 : 0 < b) :
    Calls Tryz.prog 111 #[.slice A n c, .slice A' n' c'] w (RetOver a b w) := by
  have HLx := Lib.hid hx.len
  have HLy := Lib.hid hy.len
  go_enter Tryz.func111, Tryz.ntmps111
  go_wp2_with (at_make; refine wpList_mk (w0 := w) rfl _ _ _ rfl 3 .i64 8 Tryz.underlying146 infoInt (by omega) _ _ _ _ n rfl rfl (by omega) (by omega) (by omega) (Below.refl _ _) ?_; intro w1 hown1 hb1 hbW1 hsz1)
  go_loopw [7, 8] (fun rv ix wr => ∃ (j R nr cr : Nat) (Ar : Option Addr) (q : List Nat), j ≤ n ∧ ix = .int .i64 ((j : Int) - 1) ∧ rv = .slice Ar nr cr ∧ Sl wr .i64 Ar nr cr (Dec.limbs 10 R) ∧ Hid (∀ b o, Ar = some ⟨b, o, none⟩ → b ≠ w.heap.size) ∧ R < b ∧ Own wr w.heap.size 3 .i64 (some ⟨w.heap.size, 0, none⟩) n n q ∧ Dec.Small 10 q ∧ Hid (∀ i, i < j → q.getD i 0 = 0) ∧ Hid (Dec.lval 10 ((Dec.limbs 10 a).drop j) = Dec.lval 10 (q.drop j) * b + R) ∧ Below w.heap.size w wr) (fun _ ix _ => (intOf ix + 1).toNat)
  case atStart =>
    refine ⟨n, 0, 0, 0, none, List.replicate n 0, Nat.le_refl _, rfl, rfl, Sl.nil _ _ _ _, Lib.hid (fun _ _ e => by cases e), hb0, hown1, small_replicate _ _ (by omega), Lib.hid (fun i _ => getD_replicate n i), Lib.hid ?_, hb1⟩
    rw [List.drop_of_length_le (by rw [HLx.out]; exact Nat.le_refl _), List.drop_of_length_le (by simp)]; simp [Dec.lval]
  case round =>
    obtain ⟨j, R, nr, cr, Ar, q, hj, rfl, rfl, hsr, HA, hR, hown, hsq, HZ, HV, hb⟩ := hrel
    obtain ⟨wo, rfl⟩ : ∃ wo : World, wo = wr := ⟨_, rfl⟩
    have HLr := Lib.hid hsr.len
    have hnr : nr ≤ n' := by
      rw [← HLr.out, ← HLy.out]; exact Dec.limbs_length_mono (by omega) (by omega)
    by_cases hj0 : 0 < j
    · obtain ⟨bx, ox, rfl, hbx, hcx⟩ := (hx.below hb).cells (by omega)
      have hcu := hcx (j - 1) (by omega)
      clear hcx
      have hu := getD_lt (l := Dec.limbs 10 a) (Dec.limbs_small (by omega) a) (by omega) (j - 1)
      generalize hu0 : (Dec.limbs 10 a).getD (j - 1) 0 = u at hcu hu
      have HU0 := Lib.hid hu0
      clear hu0
      have HQL := Lib.hid hown.len
      have HST := Lib.hid (div_step10 (b := b) hj0 (by rw [HLx.out]; exact hj) (by rw [HQL.out]; exact hj) HU0.out HV.out)
      have hdg : (u + 10 * R) / b < 10 := Dec.div_digit hu hR
      obtain ⟨R', hR'⟩ : ∃ R', R' = u + 10 * R := ⟨_, rfl⟩
      rw [← hR'] at HST hdg
      have HR' := Lib.hid hR'
      clear hR'
      have hi1 : (0 : Int) ≤ (j : Int) - 1 := by omega
      have hi2 : (j : Int) - 1 < n := by omega
      have hi3 : ((j : Int) - 1).toNat = j - 1 := by omega
      have hoW : Own (wo.alloc (.cells #[.int .i64 (u : Int)] 3)) wo.heap.size 3 .i64 (some ⟨wo.heap.size, 0, none⟩) 1 1 [u] := ⟨⟨rfl, .inr ⟨wo.heap.size, 1, #[.int .i64 (u : Int)], rfl, Nat.le_refl _, heap_alloc_new wo _, Nat.le_refl _, by unfold maxLen; omega, rfl, rfl⟩⟩⟩
      have hsW : Sl (wo.alloc (.cells #[.int .i64 (u : Int)] 3)) .i64 Ar nr cr (Dec.limbs 10 R) := hsr.alloc _
      go_wp2_with (at_builtin; refine wpList_apps rfl _ _ _ rfl wo.heap.size 3 .i64 8 Tryz.underlying146 infoInt (by omega) _ _ _ [u] rfl hoW _ _ _ _ rfl hsW (by omega) (by simp) ?_; intro A2 cc2 w2 hown2 hblk2 hsz2 hos2 htp2 hou2)
      have hbw2 := below_apps1 hblk2 hsz2 hos2 htp2 hou2
      clear hblk2 hsz2 hos2 htp2 hou2
      refine (refTrim_any A2 (1 + nr) cc2 _ w2 hown2.sl (by omega)).mono ?_
      rintro e w3 ⟨rfl, rfl⟩
      have hsl2 := hown2.sl.trimmed (B := 10) (by omega) (small_cons10 hu R)
      rw [lval_cons10, ← HR'.out] at hsl2
      have hfr := hown2.fresh
      have hq1 := (hown.lt rfl).2
      have htl := trimZ_length_le ([u] ++ Dec.limbs 10 R)
      rw [List.length_append, HLr.out, List.length_singleton] at htl
      generalize (Dec.trimZ ([u] ++ Dec.limbs 10 R)).length = n2 at hsl2 htl
      have hw2 := hb.trans (hbw2.mono hb.size)
      have hownx := hown.below hbw2
      have HQ0 := Lib.hid (set_zero (HZ.out (j - 1) (by omega)))
      rw [← HQ0.out] at hownx
      have HA2 : Hid (∀ b o, A2 = some ⟨b, o, none⟩ → b ≠ w.heap.size) := fun b o e => by have := hfr b o e; omega
      clear hfr hown2 hoW hsW HA hsr hcu
      go_wp2_with fail
      go_loopg [7] R' (fun kx rv wr => ∃ (t R2 n3 c3 : Nat) (A3 : Option Addr), t ≤ R' / b ∧ Hid (R2 + t * b = R') ∧ rv = .slice A3 n3 c3 ∧ Sl wr .i64 A3 n3 c3 (Dec.limbs 10 R2) ∧ n3 ≤ n' + 1 ∧ Hid (∀ b o, A3 = some ⟨b, o, none⟩ → b ≠ w.heap.size) ∧ Own wr w.heap.size 3 .i64 (some ⟨w.heap.size, 0, none⟩) n n (q.set (j - 1) t) ∧ R2 ≤ kx ∧ Below w.heap.size w wr)
      case atStart => exact ⟨0, R', n2, cc2, A2, Nat.zero_le _, Lib.hid (by omega), rfl, hsl2, by omega, HA2, hownx, Nat.le_refl _, hw2⟩
      case round =>
        obtain ⟨t, R2, n3, c3, A3, ht, HT, rfl, hs3, hn3, HA3, hown3, hk3, hb3⟩ := hrel
        have HCm := Lib.hid (orderR_any 10 (by omega) A3 A' n3 n' c3 c' R2 b wr hs3 (hy.below hb3) (by omega) (by omega))
        by_cases hge : R2 < b
        · have HO := Lib.hid (ordI_lt hge)
          have HE := Lib.hid (over_step hb0 HT.out hge)
          go_wp2_with (go_at_call 133; refine HCm.out.mono ?_; rintro e w2 ⟨rfl, qq, rfl⟩; rw [HO.out])
          go_roundw
          case rel =>
            refine ⟨j - 1, R2, n3, c3, A3, q.set (j - 1) t, by omega, by go_num, rfl, hs3.drew qq, HA3, hge, hown3.drewN qq, hsq.set (by omega), Lib.hid (fun i hi => by rw [getD_set_ne _ _ _ _ (by omega)]; exact HZ.out i (by omega)), ?_, below_drewN hb3 qq⟩
            have h := HST.out
            rw [← HE.out.1, ← HE.out.2] at h
            exact Lib.hid h
          case measure => simp only [intOf]; omega
        · have hz : 0 ≤ ordI R2 b := by
            rcases Nat.lt_or_ge b R2 with h | h
            · rw [ordI_gt h]; omega
            · obtain rfl : R2 = b := by omega
              rw [ordI_eq]; omega
          have ht1 : t + 1 ≤ R' / b := by
            rw [Nat.le_div_iff_mul_le hb0, ← HT.out, Nat.add_mul]; omega
          have hln : n' ≤ n3 := by rw [← HLy.out, ← hs3.len]; exact Dec.limbs_length_mono (by omega) (by omega)
          have HM : Hid (∀ qq : Nat, Calls Tryz.prog 134 #[.slice A3 n3 c3, .slice A' n' c'] (wr.drewN qq) (RetSl .i64 (Dec.limbs 10 (R2 - b)) (wr.drewN qq))) := fun qq => by
            have := refMinus_any A3 A' n3 n' c3 c' _ _ (wr.drewN qq) (hs3.drew qq) ((hy.below hb3).drew qq) (by omega) hln (Dec.limbs_small (by omega) _) (Dec.limbs_small (by omega) _) (by rw [Dec.lval_limbs (by omega), Dec.lval_limbs (by omega)]; omega)
            rwa [Dec.lval_limbs (by omega), Dec.lval_limbs (by omega)] at this
          have hll : (Dec.limbs 10 (R2 - b)).length ≤ n3 := by rw [← hs3.len]; exact Dec.limbs_length_mono (by omega) (by omega)
          have HOr := Lib.hid hown3
          have hl3 := (hown3.lt rfl).2
          go_wp2_with (go_at_call 133; refine HCm.out.mono ?_; rintro e w2 ⟨rfl, qq, rfl⟩)
          refine (HM.out _).mono ?_
          rintro e w4 ⟨A4, n4, c4, rfl, hs4, hb4, hf4⟩
          have hn4 : n4 ≤ n3 := by rw [← hs4.len]; exact hll
          have hb4' := (below_drewN hb3 qq).trans (hb4.mono (below_drewN hb3 qq).size)
          have hown4 := (HOr.out.drewN qq).below hb4
          obtain ⟨hco, hfo, _, hgl⟩ := hown4.cellAt (i := j - 1) (by omega)
          rw [getD_set_self (by rw [HQL.out]; omega)] at hco
          have HA4 : Hid (∀ b o, A4 = some ⟨b, o, none⟩ → b ≠ w.heap.size) := fun b o e => by have h1 := hf4 b o e; have h2 : (wr.drewN qq).heap.size = wr.heap.size := rfl; omega
          clear hf4
          go_wp2
          go_roundg (R2 - b)
          case measure => omega
          case rel =>
            refine ⟨t + 1, R2 - b, n4, c4, A4, ht1, Lib.hid (by have := HT.out; rw [Nat.add_mul]; omega), rfl, hs4.far (p := ⟨w.heap.size, j - 1, none⟩) (fun b o e => HA4.out b o e) _, by omega, HA4, ?_, Nat.le_refl _, hb4'.setCell (p := ⟨w.heap.size, j - 1, none⟩) (Nat.le_refl _) _⟩
            exact hown4.setInt (y := t + 1) (by omega) (set_set _ _ _ _)
    · have hjz : j = 0 := by omega
      subst hjz
      have HQ : Hid (Dec.lval 10 q = a / b ∧ R = a % b) := by
        have h := HV.out
        rw [List.drop_zero, List.drop_zero, Dec.lval_limbs (by omega)] at h
        show _ ∧ _
        rw [h]
        exact ⟨by rw [Nat.add_comm, Nat.add_mul_div_right _ _ hb0, Nat.div_eq_of_lt hR, Nat.zero_add], by rw [Nat.add_comm, Nat.add_mul_mod_self_right, Nat.mod_eq_of_lt hR]⟩
      have hslq := hown.sl
      go_wp2_with fail
      refine (refTrim_any _ _ _ _ _ hslq (by omega)).mono ?_
      rintro e w3 ⟨rfl, rfl⟩
      go_wp2
      go_ret2
      refine ⟨_, _, _, _, _, _, rfl, ?_, ?_, hb⟩
      · have := hslq.trimmed (B := 10) (by omega) hsq
        rw [HQ.out.1] at this
        exact this
      · rw [← HQ.out.2]; exact hsr
end Go.Proofs.YtendgffijciehaaGreatDoor
/- lispproverref1.Compare, Negate, Add, Subtract, Multiply. -/
namespace Go.Proofs.YtendgffijciehaaGreatDoor
open Go.RowKit

theorem refDigW (l : List UInt8) (hl : l.length ≤ 2500000) (w : World) : Calls Tryz.prog 109 #[.string ⟨l.toArray⟩] w (RetDig (l.length + 1) (Dec.dval l) w) := refDigits_any l w hl

/-- text of the digits of a number -/
theorem refTextV (ng : Bool) (A : Option Addr) (n c v : Nat) (r : Int) (w : World) (hx : Sl w .i64 A n c (Dec.limbs 10 v)) (hn : n ≤ 100000000) (hv : (if ng then -(v : Int) else v) = r) :
    Calls Tryz.prog 112 #[.bool ng, .slice A n c] w (RetStr (Lib.itoa r) w) := by
  have := refText_any ng A n c _ w hx hn (Dec.limbs_small (by omega) v)
  rw [Dec.lval_limbs (by omega), numStr_eq hv] at this
  exact this

end Go.Proofs.YtendgffijciehaaGreatDoor
/- lispproverref1.Divide, Gcd, Reduce. -/
namespace Go.Proofs.YtendgffijciehaaGreatDoor
open Go.RowKit

theorem natAbs10 {x : Int} {n : Nat} (h : (Dec.limbs 10 x.natAbs).length = n) : n = 0 ↔ x = 0 := by
  subst h
  constructor
  · intro h
    have := (Dec.limbs_eq_nil (B := 10) (by omega)).1 (List.eq_nil_of_length_eq_zero h)
    omega
  · rintro rfl; rfl
theorem limbs10_pos {v n : Nat} (h : (Dec.limbs 10 v).length = n) (h0 : n ≠ 0) : 0 < v := by
  rcases Nat.eq_zero_or_pos v with e | e
  · subst e; rw [Dec.limbs_zero] at h; simp at h; omega
  · exact e
theorem length10_div {a b n : Nat} (h : (Dec.limbs 10 a).length = n) : (Dec.limbs 10 (a / b)).length ≤ n := by
  rw [← h]; exact Dec.limbs_length_mono (by omega) (Nat.div_le_self a b)
theorem length10_mod {a b n : Nat} (hb : 0 < b) (h : (Dec.limbs 10 b).length = n) : (Dec.limbs 10 (a % b)).length ≤ n := by
  rw [← h]; exact Dec.limbs_length_mono (by omega) (Nat.le_of_lt (Nat.mod_lt a hb))
theorem refTextN (ng : Bool) (A : Option Addr) (n c v : Nat) (l : List UInt8) (w : World) (hx : Sl w .i64 A n c (Dec.limbs 10 v)) (hn : n ≤ 100000000) (hv : numStr ng v = l) :
    Calls Tryz.prog 112 #[.bool ng, .slice A n c] w (RetStr l w) := by
  have := refText_any ng A n c _ w hx hn (Dec.limbs_small (by omega) v)
  rw [Dec.lval_limbs (by omega), hv] at this
  exact this

set_option maxHeartbeats 1000000 in
theorem refGcd_any (a b : List UInt8) (w : World) (ha : a.length ≤ 2400000) (hb : b.length ≤ 2400000) :
    Calls Tryz.prog 110 #[.string ⟨a.toArray⟩, .string ⟨b.toArray⟩] w (RetStr (Lib.itoa (Nat.gcd (Dec.dval a).natAbs (Dec.dval b).natAbs : Nat)) w) := by
  have HP1 : Hid (∀ w' : World, Calls Tryz.prog 109 #[.string ⟨a.toArray⟩] w' (RetDig (a.length + 1) (Dec.dval a) w')) := fun w' => refDigW a (by omega) w'
  have HP2 : Hid (∀ w' : World, Calls Tryz.prog 109 #[.string ⟨b.toArray⟩] w' (RetDig (b.length + 1) (Dec.dval b) w')) := fun w' => refDigW b (by omega) w'
  generalize Dec.dval a = x at *
  generalize Dec.dval b = y at *
  generalize hG : Nat.gcd x.natAbs y.natAbs = G
  have HG := Lib.hid hG
  clear hG
  obtain ⟨s, hsd⟩ : ∃ s, s = decide (x < 0) := ⟨_, rfl⟩
  have HSD := Lib.hid hsd
  clear hsd
  obtain ⟨s', hsd'⟩ : ∃ s', s' = decide (y < 0) := ⟨_, rfl⟩
  have HSD' := Lib.hid hsd'
  clear hsd'
  go_enter Tryz.func110, Tryz.ntmps110
  go_wp2_with fail
  refine (HP1.out _).mono ?_
  rintro e w1 ⟨A1, n1, c1, rfl, hs1, hn1, hb1⟩
  rw [← HSD.out]
  go_wp2_with fail
  refine (HP2.out _).mono ?_
  rintro e w2 ⟨A2, n2, c2, rfl, hs2, hn2, hb2⟩
  rw [← HSD'.out]
  have hbw2 := hb1.trans (hb2.mono hb1.size)
  go_wp2_with fail
  go_loopg [6, 8] y.natAbs (fun kx s5 s6 wr => ∃ (A B : Option Addr) (n c m d u v : Nat), s5 = .slice A n c ∧ s6 = .slice B m d ∧ Sl wr .i64 A n c (Dec.limbs 10 u) ∧ Sl wr .i64 B m d (Dec.limbs 10 v) ∧ n ≤ 2400001 ∧ m ≤ 2400001 ∧ v ≤ kx ∧ Hid (Nat.gcd u v = G) ∧ Below w.heap.size w wr)
  case atStart => exact ⟨A1, A2, n1, c1, n2, c2, _, _, rfl, rfl, hs1.below hb2, hs2, by omega, by omega, Nat.le_refl _, HG, hbw2⟩
  case round =>
    obtain ⟨A, B, n, c, m, d, u, v, rfl, rfl, hu, hv, hn, hm, hk, HGu, hb⟩ := hrel
    by_cases hm0 : 0 < m
    · have hv0 : 0 < v := limbs10_pos hv.len (by omega)
      have hlr := length10_mod (a := u) hv0 hv.len
      have hml := Nat.mod_lt u hv0
      have HGn : Hid (Nat.gcd v (u % v) = G) := by show _ = _; rw [← HGu.out, Nat.gcd_comm v, ← Nat.gcd_rec, Nat.gcd_comm]
      have HDv := Lib.hid (refOver_any A B n m c d u v wr hu hv (by omega) (by omega) hv0)
      go_wp2_with (go_at_call 111; refine HDv.out.mono ?_; rintro e w3 ⟨A3, n3, c3, A4, n4, c4, rfl, hs3, hs4, hb3⟩; have hn4 : n4 ≤ m := (by rw [← hs4.len]; exact hlr))
      go_roundg (u % v)
      case measure => omega
      case rel => exact ⟨B, A4, m, d, n4, c4, v, u % v, rfl, rfl, hv.below hb3, hs4, hm, by omega, Nat.le_refl _, HGn, hb.trans (hb3.mono hb.size)⟩
    · have hv0 : v = 0 := (Dec.limbs_eq_nil (B := 10) (by omega)).1 (List.eq_nil_of_length_eq_zero (by rw [hv.len]; omega))
      subst hv0
      have HE : Hid (numStr false u = Lib.itoa (G : Int)) := by show _ = _; rw [← HGu.out, Nat.gcd_zero_right]; rfl
      go_wp2_with fail
      refine (refTextN false A n c u _ _ hu (by omega) HE.out).mono ?_
      rintro e w3 ⟨rfl, hb3⟩
      go_wp2
      go_ret
      exact ⟨rfl, hb.trans (hb3.mono hb.size)⟩

/-! ### Reduce -/
theorem rd_num {x y : Int} {z : Bool} (hy : y ≠ 0) (hz : (!(decide (x < 0) == decide (y < 0))) = z) : (if z then -((x.natAbs / Nat.gcd x.natAbs y.natAbs : Nat) : Int) else ((x.natAbs / Nat.gcd x.natAbs y.natAbs : Nat) : Int)) = rdN x y := by
  have hg : 0 < Nat.gcd x.natAbs y.natAbs := Nat.gcd_pos_of_pos_right _ (by omega)
  have hd := Nat.gcd_dvd_left x.natAbs y.natAbs
  unfold rdN
  rw [if_neg hy]
  generalize Nat.gcd x.natAbs y.natAbs = g at *
  obtain ⟨k, hk⟩ := hd
  rw [hk, Nat.mul_div_cancel_left _ hg]
  have hgk : ((g * k : Nat) : Int) = (g : Int) * k := Int.natCast_mul _ _
  by_cases h1 : x < 0 <;> by_cases h2 : y < 0
  · have e : rdX x y = k * g + 0 := by unfold rdX; rw [if_pos h2, Int.mul_comm, ← hgk]; omega
    rw [(qd_of_pos (by omega) e (by omega) (by omega)).1]
    subst hz; simp [h1, h2]
  · have e : rdX x y = (-(k : Int)) * g + 0 := by unfold rdX; rw [if_neg h2, Int.neg_mul, Int.mul_comm, ← hgk]; omega
    rw [(qd_of_pos (by omega) e (by omega) (by omega)).1]
    subst hz; simp [h1, h2]
  · have e : rdX x y = (-(k : Int)) * g + 0 := by unfold rdX; rw [if_pos h2, Int.neg_mul, Int.mul_comm, ← hgk]; omega
    rw [(qd_of_pos (by omega) e (by omega) (by omega)).1]
    subst hz; simp [h1, h2]
  · have e : rdX x y = k * g + 0 := by unfold rdX; rw [if_neg h2, Int.mul_comm, ← hgk]; omega
    rw [(qd_of_pos (by omega) e (by omega) (by omega)).1]
    subst hz; simp [h1, h2]
theorem rd_den {x y : Int} (hy : y ≠ 0) : (if false = true then -((y.natAbs / Nat.gcd x.natAbs y.natAbs : Nat) : Int) else ((y.natAbs / Nat.gcd x.natAbs y.natAbs : Nat) : Int)) = rdD x y := by
  have hg : 0 < Nat.gcd x.natAbs y.natAbs := Nat.gcd_pos_of_pos_right _ (by omega)
  have hd := Nat.gcd_dvd_right x.natAbs y.natAbs
  unfold rdD
  rw [if_neg hy]
  generalize Nat.gcd x.natAbs y.natAbs = g at *
  obtain ⟨k, hk⟩ := hd
  rw [hk, Nat.mul_div_cancel_left _ hg]
  have hgk : ((g * k : Nat) : Int) = (g : Int) * k := Int.natCast_mul _ _
  have e : rdY y = k * g + 0 := by unfold rdY; split <;> rw [Int.mul_comm, ← hgk] <;> omega
  rw [(qd_of_pos (by omega) e (by omega) (by omega)).1]
  simp

set_option maxHeartbeats 2000000 in
theorem refReduce_any (a b : List UInt8) (w : World) (ha : a.length ≤ 1100000) (hb : b.length ≤ 1100000) :
    Calls Tryz.prog 90 #[.string ⟨a.toArray⟩, .string ⟨b.toArray⟩] w (RetStr2 (Lib.itoa (rdN (Dec.dval a) (Dec.dval b))) (Lib.itoa (rdD (Dec.dval a) (Dec.dval b))) w) := by
  have HP1 : Hid (∀ w' : World, Calls Tryz.prog 109 #[.string ⟨a.toArray⟩] w' (RetDig (a.length + 1) (Dec.dval a) w')) := fun w' => refDigW a (by omega) w'
  have HP2 : Hid (∀ w' : World, Calls Tryz.prog 109 #[.string ⟨b.toArray⟩] w' (RetDig (b.length + 1) (Dec.dval b) w')) := fun w' => refDigW b (by omega) w'
  have HG : Hid (∀ w' : World, Calls Tryz.prog 110 #[.string ⟨a.toArray⟩, .string ⟨b.toArray⟩] w' (RetStr (Lib.itoa (Nat.gcd (Dec.dval a).natAbs (Dec.dval b).natAbs : Nat)) w')) := fun w' => refGcd_any a b w' (by omega) (by omega)
  have hgl : (Lib.itoa (Nat.gcd (Dec.dval a).natAbs (Dec.dval b).natAbs : Nat)).length ≤ 1100002 := by
    obtain ⟨K, hK⟩ : ∃ K, K = 1100001 := ⟨_, rfl⟩
    have := gcd_len (K := K) (x := Dec.dval a) (y := Dec.dval b) (by omega) (dval_lt18 (by omega)) (dval_lt18 (by omega))
    omega
  generalize Dec.dval a = x at *
  generalize Dec.dval b = y at *
  by_cases hy : y = 0
  · subst hy
    rw [show rdN x 0 = 0 from rfl, show rdD x 0 = 1 from rfl, Dec.itoa_zero, itoa_one]
    go_enter Tryz.func90, Tryz.ntmps90
    go_wp2_with fail
    refine (HP2.out _).mono ?_
    rintro e w2 ⟨A2, n2, c2, rfl, hs2, hn2, hb2⟩
    obtain rfl : n2 = 0 := (natAbs10 (x := 0) hs2.len).2 rfl
    go_wp2
    go_ret2
    exact ⟨rfl, hb2⟩
  · obtain ⟨z, hz⟩ : ∃ z, z = (!(decide (x < 0) == decide (y < 0))) := ⟨_, rfl⟩
    have HN := Lib.hid (rd_num (x := x) hy hz.symm)
    have HD := Lib.hid (rd_den (x := x) hy)
    have hg0 : 0 < Nat.gcd x.natAbs y.natAbs := Nat.gcd_pos_of_pos_right _ (by omega)
    generalize Nat.gcd x.natAbs y.natAbs = g at *
    have HPg : Hid (∀ w' : World, Calls Tryz.prog 109 #[.string ⟨(Lib.itoa (g : Int)).toArray⟩] w' (RetDig 1100100 (g : Int) w')) := fun w' => by
      have := refDigW (Lib.itoa (g : Int)) (by omega) w'
      rw [Dec.dval_itoa] at this
      exact this.mono (by
        rintro e w'' ⟨A, n, c, h1, h2, h3, h4⟩
        exact ⟨A, n, c, h1, h2, by omega, h4⟩)
    obtain ⟨s, hsd⟩ : ∃ s, s = decide (x < 0) := ⟨_, rfl⟩
    obtain ⟨s', hsd'⟩ : ∃ s', s' = decide (y < 0) := ⟨_, rfl⟩
    rw [← hsd, ← hsd'] at hz
    have hz' : (!(s == s')) = z := hz.symm
    have HSD := Lib.hid hsd
    have HSD' := Lib.hid hsd'
    clear hsd hsd' hz hgl
    go_enter Tryz.func90, Tryz.ntmps90
    go_wp2_with fail
    refine (HP2.out _).mono ?_
    rintro e w2 ⟨A2, n2, c2, rfl, hs2, hn2, hb2⟩
    rw [← HSD'.out]
    have hn20 : ((n2 : Int) == 0) = false := by rw [beq_eq_false_iff_ne]; intro e; exact hy ((natAbs10 hs2.len).1 (by omega))
    clear hy
    go_wp2_with fail
    refine (HP1.out _).mono ?_
    rintro e w1 ⟨A1, n1, c1, rfl, hs1, hn1, hb1⟩
    rw [← HSD.out]
    have b1 := hb2.trans (hb1.mono hb2.size)
    have hsB1 := hs2.below hb1
    go_wp2_with fail
    refine (HG.out _).mono ?_
    rintro e w3 ⟨rfl, hb3⟩
    have b3 := b1.trans (hb3.mono b1.size)
    have hsA3 := hs1.below hb3
    have hsB3 := hsB1.below hb3
    go_wp2_with fail
    refine (HPg.out _).mono ?_
    rintro e w4 ⟨A4, n4, c4, rfl, hs4, hn4, hb4⟩
    have b4 := b3.trans (hb4.mono b3.size)
    have hsA4 := hsA3.below hb4
    have hsB4 := hsB3.below hb4
    rw [show decide ((g : Int) < 0) = false from decide_eq_false (by omega)]
    rw [Int.natAbs_natCast] at hs4
    have hlq := length10_div (b := g) hsA4.len
    have hld := length10_div (b := g) hsB4.len
    go_wp2_with fail
    refine (refOver_any A1 A4 n1 n4 c1 c4 _ _ w4 hsA4 hs4 (by omega) (by omega) hg0).mono ?_
    rintro e w5 ⟨A5, n5, c5, A6, n6, c6, rfl, hs5, hs6, hb5⟩
    have b5 := b4.trans (hb5.mono b4.size)
    have hn5 : n5 ≤ n1 := by rw [← hs5.len]; exact hlq
    go_wp2_with fail
    refine (refOver_any A2 A4 n2 n4 c2 c4 _ _ w5 (hsB4.below hb5) (hs4.below hb5) (by omega) (by omega) hg0).mono ?_
    rintro e w7 ⟨A7, n7, c7, A8, n8, c8, rfl, hs7, hs8, hb7⟩
    have b7 := b5.trans (hb7.mono b5.size)
    have hn7 : n7 ≤ n2 := by rw [← hs7.len]; exact hld
    go_wp2_with fail
    refine (refTextV z A5 n5 c5 _ _ _ (hs5.below hb7) (by omega) HN.out).mono ?_
    rintro e w9 ⟨rfl, hb9⟩
    have b9 := b7.trans (hb9.mono b7.size)
    go_wp2_with fail
    refine (refTextV false A7 n7 c7 _ _ _ (hs7.below hb9) (by omega) HD.out).mono ?_
    rintro e w10 ⟨rfl, hb10⟩
    go_wp2
    go_ret2
    exact ⟨rfl, b9.trans (hb10.mono b9.size)⟩
end Go.Proofs.YtendgffijciehaaGreatDoor
/- lispproverref1.Small, Digits. -/
namespace Go.Proofs.YtendgffijciehaaGreatDoor
open Go.RowKit

theorem digits_len (l : List UInt8) : (Dec.mag (norm l)).length = max 1 (Dec.limbs 10 (Dec.dval l).natAbs).length := by
  have hm := mag_norm l
  have hd := norm_dec l
  have hv := dval_norm l
  generalize norm l = s at hm hd hv
  by_cases h48 : s = [48]
  · subst h48
    rw [← hv]
    decide +kernel
  · obtain ⟨h1, h2, h3, _⟩ := hm
    obtain ⟨_, hh⟩ := (Dec.isDec_iff h48).1 hd
    have h4 := Dec.revDigs_limbs h1 hh
    rw [h3] at h4
    rw [← h4]
    have : (Dec.revDigs (Dec.mag s)).length = (Dec.mag s).length := by simp [Dec.revDigs]
    rw [this]
    have : 0 < (Dec.mag s).length := List.length_pos_iff.2 h2
    omega

set_option maxHeartbeats 1000000 in
theorem refDigitsN_any (l : List UInt8) (w : World) (hl : l.length ≤ 2500000) :
    Calls Tryz.prog 168 #[.string ⟨l.toArray⟩] w (RetI64 ((Dec.mag (norm l)).length : Nat) w) := by
  have HD := Lib.hid (refDigW l hl w)
  have HL := Lib.hid (digits_len l)
  generalize (Dec.mag (norm l)).length = K at *
  generalize Dec.dval l = x at *
  obtain ⟨s, hsd⟩ : ∃ s, s = decide (x < 0) := ⟨_, rfl⟩
  have HSD := Lib.hid hsd
  clear hsd
  go_enter Tryz.func168, Tryz.ntmps168
  go_wp2_with fail
  refine HD.out.mono ?_
  rintro e w1 ⟨A1, n1, c1, rfl, hs1, hn1, hb1⟩
  rw [← HSD.out]
  have HN := Lib.hid hs1.len
  go_wp2
  go_ret
  refine ⟨?_, hb1⟩
  rw [HL.out, HN.out, show ((max 1 n1 : Nat) : Int) = max 1 (n1 : Int) by omega]
  rfl

end Go.Proofs.YtendgffijciehaaGreatDoor
/- What reducing a fraction gives, in words of integers. -/
namespace Go.Proofs.YtendgffijciehaaGreatDoor
open Go.RowKit

end Go.Proofs.YtendgffijciehaaGreatDoor
