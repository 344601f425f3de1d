/- Lisp objects: a plain type, and how one lies in memory. -/
import Derived.Test.YtcdgckbdplkdbaaDoorDt
namespace Go.Proofs.YtcdgckbdplkdbaaDoor
open Go.RowKit

/-- an object, all its fields -/
structure Ob where
  kind : Int
  num : List UInt8
  den : List UInt8
  sp : List UInt8
  sn : List UInt8
  text : List UInt8
  pair : List Ob
namespace Ob
mutual
def enc : Ob → List Dt
  | ⟨k, n, d, p, s, t, l⟩ => [.val (.int .i64 k), .val (str n), .val (str d), .val (str p), .val (str s), .val (str t), .row (encL l)]
def encL : List Ob → List (List Dt)
  | [] => []
  | o :: r => enc o :: encL r
end
mutual
/-- how many objects it holds, itself counted -/
def size : Ob → Nat
  | ⟨_, _, _, _, _, _, l⟩ => sizeL l + 1
def sizeL : List Ob → Nat
  | [] => 0
  | o :: r => size o + sizeL r
end
theorem encL_map (l : List Ob) : encL l = l.map enc := by
  induction l with
  | nil => rfl
  | cons o r ih => rw [encL, ih]; rfl
theorem enc_eq (o : Ob) : o.enc = [.val (.int .i64 o.kind), .val (str o.num), .val (str o.den), .val (str o.sp), .val (str o.sn), .val (str o.text), .row (o.pair.map enc)] := by
  cases o; rw [enc, encL_map]
theorem enc_len (o : Ob) : o.enc.length = 7 := by rw [enc_eq]; rfl
theorem size_pos (o : Ob) : 0 < o.size := by cases o; rw [size]; omega
theorem sizeL_mem {l : List Ob} {o : Ob} (h : o ∈ l) : o.size ≤ sizeL l := by
  induction l with
  | nil => cases h
  | cons x r ih =>
    rw [sizeL]
    rcases List.mem_cons.1 h with rfl | h
    · omega
    · have := ih h; omega
theorem size_pair {o x : Ob} (h : x ∈ o.pair) : x.size < o.size := by
  cases o with
  | mk k n d p s t l =>
    rw [size]
    have := sizeL_mem (l := l) h
    omega
/-- objects by their size -/
theorem ind {motive : Ob → Prop} (step : ∀ o, (∀ x ∈ o.pair, motive x) → motive o) (o : Ob) : motive o := by
  have : ∀ n (o : Ob), o.size ≤ n → motive o := by
    intro n
    induction n with
    | zero => intro o h; have := size_pos o; omega
    | succ n ih => intro o h; exact step o fun x hx => ih x (by have := size_pair hx; omega)
  exact this o.size o (Nat.le_refl _)
/-- lengths and kinds within Go's bounds, all the way down -/
inductive Wf : Ob → Prop
  | mk (o : Ob) (hk0 : -9223372036854775808 ≤ o.kind) (hk1 : o.kind ≤ 9223372036854775807) (hn : o.num.length ≤ 9223372036854775807) (hd : o.den.length ≤ 9223372036854775807) (hp : o.sp.length ≤ 9223372036854775807) (hs : o.sn.length ≤ 9223372036854775807) (ht : o.text.length ≤ 9223372036854775807) (hl : o.pair.length ≤ 9223372036854775807) (h : ∀ x ∈ o.pair, Wf x) : Wf o
theorem Wf.kids {o x : Ob} (h : o.Wf) (hx : x ∈ o.pair) : x.Wf := by
  cases h with
  | mk _ _ _ _ _ _ _ _ _ h => exact h x hx
theorem Wf.len {o : Ob} (h : o.Wf) : o.pair.length ≤ 9223372036854775807 := by
  cases h with
  | mk _ _ _ _ _ _ _ _ hl _ => exact hl
end Ob

/-- the value of an object, P being its last field -/
abbrev objV (o : Ob) (P : Value) : Value := .agg #[.int .i64 o.kind, str o.num, str o.den, str o.sp, str o.sn, str o.text, P]
abbrev obCells (o : Ob) (P : Value) : Array Value := #[.int .i64 o.kind, str o.num, str o.den, str o.sp, str o.sn, str o.text, P]
theorem Rd.objs {ok : Nat → Prop} {w wr : World} {A : Option Addr} {n c : Nat} {l : List Ob} (h : Rd ok w (.slice A n c) (.row (l.map Ob.enc))) (hbr : Below w.heap.size w wr) {i : Nat} (hi : i < n) :
    ∃ (b o : Nat) (hl : i < l.length) (A' : Option Addr) (n' c' : Nat), A = some ⟨b, o, none⟩ ∧ b < w.heap.size ∧ ok b ∧
      wr.cell? ⟨b, o + i * 7, none⟩ = some (.int .i64 (l[i]).kind) ∧ wr.cell? ⟨b, o + i * 7 + 1, none⟩ = some (str (l[i]).num) ∧ wr.cell? ⟨b, o + i * 7 + 2, none⟩ = some (str (l[i]).den) ∧ wr.cell? ⟨b, o + i * 7 + 3, none⟩ = some (str (l[i]).sp) ∧
      wr.cell? ⟨b, o + i * 7 + 4, none⟩ = some (str (l[i]).sn) ∧ wr.cell? ⟨b, o + i * 7 + 5, none⟩ = some (str (l[i]).text) ∧ wr.cell? ⟨b, o + i * 7 + 6, none⟩ = some (.slice A' n' c') ∧ Rd ok w (.slice A' n' c') (.row ((l[i]).pair.map Ob.enc)) := by
  have hlen := h.len
  rw [List.length_map] at hlen
  obtain ⟨b, o, k, rfl, hb, hok, hk, hf⟩ := h.cells (by omega)
  have e : (l.map Ob.enc)[i]'(by rw [List.length_map]; omega) = (l[i]'(by omega)).enc := List.getElem_map _
  have hk' := hk i (by rw [List.length_map]; omega)
  rw [e, Ob.enc_len] at hk'
  subst hk'
  have hf' : ∀ j (hj : j < 7), ∃ u, w.cell? ⟨b, o + i * 7 + j, none⟩ = some u ∧ Rd ok w u ((l[i]'(by omega)).enc[j]'(by rw [Ob.enc_len]; exact hj)) := fun j hj => by
    obtain ⟨u, h1, h2⟩ := hf i j (by rw [List.length_map]; omega) (by rw [e, Ob.enc_len]; exact hj)
    simp only [e] at h2
    exact ⟨u, h1, h2⟩
  simp only [Ob.enc_eq] at hf'
  obtain ⟨u0, h0, r0⟩ := hf' 0 (by omega)
  obtain ⟨u1, h1, r1⟩ := hf' 1 (by omega)
  obtain ⟨u2, h2, r2⟩ := hf' 2 (by omega)
  obtain ⟨u3, h3, r3⟩ := hf' 3 (by omega)
  obtain ⟨u4, h4, r4⟩ := hf' 4 (by omega)
  obtain ⟨u5, h5, r5⟩ := hf' 5 (by omega)
  obtain ⟨u6, h6, r6⟩ := hf' 6 (by omega)
  simp only [List.getElem_cons_zero, List.getElem_cons_succ] at r0 r1 r2 r3 r4 r5 r6
  rw [r0.val_eq] at h0
  rw [r1.val_eq] at h1
  rw [r2.val_eq] at h2
  rw [r3.val_eq] at h3
  rw [r4.val_eq] at h4
  rw [r5.val_eq] at h5
  obtain ⟨A', n', c', rfl, _⟩ := r6.slice
  exact ⟨b, o, by omega, A', n', c', rfl, hb, hok, (hbr.cell (p := ⟨b, o + i * 7, none⟩) hb).trans h0, (hbr.cell (p := ⟨b, o + i * 7 + 1, none⟩) hb).trans h1, (hbr.cell (p := ⟨b, o + i * 7 + 2, none⟩) hb).trans h2, (hbr.cell (p := ⟨b, o + i * 7 + 3, none⟩) hb).trans h3, (hbr.cell (p := ⟨b, o + i * 7 + 4, none⟩) hb).trans h4, (hbr.cell (p := ⟨b, o + i * 7 + 5, none⟩) hb).trans h5, (hbr.cell (p := ⟨b, o + i * 7 + 6, none⟩) hb).trans h6, r6⟩
/-- the seven cells of a box stored anew -/
theorem BlkIs.put7 {w : World} {g : Nat} {t : TypeId} {c0 c1 c2 c3 c4 c5 c6 v0 v1 v2 v3 v4 v5 v6 : Value} (h : BlkIs w g t #[c0, c1, c2, c3, c4, c5, c6]) :
    BlkIs (((((((w.setCell ⟨g, 0, none⟩ v0).setCell ⟨g, 1, none⟩ v1).setCell ⟨g, 2, none⟩ v2).setCell ⟨g, 3, none⟩ v3).setCell ⟨g, 4, none⟩ v4).setCell ⟨g, 5, none⟩ v5).setCell ⟨g, 6, none⟩ v6) g t #[v0, v1, v2, v3, v4, v5, v6] := by
  have := ((((((h.set_ 0 v0).set_ 1 v1).set_ 2 v2).set_ 3 v3).set_ 4 v4).set_ 5 v5).set_ 6 v6
  simpa using this
theorem BlkIs.far7 {w : World} {g g' : Nat} {t : TypeId} {cs : Array Value} (h : BlkIs w g t cs) (hg : g ≠ g') (v0 v1 v2 v3 v4 v5 v6 : Value) :
    BlkIs (((((((w.setCell ⟨g', 0, none⟩ v0).setCell ⟨g', 1, none⟩ v1).setCell ⟨g', 2, none⟩ v2).setCell ⟨g', 3, none⟩ v3).setCell ⟨g', 4, none⟩ v4).setCell ⟨g', 5, none⟩ v5).setCell ⟨g', 6, none⟩ v6) g t cs :=
  ((((((h.far (p := ⟨g', 0, none⟩) hg _).far (p := ⟨g', 1, none⟩) hg _).far (p := ⟨g', 2, none⟩) hg _).far (p := ⟨g', 3, none⟩) hg _).far (p := ⟨g', 4, none⟩) hg _).far (p := ⟨g', 5, none⟩) hg _).far (p := ⟨g', 6, none⟩) hg _
theorem set7 {a w : World} (h0 : Below a.heap.size a w) {g : Nat} (hg : a.heap.size ≤ g) (v0 v1 v2 v3 v4 v5 v6 : Value) :
    Below a.heap.size a (((((((w.setCell ⟨g, 0, none⟩ v0).setCell ⟨g, 1, none⟩ v1).setCell ⟨g, 2, none⟩ v2).setCell ⟨g, 3, none⟩ v3).setCell ⟨g, 4, none⟩ v4).setCell ⟨g, 5, none⟩ v5).setCell ⟨g, 6, none⟩ v6) :=
  set2 (set2 (set2 (set2 (set2 (set2 (set2 h0 hg _) hg _) hg _) hg _) hg _) hg _) hg _
theorem BlkIs.frozen7 {w : World} {g : Nat} {t : TypeId} {cs : Array Value} (h : BlkIs w g t cs) : w.frozen? ⟨g, 0, none⟩ = false ∧ w.frozen? ⟨g, 1, none⟩ = false ∧ w.frozen? ⟨g, 2, none⟩ = false ∧ w.frozen? ⟨g, 3, none⟩ = false ∧ w.frozen? ⟨g, 4, none⟩ = false ∧ w.frozen? ⟨g, 5, none⟩ = false ∧ w.frozen? ⟨g, 6, none⟩ = false :=
  ⟨h.frozen 0, h.frozen 1, h.frozen 2, h.frozen 3, h.frozen 4, h.frozen 5, h.frozen 6⟩
end Go.Proofs.YtcdgckbdplkdbaaDoor
