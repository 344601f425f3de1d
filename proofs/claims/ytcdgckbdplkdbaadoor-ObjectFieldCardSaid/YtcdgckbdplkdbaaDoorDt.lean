/- Data in memory: plain cells, and slices whose elements are rows of such data; what a value reads as, and that new memory does not change it. -/
import Derived.Test.YtcdgckbdplkdbaaDoorBlk
import Derived.Lib.Hide
namespace Go.Proofs.YtcdgckbdplkdbaaDoor
open Go.RowKit

abbrev str (l : List UInt8) : Value := .string ⟨l.toArray⟩
def RetPureV (v : Value) (w : World) (e : Ending) (w' : World) : Prop := e = .returned v ∧ w = w'
def RetBel (v : Value) (w : World) (e : Ending) (w' : World) : Prop := e = .returned v ∧ Below w.heap.size w w'
/-- a plain cell, or a slice: its elements, each a row of cells -/
inductive Dt where
  | val (v : Value)
  | row (l : List (List Dt))

/-- the value v reads as the datum d, through blocks of ok alone -/
inductive Rd (ok : Nat → Prop) (w : World) : Value → Dt → Prop
  | val (v : Value) : Rd ok w v (.val v)
  | nil (A : Option Addr) (c : Nat) : Rd ok w (.slice A 0 c) (.row [])
  | row (b o n c k : Nat) (l : List (List Dt)) (f : Nat → Nat → Value) (hn : l.length = n) (h0 : 0 < n) (hc : n ≤ c) (hb : b < w.heap.size) (hok : ok b)
      (hk : ∀ i (h : i < l.length), (l[i]).length = k)
      (hf : ∀ i j (h : i < l.length), j < (l[i]).length → w.cell? ⟨b, o + i * k + j, none⟩ = some (f i j))
      (hr : ∀ i j (h : i < l.length) (h' : j < (l[i]).length), Rd ok w (f i j) ((l[i])[j])) : Rd ok w (.slice (some ⟨b, o, none⟩) n c) (.row l)

section
variable {ok ok' : Nat → Prop} {w w' : World} {v : Value} {d : Dt}
theorem Rd.keep (h : Rd ok w v d) (hs : w.heap.size ≤ w'.heap.size) (hk : ∀ b, ok b → b < w.heap.size → w'.heap[b]? = w.heap[b]?) : Rd ok w' v d := by
  induction h with
  | val v => exact .val v
  | nil A c => exact .nil A c
  | row b o n c k l f hn h0 hc hb hok hk' hf _ ih =>
    exact .row b o n c k l f hn h0 hc (Nat.lt_of_lt_of_le hb hs) hok hk' (fun i j h h' => (World.cell?_of_block (w := w) (hk b hok hb)).trans (hf i j h h')) ih
theorem Rd.mono (h : Rd ok w v d) (hk : ∀ b, ok b → b < w.heap.size → ok' b) : Rd ok' w v d := by
  induction h with
  | val v => exact .val v
  | nil A c => exact .nil A c
  | row b o n c k l f hn h0 hc hb hok hk' hf _ ih => exact .row b o n c k l f hn h0 hc hb (hk b hok hb) hk' hf ih
theorem Rd.under (h : Rd ok w v d) (hb : Below w.heap.size w w') : Rd ok w' v d := h.keep hb.size fun b _ hlt => hb.block b hlt
theorem Rd.alloc (h : Rd ok w v d) (o : Obj) : Rd ok (w.alloc o) v d := h.under ((Below.refl _ _).alloc (Nat.le_refl _) _)
theorem Rd.drewN (h : Rd ok w v d) (n : Nat) : Rd ok (w.drewN n) v d := h.keep (Nat.le_refl _) fun _ _ _ => rfl
theorem Rd.drew (h : Rd ok w v d) : Rd ok w.drew v d := h.keep (Nat.le_refl _) fun _ _ _ => rfl
/-- a store into a block that the datum does not pass -/
theorem Rd.far {p : Addr} (h : Rd ok w v d) (hp : ∀ b, ok b → b ≠ p.block) (u : Value) : Rd ok (w.setCell p u) v d :=
  h.keep (by simp [World.setCell]) fun b hok _ => Below.heap_setCell w p u b (hp b hok)
theorem Rd.val_eq {u : Value} (h : Rd ok w v (.val u)) : v = u := by cases h; rfl
theorem Rd.lt (h : Rd ok w v d) : Rd (fun b => ok b ∧ b < w.heap.size) w v d := h.mono fun _ h hb => ⟨h, hb⟩
theorem Rd.any (h : Rd ok w v d) : Rd (fun b => b < w.heap.size) w v d := h.mono fun _ _ hb => hb

/-- what a slice is -/
theorem Rd.slice {l : List (List Dt)} (h : Rd ok w v (.row l)) : ∃ A n c, v = .slice A n c ∧ l.length = n ∧ n ≤ c := by
  cases h with
  | nil A c => exact ⟨A, 0, c, rfl, rfl, Nat.zero_le _⟩
  | row b o n c k l f hn h0 hc => exact ⟨_, n, c, rfl, hn, hc⟩
theorem Rd.len {A : Option Addr} {n c : Nat} {l : List (List Dt)} (h : Rd ok w (.slice A n c) (.row l)) : l.length = n := by
  cases h with
  | nil => rfl
  | row _ _ _ _ _ _ _ hn => exact hn
theorem Rd.cap {A : Option Addr} {n c : Nat} {l : List (List Dt)} (h : Rd ok w (.slice A n c) (.row l)) : n ≤ c := by
  cases h with
  | nil => exact Nat.zero_le _
  | row _ _ _ _ _ _ _ _ _ hc => exact hc
/-- the cells of a slice that is not empty -/
theorem Rd.cells {A : Option Addr} {n c : Nat} {l : List (List Dt)} (h : Rd ok w (.slice A n c) (.row l)) (h0 : 0 < n) :
    ∃ b o k, A = some ⟨b, o, none⟩ ∧ b < w.heap.size ∧ ok b ∧ (∀ i (h : i < l.length), (l[i]).length = k) ∧
      ∀ i j (h : i < l.length) (h' : j < (l[i]).length), ∃ u, w.cell? ⟨b, o + i * k + j, none⟩ = some u ∧ Rd ok w u ((l[i])[j]) := by
  cases h with
  | nil => omega
  | row b o n c k l f hn _ hc hb hok hk hf hr => exact ⟨b, o, k, rfl, hb, hok, hk, fun i j h h' => ⟨f i j, hf i j h h', hr i j h h'⟩⟩
theorem Rd.mk {b o n c k : Nat} {l : List (List Dt)} (hn : l.length = n) (hc : n ≤ c) (hb : b < w.heap.size) (hok : ok b) (hk : ∀ i (h : i < l.length), (l[i]).length = k)
    (hf : ∀ i j (h : i < l.length) (h' : j < (l[i]).length), ∃ u, w.cell? ⟨b, o + i * k + j, none⟩ = some u ∧ Rd ok w u ((l[i])[j])) : Rd ok w (.slice (some ⟨b, o, none⟩) n c) (.row l) := by
  rcases Nat.eq_zero_or_pos n with e | e
  · subst e
    obtain rfl : l = [] := List.eq_nil_of_length_eq_zero hn
    exact .nil _ _
  · let f : Nat → Nat → Value := fun i j => (w.cell? ⟨b, o + i * k + j, none⟩).getD (.int .i64 0)
    refine .row b o n c k l f hn e hc hb hok hk (fun i j h h' => ?_) (fun i j h h' => ?_)
    · obtain ⟨u, h1, _⟩ := hf i j h h'
      simp only [f, h1, Option.getD_some]
    · obtain ⟨u, h1, h2⟩ := hf i j h h'
      simp only [f, h1, Option.getD_some]
      exact h2
/-- the first m elements -/
theorem Rd.take {A : Option Addr} {n c m : Nat} {l : List (List Dt)} (h : Rd ok w (.slice A n c) (.row l)) (hm : m ≤ n) : Rd ok w (.slice A m c) (.row (l.take m)) := by
  have hl := h.len
  rcases Nat.eq_zero_or_pos m with e | e
  · subst e; exact .nil _ _
  · obtain ⟨b, o, k, rfl, hb, hok, hk, hf⟩ := h.cells (by omega)
    refine Rd.mk (k := k) (by rw [List.length_take]; omega) (by have := h.cap; omega) hb hok (fun i hi => ?_) (fun i j hi hj => ?_)
    · rw [List.getElem_take]; exact hk i _
    · simp only [List.getElem_take] at hj ⊢
      exact hf i j (by rw [List.length_take] at hi; omega) hj
/-- the elements from m on -/
theorem Rd.drop {b o n c m k : Nat} {l : List (List Dt)} (h : Rd ok w (.slice (some ⟨b, o, none⟩) n c) (.row l)) (hm : m < n) (hk : ∀ x ∈ l, x.length = k) : Rd ok w (.slice (some ⟨b, o + m * k, none⟩) (n - m) (c - m)) (.row (l.drop m)) := by
  have hl := h.len
  obtain ⟨b', o', k', e, hb, hok, hk', hf⟩ := h.cells (by omega)
  injection e with e
  injection e with e1 e2
  subst e1 e2
  obtain rfl : k' = k := by rw [← hk' 0 (by omega)]; exact hk _ (List.getElem_mem _)
  refine Rd.mk (k := k') (by rw [List.length_drop]; omega) (by have := h.cap; omega) hb hok (fun i hi => ?_) (fun i j hi hj => ?_)
  · rw [List.getElem_drop]; exact hk' _ _
  · simp only [List.getElem_drop] at hj ⊢
    obtain ⟨u, h1, h2⟩ := hf (m + i) j (by rw [List.length_drop] at hi; omega) hj
    refine ⟨u, ?_, h2⟩
    rw [← h1]
    congr 2
    rw [Nat.add_mul]; omega
end
end Go.Proofs.YtcdgckbdplkdbaaDoor
