/- Data in memory: plain cells, and slices whose elements are rows of such data; what a value reads as, and that new memory does not change it. -/
import Derived.Test.YtgphkgmhcmffnaaGreatDoorJD
import Derived.Lib.Hide
import Derived.Maps.AppendAt
import Derived.Laws.MakeOwn
import Derived.Deep.Slices
import Derived.Lib.Strings
import Derived.OpenShut
namespace Go.Proofs.YtgphkgmhcmffnaaGreatDoor
open Go.RowKit

abbrev str (l : List UInt8) : Value := .string ⟨l.toArray⟩
def RetPureV (v : Value) (w : World) (e : Ending) (w' : World) : Prop := e = .returned v ∧ w = w'
def RetBel (v : Value) (w : World) (e : Ending) (w' : World) : Prop := e = .returned v ∧ Below w.heap.size w w'
/-- a plain cell, or a slice: its elements, each a row of cells -/
inductive Dt where
  | val (v : Value)
  | row (l : List (List Dt))

/-- the value v reads as the datum d, through blocks of ok alone -/
inductive Rd (ok : Nat → Prop) (w : World) : Value → Dt → Prop
  | val (v : Value) : Rd ok w v (.val v)
  | nil (A : Option Addr) (c : Nat) : Rd ok w (.slice A 0 c) (.row [])
  | row (b o n c k : Nat) (l : List (List Dt)) (f : Nat → Nat → Value) (hn : l.length = n) (h0 : 0 < n) (hc : n ≤ c) (hb : b < w.heap.size) (hok : ok b)
      (hk : ∀ i (h : i < l.length), (l[i]).length = k)
      (hf : ∀ i j (h : i < l.length), j < (l[i]).length → w.cell? ⟨b, o + i * k + j, none⟩ = some (f i j))
      (hr : ∀ i j (h : i < l.length) (h' : j < (l[i]).length), Rd ok w (f i j) ((l[i])[j])) : Rd ok w (.slice (some ⟨b, o, none⟩) n c) (.row l)

section
variable {ok ok' : Nat → Prop} {w w' : World} {v : Value} {d : Dt}
theorem Rd.keep (h : Rd ok w v d) (hs : w.heap.size ≤ w'.heap.size) (hk : ∀ b, ok b → b < w.heap.size → w'.heap[b]? = w.heap[b]?) : Rd ok w' v d := by
  induction h with
  | val v => exact .val v
  | nil A c => exact .nil A c
  | row b o n c k l f hn h0 hc hb hok hk' hf _ ih =>
    exact .row b o n c k l f hn h0 hc (Nat.lt_of_lt_of_le hb hs) hok hk' (fun i j h h' => (World.cell?_of_block (w := w) (hk b hok hb)).trans (hf i j h h')) ih
theorem Rd.mono (h : Rd ok w v d) (hk : ∀ b, ok b → b < w.heap.size → ok' b) : Rd ok' w v d := by
  induction h with
  | val v => exact .val v
  | nil A c => exact .nil A c
  | row b o n c k l f hn h0 hc hb hok hk' hf _ ih => exact .row b o n c k l f hn h0 hc hb (hk b hok hb) hk' hf ih
theorem Rd.under (h : Rd ok w v d) (hb : Below w.heap.size w w') : Rd ok w' v d := h.keep hb.size fun b _ hlt => hb.block b hlt
theorem Rd.alloc (h : Rd ok w v d) (o : Obj) : Rd ok (w.alloc o) v d := h.under ((Below.refl _ _).alloc (Nat.le_refl _) _)
theorem Rd.drewN (h : Rd ok w v d) (n : Nat) : Rd ok (w.drewN n) v d := h.keep (Nat.le_refl _) fun _ _ _ => rfl
theorem Rd.drew (h : Rd ok w v d) : Rd ok w.drew v d := h.keep (Nat.le_refl _) fun _ _ _ => rfl
/-- a store into a block that the datum does not pass -/
theorem Rd.far {p : Addr} (h : Rd ok w v d) (hp : ∀ b, ok b → b ≠ p.block) (u : Value) : Rd ok (w.setCell p u) v d :=
  h.keep (by simp [World.setCell]) fun b hok _ => Below.heap_setCell w p u b (hp b hok)
theorem Rd.val_eq {u : Value} (h : Rd ok w v (.val u)) : v = u := by cases h; rfl
theorem Rd.lt (h : Rd ok w v d) : Rd (fun b => ok b ∧ b < w.heap.size) w v d := h.mono fun _ h hb => ⟨h, hb⟩
theorem Rd.any (h : Rd ok w v d) : Rd (fun b => b < w.heap.size) w v d := h.mono fun _ _ hb => hb

/-- what a slice is -/
theorem Rd.slice {l : List (List Dt)} (h : Rd ok w v (.row l)) : ∃ A n c, v = .slice A n c ∧ l.length = n ∧ n ≤ c := by
  cases h with
  | nil A c => exact ⟨A, 0, c, rfl, rfl, Nat.zero_le _⟩
  | row b o n c k l f hn h0 hc => exact ⟨_, n, c, rfl, hn, hc⟩
theorem Rd.len {A : Option Addr} {n c : Nat} {l : List (List Dt)} (h : Rd ok w (.slice A n c) (.row l)) : l.length = n := by
  cases h with
  | nil => rfl
  | row _ _ _ _ _ _ _ hn => exact hn
theorem Rd.cap {A : Option Addr} {n c : Nat} {l : List (List Dt)} (h : Rd ok w (.slice A n c) (.row l)) : n ≤ c := by
  cases h with
  | nil => exact Nat.zero_le _
  | row _ _ _ _ _ _ _ _ _ hc => exact hc
/-- the cells of a slice that is not empty -/
theorem Rd.cells {A : Option Addr} {n c : Nat} {l : List (List Dt)} (h : Rd ok w (.slice A n c) (.row l)) (h0 : 0 < n) :
    ∃ b o k, A = some ⟨b, o, none⟩ ∧ b < w.heap.size ∧ ok b ∧ (∀ i (h : i < l.length), (l[i]).length = k) ∧
      ∀ i j (h : i < l.length) (h' : j < (l[i]).length), ∃ u, w.cell? ⟨b, o + i * k + j, none⟩ = some u ∧ Rd ok w u ((l[i])[j]) := by
  cases h with
  | nil => omega
  | row b o n c k l f hn _ hc hb hok hk hf hr => exact ⟨b, o, k, rfl, hb, hok, hk, fun i j h h' => ⟨f i j, hf i j h h', hr i j h h'⟩⟩
theorem Rd.mk {b o n c k : Nat} {l : List (List Dt)} (hn : l.length = n) (hc : n ≤ c) (hb : b < w.heap.size) (hok : ok b) (hk : ∀ i (h : i < l.length), (l[i]).length = k)
    (hf : ∀ i j (h : i < l.length) (h' : j < (l[i]).length), ∃ u, w.cell? ⟨b, o + i * k + j, none⟩ = some u ∧ Rd ok w u ((l[i])[j])) : Rd ok w (.slice (some ⟨b, o, none⟩) n c) (.row l) := by
  rcases Nat.eq_zero_or_pos n with e | e
  · subst e
    obtain rfl : l = [] := List.eq_nil_of_length_eq_zero hn
    exact .nil _ _
  · let f : Nat → Nat → Value := fun i j => (w.cell? ⟨b, o + i * k + j, none⟩).getD (.int .i64 0)
    refine .row b o n c k l f hn e hc hb hok hk (fun i j h h' => ?_) (fun i j h h' => ?_)
    · obtain ⟨u, h1, _⟩ := hf i j h h'
      simp only [f, h1, Option.getD_some]
    · obtain ⟨u, h1, h2⟩ := hf i j h h'
      simp only [f, h1, Option.getD_some]
      exact h2
/-- the first m elements -/
theorem Rd.take {A : Option Addr} {n c m : Nat} {l : List (List Dt)} (h : Rd ok w (.slice A n c) (.row l)) (hm : m ≤ n) : Rd ok w (.slice A m c) (.row (l.take m)) := by
  have hl := h.len
  rcases Nat.eq_zero_or_pos m with e | e
  · subst e; exact .nil _ _
  · obtain ⟨b, o, k, rfl, hb, hok, hk, hf⟩ := h.cells (by omega)
    refine Rd.mk (k := k) (by rw [List.length_take]; omega) (by have := h.cap; omega) hb hok (fun i hi => ?_) (fun i j hi hj => ?_)
    · rw [List.getElem_take]; exact hk i _
    · simp only [List.getElem_take] at hj ⊢
      exact hf i j (by rw [List.length_take] at hi; omega) hj
/-- the elements from m on -/
theorem Rd.drop {b o n c m k : Nat} {l : List (List Dt)} (h : Rd ok w (.slice (some ⟨b, o, none⟩) n c) (.row l)) (hm : m < n) (hk : ∀ x ∈ l, x.length = k) : Rd ok w (.slice (some ⟨b, o + m * k, none⟩) (n - m) (c - m)) (.row (l.drop m)) := by
  have hl := h.len
  obtain ⟨b', o', k', e, hb, hok, hk', hf⟩ := h.cells (by omega)
  injection e with e
  injection e with e1 e2
  subst e1 e2
  obtain rfl : k' = k := by rw [← hk' 0 (by omega)]; exact hk _ (List.getElem_mem _)
  refine Rd.mk (k := k') (by rw [List.length_drop]; omega) (by have := h.cap; omega) hb hok (fun i hi => ?_) (fun i j hi hj => ?_)
  · rw [List.getElem_drop]; exact hk' _ _
  · simp only [List.getElem_drop] at hj ⊢
    obtain ⟨u, h1, h2⟩ := hf (m + i) j (by rw [List.length_drop] at hi; omega) hj
    refine ⟨u, ?_, h2⟩
    rw [← h1]
    congr 2
    rw [Nat.add_mul]; omega
end
end Go.Proofs.YtgphkgmhcmffnaaGreatDoor
/- Rows of structs that a call itself has made: append of elements, of one or of a whole slice. -/
namespace Go.Proofs.YtgphkgmhcmffnaaGreatDoor
open Go.RowKit

def Dt.one : Dt → Bool
  | .val v => v.oneCell'
  | .row _ => true
theorem Rd.one {ok : Nat → Prop} {w : World} {v : Value} {d : Dt} (h : Rd ok w v d) (hd : d.one = true) : v.oneCell' = true := by
  cases h with
  | val v => exact hd
  | nil => rfl
  | row => rfl

/-- the slice '.slice A n c' is the call's own (from block base on) and reads as l; what its elements lead to lies in other blocks, those of ok -/
structure OwnD (ok : Nat → Prop) (w : World) (base : Nat) (E : TypeId) (k : Nat) (A : Option Addr) (n c : Nat) (l : List (List Dt)) : Prop where
  len : l.length = n
  own : ∃ xs, w.ownsRow base E k (.slice A n c) n xs ∧ ∀ i (hi : i < l.length), (l[i]).length = k ∧ ∀ j (hj : j < (l[i]).length), ∃ u, xs[i * k + j]? = some u ∧ Rd (fun b => ok b ∧ A ≠ some ⟨b, 0, none⟩) w u (l[i])[j]

section
variable {ok ok' : Nat → Prop} {w w' : World} {base : Nat} {E : TypeId} {k : Nat} {A : Option Addr} {n c : Nat} {l : List (List Dt)}
theorem OwnD.nil (ok : Nat → Prop) (w : World) (base : Nat) (E : TypeId) (k : Nat) : OwnD ok w base E k none 0 0 [] := ⟨rfl, [], World.ownsRow_nil w base E k, fun i hi => absurd hi (by simp)⟩
theorem OwnD.made (ok : Nat → Prop) (w : World) (base : Nat) (E : TypeId) (k cap : Nat) (cur : Array Value) (hb : base ≤ w.heap.size) (hm : cap ≤ maxLen) (hs : cur.size = cap * k) : OwnD ok (w.alloc (.cells cur E)) base E k (some ⟨w.heap.size, 0, none⟩) 0 cap [] :=
  ⟨rfl, [], World.ownsRow_made w cur cap hb hm hs, fun i hi => absurd hi (by simp)⟩
theorem OwnD.addr (h : OwnD ok w base E k A n c l) : A = none ∨ ∃ g, A = some ⟨g, 0, none⟩ ∧ base ≤ g ∧ g < w.heap.size := by
  obtain ⟨xs, ⟨_, ho⟩, _⟩ := h.own
  rcases ho with ⟨hv, _⟩ | ⟨g, cap, cur, hv, hbg, hg, _⟩
  · simp only [Value.slice.injEq] at hv; exact .inl hv.1
  · simp only [Value.slice.injEq] at hv
    refine .inr ⟨g, hv.1, hbg, ?_⟩
    rcases Nat.lt_or_ge g w.heap.size with hlt | hge
    · exact hlt
    · rw [Array.getElem?_eq_none hge] at hg; cases hg
/-- what is held reads as the list -/
theorem OwnD.rd (h : OwnD ok w base E k A n c l) : Rd (fun b => ok b ∨ base ≤ b) w (.slice A n c) (.row l) := by
  obtain ⟨xs, ⟨hx, ho⟩, he⟩ := h.own
  have hlen := h.len
  rcases Nat.eq_zero_or_pos n with h0 | h0
  · subst h0
    obtain rfl : l = [] := List.eq_nil_of_length_eq_zero hlen
    exact .nil _ _
  · rcases ho with ⟨_, h1⟩ | ⟨g, cap, cur, hv, hbg, hg, hnc, hcm, hcs, ht⟩
    · omega
    · simp only [Value.slice.injEq] at hv
      obtain ⟨rfl, _, rfl⟩ := hv
      refine Rd.mk (k := k) hlen hnc ?_ (.inr hbg) (fun i hi => (he i hi).1) (fun i j hi hj => ?_)
      · rcases Nat.lt_or_ge g w.heap.size with hlt | hge
        · exact hlt
        · rw [Array.getElem?_eq_none hge] at hg; cases hg
      · obtain ⟨u, h1, h2⟩ := (he i hi).2 j hj
        refine ⟨u, ?_, h2.mono fun b hb _ => .inl hb.1⟩
        have hj' : j < k := by rw [← (he i hi).1]; exact hj
        have hlt : i * k + j < n * k := by
          have : (i + 1) * k ≤ n * k := Nat.mul_le_mul_right k (by omega)
          rw [Nat.add_mul] at this; omega
        have e : cur[i * k + j]? = some u := by
          rw [← h1, ← ht, List.getElem?_take_of_lt hlt]; simp
        simp [World.cell?, hg, Nat.zero_add, e]
theorem OwnD.keep (h : OwnD ok w base E k A n c l) (hs : w.heap.size ≤ w'.heap.size) (hb : ∀ g, g < w.heap.size → (ok g ∨ A = some ⟨g, 0, none⟩) → w'.heap[g]? = w.heap[g]?) : OwnD ok w' base E k A n c l := by
  obtain ⟨xs, ⟨hx, ho⟩, he⟩ := h.own
  refine ⟨h.len, xs, ⟨hx, ?_⟩, fun i hi => ⟨(he i hi).1, fun j hj => ?_⟩⟩
  · rcases ho with hv | ⟨g, cap, cur, hv, hbg, hg, hr⟩
    · exact .inl hv
    · refine .inr ⟨g, cap, cur, hv, hbg, ?_, hr⟩
      simp only [Value.slice.injEq] at hv
      rw [hb g ?_ (.inr hv.1)]; exact hg
      rcases Nat.lt_or_ge g w.heap.size with hlt | hge
      · exact hlt
      · rw [Array.getElem?_eq_none hge] at hg; cases hg
  · obtain ⟨u, h1, h2⟩ := (he i hi).2 j hj
    exact ⟨u, h1, h2.keep hs fun b hb' hlt => hb b hlt (.inl hb'.1)⟩
theorem OwnD.under (h : OwnD ok w base E k A n c l) (hb : Below w.heap.size w w') : OwnD ok w' base E k A n c l := h.keep hb.size fun g hg _ => hb.block g hg
theorem OwnD.alloc (h : OwnD ok w base E k A n c l) (o : Obj) : OwnD ok (w.alloc o) base E k A n c l := h.under ((Below.refl _ _).alloc (Nat.le_refl _) _)
theorem OwnD.drewN (h : OwnD ok w base E k A n c l) (m : Nat) : OwnD ok (w.drewN m) base E k A n c l := h.keep (Nat.le_refl _) fun _ _ _ => rfl
theorem OwnD.mono (h : OwnD ok w base E k A n c l) (hk : ∀ b, ok b → b < w.heap.size → ok' b) : OwnD ok' w base E k A n c l := by
  obtain ⟨xs, ho, he⟩ := h.own
  exact ⟨h.len, xs, ho, fun i hi => ⟨(he i hi).1, fun j hj => by
    obtain ⟨u, h1, h2⟩ := (he i hi).2 j hj
    exact ⟨u, h1, h2.mono fun b hb hlt => ⟨hk b hb.1 hlt, hb.2⟩⟩⟩⟩
/-- a store into a block that is neither the row's nor one that its elements lead to -/
theorem OwnD.far (h : OwnD ok w base E k A n c l) {p : Addr} (hp : ∀ b, ok b → b ≠ p.block) (hA : A ≠ some ⟨p.block, 0, none⟩) (u : Value) : OwnD ok (w.setCell p u) base E k A n c l :=
  h.keep (by simp [World.setCell]) fun g _ hg => Below.heap_setCell w p u g (by
    rcases hg with hg | hg
    · exact hp g hg
    · intro e; subst e; exact hA hg)
end

section
variable {P : Program} {w : World}
/-- 'append(s, x...)': the elements of x behind those of a row of the call's own -/
theorem run_appD (ok : Nat → Prop) (base : Nat) (t ty E : TypeId) (z : Value) (k bytes : Nat) (ht : P.underlying t = some (.slice E)) (hinfo : (P.info? E).map (fun i => (i.zero, i.size, i.bytes)) = some (some z, k, bytes)) (hz : z.cells.size = k) (hk0 : 0 < k)
    (A : Option Addr) (n c : Nat) (l : List (List Dt)) (hown : OwnD ok w base E k A n c l) (A' : Option Addr) (m c' : Nat) (l' : List (List Dt)) (hm : l'.length = m)
    (hsrc : 0 < m → ∃ b o, A' = some ⟨b, o, none⟩ ∧ ∀ i (hi : i < l'.length), (l'[i]).length = k ∧ ∀ j (hj : j < (l'[i]).length), ∃ u, w.cell? ⟨b, o + i * k + j, none⟩ = some u ∧ Rd (fun b => ok b ∧ A ≠ some ⟨b, 0, none⟩) w u (l'[i])[j] ∧ u.oneCell' = true)
    (hn : n + m ≤ maxLen) (hbytes : (n + m) * bytes ≤ 140737488355328) (hbase : base ≤ w.heap.size) :
    ∃ A2 c2 w2, (Builtin.append_ #[t, t] ty #[.slice A n c, .slice A' m c']).run P w = .ok (.slice A2 (n + m) c2) w2 ∧ OwnD ok w2 base E k A2 (n + m) c2 (l ++ l') ∧
      (∀ g, g < w.heap.size → A ≠ some ⟨g, 0, none⟩ → w2.heap[g]? = w.heap[g]?) ∧ w.heap.size ≤ w2.heap.size ∧ w2.os = w.os ∧ w2.tape = w.tape ∧ w2.output = w.output ∧ (A2 = A ∨ A2 = some ⟨w.heap.size, 0, none⟩) := by
  obtain ⟨i0, hi0, hz0, hz1, hz2⟩ := info_parts hinfo
  rcases Nat.eq_zero_or_pos m with h0 | h0
  · subst h0
    obtain rfl : l' = [] := List.eq_nil_of_length_eq_zero hm
    refine ⟨A, c, w, ?_, by simpa using hown, fun _ _ _ => rfl, Nat.le_refl _, rfl, rfl, rfl, .inl rfl⟩
    obtain ⟨xs, ⟨_, ho⟩, _⟩ := hown.own
    rcases ho with ⟨hv, h0⟩ | ⟨g, cap, cur, hv, _, _, hnc, _⟩
    · simp only [Value.slice.injEq] at hv
      obtain ⟨rfl, rfl, rfl⟩ := hv
      rcases A' with _ | ad <;> simp [Builtin.append_, run_underlying ht, sizeOf, typeInfo, hi0, Builtin.lenOf, Builtin.firstCells, loadCells, loadCellsFrom]
    · simp only [Value.slice.injEq] at hv
      obtain ⟨rfl, _, rfl⟩ := hv
      rcases A' with _ | ad <;> simp [Builtin.append_, run_underlying ht, sizeOf, typeInfo, hi0, Builtin.lenOf, Builtin.firstCells, hnc, storeCells, loadCells, loadCellsFrom]
  · obtain ⟨b, o, rfl, hel⟩ := hsrc h0
    obtain ⟨xs, ho, he⟩ := hown.own
    have hdiv : ∀ q, q < m * k → q / k < m ∧ q % k < k := fun q hq => ⟨Nat.div_lt_of_lt_mul (by rwa [Nat.mul_comm] at hq), Nat.mod_lt _ hk0⟩
    have hqr : ∀ q, q / k * k + q % k = q := fun q => by rw [Nat.mul_comm]; exact Nat.div_add_mod q k
    let news : List Value := (List.range (m * k)).map fun q => (w.cell? ⟨b, o + q, none⟩).getD (.int .i64 0)
    have hnl : news.length = m * k := by simp [news]
    have hnew : ∀ i (hi : i < l'.length) j (hj : j < (l'[i]).length), ∃ u, news[i * k + j]? = some u ∧ w.cell? ⟨b, o + (i * k + j), none⟩ = some u ∧ Rd (fun b => ok b ∧ A ≠ some ⟨b, 0, none⟩) w u (l'[i])[j] ∧ u.oneCell' = true := by
      intro i hi j hj
      obtain ⟨hk, hj2⟩ := hel i hi
      obtain ⟨u, h1, h2, h3⟩ := hj2 j hj
      have hlt : i * k + j < m * k := by
        have : (i + 1) * k ≤ m * k := Nat.mul_le_mul_right k (by omega)
        rw [Nat.add_mul] at this; omega
      refine ⟨u, ?_, by rw [← Nat.add_assoc]; exact h1, h2, h3⟩
      simp only [news]
      rw [List.getElem?_map, List.getElem?_range hlt, Option.map_some, ← Nat.add_assoc, h1, Option.getD_some]
    have hall : ∀ q u, news[q]? = some u → w.cell? ⟨b, o + q, none⟩ = some u ∧ u.oneCell' = true := by
      intro q u hq
      have hlt : q < m * k := by rw [← hnl]; exact (List.getElem?_eq_some_iff.1 hq).1
      obtain ⟨h1, h2⟩ := hdiv q hlt
      obtain ⟨hk, _⟩ := hel (q / k) (by omega)
      obtain ⟨u', e1, e2, _, e3⟩ := hnew (q / k) (by omega) (q % k) (by omega)
      rw [hqr] at e1 e2
      rw [hq] at e1
      injection e1 with e1
      subst e1
      exact ⟨e2, e3⟩
    have hadd : ∀ q, (⟨b, o, none⟩ : Addr).add q = ⟨b, o + q, none⟩ := fun q => by
      unfold Addr.add
      split
      · subst q; rfl
      · rfl
    obtain ⟨v', w2, hrun, h2, h3, h4, h5⟩ := run_append_own_at (P := P) w base t ty E i0 z k bytes ht hi0 hz0 hz1 hz2 hz hk0 _ n xs ho ⟨b, o, none⟩ m c' news hnl (fun q u hq => by rw [hadd]; exact (hall q u hq).1) (by
      intro u hu
      obtain ⟨q, hq⟩ := List.getElem?_of_mem hu
      exact (hall q u hq).2) hn hbytes hbase
    obtain ⟨A2, c2, rfl, hA2⟩ : ∃ A2 c2, v' = .slice A2 (n + m) c2 ∧ ∃ g, A2 = some ⟨g, 0, none⟩ := by
      rcases h2.2 with ⟨_, h0⟩ | ⟨g, cap, cur, rfl, _⟩
      · omega
      · exact ⟨_, _, rfl, g, rfl⟩
    obtain ⟨g2, rfl⟩ := hA2
    have hAg : ∀ g, A = some ⟨g, 0, none⟩ ↔ (Value.slice A n c).ownBlock = some g := by
      intro g
      rcases hown.addr with rfl | ⟨g', rfl, _⟩
      · simp [Value.ownBlock]
      · simp [Value.ownBlock]
    have hblk : ∀ g, g < w.heap.size → A ≠ some ⟨g, 0, none⟩ → w2.heap[g]? = w.heap[g]? := fun g hg hne => h3.block g hg fun e => hne ((hAg g).2 e.symm)
    have hA2' : (some ⟨g2, 0, none⟩ : Option Addr) = A ∨ g2 = w.heap.size := by
      rcases h5 with e | e
      · left; exact ((hAg g2).2 (by rw [← e]; rfl)).symm
      · right; simpa [Value.ownBlock] using e
    have hcarry : ∀ u d, Rd (fun b => ok b ∧ A ≠ some ⟨b, 0, none⟩) w u d → Rd (fun b => ok b ∧ (some ⟨g2, 0, none⟩ : Option Addr) ≠ some ⟨b, 0, none⟩) w2 u d := by
      intro u d hr
      refine (hr.lt.mono (ok' := fun b => (ok b ∧ A ≠ some ⟨b, 0, none⟩) ∧ b < w.heap.size) fun _ h _ => h).keep h3.size (fun b hb _ => hblk b hb.2 hb.1.2) |>.mono ?_
      intro b hb _
      refine ⟨hb.1.1, ?_⟩
      rcases hA2' with e | e
      · rw [e]; exact hb.1.2
      · intro e2
        injection e2 with e2
        injection e2 with e2
        have := hb.2
        omega
    refine ⟨_, c2, w2, hrun, ⟨by rw [List.length_append, hown.len, hm], xs ++ news, h2, fun i hi => ?_⟩, hblk, h3.size, h3.os, h3.tape, h3.output, ?_⟩
    · have hxl : xs.length = n * k := ho.1
      rw [List.length_append] at hi
      by_cases hin : i < l.length
      · have hil : i < n := by rw [← hown.len]; exact hin
        have e : (l ++ l')[i]'(by rw [List.length_append]; omega) = l[i] := List.getElem_append_left hin
        simp only [e]
        refine ⟨(he i hin).1, fun j hj => ?_⟩
        obtain ⟨u, h6, h7⟩ := (he i hin).2 j hj
        refine ⟨u, ?_, hcarry _ _ h7⟩
        rw [List.getElem?_append_left ((List.getElem?_eq_some_iff.1 h6).1)]; exact h6
      · have hil : n ≤ i := by rw [← hown.len]; omega
        have hil2 : i - n < l'.length := by have := hown.len; omega
        have e : (l ++ l')[i]'(by rw [List.length_append]; omega) = l'[i - n] := by
          rw [List.getElem_append_right (by omega)]
          congr 1; have := hown.len; omega
        simp only [e]
        refine ⟨(hel _ hil2).1, fun j hj => ?_⟩
        obtain ⟨u, h6, _, h7, _⟩ := hnew (i - n) hil2 j hj
        refine ⟨u, ?_, hcarry _ _ h7⟩
        have ee : i * k + j = n * k + ((i - n) * k + j) := by
          rw [Nat.sub_mul]
          have : n * k ≤ i * k := Nat.mul_le_mul_right k hil
          omega
        rw [ee, ← hxl, List.getElem?_append_right (by omega), Nat.add_sub_cancel_left]
        exact h6
    · rcases hA2' with e | e
      · exact .inl e
      · right; rw [e]
theorem wp_appD {o : Oper} {a : Act} {K : Act → World → Prop} {Q : Exit → Act → World → Prop} (s x : Operand) (t : TypeId)
    (ho : o.op = .call { callee := .builtin .append, args := #[s, x], argTypes := #[t, t] })
    (ok : Nat → Prop) (base : Nat) (E : TypeId) (z : Value) (k bytes : Nat) (ht : P.underlying t = some (.slice E)) (hinfo : (P.info? E).map (fun i => (i.zero, i.size, i.bytes)) = some (some z, k, bytes)) (hz : z.cells.size = k) (hk0 : 0 < k)
    (A : Option Addr) (n c : Nat) (l : List (List Dt)) (hs : a.eval s = .slice A n c) (hown : OwnD ok w base E k A n c l) (A' : Option Addr) (m c' : Nat) (l' : List (List Dt)) (hx : a.eval x = .slice A' m c') (hm : l'.length = m)
    (hsrc : 0 < m → ∃ b o, A' = some ⟨b, o, none⟩ ∧ ∀ i (hi : i < l'.length), (l'[i]).length = k ∧ ∀ j (hj : j < (l'[i]).length), ∃ u, w.cell? ⟨b, o + i * k + j, none⟩ = some u ∧ Rd (fun b => ok b ∧ A ≠ some ⟨b, 0, none⟩) w u (l'[i])[j] ∧ u.oneCell' = true)
    (hn : n + m ≤ maxLen) (hbytes : (n + m) * bytes ≤ 140737488355328) (hbase : base ≤ w.heap.size)
    (h : ∀ A2 c2 w2, OwnD ok w2 base E k A2 (n + m) c2 (l ++ l') → (∀ g, g < w.heap.size → A ≠ some ⟨g, 0, none⟩ → w2.heap[g]? = w.heap[g]?) → w.heap.size ≤ w2.heap.size → w2.os = w.os → w2.tape = w.tape → w2.output = w.output → (A2 = A ∨ A2 = some ⟨w.heap.size, 0, none⟩) → K (a.put o.dst (.slice A2 (n + m) c2)) w2) : o.wp P a w K Q := by
  obtain ⟨A2, c2, w2, hrun, h2, h3, h4, h5, h6, h7, h8⟩ := run_appD (P := P) ok base t o.type E z k bytes ht hinfo hz hk0 A n c l hown A' m c' l' hm hsrc hn hbytes hbase
  unfold Oper.wp execOp
  simp only [ho, resolve, invoke, builtin, Sem.run_bind, Sem.run_pure, Result.andThen_ok, List.map_toArray, List.map_cons, List.map_nil, hs, hx, hrun]
  exact h A2 c2 w2 h2 h3 h4 h5 h6 h7 h8
theorem wpList_appD {ops : Array Oper} {rest : List Oper} {o : Oper} {a : Act} {Q : Exit → Act → World → Prop} (hgd : o.guard = none) (s x : Operand) (t : TypeId)
    (ho : o.op = .call { callee := .builtin .append, args := #[s, x], argTypes := #[t, t] })
    (ok : Nat → Prop) (base : Nat) (E : TypeId) (z : Value) (k bytes : Nat) (ht : P.underlying t = some (.slice E)) (hinfo : (P.info? E).map (fun i => (i.zero, i.size, i.bytes)) = some (some z, k, bytes)) (hz : z.cells.size = k) (hk0 : 0 < k)
    (A : Option Addr) (n c : Nat) (l : List (List Dt)) (hs : a.eval s = .slice A n c) (hown : OwnD ok w base E k A n c l) (A' : Option Addr) (m c' : Nat) (l' : List (List Dt)) (hx : a.eval x = .slice A' m c') (hm : l'.length = m)
    (hsrc : 0 < m → ∃ b o, A' = some ⟨b, o, none⟩ ∧ ∀ i (hi : i < l'.length), (l'[i]).length = k ∧ ∀ j (hj : j < (l'[i]).length), ∃ u, w.cell? ⟨b, o + i * k + j, none⟩ = some u ∧ Rd (fun b => ok b ∧ A ≠ some ⟨b, 0, none⟩) w u (l'[i])[j] ∧ u.oneCell' = true)
    (hn : n + m ≤ maxLen) (hbytes : (n + m) * bytes ≤ 140737488355328) (hbase : base ≤ w.heap.size)
    (h : ∀ A2 c2 w2, OwnD ok w2 base E k A2 (n + m) c2 (l ++ l') → (∀ g, g < w.heap.size → A ≠ some ⟨g, 0, none⟩ → w2.heap[g]? = w.heap[g]?) → w.heap.size ≤ w2.heap.size → w2.os = w.os → w2.tape = w.tape → w2.output = w.output → (A2 = A ∨ A2 = some ⟨w.heap.size, 0, none⟩) → wpList P ops Q rest (a.put o.dst (.slice A2 (n + m) c2)) w2) : wpList P ops Q (o :: rest) a w :=
  wpList_plain hgd fun _ hK => wp_appD s x t ho ok base E z k bytes ht hinfo hz hk0 A n c l hs hown A' m c' l' hx hm hsrc hn hbytes hbase fun A2 c2 w2 h2 h3 h4 h5 h6 h7 h8 => hK _ _ (h A2 c2 w2 h2 h3 h4 h5 h6 h7 h8)
theorem step_appD {ops : Array Oper} {o : Oper} {a : Act} {K : Act → World → Prop} {Q : Exit → Act → World → Prop} {F : Prop} (hgd : o.guard = none) (s x : Operand) (t : TypeId)
    (ho : o.op = .call { callee := .builtin .append, args := #[s, x], argTypes := #[t, t] })
    (ok : Nat → Prop) (base : Nat) (E : TypeId) (z : Value) (k bytes : Nat) (ht : P.underlying t = some (.slice E)) (hinfo : (P.info? E).map (fun i => (i.zero, i.size, i.bytes)) = some (some z, k, bytes)) (hz : z.cells.size = k) (hk0 : 0 < k)
    (A : Option Addr) (n c : Nat) (l : List (List Dt)) (hs : a.eval s = .slice A n c) (hown : OwnD ok w base E k A n c l) (A' : Option Addr) (m c' : Nat) (l' : List (List Dt)) (hx : a.eval x = .slice A' m c') (hm : l'.length = m)
    (hsrc : 0 < m → ∃ b o, A' = some ⟨b, o, none⟩ ∧ ∀ i (hi : i < l'.length), (l'[i]).length = k ∧ ∀ j (hj : j < (l'[i]).length), ∃ u, w.cell? ⟨b, o + i * k + j, none⟩ = some u ∧ Rd (fun b => ok b ∧ A ≠ some ⟨b, 0, none⟩) w u (l'[i])[j] ∧ u.oneCell' = true)
    (hn : n + m ≤ maxLen) (hbytes : (n + m) * bytes ≤ 140737488355328) (hbase : base ≤ w.heap.size)
    (h : ∀ A2 c2 w2, OwnD ok w2 base E k A2 (n + m) c2 (l ++ l') → (∀ g, g < w.heap.size → A ≠ some ⟨g, 0, none⟩ → w2.heap[g]? = w.heap[g]?) → w.heap.size ≤ w2.heap.size → w2.os = w.os → w2.tape = w.tape → w2.output = w.output → (A2 = A ∨ A2 = some ⟨w.heap.size, 0, none⟩) → K (a.put o.dst (.slice A2 (n + m) c2)) w2) :
    if Region.wanted o (yielded ops a.tmps) = true then Oper.wp P o a w K Q else F := by
  have hw : Region.wanted o (yielded ops a.tmps) = true := by simp [Region.wanted, hgd]
  rw [if_pos hw]
  exact wp_appD s x t ho ok base E z k bytes ht hinfo hz hk0 A n c l hs hown A' m c' l' hx hm hsrc hn hbytes hbase h
/-- 'make([]T, 0, n)' as an equation, for a region that draws its order -/
theorem run_mk0D (t E : TypeId) (z : Value) (k bytes : Nat) (ht : P.underlying t = some (.slice E)) (hinfo : (P.info? E).map (fun i => (i.zero, i.size, i.bytes)) = some (some z, k, bytes))
    (kl kc : IntKind) (C : Int) (n : Nat) (hC : C = (n : Int)) (hbytes : bytes * n ≤ 281474976710656) (hn : n ≤ maxLen) :
    ∃ CS : Array Value, CS.size = n * k ∧ ∀ w : World, (Instr.makeSlice t (.int kl 0) (.int kc C)).run P w = .ok (.slice (some ⟨w.heap.size, 0, none⟩) 0 n) (w.alloc (.cells CS E)) := by
  obtain ⟨i0, hi0, hz0, hz1, hz2⟩ := info_parts hinfo
  subst hC
  have h63' : (n : Int) ≤ 9223372036854775807 := by
    have h := hn
    simp [maxLen] at h
    omega
  have hb' : (i0.bytes : Int) * (n : Int) ≤ 281474976710656 := by
    have h : ((i0.bytes * n : Nat) : Int) ≤ 281474976710656 := by rw [hz2]; omega
    rwa [Int.natCast_mul] at h
  have hr := fun w : World => run_make (P := P) w t E i0 z ht hi0 hz0 kl kc 0 n (Int.le_refl _) (by omega) hb' h63'
  simp only [Int.toNat_zero, Int.toNat_natCast] at hr
  exact ⟨_, by rw [← hz1]; exact size_madeCells _ _, hr⟩
/-- 'make([]T, 0, n)' -/
theorem wp_mk0D {o : Oper} {a : Act} {K : Act → World → Prop} {Q : Exit → Act → World → Prop} (s x : Operand) (t : TypeId) (ho : o.op = Op.makeSlice t s x)
    (ok : Nat → Prop) (base : Nat) (E : TypeId) (z : Value) (k bytes : Nat) (ht : P.underlying t = some (.slice E)) (hinfo : (P.info? E).map (fun i => (i.zero, i.size, i.bytes)) = some (some z, k, bytes))
    (kl kc : IntKind) (C : Int) (n : Nat) (hs : a.eval s = .int kl 0) (hx : a.eval x = .int kc C) (hC : C = (n : Int)) (hbytes : bytes * n ≤ 281474976710656) (hn : n ≤ maxLen) (hbase : base ≤ w.heap.size)
    (h : ∀ w', OwnD ok w' base E k (some ⟨w.heap.size, 0, none⟩) 0 n [] → Below w.heap.size w w' → w.heap.size < w'.heap.size → K (a.put o.dst (.slice (some ⟨w.heap.size, 0, none⟩) 0 n)) w') : o.wp P a w K Q := by
  obtain ⟨i0, hi0, hz0, hz1, hz2⟩ := info_parts hinfo
  obtain ⟨w', hrun, r1, r2⟩ := run_make_own (P := P) w base t E i0 z k ht hi0 hz0 hz1 kl kc n (by rw [hz2]; exact hbytes) hn hbase
  subst hC
  unfold Oper.wp
  simp [execOp, ho, hs, hx, hrun, Result.andThen]
  have hown : OwnD ok w' base E k (some ⟨w.heap.size, 0, none⟩) 0 n [] := ⟨rfl, [], r1, fun i hi => absurd hi (by simp)⟩
  refine h w' hown ⟨r2.os, r2.tape, r2.output, r2.size, fun g hg => r2.block g hg (by simp)⟩ ?_
  rcases hown.addr with e | ⟨g, e, _, hlt⟩
  · cases e
  · injection e with e
    injection e with e
    omega
theorem step_mk0D {ops : Array Oper} {o : Oper} {a : Act} {K : Act → World → Prop} {Q : Exit → Act → World → Prop} {F : Prop} (hgd : o.guard = none) (s x : Operand) (t : TypeId) (ho : o.op = Op.makeSlice t s x)
    (ok : Nat → Prop) (base : Nat) (E : TypeId) (z : Value) (k bytes : Nat) (ht : P.underlying t = some (.slice E)) (hinfo : (P.info? E).map (fun i => (i.zero, i.size, i.bytes)) = some (some z, k, bytes))
    (kl kc : IntKind) (C : Int) (n : Nat) (hs : a.eval s = .int kl 0) (hx : a.eval x = .int kc C) (hC : C = (n : Int)) (hbytes : bytes * n ≤ 281474976710656) (hn : n ≤ maxLen) (hbase : base ≤ w.heap.size)
    (h : ∀ w', OwnD ok w' base E k (some ⟨w.heap.size, 0, none⟩) 0 n [] → Below w.heap.size w w' → w.heap.size < w'.heap.size → K (a.put o.dst (.slice (some ⟨w.heap.size, 0, none⟩) 0 n)) w') :
    if Region.wanted o (yielded ops a.tmps) = true then Oper.wp P o a w K Q else F := by
  have hw : Region.wanted o (yielded ops a.tmps) = true := by simp [Region.wanted, hgd]
  rw [if_pos hw]
  exact wp_mk0D s x t ho ok base E z k bytes ht hinfo kl kc C n hs hx hC hbytes hn hbase h
theorem wpList_mk0D {ops : Array Oper} {rest : List Oper} {o : Oper} {a : Act} {Q : Exit → Act → World → Prop} (hgd : o.guard = none) (s x : Operand) (t : TypeId) (ho : o.op = Op.makeSlice t s x)
    (ok : Nat → Prop) (base : Nat) (E : TypeId) (z : Value) (k bytes : Nat) (ht : P.underlying t = some (.slice E)) (hinfo : (P.info? E).map (fun i => (i.zero, i.size, i.bytes)) = some (some z, k, bytes))
    (kl kc : IntKind) (C : Int) (n : Nat) (hs : a.eval s = .int kl 0) (hx : a.eval x = .int kc C) (hC : C = (n : Int)) (hbytes : bytes * n ≤ 281474976710656) (hn : n ≤ maxLen) (hbase : base ≤ w.heap.size)
    (h : ∀ w', OwnD ok w' base E k (some ⟨w.heap.size, 0, none⟩) 0 n [] → Below w.heap.size w w' → w.heap.size < w'.heap.size → wpList P ops Q rest (a.put o.dst (.slice (some ⟨w.heap.size, 0, none⟩) 0 n)) w') : wpList P ops Q (o :: rest) a w :=
  wpList_plain hgd fun _ hK => wp_mk0D s x t ho ok base E z k bytes ht hinfo kl kc C n hs hx hC hbytes hn hbase fun w' h2 h3 h4 => hK _ _ (h w' h2 h3 h4)
/-- one element, which lies in a block that is known whole -/
theorem src_blk {ok : Nat → Prop} {W : World} {A : Option Addr} {g : Nat} {E : TypeId} {k : Nat} {us : Array Value} {ds : List Dt} (hB : BlkIs W g E us) (hk : ds.length = k) (h : ∀ j (hj : j < ds.length), ∃ u, us[j]? = some u ∧ Rd (fun b => ok b ∧ A ≠ some ⟨b, 0, none⟩) W u ds[j] ∧ u.oneCell' = true) :
    0 < 1 → ∃ b o, (some ⟨g, 0, none⟩ : Option Addr) = some ⟨b, o, none⟩ ∧ ∀ i (hi : i < [ds].length), ([ds][i]).length = k ∧ ∀ j (hj : j < ([ds][i]).length), ∃ u, W.cell? ⟨b, o + i * k + j, none⟩ = some u ∧ Rd (fun b => ok b ∧ A ≠ some ⟨b, 0, none⟩) W u ([ds][i])[j] ∧ u.oneCell' = true := by
  intro _
  refine ⟨_, _, rfl, fun i hi => ?_⟩
  obtain rfl : i = 0 := by simpa using hi
  refine ⟨hk, fun j hj => ?_⟩
  obtain ⟨u, h1, h2, h3⟩ := h j hj
  refine ⟨u, ?_, h2, h3⟩
  rw [Nat.zero_mul, Nat.zero_add, hB.cell j, h1]
theorem Rd.avoid {OK ok' : Nat → Prop} {w0 W : World} {v : Value} {d : Dt} {A7 : Option Addr} (hr : Rd ok' w0 v d) (hb : Below w0.heap.size w0 W) (hok : ∀ b, ok' b → b < w0.heap.size → OK b) (hA : ∀ g, A7 = some ⟨g, 0, none⟩ → w0.heap.size ≤ g) : Rd (fun b => OK b ∧ A7 ≠ some ⟨b, 0, none⟩) W v d :=
  (hr.mono fun b h hlt => ⟨hok b h hlt, fun e => by have := hA b e; omega⟩).under hb
theorem OwnD.from_ {ok : Nat → Prop} {w : World} {base : Nat} {E : TypeId} {k : Nat} {A : Option Addr} {n c : Nat} {l : List (List Dt)} (h : OwnD ok w base E k A n c l) : ∀ g, A = some ⟨g, 0, none⟩ → base ≤ g := by
  rintro g rfl
  rcases h.addr with e | ⟨g', e, hb, _⟩
  · cases e
  · injection e with e
    injection e with e
    omega
theorem OwnD.rebase {ok : Nat → Prop} {w : World} {base base' : Nat} {E : TypeId} {k : Nat} {A : Option Addr} {n c : Nat} {l : List (List Dt)} (h : OwnD ok w base E k A n c l) (hb : base' ≤ base) : OwnD ok w base' E k A n c l := by
  obtain ⟨xs, ⟨hx, ho⟩, he⟩ := h.own
  refine ⟨h.len, xs, ⟨hx, ?_⟩, he⟩
  rcases ho with hv | ⟨g, cap, cur, hv, hbg, hr⟩
  · exact .inl hv
  · exact .inr ⟨g, cap, cur, hv, Nat.le_trans hb hbg, hr⟩
/-- what appending leaves of the world that the call began in -/
theorem below_appD {a W w2 : World} {A : Option Addr} (h0 : Below a.heap.size a W) (hA : ∀ g, A = some ⟨g, 0, none⟩ → a.heap.size ≤ g) (hblk : ∀ g, g < W.heap.size → A ≠ some ⟨g, 0, none⟩ → w2.heap[g]? = W.heap[g]?) (hsz : W.heap.size ≤ w2.heap.size) (hos : w2.os = W.os) (htp : w2.tape = W.tape) (hou : w2.output = W.output) : Below a.heap.size a w2 :=
  ⟨hos.trans h0.os, htp.trans h0.tape, hou.trans h0.output, Nat.le_trans h0.size hsz, fun g hg => (hblk g (Nat.lt_of_lt_of_le hg h0.size) (fun e => by have := hA g e; omega)).trans (h0.block g hg)⟩
/-- the elements of a slice that is read -/
theorem Rd.src {ok ok' : Nat → Prop} {A A' : Option Addr} {m c' k : Nat} {l' : List (List Dt)} (h : Rd ok' w (.slice A' m c') (.row l')) (hok : ∀ b, ok' b → b < w.heap.size → ok b ∧ A ≠ some ⟨b, 0, none⟩) (hk : ∀ x ∈ l', x.length = k ∧ ∀ d ∈ x, d.one = true) :
    0 < m → ∃ b o, A' = some ⟨b, o, none⟩ ∧ ∀ i (hi : i < l'.length), (l'[i]).length = k ∧ ∀ j (hj : j < (l'[i]).length), ∃ u, w.cell? ⟨b, o + i * k + j, none⟩ = some u ∧ Rd (fun b => ok b ∧ A ≠ some ⟨b, 0, none⟩) w u (l'[i])[j] ∧ u.oneCell' = true := by
  intro h0
  obtain ⟨b, o, k', rfl, hb, _, hk', hf⟩ := h.cells h0
  have hl := h.len
  have e : k' = k := by rw [← hk' 0 (by omega)]; exact (hk _ (List.getElem_mem _)).1
  subst e
  refine ⟨b, o, rfl, fun i hi => ⟨hk' i hi, fun j hj => ?_⟩⟩
  obtain ⟨u, h1, h2⟩ := hf i j hi hj
  exact ⟨u, h1, h2.mono hok, h2.one ((hk _ (List.getElem_mem _)).2 _ (List.getElem_mem _))⟩
end
end Go.Proofs.YtgphkgmhcmffnaaGreatDoor
/- Symbols in memory. -/
namespace Go.Proofs.YtgphkgmhcmffnaaGreatDoor
open Go.RowKit

structure Sy where
  pkg : List UInt8
  name : List UInt8
  deriving DecidableEq
def Sy.enc (s : Sy) : List Dt := [.val (str s.pkg), .val (str s.name)]
theorem Sy.enc_len (s : Sy) : s.enc.length = 2 := rfl
theorem Rd.syms {ok : Nat → Prop} {w wr : World} {A : Option Addr} {n c : Nat} {l : List Sy} (h : Rd ok w (.slice A n c) (.row (l.map Sy.enc))) (hbr : Below w.heap.size w wr) {i : Nat} (hi : i < n) :
    ∃ (b o : Nat) (hl : i < l.length), A = some ⟨b, o, none⟩ ∧ b < w.heap.size ∧ ok b ∧ wr.cell? ⟨b, o + i * 2, none⟩ = some (str (l[i]).pkg) ∧ wr.cell? ⟨b, o + i * 2 + 1, none⟩ = some (str (l[i]).name) := by
  have hlen := h.len
  rw [List.length_map] at hlen
  obtain ⟨b, o, k, rfl, hb, hok, hk, hf⟩ := h.cells (by omega)
  have e : (l.map Sy.enc)[i]'(by rw [List.length_map]; omega) = (l[i]'(by omega)).enc := List.getElem_map _
  have hk' := hk i (by rw [List.length_map]; omega)
  rw [e] at hk'
  subst hk'
  obtain ⟨u0, h0, r0⟩ := hf i 0 (by rw [List.length_map]; omega) (by rw [e]; exact Nat.lt_of_sub_eq_succ rfl)
  obtain ⟨u1, h1, r1⟩ := hf i 1 (by rw [List.length_map]; omega) (by rw [e]; exact Nat.lt_of_sub_eq_succ rfl)
  simp only [e, Sy.enc, List.getElem_cons_zero, List.getElem_cons_succ] at r0 r1
  rw [r0.val_eq] at h0
  rw [r1.val_eq] at h1
  exact ⟨b, o, by omega, rfl, hb, hok, (hbr.cell (p := ⟨b, o + i * 2, none⟩) hb).trans h0, (hbr.cell (p := ⟨b, o + i * 2 + 1, none⟩) hb).trans h1⟩
end Go.Proofs.YtgphkgmhcmffnaaGreatDoor
/- An argument's slice of structs, read by index: what its elements read as, whatever the type. -/
namespace Go.Proofs.YtgphkgmhcmffnaaGreatDoor
open Go.RowKit Go.ChangeShapes Go.WideShapes Go.Deep

section
variable {H : Type} {enc : TypeId × Value → H} {P : Program} {w : World} {base : Nat} {spare : Nat → Bool} {held : Bool}
theorem str_bytes (s : ByteArray) : Value.string s = str s.data.toList := by unfold str; rfl
theorem addPlain {a : Addr} {q : Nat} {v : Value} (h : w.cell? (a.add 0) = some v) : a.add q = ⟨a.block, a.off + q, none⟩ := by
  have hs : a.spot = none := by
    unfold Addr.add at h
    simp only [if_true] at h
    unfold World.cell? at h
    split at h
    · cases hsp : a.spot with
      | none => rfl
      | some x => simp [hsp] at h
    · cases h
  unfold Addr.add
  split
  · subst q
    obtain ⟨b, o, sp⟩ := a
    simp only at hs
    subst hs
    rfl
  · rfl
/-- a row of cells reads as a list of data -/
def Reads (w : World) (cs : List Value) (ds : List Dt) : Prop := cs.length = ds.length ∧ ∀ j (hj : j < ds.length), ∃ u, cs[j]? = some u ∧ Rd (fun _ => True) w u ds[j]
theorem read_rows {α : Type} (encA : α → List Dt) (Good : α → Prop) (k : Nat) (hk : 0 < k) (hlen : ∀ a, (encA a).length = k) {t e : TypeId} {fuel : Nat} {cs : List Value} {x : DataW H × List MemPlace}
    (ht : P.underlying t = some (.slice e)) (hc : P.cellsOf e = k) (h : DataW.trod enc P w base spare held fuel t cs = some x)
    (elem : ∀ n, fuel = n + 1 → ∀ cs' y, DataW.trod enc P w base spare held n e cs' = some y → ∃ a, Good a ∧ Reads w cs' (encA a)) :
    ∃ (A : Option Addr) (n c : Nat) (l : List α), cs = [.slice A n c] ∧ Rd (fun _ => True) w (.slice A n c) (.row (l.map encA)) ∧ n ≤ maxLen ∧ ∀ a ∈ l, Good a := by
  rcases DataW.trod_slice ht h with ⟨rfl, _⟩ | ⟨a, len, cap, elems, rest, n, hfu, rfl, _, hb, hl, hm, hel, hx, _, _⟩
  · exact ⟨none, 0, 0, [], rfl, .nil _ _, Nat.zero_le _, fun s hs => by cases hs⟩
  · rw [hc] at hx
    have he : ∀ i, i < len → ∃ y : α, Good y ∧ ∀ j (hj : j < (encA y).length), ∃ u, w.cell? (a.add (i * k + j)) = some u ∧ Rd (fun _ => True) w u (encA y)[j] := by
      intro i hi
      have h1 := hx i hi
      rw [List.getElem?_eq_getElem (by omega)] at h1
      obtain ⟨cs', h2, h3⟩ := Option.bind_eq_some_iff.1 h1
      obtain ⟨y, hg, hr⟩ := elem n hfu cs' _ h3
      refine ⟨y, hg, fun j hj => ?_⟩
      obtain ⟨u, h4, h5⟩ := hr.2 j hj
      obtain ⟨_, hcl, hat⟩ := World.cells?_some h2
      have hjk : j < k := by rw [← hlen y]; exact hj
      have := hat j hjk
      rw [Go.Deep.add_add] at this
      exact ⟨u, by rw [this, h4], h5⟩
    rcases Nat.eq_zero_or_pos len with e0 | e0
    · subst e0
      exact ⟨some a, 0, cap, [], rfl, .nil _ _, Nat.zero_le _, fun s hs => by cases hs⟩
    · obtain ⟨y0, _, _⟩ := he 0 e0
      have hch : ∃ f : Nat → α, ∀ i, i < len → Good (f i) ∧ ∀ j (hj : j < (encA (f i)).length), ∃ u, w.cell? (a.add (i * k + j)) = some u ∧ Rd (fun _ => True) w u (encA (f i))[j] := by
        refine ⟨fun i => if h : i < len then Classical.choose (he i h) else y0, fun i hi => ?_⟩
        simp only [hi, dif_pos]
        exact Classical.choose_spec (he i hi)
      obtain ⟨f, hf⟩ := hch
      obtain ⟨u0, h00, _⟩ := (hf 0 e0).2 0 (by rw [hlen]; exact hk)
      have h00' : w.cell? (a.add 0) = some u0 := by simpa using h00
      have hadd : ∀ q, a.add q = ⟨a.block, a.off + q, none⟩ := fun q => addPlain h00'
      have ha : a = ⟨a.block, a.off, none⟩ := by
        have := hadd 0
        simpa [Addr.add] using this
      refine ⟨some a, len, cap, (List.range len).map f, rfl, ?_, Nat.le_trans hl hm, ?_⟩
      · rw [ha]
        refine Rd.mk (k := k) (by simp) hl (World.block_lt_of_cell? _ _ h00' |> fun h => by simpa [hadd] using h) trivial (fun i hi => ?_) (fun i j hi hj => ?_)
        · rw [List.getElem_map]; exact hlen _
        · have hi' : i < len := by simpa using hi
          simp only [List.getElem_map, List.getElem_range] at hj ⊢
          obtain ⟨u, g0, g1⟩ := (hf i hi').2 j hj
          rw [hadd] at g0
          exact ⟨u, by rw [← g0, Nat.add_assoc], g1⟩
      · intro s hs
        obtain ⟨i, hi, rfl⟩ := List.mem_map.1 hs
        exact (hf i (List.mem_range.1 hi)).1
end
end Go.Proofs.YtgphkgmhcmffnaaGreatDoor
/- lispprovermake.Raw: trees of numbers and strings; how one lies in memory; arguments opened. -/
namespace Go.Proofs.YtgphkgmhcmffnaaGreatDoor
open Go.RowKit Go.ChangeShapes Go.WideShapes Go.Deep

structure Raw where
  kind : Int
  n : Int
  s : List UInt8
  l : List Raw
namespace Raw
mutual
def enc : Raw → List Dt
  | ⟨k, n, s, l⟩ => [.val (.int .i64 k), .val (.int .i64 n), .val (str s), .row (encL l)]
def encL : List Raw → List (List Dt)
  | [] => []
  | o :: r => enc o :: encL r
end
mutual
def size : Raw → Nat
  | ⟨_, _, _, l⟩ => sizeL l + 1
def sizeL : List Raw → Nat
  | [] => 0
  | o :: r => size o + sizeL r
end
theorem encL_map (l : List Raw) : encL l = l.map enc := by
  induction l with
  | nil => rfl
  | cons o r ih => rw [encL, ih]; rfl
theorem enc_eq (o : Raw) : o.enc = [.val (.int .i64 o.kind), .val (.int .i64 o.n), .val (str o.s), .row (o.l.map enc)] := by
  cases o; rw [enc, encL_map]
theorem enc_len (o : Raw) : o.enc.length = 4 := by rw [enc_eq]; rfl
theorem size_pos (o : Raw) : 0 < o.size := by cases o; rw [size]; omega
theorem sizeL_mem {l : List Raw} {o : Raw} (h : o ∈ l) : o.size ≤ sizeL l := by
  induction l with
  | nil => cases h
  | cons x r ih =>
    rw [sizeL]
    rcases List.mem_cons.1 h with rfl | h
    · omega
    · have := ih h; omega
theorem size_l {o x : Raw} (h : x ∈ o.l) : x.size < o.size := by
  obtain ⟨k, n, s, l⟩ := o
  rw [size]
  have := sizeL_mem (l := l) h
  omega
theorem ind {motive : Raw → Prop} (step : ∀ o, (∀ x ∈ o.l, motive x) → motive o) (o : Raw) : motive o := by
  have : ∀ n (o : Raw), o.size ≤ n → motive o := by
    intro n
    induction n with
    | zero => intro o h; have := size_pos o; omega
    | succ n ih => intro o h; exact step o fun x hx => ih x (by have := size_l hx; omega)
  exact this o.size o (Nat.le_refl _)
/-- numbers and lengths within Go's bounds, all the way down -/
inductive Wf : Raw → Prop
  | mk (o : Raw) (k0 : -9223372036854775808 ≤ o.kind) (k1 : o.kind ≤ 9223372036854775807) (n0 : -9223372036854775808 ≤ o.n) (n1 : o.n ≤ 9223372036854775807) (hs : o.s.length ≤ 9223372036854775807) (hl : o.l.length ≤ 9223372036854775807) (h : ∀ x ∈ o.l, Wf x) : Wf o
end Raw
abbrev rawV (o : Raw) (P : Value) : Value := .agg #[.int .i64 o.kind, .int .i64 o.n, str o.s, P]
theorem Rd.raws {ok : Nat → Prop} {w wr : World} {A : Option Addr} {n c : Nat} {l : List Raw} (h : Rd ok w (.slice A n c) (.row (l.map Raw.enc))) (hbr : Below w.heap.size w wr) {i : Nat} (hi : i < n) :
    ∃ (b o : Nat) (hl : i < l.length) (A' : Option Addr) (n' c' : Nat), A = some ⟨b, o, none⟩ ∧ b < w.heap.size ∧ ok b ∧
      wr.cell? ⟨b, o + i * 4, none⟩ = some (.int .i64 (l[i]).kind) ∧ wr.cell? ⟨b, o + i * 4 + 1, none⟩ = some (.int .i64 (l[i]).n) ∧ wr.cell? ⟨b, o + i * 4 + 2, none⟩ = some (str (l[i]).s) ∧ wr.cell? ⟨b, o + i * 4 + 3, none⟩ = some (.slice A' n' c') ∧ Rd ok w (.slice A' n' c') (.row ((l[i]).l.map Raw.enc)) := by
  have hlen := h.len
  rw [List.length_map] at hlen
  obtain ⟨b, o, k, rfl, hb, hok, hk, hf⟩ := h.cells (by omega)
  have e : (l.map Raw.enc)[i]'(by rw [List.length_map]; omega) = (l[i]'(by omega)).enc := List.getElem_map _
  have hk' := hk i (by rw [List.length_map]; omega)
  rw [e, Raw.enc_len] at hk'
  subst hk'
  have hf' : ∀ j (hj : j < 4), ∃ u, w.cell? ⟨b, o + i * 4 + j, none⟩ = some u ∧ Rd ok w u ((l[i]'(by omega)).enc[j]'(by rw [Raw.enc_len]; exact hj)) := fun j hj => by
    obtain ⟨u, h1, h2⟩ := hf i j (by rw [List.length_map]; omega) (by rw [e, Raw.enc_len]; exact hj)
    simp only [e] at h2
    exact ⟨u, h1, h2⟩
  simp only [Raw.enc_eq] at hf'
  obtain ⟨u0, h0, r0⟩ := hf' 0 (by omega)
  obtain ⟨u1, h1, r1⟩ := hf' 1 (by omega)
  obtain ⟨u2, h2, r2⟩ := hf' 2 (by omega)
  obtain ⟨u3, h3, r3⟩ := hf' 3 (by omega)
  simp only [List.getElem_cons_zero, List.getElem_cons_succ] at r0 r1 r2 r3
  rw [r0.val_eq] at h0
  rw [r1.val_eq] at h1
  rw [r2.val_eq] at h2
  obtain ⟨A', n', c', rfl, _⟩ := r3.slice
  exact ⟨b, o, by omega, A', n', c', rfl, hb, hok, (hbr.cell (p := ⟨b, o + i * 4, none⟩) hb).trans h0, (hbr.cell (p := ⟨b, o + i * 4 + 1, none⟩) hb).trans h1, (hbr.cell (p := ⟨b, o + i * 4 + 2, none⟩) hb).trans h2, (hbr.cell (p := ⟨b, o + i * 4 + 3, none⟩) hb).trans h3, r3⟩

/-! ### arguments -/
section
variable {H : Type} {enc : TypeId × Value → H} {w : World} {base : Nat} {spare : Nat → Bool} {held : Bool}
theorem cellsRaw : Tryz.prog.cellsOf 41 = 4 := by kernel_rfl
theorem cellsI : Tryz.prog.cellsOf 3 = 1 := by kernel_rfl
theorem cellsS : Tryz.prog.cellsOf 9 = 1 := by kernel_rfl
theorem cellsRs : Tryz.prog.cellsOf 39 = 1 := by kernel_rfl
theorem bytes_le {s : ByteArray} (h : s.size ≤ maxLen) : s.data.toList.length ≤ 9223372036854775807 := by unfold maxLen at h; rw [← Lib.size_eq]; exact h
set_option maxRecDepth 100000 in
theorem read_raw : ∀ (fuel : Nat) (cs : List Value) (x : DataW H × List MemPlace), DataW.trod enc Tryz.prog w base spare held fuel 41 cs = some x → ∃ r : Raw, r.Wf ∧ Reads w cs r.enc := by
  intro fuel
  induction fuel using Nat.strongRecOn with
  | _ fuel ih =>
    intro cs x h
    obtain ⟨xs, n, hfu, _, hlen, hxl, hf⟩ := DataW.trod_struct Tryz.underlying41 h
    rw [cellsRaw] at hlen
    match cs, hlen with
    | [c0, c1, c2, c3], _ =>
      have f0 : DataW.trod enc Tryz.prog w base spare held n 3 (List.take (Tryz.prog.cellsOf 3) (List.drop 0 [c0, c1, c2, c3])) = xs[0]? := hf 0 _ rfl
      have f1 : DataW.trod enc Tryz.prog w base spare held n 3 (List.take (Tryz.prog.cellsOf 3) (List.drop 1 [c0, c1, c2, c3])) = xs[1]? := hf 1 _ rfl
      have f2 : DataW.trod enc Tryz.prog w base spare held n 9 (List.take (Tryz.prog.cellsOf 9) (List.drop 2 [c0, c1, c2, c3])) = xs[2]? := hf 2 _ rfl
      have f3 : DataW.trod enc Tryz.prog w base spare held n 39 (List.take (Tryz.prog.cellsOf 39) (List.drop 3 [c0, c1, c2, c3])) = xs[3]? := hf 3 _ rfl
      rw [cellsI] at f0 f1
      rw [cellsS] at f2
      rw [cellsRs] at f3
      match xs, hxl with
      | [y0, y1, y2, y3], _ =>
        replace f0 : DataW.trod enc Tryz.prog w base spare held n 3 [c0] = some y0 := f0
        replace f1 : DataW.trod enc Tryz.prog w base spare held n 3 [c1] = some y1 := f1
        replace f2 : DataW.trod enc Tryz.prog w base spare held n 9 [c2] = some y2 := f2
        replace f3 : DataW.trod enc Tryz.prog w base spare held n 39 [c3] = some y3 := f3
        obtain ⟨k, e0, _, w0⟩ := DataW.trod_int Tryz.underlying3 f0
        obtain ⟨m, e1, _, w1⟩ := DataW.trod_int Tryz.underlying3 f1
        obtain ⟨s, e2, _, w2⟩ := DataW.trod_string Tryz.underlying9 f2
        obtain ⟨A, n', c', l, e3, hr, hn, hg⟩ := read_rows Raw.enc Raw.Wf 4 (by omega) Raw.enc_len Tryz.underlying39 cellsRaw f3 (fun n'' hn'' cs' y hy => ih n'' (by omega) cs' y hy)
        injection e0 with e0
        injection e1 with e1
        injection e2 with e2
        injection e3 with e3
        have b0 := bounds_i64 w0
        have b1 := bounds_i64 w1
        have hll : l.length = n' := by have := hr.len; rwa [List.length_map] at this
        refine ⟨⟨k, m, s.data.toList, l⟩, .mk _ b0.1 b0.2 b1.1 b1.2 (bytes_le w2) (by show l.length ≤ _; rw [hll]; unfold maxLen at hn; exact hn) hg, by rw [Raw.enc_len]; rfl, fun j hj => ?_⟩
        simp only [Raw.enc_eq]
        rw [Raw.enc_len] at hj
        rcases j with _ | _ | _ | _ | j
        · exact ⟨c0, rfl, by rw [e0]; exact .val _⟩
        · exact ⟨c1, rfl, by rw [e1]; exact .val _⟩
        · exact ⟨c2, rfl, by rw [e2, str_bytes]; exact .val _⟩
        · exact ⟨c3, rfl, by rw [e3]; exact hr⟩
        · omega
end
end Go.Proofs.YtgphkgmhcmffnaaGreatDoor
