/- Rows of integers that a call itself has made: append of one element, make, stores; in words of lists of natural numbers. -/
import Derived.Test.YtcdgckbdplkdbaaDoorMem
import Derived.OwnWalk
namespace Go.Proofs.YtcdgckbdplkdbaaDoor
open Go.RowKit

/-- the slice '.slice A n c' is the call's own (from block base on) and holds the numbers l -/
structure Own (w : World) (base : Nat) (E : TypeId) (k : IntKind) (A : Option Addr) (n c : Nat) (l : List Nat) : Prop where
  own : w.ownsRow base E 1 (.slice A n c) n (l.map fun x => Value.int k (x : Nat))

section
variable {w w' : World} {base : Nat} {E : TypeId} {k : IntKind} {A : Option Addr} {n c : Nat} {l : List Nat}
theorem Own.len (h : Own w base E k A n c l) : l.length = n := by have := h.own.1; simpa using this
theorem Own.nil (w : World) (base : Nat) (E : TypeId) (k : IntKind) : Own w base E k none 0 0 [] := ⟨World.ownsRow_nil w base E 1⟩
theorem Own.sl (h : Own w base E k A n c l) : Sl w k A n c l := by
  have hlen := h.len
  rcases h.own.2 with ⟨hv, hn⟩ | ⟨g, cap, cur, hv, hbg, hg, hnc, hcm, hcs, ht⟩
  · refine ⟨hlen, by omega, fun h0 => by omega⟩
  · simp only [Value.slice.injEq] at hv
    obtain ⟨rfl, _, rfl⟩ := hv
    refine ⟨hlen, hnc, fun _ => ⟨g, 0, rfl, ?_, fun i hi => ?_⟩⟩
    · rcases Nat.lt_or_ge g w.heap.size with hlt | hge
      · exact hlt
      · rw [Array.getElem?_eq_none hge] at hg; cases hg
    · have e : cur[i]? = some (Value.int k (l.getD i 0 : Nat)) := by
        have h1 : (cur.toList.take (n * 1))[i]? = (l.map fun x => Value.int k (x : Nat))[i]? := by rw [ht]
        rw [List.getElem?_take_of_lt (by omega), List.getElem?_map, List.getElem?_eq_getElem (l := l) (by omega)] at h1
        rw [List.getD_eq_getElem?_getD, List.getElem?_eq_getElem (by omega)]
        simpa using h1
      rw [Nat.zero_add]
      simp [World.cell?, hg, e]
/-- where something is held, it lies in a block of the call's own -/
theorem Own.at_ (h : Own w base E k A n c l) (hn : 0 < n) : ∃ g, A = some ⟨g, 0, none⟩ ∧ base ≤ g ∧ g < w.heap.size ∧ (∀ i, w.frozen? ⟨g, i, none⟩ = false) ∧ ∀ i, i < n → w.cell? ⟨g, i, none⟩ = some (.int k (l.getD i 0 : Nat)) := by
  obtain ⟨b, o, e, hb, hc⟩ := h.sl.cells hn
  rcases h.own.2 with ⟨hv, hn'⟩ | ⟨g, cap, cur, hv, hbg, hg, _⟩
  · omega
  · simp only [Value.slice.injEq] at hv
    obtain ⟨rfl, _, rfl⟩ := hv
    injection e with e
    injection e with e1 e2
    subst e1 e2
    exact ⟨g, rfl, hbg, hb, fun i => by simp [World.frozen?, hg], fun i hi => by have := hc i hi; rwa [Nat.zero_add] at this⟩
theorem Own.keep (h : Own w base E k A n c l) (hk : ∀ g, A = some ⟨g, 0, none⟩ → w'.heap[g]? = w.heap[g]?) : Own w' base E k A n c l := by
  refine ⟨h.own.1, ?_⟩
  rcases h.own.2 with hv | ⟨g, cap, cur, hv, hbg, hg, hr⟩
  · exact .inl hv
  · refine .inr ⟨g, cap, cur, hv, hbg, ?_, hr⟩
    simp only [Value.slice.injEq] at hv
    rw [hk g hv.1]; exact hg
theorem Own.lt (h : Own w base E k A n c l) {g : Nat} (e : A = some ⟨g, 0, none⟩) : base ≤ g ∧ g < w.heap.size := by
  rcases h.own.2 with ⟨hv, _⟩ | ⟨g', cap, cur, hv, hbg, hg, _⟩
  · simp only [Value.slice.injEq] at hv; rw [e] at hv; cases hv.1
  · simp only [Value.slice.injEq] at hv
    obtain ⟨rfl, _, rfl⟩ := hv
    injection e with e
    injection e with e1
    subst e1
    refine ⟨hbg, ?_⟩
    rcases Nat.lt_or_ge g' w.heap.size with hlt | hge
    · exact hlt
    · rw [Array.getElem?_eq_none hge] at hg; cases hg
theorem Own.below (h : Own w base E k A n c l) (hb : Below w.heap.size w w') : Own w' base E k A n c l :=
  h.keep fun g e => hb.block g (h.lt e).2
theorem Own.alloc (h : Own w base E k A n c l) (o : Obj) : Own (w.alloc o) base E k A n c l :=
  h.keep fun g e => Below.heap_alloc w o g (h.lt e).2
theorem Own.drewN (h : Own w base E k A n c l) (m : Nat) : Own (w.drewN m) base E k A n c l := h.keep fun _ _ => rfl
theorem Own.rebase (h : Own w base E k A n c l) {base' : Nat} (hb : base' ≤ base) : Own w base' E k A n c l := by
  refine ⟨h.own.1, ?_⟩
  rcases h.own.2 with hv | ⟨g, cap, cur, hv, hbg, hr⟩
  · exact .inl hv
  · exact .inr ⟨g, cap, cur, hv, Nat.le_trans hb hbg, hr⟩
theorem Own.set {g i y : Nat} (h : Own w base E k (some ⟨g, 0, none⟩) n c l) : Own (w.setCell ⟨g, i, none⟩ (.int k (y : Nat))) base E k (some ⟨g, 0, none⟩) n c (l.set i y) := by
  have hlen := h.len
  refine ⟨by simp [hlen], ?_⟩
  rcases h.own.2 with ⟨hv, _⟩ | ⟨g', cap, cur, hv, hbg, hg, hnc, hcm, hcs, ht⟩
  · simp only [Value.slice.injEq] at hv; cases hv.1
  · simp only [Value.slice.injEq] at hv
    obtain ⟨e, _, rfl⟩ := hv
    injection e with e
    injection e with e1
    subst e1
    refine .inr ⟨g, c, cur.setIfInBounds i (.int k (y : Nat)), rfl, hbg, ?_, hnc, hcm, by simpa using hcs, ?_⟩
    · simp [World.setCell, Array.getElem?_modify, hg]
    · rw [Array.toList_setIfInBounds, List.take_set, ht, List.map_set]
end

theorem Own.cellAt {w : World} {base : Nat} {E : TypeId} {k : IntKind} {g n c i : Nat} {l : List Nat} (h : Own w base E k (some ⟨g, 0, none⟩) n c l) (hi : i < n) :
    w.cell? ⟨g, i, none⟩ = some (.int k (l.getD i 0 : Nat)) ∧ w.frozen? ⟨g, i, none⟩ = false ∧ base ≤ g ∧ g < w.heap.size := by
  obtain ⟨g', e, h1, h2, h3, h4⟩ := h.at_ (by omega)
  injection e with e
  injection e with e1
  subst e1
  exact ⟨h4 i hi, h3 i, h1, h2⟩
theorem Own.setInt {w : World} {base : Nat} {E : TypeId} {k : IntKind} {g n c i y : Nat} {l l' : List Nat} {d : Int} (h : Own w base E k (some ⟨g, 0, none⟩) n c l) (hd : d = (y : Int)) (hl : l.set i y = l') :
    Own (w.setCell ⟨g, i, none⟩ (.int k d)) base E k (some ⟨g, 0, none⟩) n c l' := by
  subst hd hl
  exact h.set
theorem Own.fresh {w : World} {base : Nat} {E : TypeId} {k : IntKind} {A : Option Addr} {n c : Nat} {l : List Nat} (h : Own w base E k A n c l) : ∀ b o, A = some ⟨b, o, none⟩ → base ≤ b := by
  rintro b o rfl
  rcases h.own.2 with ⟨hv, _⟩ | ⟨g, cap, cur, hv, hbg, _⟩
  · simp only [Value.slice.injEq] at hv; cases hv.1
  · simp only [Value.slice.injEq] at hv
    obtain ⟨e, _⟩ := hv
    injection e with e
    injection e with e1
    subst e1
    exact hbg
theorem set_replicate (o : List Nat) (n k y : Nat) (hk : k < n) (ho : o.length = k) : (o ++ List.replicate (n - k) 0).set k y = (o ++ [y]) ++ List.replicate (n - (k + 1)) 0 := by
  subst ho
  rw [List.set_append_right _ _ (Nat.le_refl _), Nat.sub_self, show n - o.length = (n - (o.length + 1)) + 1 by omega, List.replicate_succ]
  simp

/-- 'append(s, y)': one element onto a row of the call's own -/
theorem wpList_app {P : Program} {w0 W : World} {ops : Array Oper} {rest : List Oper} {o : Oper} {a : Act} {Q : Exit → Act → World → Prop} (hgd : o.guard = none) (s x : Operand) (t : TypeId)
    (ho : o.op = .call { callee := .builtin .append, args := #[s, x], argTypes := #[t, t] })
    (E : TypeId) (k : IntKind) (bytes : Nat) (ht : P.underlying t = some (.slice E)) (hinfo : (P.info? E).map (fun i => (i.zero, i.size, i.bytes)) = some (some (.int k 0), 1, bytes)) (hbytes : bytes ≤ 8)
    (A : Option Addr) (n c : Nat) (l : List Nat) (hs : a.eval s = .slice A n c) (hown : Own W w0.heap.size E k A n c l)
    (d : Int) (y : Nat) (hd : d = (y : Int)) (hx : a.eval x = .slice (some ⟨W.heap.size, 0, none⟩) 1 1) (hn : n ≤ 1000000000000) (hB : Below w0.heap.size w0 W)
    (h : ∀ A' c' w', Own w' w0.heap.size E k A' (n + 1) c' (l ++ [y]) → Below w0.heap.size w0 w' → (∀ g, g < W.heap.size → A ≠ some ⟨g, 0, none⟩ → w'.heap[g]? = W.heap[g]?) → W.heap.size ≤ w'.heap.size → (A' = A ∨ A' = some ⟨W.heap.size + 1, 0, none⟩) →
      wpList P ops Q rest (a.put o.dst (.slice A' (n + 1) c')) w') :
    wpList P ops Q (o :: rest) a (W.alloc (.cells #[.int k d] E)) := by
  subst hd
  obtain ⟨i0, hi0, hz0, hz1, hz2⟩ := info_parts hinfo
  refine wpList_append_own_at (P := P) _ hgd s x t ho w0.heap.size E i0 (.int k 0) 1 bytes ht hi0 hz0 hz1 hz2 rfl (by omega) _ n _ hs (hown.alloc _).own ⟨W.heap.size, 0, none⟩ 1 1 [.int k (y : Int)] hx rfl
    (cell_one_new _ _ _) (by simp [Value.oneCell']) (by unfold maxLen; omega) (by
      have : (n + 1) * bytes ≤ 1000000000001 * 8 := Nat.mul_le_mul (by omega) hbytes
      omega) (by have := hB.size; simp; omega) ?_
  intro v' w' hown' hg _ hat
  have hlt : ∀ g, A = some ⟨g, 0, none⟩ → w0.heap.size ≤ g := fun g e => (hown.lt e).1
  have hown2 : w'.ownsRow w0.heap.size E 1 v' (n + 1) ((l ++ [y]).map fun x => Value.int k (x : Nat)) := by simpa using hown'
  obtain ⟨A', c', rfl⟩ : ∃ A' c', v' = .slice A' (n + 1) c' := by
    rcases hown'.2 with ⟨_, h0⟩ | ⟨g, cap, cur, rfl, _⟩
    · omega
    · exact ⟨_, _, rfl⟩
  have hAn : A = none ∨ ∃ g, A = some ⟨g, 0, none⟩ := by
    rcases hown.own.2 with ⟨hv, _⟩ | ⟨g, cap, cur, hv, _⟩
    · simp only [Value.slice.injEq] at hv; exact .inl hv.1
    · simp only [Value.slice.injEq] at hv; exact .inr ⟨g, hv.1⟩
  have hblk : ∀ g, g < W.heap.size → A ≠ some ⟨g, 0, none⟩ → w'.heap[g]? = W.heap[g]? := fun g hgl hne =>
    (hg.block g (by simp; omega) (fun e => by
      rcases hAn with rfl | ⟨g', rfl⟩
      · simp [Value.ownBlock] at e
      · simp [Value.ownBlock] at e; subst e; exact hne rfl)).trans (Below.heap_alloc W _ g hgl)
  have hsz : W.heap.size ≤ w'.heap.size := by have := hg.size; simp at this; omega
  refine h A' c' w' ⟨hown2⟩ ⟨hg.os.trans hB.os, hg.tape.trans hB.tape, hg.output.trans hB.output, Nat.le_trans hB.size hsz, fun i hi => ?_⟩ hblk hsz ?_
  · exact (hblk i (Nat.lt_of_lt_of_le hi hB.size) (fun e => by have := hlt i e; omega)).trans (hB.block i hi)
  · rcases hown'.2 with ⟨_, h0⟩ | ⟨g, cap, cur, hv, _⟩
    · omega
    · simp only [Value.slice.injEq] at hv
      obtain ⟨rfl, _, rfl⟩ := hv
      rcases hat with e | e
      · rcases hAn with rfl | ⟨g', rfl⟩
        · simp [Value.ownBlock] at e
        · simp [Value.ownBlock] at e; subst e; exact .inl rfl
      · simp [Value.ownBlock] at e; subst e; exact .inr rfl

theorem made_nat (k : IntKind) (n : Nat) : (madeCells (Value.int k 0).cells (n * 1)).toList = (List.replicate n 0).map fun x => Value.int k (x : Nat) := by
  simp only [madeCells, Value.cells, Nat.mul_one]
  apply List.ext_getElem
  · simp
  · intro i h1 h2
    simp [Nat.mod_one]

/-- 'make([]T, n)' -/
theorem wpList_mk {P : Program} {w0 W : World} {ops : Array Oper} {rest : List Oper} {o : Oper} {a : Act} {Q : Exit → Act → World → Prop} (hgd : o.guard = none) (s x : Operand) (t : TypeId) (ho : o.op = Op.makeSlice t s x)
    (E : TypeId) (k : IntKind) (bytes : Nat) (ht : P.underlying t = some (.slice E)) (hinfo : (P.info? E).map (fun i => (i.zero, i.size, i.bytes)) = some (some (.int k 0), 1, bytes)) (hbytes : bytes ≤ 8)
    (kl kc : IntKind) (L C : Int) (n : Nat) (hs : a.eval s = .int kl L) (hx : a.eval x = .int kc C) (hL : L = (n : Int)) (hC : C = (n : Int)) (hn : n ≤ 1000000000000) (hB : Below w0.heap.size w0 W)
    (h : ∀ w', Own w' w0.heap.size E k (some ⟨W.heap.size, 0, none⟩) n n (List.replicate n 0) → Below w0.heap.size w0 w' → Below W.heap.size W w' → W.heap.size < w'.heap.size → wpList P ops Q rest (a.put o.dst (.slice (some ⟨W.heap.size, 0, none⟩) n n)) w') :
    wpList P ops Q (o :: rest) a W := by
  obtain ⟨i0, hi0, hz0, hz1, hz2⟩ := info_parts hinfo
  refine wpList_make_full (P := P) W hgd s x t ho w0.heap.size E i0 (.int k 0) 1 ht hi0 hz0 hz1 kl kc L C n hs hx hL hC (by
    rw [hz2]
    have : bytes * n ≤ 8 * 1000000000000 := Nat.mul_le_mul hbytes hn
    omega) (by unfold maxLen; omega) hB.size ?_
  intro w' hown hg
  rw [made_nat] at hown
  have hb : Below W.heap.size W w' := ⟨hg.os, hg.tape, hg.output, hg.size, fun i hi => hg.block i hi (by simp)⟩
  have hown' : Own w' w0.heap.size E k (some ⟨W.heap.size, 0, none⟩) n n (List.replicate n 0) := ⟨hown⟩
  exact h w' hown' (hB.trans (hb.mono hB.size)) hb (hown'.lt rfl).2
/-- 'make([]T, 0, n)' -/
theorem wpList_mk0 {P : Program} {w0 W : World} {ops : Array Oper} {rest : List Oper} {o : Oper} {a : Act} {Q : Exit → Act → World → Prop} (hgd : o.guard = none) (s x : Operand) (t : TypeId) (ho : o.op = Op.makeSlice t s x)
    (E : TypeId) (k : IntKind) (bytes : Nat) (ht : P.underlying t = some (.slice E)) (hinfo : (P.info? E).map (fun i => (i.zero, i.size, i.bytes)) = some (some (.int k 0), 1, bytes)) (hbytes : bytes ≤ 8)
    (kl kc : IntKind) (C : Int) (n : Nat) (hs : a.eval s = .int kl 0) (hx : a.eval x = .int kc C) (hC : C = (n : Int)) (hn : n ≤ 1000000000000) (hB : Below w0.heap.size w0 W)
    (h : ∀ w', Own w' w0.heap.size E k (some ⟨W.heap.size, 0, none⟩) 0 n [] → Below w0.heap.size w0 w' → Below W.heap.size W w' → W.heap.size < w'.heap.size → wpList P ops Q rest (a.put o.dst (.slice (some ⟨W.heap.size, 0, none⟩) 0 n)) w') :
    wpList P ops Q (o :: rest) a W := by
  obtain ⟨i0, hi0, hz0, hz1, hz2⟩ := info_parts hinfo
  refine wpList_make_own (P := P) W hgd s x t ho w0.heap.size E i0 (.int k 0) 1 ht hi0 hz0 hz1 kl kc C n hs hx hC (by
    rw [hz2]
    have : bytes * n ≤ 8 * 1000000000000 := Nat.mul_le_mul hbytes hn
    omega) (by unfold maxLen; omega) hB.size ?_
  intro w' hown hg
  have hb : Below W.heap.size W w' := ⟨hg.os, hg.tape, hg.output, hg.size, fun i hi => hg.block i hi (by simp)⟩
  have hown' : Own w' w0.heap.size E k (some ⟨W.heap.size, 0, none⟩) 0 n [] := ⟨hown⟩
  exact h w' hown' (hB.trans (hb.mono hB.size)) hb (hown'.lt rfl).2
end Go.Proofs.YtcdgckbdplkdbaaDoor
