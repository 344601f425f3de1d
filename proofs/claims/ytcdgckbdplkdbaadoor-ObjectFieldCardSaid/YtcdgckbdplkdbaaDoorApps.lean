/- 'append(s, x...)' onto a row of the call's own, whatever slice x is; the law for a region that draws its order. -/
import Derived.Test.YtcdgckbdplkdbaaDoorOwn
import Derived.Maps.AppendAt
namespace Go.Proofs.YtcdgckbdplkdbaaDoor
open Go.RowKit

section
variable {P : Program} {w : World}
theorem run_apps (base : Nat) (t ty E : TypeId) (k : IntKind) (bytes : Nat) (ht : P.underlying t = some (.slice E)) (hinfo : (P.info? E).map (fun i => (i.zero, i.size, i.bytes)) = some (some (.int k 0), 1, bytes)) (hbytes : bytes ≤ 8)
    (A : Option Addr) (n c : Nat) (l : List Nat) (hown : Own w base E k A n c l) (A' : Option Addr) (m c' : Nat) (l' : List Nat) (hs : Sl w k A' m c' l')
    (hn : n + m ≤ 1000000000000) (hbase : base ≤ w.heap.size) :
    ∃ A2 c2 w2, (Builtin.append_ #[t, t] ty #[.slice A n c, .slice A' m c']).run P w = .ok (.slice A2 (n + m) c2) w2 ∧ Own w2 base E k A2 (n + m) c2 (l ++ l') ∧
      (∀ g, g < w.heap.size → A ≠ some ⟨g, 0, none⟩ → w2.heap[g]? = w.heap[g]?) ∧ w.heap.size ≤ w2.heap.size ∧ w2.os = w.os ∧ w2.tape = w.tape ∧ w2.output = w.output := by
  obtain ⟨i0, hi0, hz0, hz1, hz2⟩ := info_parts hinfo
  have hAn : A = none ∨ ∃ g, A = some ⟨g, 0, none⟩ := by
    rcases hown.own.2 with ⟨hv, _⟩ | ⟨g, cap, cur, hv, _⟩
    · simp only [Value.slice.injEq] at hv; exact .inl hv.1
    · simp only [Value.slice.injEq] at hv; exact .inr ⟨g, hv.1⟩
  rcases A' with _ | ad
  · have hm : m = 0 := by
      rcases Nat.eq_zero_or_pos m with h0 | h0
      · exact h0
      · obtain ⟨b, o, e, _⟩ := hs.cells h0; cases e
    subst hm
    have hl : l' = [] := List.eq_nil_of_length_eq_zero hs.len
    subst hl
    refine ⟨A, c, w, ?_, by simpa using hown, fun _ _ _ => rfl, Nat.le_refl _, rfl, rfl, rfl⟩
    rcases hown.own.2 with ⟨hv, h0⟩ | ⟨g, cap, cur, hv, _, _, hnc, _⟩
    · simp only [Value.slice.injEq] at hv
      obtain ⟨rfl, rfl, rfl⟩ := hv
      simp [Builtin.append_, run_underlying ht, sizeOf, typeInfo, hi0, Builtin.lenOf, Builtin.firstCells]
    · simp only [Value.slice.injEq] at hv
      obtain ⟨rfl, _, rfl⟩ := hv
      simp [Builtin.append_, run_underlying ht, sizeOf, typeInfo, hi0, Builtin.lenOf, Builtin.firstCells, hnc, storeCells]
  · have hcells : ∀ j u, (l'.map fun x => Value.int k (x : Nat))[j]? = some u → w.cell? (ad.add j) = some u := by
      intro j u hu
      have hj : j < m := by
        rw [← hs.len]
        rcases Nat.lt_or_ge j l'.length with h | h
        · exact h
        · rw [List.getElem?_eq_none (by simpa using h)] at hu; cases hu
      obtain ⟨b, o, e, _, hc⟩ := hs.cells (by omega)
      injection e with e
      subst e
      have e2 : (⟨b, o, none⟩ : Addr).add j = ⟨b, o + j, none⟩ := by
        unfold Addr.add
        split
        · subst j; rfl
        · rfl
      rw [e2, hc j hj]
      rw [List.getElem?_map, List.getElem?_eq_getElem (by rw [hs.len]; exact hj)] at hu
      rw [List.getD_eq_getElem?_getD, List.getElem?_eq_getElem (by rw [hs.len]; exact hj)]
      simpa using hu
    obtain ⟨v', w', hrun, h2, h3, h4, h5⟩ := run_append_own_at (P := P) w base t ty E i0 (.int k 0) 1 bytes ht hi0 hz0 hz1 hz2 rfl (by omega) _ n _ hown.own ad m c' (l'.map fun x => Value.int k (x : Nat)) (by simp [hs.len]) hcells (by
      intro u hu
      obtain ⟨x, _, rfl⟩ := List.mem_map.1 hu
      rfl) (by unfold maxLen; omega) (by
      have : (n + m) * bytes ≤ 1000000000000 * 8 := Nat.mul_le_mul hn hbytes
      omega) hbase
    obtain ⟨A2, c2, rfl⟩ : ∃ A2 c2, v' = .slice A2 (n + m) c2 := by
      rcases h2.2 with ⟨rfl, h0⟩ | ⟨g, cap, cur, rfl, _⟩
      · exact ⟨none, 0, by rw [h0]⟩
      · exact ⟨_, _, rfl⟩
    refine ⟨A2, c2, w', hrun, ⟨by simpa using h2⟩, fun g hg hne => h3.block g hg (fun e => ?_), h3.size, h3.os, h3.tape, h3.output⟩
    rcases hAn with rfl | ⟨g', rfl⟩
    · simp [Value.ownBlock] at e
    · simp [Value.ownBlock] at e; subst e; exact hne rfl
theorem wp_apps {o : Oper} {a : Act} {K : Act → World → Prop} {Q : Exit → Act → World → Prop} (s x : Operand) (t : TypeId)
    (ho : o.op = .call { callee := .builtin .append, args := #[s, x], argTypes := #[t, t] })
    (base : Nat) (E : TypeId) (k : IntKind) (bytes : Nat) (ht : P.underlying t = some (.slice E)) (hinfo : (P.info? E).map (fun i => (i.zero, i.size, i.bytes)) = some (some (.int k 0), 1, bytes)) (hbytes : bytes ≤ 8)
    (A : Option Addr) (n c : Nat) (l : List Nat) (hs : a.eval s = .slice A n c) (hown : Own w base E k A n c l) (A' : Option Addr) (m c' : Nat) (l' : List Nat) (hx : a.eval x = .slice A' m c') (hsl : Sl w k A' m c' l')
    (hn : n + m ≤ 1000000000000) (hbase : base ≤ w.heap.size)
    (h : ∀ A2 c2 w2, Own w2 base E k A2 (n + m) c2 (l ++ l') → (∀ g, g < w.heap.size → A ≠ some ⟨g, 0, none⟩ → w2.heap[g]? = w.heap[g]?) → w.heap.size ≤ w2.heap.size → w2.os = w.os → w2.tape = w.tape → w2.output = w.output → K (a.put o.dst (.slice A2 (n + m) c2)) w2) : o.wp P a w K Q := by
  obtain ⟨A2, c2, w2, hrun, h2, h3, h4, h5, h6, h7⟩ := run_apps (P := P) base t o.type E k bytes ht hinfo hbytes A n c l hown A' m c' l' hsl hn hbase
  unfold Oper.wp execOp
  simp only [ho, resolve, invoke, builtin, Sem.run_bind, Sem.run_pure, Result.andThen_ok, List.map_toArray, List.map_cons, List.map_nil, hs, hx, hrun]
  exact h A2 c2 w2 h2 h3 h4 h5 h6 h7
theorem step_apps {ops : Array Oper} {o : Oper} {a : Act} {K : Act → World → Prop} {Q : Exit → Act → World → Prop} {F : Prop} (hgd : o.guard = none) (s x : Operand) (t : TypeId)
    (ho : o.op = .call { callee := .builtin .append, args := #[s, x], argTypes := #[t, t] })
    (base : Nat) (E : TypeId) (k : IntKind) (bytes : Nat) (ht : P.underlying t = some (.slice E)) (hinfo : (P.info? E).map (fun i => (i.zero, i.size, i.bytes)) = some (some (.int k 0), 1, bytes)) (hbytes : bytes ≤ 8)
    (A : Option Addr) (n c : Nat) (l : List Nat) (hs : a.eval s = .slice A n c) (hown : Own w base E k A n c l) (A' : Option Addr) (m c' : Nat) (l' : List Nat) (hx : a.eval x = .slice A' m c') (hsl : Sl w k A' m c' l')
    (hn : n + m ≤ 1000000000000) (hbase : base ≤ w.heap.size)
    (h : ∀ A2 c2 w2, Own w2 base E k A2 (n + m) c2 (l ++ l') → (∀ g, g < w.heap.size → A ≠ some ⟨g, 0, none⟩ → w2.heap[g]? = w.heap[g]?) → w.heap.size ≤ w2.heap.size → w2.os = w.os → w2.tape = w.tape → w2.output = w.output → K (a.put o.dst (.slice A2 (n + m) c2)) w2) :
    if Region.wanted o (yielded ops a.tmps) = true then Oper.wp P o a w K Q else F := by
  have hw : Region.wanted o (yielded ops a.tmps) = true := by simp [Region.wanted, hgd]
  rw [if_pos hw]
  exact wp_apps s x t ho base E k bytes ht hinfo hbytes A n c l hs hown A' m c' l' hx hsl hn hbase h
theorem wpList_apps {ops : Array Oper} {rest : List Oper} {o : Oper} {a : Act} {Q : Exit → Act → World → Prop} (hgd : o.guard = none) (s x : Operand) (t : TypeId)
    (ho : o.op = .call { callee := .builtin .append, args := #[s, x], argTypes := #[t, t] })
    (base : Nat) (E : TypeId) (k : IntKind) (bytes : Nat) (ht : P.underlying t = some (.slice E)) (hinfo : (P.info? E).map (fun i => (i.zero, i.size, i.bytes)) = some (some (.int k 0), 1, bytes)) (hbytes : bytes ≤ 8)
    (A : Option Addr) (n c : Nat) (l : List Nat) (hs : a.eval s = .slice A n c) (hown : Own w base E k A n c l) (A' : Option Addr) (m c' : Nat) (l' : List Nat) (hx : a.eval x = .slice A' m c') (hsl : Sl w k A' m c' l')
    (hn : n + m ≤ 1000000000000) (hbase : base ≤ w.heap.size)
    (h : ∀ A2 c2 w2, Own w2 base E k A2 (n + m) c2 (l ++ l') → (∀ g, g < w.heap.size → A ≠ some ⟨g, 0, none⟩ → w2.heap[g]? = w.heap[g]?) → w.heap.size ≤ w2.heap.size → w2.os = w.os → w2.tape = w.tape → w2.output = w.output → wpList P ops Q rest (a.put o.dst (.slice A2 (n + m) c2)) w2) : wpList P ops Q (o :: rest) a w :=
  wpList_plain hgd fun _ hK => wp_apps s x t ho base E k bytes ht hinfo hbytes A n c l hs hown A' m c' l' hx hsl hn hbase fun A2 c2 w2 h2 h3 h4 h5 h6 h7 => hK _ _ (h A2 c2 w2 h2 h3 h4 h5 h6 h7)
end
end Go.Proofs.YtcdgckbdplkdbaaDoor
