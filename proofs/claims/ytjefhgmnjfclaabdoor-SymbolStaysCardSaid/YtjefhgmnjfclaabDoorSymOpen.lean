/- Symbols, packages and lists of packages among the arguments: what they read as. -/
import Derived.Test.YtjefhgmnjfclaabDoorSymI
import Derived.Deep.SlicePairs
import Derived.Lib.SmallJoins
namespace Go.Proofs.YtjefhgmnjfclaabDoor
open Go.RowKit Go.ChangeShapes Go.WideShapes Go.Deep Go.Joins

section
variable {H : Type} {enc : TypeId × Value → H} {w : World} {base : Nat} {spare : Nat → Bool} {held : Bool}
theorem str_of_bytes (s : ByteArray) : Value.string s = str s.data.toList := by unfold str; rfl
theorem add_plain {a : Addr} {q : Nat} {v : Value} (h : w.cell? (a.add 0) = some v) : a.add q = ⟨a.block, a.off + q, none⟩ := by
  have hs : a.spot = none := by
    unfold Addr.add at h
    simp only [if_true] at h
    unfold World.cell? at h
    split at h
    · cases hsp : a.spot with
      | none => rfl
      | some x => simp [hsp] at h
    · cases h
  unfold Addr.add
  split
  · subst q
    obtain ⟨b, o, sp⟩ := a
    simp only at hs
    subst hs
    rfl
  · rfl
theorem cellsSym : Tryd.prog.cellsOf 23 = 2 := by kernel_rfl
theorem cellsPkg : Tryd.prog.cellsOf 33 = 2 := by kernel_rfl
theorem cellsStr : Tryd.prog.cellsOf 9 = 1 := by kernel_rfl
theorem cellsImp : Tryd.prog.cellsOf 31 = 1 := by kernel_rfl
/-- a list of symbols, wherever its slice lies -/
theorem read_syms {fuel : Nat} {cs : List Value} {x : DataW H × List MemPlace} (h : DataW.trod enc Tryd.prog w base spare held fuel 31 cs = some x) :
    ∃ (A : Option Addr) (n c : Nat) (l : List Sy), cs = [.slice A n c] ∧ Rd (fun _ => True) w (.slice A n c) (.row (l.map Sy.enc)) ∧ n ≤ maxLen ∧ ∀ s ∈ l, SyOk s := by
  rcases open_slice_pairs Tryd.underlying31 Tryd.underlying23 cellsSym rfl rfl cellsStr cellsStr h with ⟨rfl, _⟩ | ⟨a, len, cap, m, n, V0, V1, D0, D1, P0, P1, rfl, hb, hl, hm, hmm, _, hx⟩
  · exact ⟨none, 0, 0, [], rfl, .nil _ _, Nat.zero_le _, fun s hs => by cases hs⟩
  · have hlm : len ≤ m := by rw [hmm]; split <;> omega
    have hel : ∀ i, i < len → ∃ s : Sy, SyOk s ∧ w.cell? (a.add (i * 2)) = some (str s.pkg) ∧ w.cell? (a.add (i * 2 + 1)) = some (str s.name) := by
      intro i hi
      obtain ⟨h0, h1, t0, t1⟩ := hx i (by omega)
      obtain ⟨s0, e0, _, z0⟩ := DataW.trod_string Tryd.underlying9 t0
      obtain ⟨s1, e1, _, z1⟩ := DataW.trod_string Tryd.underlying9 t1
      injection e0 with e0
      injection e1 with e1
      unfold maxLen at z0 z1
      rw [Lib.size_eq] at z0 z1
      refine ⟨⟨s0.data.toList, s1.data.toList⟩, ⟨z0, z1⟩, ?_, ?_⟩
      · rw [h0, e0, str_of_bytes]
      · rw [h1, e1, str_of_bytes]
    rcases Nat.eq_zero_or_pos len with e | e
    · subst e
      exact ⟨some a, 0, cap, [], rfl, .nil _ _, Nat.zero_le _, fun s hs => by cases hs⟩
    · have hch : ∃ f : Nat → Sy, ∀ i, i < len → SyOk (f i) ∧ w.cell? (a.add (i * 2)) = some (str (f i).pkg) ∧ w.cell? (a.add (i * 2 + 1)) = some (str (f i).name) := by
        refine ⟨fun i => if h : i < len then Classical.choose (hel i h) else ⟨[], []⟩, fun i hi => ?_⟩
        simp only [hi, dif_pos]
        exact Classical.choose_spec (hel i hi)
      obtain ⟨f, hf⟩ := hch
      have h00 := (hf 0 e).2.1
      have hadd : ∀ q, a.add q = ⟨a.block, a.off + q, none⟩ := fun q => add_plain (by simpa using h00)
      have ha : a = ⟨a.block, a.off, none⟩ := by
        have := hadd 0
        simpa [Addr.add] using this
      refine ⟨some a, len, cap, (List.range len).map f, rfl, ?_, Nat.le_trans hl hm, ?_⟩
      · rw [ha]
        refine Rd.mk (k := 2) (by simp) hl (World.block_lt_of_cell? _ _ h00 |> fun h => by simpa [hadd] using h) trivial (fun i hi => ?_) (fun i j hi hj => ?_)
        · rw [List.getElem_map]; rfl
        · have hi' : i < len := by simpa using hi
          obtain ⟨_, g0, g1⟩ := hf i hi'
          rw [hadd] at g0 g1
          simp only [List.getElem_map, List.getElem_range] at hj ⊢
          rcases j with _ | _ | j
          · exact ⟨_, g0, .val _⟩
          · exact ⟨_, g1, .val _⟩
          · exact absurd hj (by simp [Sy.enc])
      · intro s hs
        obtain ⟨i, hi, rfl⟩ := List.mem_map.1 hs
        exact (hf i (List.mem_range.1 hi)).1
/-- a list of packages, wherever its slice lies -/
theorem read_pkgs {fuel : Nat} {cs : List Value} {x : DataW H × List MemPlace} (h : DataW.trod enc Tryd.prog w base spare held fuel 28 cs = some x) :
    ∃ (A : Option Addr) (n c : Nat) (l : List Pk), cs = [.slice A n c] ∧ PksIn (fun _ => True) w A n c l ∧ n ≤ maxLen := by
  rcases open_slice_pairs Tryd.underlying28 Tryd.underlying33 cellsPkg rfl rfl cellsStr cellsImp h with ⟨rfl, _⟩ | ⟨a, len, cap, m, n, V0, V1, D0, D1, P0, P1, rfl, hb, hl, hm, hmm, _, hx⟩
  · exact ⟨none, 0, 0, [], rfl, ⟨.nil _ _, fun s hs => by cases hs⟩, Nat.zero_le _⟩
  · have hlm : len ≤ m := by rw [hmm]; split <;> omega
    have hel : ∀ i, i < len → ∃ (p : Pk) (u : Value), (p.name.length ≤ 9223372036854775807 ∧ ∀ s ∈ p.imps, SyOk s) ∧ w.cell? (a.add (i * 2)) = some (str p.name) ∧ w.cell? (a.add (i * 2 + 1)) = some u ∧ Rd (fun _ => True) w u (.row (p.imps.map Sy.enc)) := by
      intro i hi
      obtain ⟨h0, h1, t0, t1⟩ := hx i (by omega)
      obtain ⟨s0, e0, _, z0⟩ := DataW.trod_string Tryd.underlying9 t0
      obtain ⟨A, n', c', l, e1, hr, _, hs⟩ := read_syms t1
      injection e0 with e0
      injection e1 with e1
      unfold maxLen at z0
      rw [Lib.size_eq] at z0
      refine ⟨⟨s0.data.toList, l⟩, _, ⟨z0, hs⟩, ?_, by rw [h1, e1], hr⟩
      rw [h0, e0, str_of_bytes]
    rcases Nat.eq_zero_or_pos len with e | e
    · subst e
      exact ⟨some a, 0, cap, [], rfl, ⟨.nil _ _, fun s hs => by cases hs⟩, Nat.zero_le _⟩
    · have hch : ∃ (f : Nat → Pk) (g : Nat → Value), ∀ i, i < len → ((f i).name.length ≤ 9223372036854775807 ∧ ∀ s ∈ (f i).imps, SyOk s) ∧ w.cell? (a.add (i * 2)) = some (str (f i).name) ∧ w.cell? (a.add (i * 2 + 1)) = some (g i) ∧ Rd (fun _ => True) w (g i) (.row ((f i).imps.map Sy.enc)) := by
        refine ⟨fun i => if h : i < len then Classical.choose (hel i h) else ⟨[], []⟩, fun i => if h : i < len then Classical.choose (Classical.choose_spec (hel i h)) else .nilIface, fun i hi => ?_⟩
        simp only [hi, dif_pos]
        exact Classical.choose_spec (Classical.choose_spec (hel i hi))
      obtain ⟨f, g, hf⟩ := hch
      have h00 := (hf 0 e).2.1
      have hadd : ∀ q, a.add q = ⟨a.block, a.off + q, none⟩ := fun q => add_plain (by simpa using h00)
      have ha : a = ⟨a.block, a.off, none⟩ := by
        have := hadd 0
        simpa [Addr.add] using this
      refine ⟨some a, len, cap, (List.range len).map f, rfl, ⟨?_, ?_⟩, Nat.le_trans hl hm⟩
      · rw [ha]
        refine Rd.mk (k := 2) (by simp) hl (World.block_lt_of_cell? _ _ h00 |> fun h => by simpa [hadd] using h) trivial (fun i hi => ?_) (fun i j hi hj => ?_)
        · rw [List.getElem_map]; rfl
        · have hi' : i < len := by simpa using hi
          obtain ⟨_, g0, g1, g2⟩ := hf i hi'
          rw [hadd] at g0 g1
          simp only [List.getElem_map, List.getElem_range] at hj ⊢
          rcases j with _ | _ | j
          · exact ⟨_, g0, .val _⟩
          · exact ⟨_, g1, g2⟩
          · exact absurd hj (by simp [Pk.enc])
      · intro s hs
        obtain ⟨i, hi, rfl⟩ := List.mem_map.1 hs
        exact (hf i (List.mem_range.1 hi)).1
theorem oneSym : oneCellFields Tryd.prog #[⟨"Package", 9, 0, false, "", "", 0⟩, ⟨"Name", 9, 1, false, "", "", 16⟩] = true := by kernel_rfl
theorem onePkg : oneCellFields Tryd.prog #[⟨"Name", 9, 0, false, "", "", 0⟩, ⟨"Imports", 31, 1, false, "", "", 16⟩] = true := by kernel_rfl
set_option maxRecDepth 100000 in
theorem open_sym {r : Reach} {b0 : Nat} {v : Value} {d : DataW H} {p : List MemPlace} (hv : Value.okWide Tryd.prog w r b0 23 v) (h : DataW.Trod enc Tryd.prog w base spare held 23 v d p) : ∃ s : Sy, v = symAgg s ∧ SyOk s := by
  obtain ⟨v0, v1, y0, y1, n, rfl, _, _, t0, t1⟩ := open_agg2 Tryd.underlying23 oneSym cellsSym hv h
  obtain ⟨s0, e0, _, z0⟩ := DataW.trod_string Tryd.underlying9 t0
  obtain ⟨s1, e1, _, z1⟩ := DataW.trod_string Tryd.underlying9 t1
  injection e0 with e0
  injection e1 with e1
  unfold maxLen at z0 z1
  rw [Lib.size_eq] at z0 z1
  exact ⟨⟨s0.data.toList, s1.data.toList⟩, by rw [e0, e1, str_of_bytes, str_of_bytes], ⟨z0, z1⟩⟩
set_option maxRecDepth 100000 in
theorem open_pkg {r : Reach} {b0 : Nat} {v : Value} {d : DataW H} {p : List MemPlace} (hv : Value.okWide Tryd.prog w r b0 33 v) (h : DataW.Trod enc Tryd.prog w base spare held 33 v d p) :
    ∃ (q : Pk) (A : Option Addr) (n c : Nat), v = .agg #[str q.name, .slice A n c] ∧ Rd (fun _ => True) w (.slice A n c) (.row (q.imps.map Sy.enc)) ∧ n ≤ maxLen ∧ q.name.length ≤ 9223372036854775807 ∧ ∀ s ∈ q.imps, SyOk s := by
  obtain ⟨v0, v1, y0, y1, n, rfl, _, _, t0, t1⟩ := open_agg2 Tryd.underlying33 onePkg cellsPkg hv h
  obtain ⟨s0, e0, _, z0⟩ := DataW.trod_string Tryd.underlying9 t0
  obtain ⟨A, n', c', l, e1, hr, hn, hs⟩ := read_syms t1
  injection e0 with e0
  injection e1 with e1
  unfold maxLen at z0
  rw [Lib.size_eq] at z0
  exact ⟨⟨s0.data.toList, l⟩, A, n', c', by rw [e0, e1, str_of_bytes], hr, hn, z0, hs⟩
set_option maxRecDepth 100000 in
theorem open_pkgs {r : Reach} {b0 : Nat} {v : Value} {d : DataW H} {p : List MemPlace} (hv : Value.okWide Tryd.prog w r b0 28 v) (h : DataW.Trod enc Tryd.prog w base spare held 28 v d p) :
    ∃ (l : List Pk) (A : Option Addr) (n c : Nat), v = .slice A n c ∧ PksIn (fun _ => True) w A n c l ∧ n ≤ maxLen := by
  obtain ⟨a, len, cap, rfl⟩ := okWide_slice Tryd.underlying28 hv
  obtain ⟨fuel, hf⟩ := h
  obtain ⟨A, n, c, l, e, hr, hn⟩ := read_pkgs hf
  simp only [Value.cells, List.cons.injEq, and_true] at e
  exact ⟨l, A, n, c, by simpa using e, hr, hn⟩
end
end Go.Proofs.YtjefhgmnjfclaabDoor
