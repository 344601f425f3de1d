/- (*strings.Builder).WriteByte and WriteString on a builder that the call has made itself (turned from the shelf's own proofs: this translation refuses the panic of copyCheck, so the shelf's contracts cannot be laid). -/
import Derived.Test.YtlbbfmijemnjdaaGreatDoorShelf
import Derived.Test.YtlbbfmijemnjdaaGreatDoorOA
import Derived.Lib.AppendStr
import Derived.Lib.Builder
import Derived.Lib.UnsafeStr
import Derived.Laws.Externs
import Derived.Test.YtlbbfmijemnjdaaGreatDoorProg
import Derived.WalkKit
import Derived.WalkSpells
import Derived.OwnWalk
import Derived.Deep.Draws
import Derived.WalkLawsBesides
import Derived.Lib.AtoiErrMem
import Derived.Lib.AppendIntMem
import Derived.Lib.Hide
import Derived.Maps.AppendAt
import Derived.Laws.MakeOwn
import Derived.Deep.Slices
import Derived.Lib.Strings
import Derived.OpenShut
namespace Go.Proofs.YtlbbfmijemnjdaaGreatDoor
open Go.RowKit

theorem sizeBuilder : (Tryz.prog.info? 193).map (·.size) = some 2 := by kernel_rfl
theorem liesBuilder : liesAt Tryz.prog Tryz.prog.depth 193 (2 / Tryz.prog.cellsOf 193) 0 193 1 = true := by kernel_rfl
theorem infoByte : (Tryz.prog.info? 5).map (fun i => (i.zero, i.size, i.bytes)) = some (some (.int .u8 0), 1, 1) := by kernel_rfl

set_option maxHeartbeats 1000000 in
set_option maxRecDepth 100000 in
theorem copyCheck_used (b : Nat) (w : World) (h0 : w.cell? ⟨b, 0, none⟩ = some (.pointer (some ⟨b, 0, none⟩))) :
    Calls Tryz.prog 168 #[.pointer (some ⟨b, 0, none⟩)] w fun e w' => e = .returned (.tuple #[]) ∧ w = w' := by
  obtain ⟨j, hj, _⟩ := Option.map_eq_some_iff.1 sizeBuilder
  go_enter Tryz.func168, Tryz.ntmps168
  go_wp2
  rw [Lib.run_neq_ptr_same w _ Tryz.underlying191 hj]
  go_wp2
  go_end0
  exact ⟨rfl, rfl⟩
set_option maxHeartbeats 1000000 in
set_option maxRecDepth 100000 in
theorem copyCheck_fresh (b : Nat) (w : World) (h0 : w.cell? ⟨b, 0, none⟩ = some (.pointer none)) (hsh : w.shape? b = some (193, 2)) (hfz : w.frozen? ⟨b, 0, none⟩ = false) :
    Calls Tryz.prog 168 #[.pointer (some ⟨b, 0, none⟩)] w fun e w' => e = .returned (.tuple #[]) ∧ w' = w.setCell ⟨b, 0, none⟩ (.pointer (some ⟨b, 0, none⟩)) := by
  obtain ⟨j, hj, hjs⟩ := Option.map_eq_some_iff.1 sizeBuilder
  go_enter Tryz.func168, Tryz.ntmps168
  go_wp2
  rw [Lib.run_to_unsafe w ⟨b, 0, none⟩ Tryz.underlying191 Tryz.underlying204 hj (by rw [hjs]; decide) hsh (Nat.zero_lt_succ 1)]
  simp only [Result.andThen]
  rw [Oper.upon_value]
  go_wp2
  rw [run_callFunc_extern Tryz.func175 (by kernel_rfl) (by kernel_rfl) (by kernel_rfl) (e := Extern.AbiNoEscape.same) (by kernel_rfl)]
  rw [Lib.run_noEscape]
  simp only [Result.andThen]
  rw [Oper.upon_value]
  go_wp2
  rw [Lib.run_from_unsafe w ⟨b, 0, none⟩ Tryz.underlying204 Tryz.underlying191 hj hsh liesBuilder]
  simp only [Result.andThen]
  rw [Oper.upon_value]
  go_wp2
  go_end0
  exact ⟨rfl, rfl⟩
theorem copyCheck_any (B b : Nat) (bs : List Value) (w : World) (h : Lib.IsBuilder 193 5 B b bs w) :
    Calls Tryz.prog 168 #[.pointer (some ⟨b, 0, none⟩)] w fun e w' => e = .returned (.tuple #[]) ∧ (Lib.BuilderAt 193 5 B b (.pointer (some ⟨b, 0, none⟩)) bs w' ∧ Below B w w') := by
  rcases h with h | h
  · refine (copyCheck_fresh b w h.cell0 h.shape h.frozen0).mono ?_
    rintro e w' ⟨rfl, rfl⟩
    exact ⟨rfl, h.used _, (Below.refl B w).setCell (p := ⟨b, 0, none⟩) h.1 _⟩
  · refine (copyCheck_used b w h.cell0).mono ?_
    rintro e w' ⟨rfl, rfl⟩
    exact ⟨rfl, h, Below.refl B _⟩
set_option maxHeartbeats 2000000 in
set_option maxRecDepth 100000 in
theorem writeByte_any (B b : Nat) (bs : List Value) (c : Int) (w : World) (h : Lib.IsBuilder 193 5 B b bs w) (hlen : bs.length + 1 ≤ 140737488355328) (hBw : B ≤ w.heap.size) :
    Calls Tryz.prog 163 #[.pointer (some ⟨b, 0, none⟩), .int .u8 c] w fun e w' => e = .returned .nilIface ∧ (Lib.BuilderAt 193 5 B b (.pointer (some ⟨b, 0, none⟩)) (bs ++ [.int .u8 c]) w' ∧ Below B w w') := by
  obtain ⟨i0, hi, hz0, hz1, hz2⟩ := info_parts infoByte
  go_enter Tryz.func163, Tryz.ntmps163
  go_wp2_with (go_at_call 168; refine (copyCheck_any B b bs _ h).mono ?_)
  rintro e w1 ⟨rfl, h1, hb1⟩
  obtain ⟨hB, v, hbk, hown, hne⟩ := h1
  have c0 : w1.cell? ⟨b, 0, none⟩ = some (.pointer (some ⟨b, 0, none⟩)) := by rw [Lib.cell_of_heap hbk]; rfl
  have c1 : w1.cell? ⟨b, 1, none⟩ = some v := by rw [Lib.cell_of_heap hbk]; rfl
  go_wp2_with (at_builtin; refine wpList_append_own _ rfl _ _ 136 rfl B 5 i0 (.int .u8 0) 1 1 Tryz.underlying136 hi hz0 hz1 hz2 rfl (by decide) _ _ _ rfl (hown.alloc _) ⟨w1.heap.size, 0, none⟩ 1 1 [.int .u8 c] rfl rfl ?c1 ?c2 ?c3 ?c4 ?c5 ?_)
  case c1 =>
    intro j u hj
    match j, hj with
    | 0, hj => simp at hj; subst hj; simp [Addr.add]
  case c2 => intro u hu; simp at hu; subst hu; rfl
  case c3 => unfold maxLen; omega
  case c4 => omega
  case c5 => have := hb1.size; simp; omega
  intro v' w2 hown' hgrow _
  have hlt : b < w1.heap.size := by
    rcases Nat.lt_or_ge b w1.heap.size with h' | h'
    · exact h'
    · simp [Array.getElem?_eq_none h'] at hbk
  have hb2 : w2.heap[b]? = some (.cells #[.pointer (some ⟨b, 0, none⟩), v] 193 (0, 0)) := by
    rw [hgrow.block b (by simp; omega) (fun e => hne e.symm), Lib.alloc_old w1 _ b hlt]
    exact hbk
  have d0 : w2.cell? ⟨b, 0, none⟩ = some (.pointer (some ⟨b, 0, none⟩)) := by rw [Lib.cell_of_heap hb2]; rfl
  have d1 : w2.cell? ⟨b, 1, none⟩ = some v := by rw [Lib.cell_of_heap hb2]; rfl
  have f1 : w2.frozen? ⟨b, 1, none⟩ = false := Lib.frozen_of_heap hb2 1
  obtain ⟨g, cap, rfl⟩ : ∃ g cap, v' = .slice (some ⟨g, 0, none⟩) (bs.length + 1) cap := by
    rcases hown'.2 with ⟨_, h0⟩ | ⟨g, cap, cur, hv, _⟩
    · omega
    · exact ⟨g, cap, hv⟩
  go_wp2
  go_ret
  refine ⟨rfl, ?_, ?_⟩
  · exact Lib.BuilderAt.put (T := 193) (e := 5) hB hb2 (bs' := bs ++ [.int .u8 c]) (by simpa using hown') (by decide)
  · exact ((hb1.alloc (by have := hb1.size; omega) _).grown hgrow (by have := hb1.size; simp; omega) (fun k hk => (hown.lt k hk).1)).setCell (p := ⟨b, 1, none⟩) hB _
set_option maxHeartbeats 2000000 in
set_option maxRecDepth 100000 in
theorem writeString_any (B b : Nat) (bs : List Value) (s : ByteArray) (w : World) (h : Lib.IsBuilder 193 5 B b bs w) (hlen : bs.length + s.size ≤ 140737488355328) (hBw : B ≤ w.heap.size) :
    Calls Tryz.prog 164 #[.pointer (some ⟨b, 0, none⟩), .string s] w fun e w' => e = .returned (.tuple #[.int .i64 s.size, .nilIface]) ∧ (Lib.BuilderAt 193 5 B b (.pointer (some ⟨b, 0, none⟩)) (bs ++ Lib.strCells s) w' ∧ Below B w w') := by
  obtain ⟨i0, hi, hz0, hz1, hz2⟩ := info_parts infoByte
  go_enter Tryz.func164, Tryz.ntmps164
  go_wp2_with (go_at_call 168; refine (copyCheck_any B b bs _ h).mono ?_)
  rintro e w1 ⟨rfl, h1, hb1⟩
  obtain ⟨hB, v, hbk, hown, hne⟩ := h1
  have c0 : w1.cell? ⟨b, 0, none⟩ = some (.pointer (some ⟨b, 0, none⟩)) := by rw [Lib.cell_of_heap hbk]; rfl
  have c1 : w1.cell? ⟨b, 1, none⟩ = some v := by rw [Lib.cell_of_heap hbk]; rfl
  go_wp2_with (at_builtin; refine Lib.wpList_append_own_string _ rfl _ _ 136 9 rfl B 5 i0 Tryz.underlying136 Tryz.underlying9 hi hz0 hz1 hz2 _ _ _ rfl hown s rfl ?c3 ?c4 ?c5 ?_)
  case c3 => unfold maxLen; omega
  case c4 => omega
  case c5 => have := hb1.size; omega
  intro v' w2 hown' hgrow _
  have hlt : b < w1.heap.size := by
    rcases Nat.lt_or_ge b w1.heap.size with h' | h'
    · exact h'
    · simp [Array.getElem?_eq_none h'] at hbk
  have hb2 : w2.heap[b]? = some (.cells #[.pointer (some ⟨b, 0, none⟩), v] 193 (0, 0)) := by
    rw [hgrow.block b hlt (fun e => hne e.symm)]
    exact hbk
  have d0 : w2.cell? ⟨b, 0, none⟩ = some (.pointer (some ⟨b, 0, none⟩)) := by rw [Lib.cell_of_heap hb2]; rfl
  have d1 : w2.cell? ⟨b, 1, none⟩ = some v := by rw [Lib.cell_of_heap hb2]; rfl
  have f1 : w2.frozen? ⟨b, 1, none⟩ = false := Lib.frozen_of_heap hb2 1
  obtain ⟨ao, n', cap, rfl⟩ : ∃ ao n' cap, v' = .slice ao n' cap := by
    rcases hown'.2 with ⟨hv, _⟩ | ⟨g, cap, cur, hv, _⟩
    · exact ⟨_, _, _, hv⟩
    · exact ⟨_, _, _, hv⟩
  go_wp2
  go_ret2
  refine ⟨rfl, ?_, ?_⟩
  · exact Lib.BuilderAt.put (T := 193) (e := 5) hB hb2 (bs' := bs ++ Lib.strCells s) (by simpa [Lib.strCells_length] using hown') (by decide)
  · exact (hb1.grown hgrow (by have := hb1.size; omega) (fun k hk => (hown.lt k hk).1)).setCell (p := ⟨b, 1, none⟩) hB _
end Go.Proofs.YtlbbfmijemnjdaaGreatDoor
/- A block of cells known whole. -/
namespace Go.Proofs.YtlbbfmijemnjdaaGreatDoor
open Go.RowKit

def BlkIs (w : World) (g : Nat) (t : TypeId) (cs : Array Value) : Prop := w.heap[g]? = some (.cells cs t (0, 0))
theorem BlkIs.lt {w : World} {g : Nat} {t : TypeId} {cs : Array Value} (h : BlkIs w g t cs) : g < w.heap.size := by
  rcases Nat.lt_or_ge g w.heap.size with hlt | hge
  · exact hlt
  · unfold BlkIs at h; rw [Array.getElem?_eq_none hge] at h; cases h
theorem BlkIs.cell {w : World} {g : Nat} {t : TypeId} {cs : Array Value} (h : BlkIs w g t cs) (i : Nat) : w.cell? ⟨g, i, none⟩ = cs[i]? := by
  unfold BlkIs at h; simp [World.cell?, h]
theorem BlkIs.frozen {w : World} {g : Nat} {t : TypeId} {cs : Array Value} (h : BlkIs w g t cs) (i : Nat) : w.frozen? ⟨g, i, none⟩ = false := by
  unfold BlkIs at h; simp [World.frozen?, h]
theorem BlkIs.keep {w w' : World} {g : Nat} {t : TypeId} {cs : Array Value} (h : BlkIs w g t cs) (e : w'.heap[g]? = w.heap[g]?) : BlkIs w' g t cs := e.trans h
theorem BlkIs.alloc {w : World} {g : Nat} {t : TypeId} {cs : Array Value} (h : BlkIs w g t cs) (o : Obj) : BlkIs (w.alloc o) g t cs := h.keep (Below.heap_alloc w o g h.lt)
theorem BlkIs.new (w : World) (t : TypeId) (cs : Array Value) : BlkIs (w.alloc (.cells cs t)) w.heap.size t cs := heap_alloc_new w _
theorem BlkIs.set_ {w : World} {g : Nat} {t : TypeId} {cs : Array Value} (h : BlkIs w g t cs) (i : Nat) (u : Value) : BlkIs (w.setCell ⟨g, i, none⟩ u) g t (cs.setIfInBounds i u) := by
  unfold BlkIs at h ⊢; simp [World.setCell, Array.getElem?_modify, h]
theorem BlkIs.far {w : World} {g : Nat} {t : TypeId} {cs : Array Value} (h : BlkIs w g t cs) {p : Addr} (hp : g ≠ p.block) (u : Value) : BlkIs (w.setCell p u) g t cs := h.keep (Below.heap_setCell w p u g hp)
theorem BlkIs.below {w w' : World} {g : Nat} {t : TypeId} {cs : Array Value} (h : BlkIs w g t cs) (hb : Below w.heap.size w w') : BlkIs w' g t cs := h.keep (hb.block g h.lt)
theorem BlkIs.two {w : World} {g : Nat} {t : TypeId} {u v : Value} (h : BlkIs w g t #[u, v]) : w.cell? ⟨g, 0, none⟩ = some u ∧ w.cell? ⟨g, 1, none⟩ = some v ∧ w.frozen? ⟨g, 0, none⟩ = false ∧ w.frozen? ⟨g, 1, none⟩ = false ∧ g < w.heap.size :=
  ⟨h.cell 0, h.cell 1, h.frozen 0, h.frozen 1, h.lt⟩
theorem BlkIs.drew {w : World} {g : Nat} {t : TypeId} {cs : Array Value} (h : BlkIs w g t cs) : BlkIs w.drew g t cs := h
theorem BlkIs.new1 (w : World) (o : Obj) (t : TypeId) (cs : Array Value) : BlkIs ((w.alloc o).alloc (.cells cs t)) (w.heap.size + 1) t cs := by
  have := BlkIs.new (w.alloc o) t cs
  simpa using this
theorem box (w : World) (o : Obj) : Below w.heap.size w (w.alloc o) := (Below.refl _ _).alloc (Nat.le_refl _) _
theorem via {w w1 : World} {o : Obj} (h : Below (w.alloc o).heap.size (w.alloc o) w1) : Below w.heap.size w w1 := (box w o).trans (h.mono (box w o).size)
theorem then_ {a w w1 : World} (h0 : Below a.heap.size a w) (h : Below w.heap.size w w1) : Below a.heap.size a w1 := h0.trans (h.mono h0.size)
theorem box2 {a w : World} (h0 : Below a.heap.size a w) (o : Obj) : Below a.heap.size a (w.alloc o) := h0.alloc h0.size o
theorem set2 {a w : World} (h0 : Below a.heap.size a w) {g i : Nat} (hg : a.heap.size ≤ g) (u : Value) : Below a.heap.size a (w.setCell ⟨g, i, none⟩ u) := h0.setCell (p := ⟨g, i, none⟩) hg u
theorem BlkIs.via {w w1 : World} {t : TypeId} {cs : Array Value} (h : Below (w.alloc (.cells cs t)).heap.size (w.alloc (.cells cs t)) w1) : BlkIs w1 w.heap.size t cs := (BlkIs.new w t cs).below h
theorem BlkIs.seven {w : World} {g : Nat} {t : TypeId} {c0 c1 c2 c3 c4 c5 c6 : Value} (h : BlkIs w g t #[c0, c1, c2, c3, c4, c5, c6]) :
    w.cell? ⟨g, 0, none⟩ = some c0 ∧ w.cell? ⟨g, 1, none⟩ = some c1 ∧ w.cell? ⟨g, 2, none⟩ = some c2 ∧ w.cell? ⟨g, 3, none⟩ = some c3 ∧ w.cell? ⟨g, 4, none⟩ = some c4 ∧ w.cell? ⟨g, 5, none⟩ = some c5 ∧ w.cell? ⟨g, 6, none⟩ = some c6 ∧ g < w.heap.size :=
  ⟨h.cell 0, h.cell 1, h.cell 2, h.cell 3, h.cell 4, h.cell 5, h.cell 6, h.lt⟩
end Go.Proofs.YtlbbfmijemnjdaaGreatDoor
/- number.Valid, decimal, Digits: which strings are decimals. -/
namespace Go.Proofs.YtlbbfmijemnjdaaGreatDoor
open Go.RowKit

theorem trimPrefix_mag (l : List UInt8) : Lib.trimPrefix l [45] = Dec.mag l := by
  cases l with
  | nil => rfl
  | cons c r =>
    by_cases h : c = 45
    · subst h; simp [Lib.trimPrefix, Lib.hasPrefix, Dec.mag]
    · have h' : ¬ 45 = c := fun e => h e.symm
      simp [Lib.trimPrefix, Lib.hasPrefix, Dec.mag, h, h']
theorem trimPrefix_any (l : List UInt8) (w : World) :
    Calls Tryz.prog 143 #[.string ⟨l.toArray⟩, .string ⟨#[45]⟩] w fun e w' => e = .returned (.string ⟨(Dec.mag l).toArray⟩) ∧ w = w' := by
  refine (Tryz.strings_TrimPrefix ⟨l.toArray⟩ ⟨#[45]⟩ w).mono ?_
  rintro e w' ⟨rfl, rfl⟩
  exact ⟨by rw [← trimPrefix_mag], rfl⟩

theorem isDec_head48 {l r : List UInt8} {c : UInt8} (h : Dec.mag l = c :: r) (hc : c.toNat = 48) : Dec.isDec l = (l == [48]) := by
  have e : c = 48 := UInt8.toNat_inj.1 (by simpa using hc)
  unfold Dec.isDec; rw [h, e]; simp
theorem isDec_head {l r : List UInt8} {c : UInt8} (h : Dec.mag l = c :: r) (hc : c.toNat ≠ 48) : Dec.isDec l = Dec.digs (Dec.mag l) := by
  have h0 : l ≠ [48] := by
    rintro rfl
    have e : Dec.mag [48] = [48] := by decide
    rw [e] at h
    injection h with h _
    exact hc (by rw [← h]; rfl)
  rw [Bool.eq_iff_iff, Dec.isDec_iff h0]
  exact ⟨fun ⟨a, _⟩ => a, fun a => ⟨a, c, r, h, hc⟩⟩
theorem byte_at {D : ByteArray} {l : List UInt8} (h : D.data.toList = l) (k : Nat) (hk : k < D.size) : ∃ hl : k < l.length, D[k] = l[k] := by
  subst h
  exact ⟨by rw [← Lib.size_eq]; exact hk, rfl⟩
theorem digs_take_succ {l : List UInt8} {k : Nat} (hk : k < l.length) (h : Dec.digs (l.take k) = true) (h1 : 48 ≤ l[k].toNat) (h2 : l[k].toNat ≤ 57) : Dec.digs (l.take (k + 1)) = true := by
  rw [List.take_succ_eq_append_getElem hk]
  exact Dec.digs_snoc.2 ⟨h, by simp [Dec.dig, h1, h2]⟩
theorem digs_not {l : List UInt8} {k : Nat} (hk : k < l.length) (h : l[k].toNat < 48 ∨ 57 < l[k].toNat) : Dec.digs l = false := by
  cases hd : Dec.digs l with
  | false => rfl
  | true =>
    have := List.all_eq_true.1 hd _ (List.getElem_mem hk)
    simp only [Dec.dig, Bool.and_eq_true, decide_eq_true_eq] at this
    omega
theorem empty_toList {D : ByteArray} (h : D.size = 0) : D.toList = [] := by
  rw [Lib.toList_data]; exact List.eq_nil_of_length_eq_zero (by rw [← Lib.size_eq]; exact h)
theorem ne_toList {D : ByteArray} (h : ¬ D.size = 0) : ¬ D.toList = [] := by
  rw [Lib.toList_data]; intro e; exact h (by rw [Lib.size_eq, e]; rfl)

set_option maxHeartbeats 400000 in
theorem valid_any (l : List UInt8) (w : World) (hl : l.length ≤ 1000000000) :
    Calls Tryz.prog 132 #[.string ⟨l.toArray⟩] w fun e w' => e = .returned (.bool (Dec.isDec l)) ∧ w = w' := by
  have hml := Dec.mag_length_le l
  go_enter Tryz.func132, Tryz.ntmps132
  go_wp2_with fail
  refine (trimPrefix_any l _).mono ?_
  rintro e w' ⟨rfl, rfl⟩
  obtain ⟨D, hD⟩ : ∃ D : ByteArray, D = ⟨(Dec.mag l).toArray⟩ := ⟨_, rfl⟩
  rw [← hD]
  have HT : Hid (D.data.toList = Dec.mag l) := by rw [hD]; exact (rfl : (Dec.mag l).toArray.toList = Dec.mag l)
  clear hD
  have hsz : D.size ≤ 1000000000 := by rw [Lib.size_eq, HT.out]; omega
  clear hml
  by_cases h0 : D.size = 0
  · have hE1 := empty_toList h0
    have HF : Hid (Dec.isDec l = (l == [48])) := by
      have hm : Dec.mag l = [] := by rw [← HT.out]; exact List.eq_nil_of_length_eq_zero (by rw [← Lib.size_eq]; exact h0)
      show _ = _
      unfold Dec.isDec; rw [hm]; simp
    go_wp2
    go_ret
    exact ⟨by rw [HF.out]; rfl, rfl⟩
  · have hE1 := ne_toList h0
    have hE2 : D.toList.isEmpty = false := by simp [hE1]
    have hpos : 0 < D.size := by omega
    obtain ⟨hl0, e0⟩ := byte_at HT.out 0 hpos
    obtain ⟨c, r, hcr⟩ : ∃ c r, Dec.mag l = c :: r := by
      cases hm : Dec.mag l with
      | nil => rw [hm] at hl0; simp at hl0
      | cons c r => exact ⟨c, r, rfl⟩
    have ec : D[0] = c := by rw [e0]; simp [hcr]
    by_cases h48 : D[0].toNat = 48
    · have HF := Lib.hid (isDec_head48 hcr (by rw [← ec]; exact h48))
      have hb : ((D[0].toNat : Int) == 48) = true := by rw [beq_iff_eq]; omega
      clear h48 hcr e0 ec hl0
      go_wp2
      go_ret
      exact ⟨by rw [HF.out]; rfl, rfl⟩
    · have HF := Lib.hid (isDec_head hcr (by rw [← ec]; exact h48))
      have hb : ((D[0].toNat : Int) == 48) = false := by rw [beq_eq_false_iff_ne]; omega
      clear h48 hcr e0 ec hl0
      go_wp2
      go_loop [18] (fun ix => ∃ k : Nat, k ≤ D.size ∧ ix = .int .i64 k ∧ Hid (Dec.digs ((Dec.mag l).take k) = true)) (fun ix => D.size - (intOf ix).toNat)
      case atStart => exact ⟨0, Nat.zero_le _, rfl, (rfl : Dec.digs ((Dec.mag l).take 0) = true)⟩
      case round =>
        obtain ⟨k, hk, rfl, HK⟩ := hrel
        by_cases hlt : k < D.size
        · obtain ⟨hkl, ek⟩ := byte_at HT.out k hlt
          have EK := Lib.hid ek
          clear ek
          rcases Nat.lt_or_ge D[k].toNat 48 with h1 | h1
          · have HR : Hid (Dec.isDec l = false) := by show _ = _; rw [HF.out]; exact digs_not hkl (.inl (by rw [← EK.out]; exact h1))
            go_wp2
            go_ret
            exact ⟨by rw [HR.out]; rfl, rfl⟩
          · rcases Nat.lt_or_ge 57 D[k].toNat with h2 | h2
            · have HR : Hid (Dec.isDec l = false) := by show _ = _; rw [HF.out]; exact digs_not hkl (.inr (by rw [← EK.out]; exact h2))
              go_wp2
              go_ret
              exact ⟨by rw [HR.out]; rfl, rfl⟩
            · go_wp2
              go_round
              case rel => exact ⟨k + 1, by omega, by go_num, digs_take_succ hkl HK.out (by rw [← EK.out]; exact h1) (by rw [← EK.out]; exact h2)⟩
              case measure => simp only [intOf]; omega
        · have HR : Hid (Dec.isDec l = true) := by
            show _ = _
            rw [HF.out]
            have := HK.out
            rwa [List.take_of_length_le (by rw [← HT.out, ← Lib.size_eq]; omega)] at this
          go_wp2
          go_ret
          exact ⟨by rw [HR.out]; rfl, rfl⟩
end Go.Proofs.YtlbbfmijemnjdaaGreatDoor
/- number.decimal and number.parse: the sign and the limbs of a decimal. -/
namespace Go.Proofs.YtlbbfmijemnjdaaGreatDoor
open Go.RowKit

/-! ### library calls, their worlds said by 'Below' -/
theorem parseUint_any (s : ByteArray) (w : World) (h : Dec.digs s.data.toList = true) (h0 : s.data.toList ≠ []) (h9 : s.data.toList.length ≤ 9) :
    Calls Tryz.prog 157 #[.string s, .int .i64 10, .int .i64 32] w fun e w' => e = .returned (.tuple #[.int .u64 (Dec.nval s.data.toList : Nat), .nilIface]) ∧ Below w.heap.size w w' := by
  have hs : s.size ≤ 9 := by rw [Lib.size_eq]; exact h9
  refine (Tryz.strconv_ParseUint_10_at32_ok s (by omega) _ (Dec.parseUint32 h h0 h9) w).mono ?_
  rintro e w' ⟨rfl, hw⟩
  refine ⟨rfl, ?_⟩
  rcases hw with rfl | rfl
  · exact Below.refl _ _
  · exact Lib.bytesWorld_below _ _ _
/-! ### decimal -/
def norm (l : List UInt8) : List UInt8 := if Dec.isDec l then l else [48]
theorem norm_dec (l : List UInt8) : Dec.isDec (norm l) = true := by
  unfold norm; split
  · assumption
  · rfl
theorem norm_eq (l : List UInt8) : norm l = Lib.itoa (Dec.dval l) := by
  unfold norm
  split
  · exact (Dec.itoa_dval ‹_›).symm
  · rename_i h
    unfold Dec.dval; rw [if_neg h, Dec.itoa_zero]
theorem norm_length (l : List UInt8) : (norm l).length ≤ l.length + 1 := by
  unfold norm; split <;> simp
theorem dval_norm (l : List UInt8) : Dec.dval (norm l) = Dec.dval l := by rw [norm_eq, Dec.dval_itoa]
theorem decimal_any (l : List UInt8) (w : World) (hl : l.length ≤ 1000000000) :
    Calls Tryz.prog 144 #[.string ⟨l.toArray⟩] w fun e w' => e = .returned (.string ⟨(norm l).toArray⟩) ∧ w = w' := by
  cases hv : Dec.isDec l with
  | true =>
    have HN : Hid (norm l = l) := by show _ = _; unfold norm; rw [if_pos hv]
    have hc := valid_any l w hl
    rw [hv] at hc
    have HC := Lib.hid hc
    clear hc hv
    go_enter Tryz.func144, Tryz.ntmps144
    go_wp2_with fail
    refine HC.out.mono ?_
    rintro e w' ⟨rfl, rfl⟩
    go_wp2
    go_ret
    exact ⟨by rw [HN.out]; rfl, rfl⟩
  | false =>
    have HN : Hid (norm l = [48]) := by show _ = _; unfold norm; rw [if_neg (by rw [hv]; simp)]
    have hc := valid_any l w hl
    rw [hv] at hc
    have HC := Lib.hid hc
    clear hc hv
    go_enter Tryz.func144, Tryz.ntmps144
    go_wp2_with fail
    refine HC.out.mono ?_
    rintro e w' ⟨rfl, rfl⟩
    go_wp2
    go_ret
    exact ⟨by rw [HN.out]; rfl, rfl⟩
/-- the digits of a decimal -/
theorem mag_norm (l : List UInt8) : Dec.digs (Dec.mag (norm l)) = true ∧ Dec.mag (norm l) ≠ [] ∧ Dec.nval (Dec.mag (norm l)) = (Dec.dval l).natAbs ∧ (decide ((Dec.mag (norm l)).length < (norm l).length)) = decide (Dec.dval l < 0) := by
  have hd := norm_dec l
  have hv := dval_norm l
  generalize norm l = s at *
  by_cases h0 : s = [48]
  · subst h0
    rw [← hv]; decide
  · obtain ⟨h1, h2⟩ := (Dec.isDec_iff h0).1 hd
    have hz := (Dec.decDigits_nval _ h1 h2).2
    obtain ⟨c, r, e, _⟩ := h2
    refine ⟨h1, by rw [e]; simp, ?_, ?_⟩
    · rw [← hv]; unfold Dec.dval; rw [if_pos hd]
      split <;> omega
    · rw [← hv]; unfold Dec.dval; rw [if_pos hd]
      cases hn : Dec.neg s with
      | true =>
        have := congrArg List.length (Dec.cons_of_neg hn)
        rw [List.length_cons] at this
        rw [if_pos rfl, decide_eq_true (by omega), decide_eq_true (by omega)]
      | false =>
        rw [Dec.mag_of_not hn, if_neg (by simp), decide_eq_false (by omega), decide_eq_false (by omega)]

/-! ### parse -/
/-- a struct 'integer' that stands for v -/
def RetInt (K : Nat) (v : Int) (w : World) (e : Ending) (w' : World) : Prop :=
  ∃ A n c, e = .returned (.agg #[.bool (decide (v < 0)), .slice A n c]) ∧ Sl w' .u32 A n c (Dec.limbs 1000000000 v.natAbs) ∧ n ≤ K ∧ Below w.heap.size w w'
theorem Own.neBlk {w : World} {base : Nat} {E t : TypeId} {k : IntKind} {A : Option Addr} {n c g : Nat} {l : List Nat} {cs : Array Value} (h : Own w base E k A n c l) (hb : BlkIs w g t cs) (hne : E ≠ t) : A ≠ some ⟨g, 0, none⟩ := by
  rintro rfl
  rcases h.own.2 with ⟨hv, _⟩ | ⟨g', cap, cur, hv, _, hg, _⟩
  · simp only [Value.slice.injEq] at hv; cases hv.1
  · simp only [Value.slice.injEq] at hv
    obtain ⟨e, _⟩ := hv
    injection e with e
    injection e with e1
    subst e1
    unfold BlkIs at hb
    rw [hg] at hb
    injection hb with hb
    injection hb with _ ht
    exact hne ht
theorem Own.farSet {w : World} {base : Nat} {E t : TypeId} {k : IntKind} {A : Option Addr} {n c g : Nat} {l : List Nat} {cs : Array Value} (h : Own w base E k A n c l) (hb : BlkIs w g t cs) (hne : E ≠ t) (i : Nat) (u : Value) : Own (w.setCell ⟨g, i, none⟩ u) base E k A n c l :=
  h.keep fun g' e => Below.heap_setCell w _ u g' (by rintro rfl; exact h.neBlk hb hne e)
theorem BlkIs.keep2 {w w' : World} {g : Nat} {t : TypeId} {u v : Value} (h : BlkIs w g t #[u, v]) (e : w'.heap[g]? = w.heap[g]?) :
    w'.cell? ⟨g, 0, none⟩ = some u ∧ w'.cell? ⟨g, 1, none⟩ = some v ∧ w'.frozen? ⟨g, 0, none⟩ = false ∧ w'.frozen? ⟨g, 1, none⟩ = false ∧ Hid (BlkIs w' g t #[u, v]) ∧ g < w'.heap.size := by
  have h' := h.keep e
  exact ⟨h'.cell 0, h'.cell 1, h'.frozen 0, h'.frozen 1, Lib.hid h', h'.lt⟩
theorem extract_lo (D : ByteArray) (k : Nat) : (D.extract 0 k).data.toList ++ (D.extract k D.size).data.toList = D.data.toList := by
  rw [Lib.extract_data, Lib.extract_data, List.drop_zero, Nat.sub_zero, List.take_of_length_le (l := D.data.toList.drop k) (by rw [List.length_drop, ← Lib.size_eq]; omega), List.take_append_drop]

def strLen : Value → Nat
  | .string s => s.size
  | _ => 0
set_option maxHeartbeats 1000000 in
theorem parse_any (l : List UInt8) (w : World) (hl : l.length ≤ 2500000) :
    Calls Tryz.prog 151 #[.string ⟨l.toArray⟩] w (RetInt (l.length + 1) (Dec.dval l) w) := by
  obtain ⟨hd1, hd2, hd3, hd4⟩ := mag_norm l
  have HD1 := Lib.hid hd1
  have HD2 := Lib.hid hd2
  have HD3 := Lib.hid hd3
  have hml : (Dec.mag (norm l)).length ≤ l.length + 1 := Nat.le_trans (Dec.mag_length_le _) (norm_length l)
  have hnl := norm_length l
  have HD4 := Lib.hid hd4
  clear hd1 hd2 hd3 hd4
  go_enter Tryz.func151, Tryz.ntmps151
  go_wp2_with fail
  refine (decimal_any l _ (by omega)).mono ?_
  rintro e w' ⟨rfl, rfl⟩
  go_wp2_with fail
  refine (trimPrefix_any (norm l) _).mono ?_
  rintro e w' ⟨rfl, rfl⟩
  obtain ⟨D, hD⟩ : ∃ D : ByteArray, D = ⟨(Dec.mag (norm l)).toArray⟩ := ⟨_, rfl⟩
  rw [← hD]
  have HT : Hid (D.data.toList = Dec.mag (norm l)) := by rw [hD]; exact (rfl : (Dec.mag (norm l)).toArray.toList = _)
  clear hD
  have hsz : D.size ≤ l.length + 1 := by rw [Lib.size_eq, HT.out]; exact hml
  obtain ⟨D0, hD0⟩ : ∃ D0 : ByteArray, D0 = ⟨(norm l).toArray⟩ := ⟨_, rfl⟩
  rw [← hD0]
  have hsz0 : D0.size ≤ l.length + 1 := by rw [hD0, Lib.size_eq]; exact hnl
  have hneg : decide (D.size < D0.size) = decide (Dec.dval l < 0) := by
    rw [hD0, Lib.size_eq, Lib.size_eq, HT.out]; exact HD4.out
  clear hD0 HD4 hnl hml
  generalize hng : decide (Dec.dval l < 0) = ng at hneg
  have HNG := Lib.hid hng
  clear hng
  go_wp2
  have HV : Hid (Dec.nval D.data.toList = (Dec.dval l).natAbs) := by show _ = _; rw [HT.out]; exact HD3.out
  have HD : Hid (Dec.digs D.data.toList = true) := by show _ = _; rw [HT.out]; exact HD1.out
  clear HT HD1 HD2 HD3
  go_loopw [3] (fun s3 wr => ∃ (E : ByteArray) (A2 : Option Addr) (k c2 : Nat) (o : List Nat), s3 = .string E ∧ E.size + k ≤ l.length + 1 ∧ Hid (Dec.digs E.data.toList = true) ∧ Hid (BlkIs wr w.heap.size 176 #[.bool false, .slice none 0 0]) ∧ Hid (BlkIs wr (w.heap.size + 1) 176 #[.bool ng, .slice A2 k c2]) ∧ Own wr w.heap.size 168 .u32 A2 k c2 o ∧ Dec.Small 1000000000 o ∧ Hid ((Dec.dval l).natAbs = Dec.lval 1000000000 o + 1000000000 ^ k * Dec.nval E.data.toList) ∧ Below w.heap.size w wr) (fun s3 _ => strLen s3)
  case atStart =>
    refine ⟨D, none, 0, 0, [], rfl, by omega, HD, ?_, ?_, Own.nil _ _ _ _, Dec.Small.nil, (by rw [HV.out]; simp [Dec.lval] : (Dec.dval l).natAbs = Dec.lval 1000000000 [] + 1000000000 ^ 0 * Dec.nval D.data.toList), ?_⟩
    · exact (BlkIs.new w _ _).alloc _
    · have := BlkIs.new (w.alloc (.cells #[.bool false, .slice none 0 0] 176)) 176 #[.bool ng, .slice none 0 0]
      exact Lib.hid (by simpa using this)
    · exact ((Below.refl _ _).alloc (Nat.le_refl _) _).alloc (by simp) _
  case round =>
    obtain ⟨E, A2, k, c2, o, rfl, hEk, HE, HB1, HB2, hown, hso, HVE, hb⟩ := hrel
    have HO := Lib.hid hown.len
    have c10 := HB2.out.cell 0
    have c11 := HB2.out.cell 1
    simp only [List.getElem?_toArray, List.getElem?_cons_zero, List.getElem?_cons_succ] at c10 c11
    have f11 := HB2.out.frozen 1
    have hlt1 := HB2.out.lt
    by_cases h0 : 0 < E.size
    · obtain ⟨m, hmax, hm1, hm2, HM3⟩ : ∃ m : Nat, max 0 ((E.size : Int) - 9) = (m : Int) ∧ m < E.size ∧ E.size ≤ m + 9 ∧ Hid (m = 0 ∨ E.size = m + 9) :=
        ⟨E.size - 9, by omega, by omega, by omega, Lib.hid (by omega)⟩
      have HC : Hid ((E.extract 0 m).data.toList ++ (E.extract m E.size).data.toList = E.data.toList) := extract_lo E m
      have hE1 : (E.extract m E.size).data.toList.length = E.size - m := by
        rw [Lib.extract_data, List.length_take, List.length_drop, ← Lib.size_eq]; omega
      have hE2 : (E.extract 0 m).data.toList.length = m := by
        rw [Lib.extract_data, List.length_take, List.length_drop, ← Lib.size_eq]; omega
      have hE3 : (E.extract 0 m).size = m := by rw [Lib.size_eq, hE2]
      have hdd : Dec.digs (E.extract 0 m).data.toList = true ∧ Dec.digs (E.extract m E.size).data.toList = true := Dec.digs_append.1 (by rw [HC.out]; exact HE.out)
      have HDD := Lib.hid hdd
      have hnv := Dec.nval_lt _ hdd.2
      rw [hE1] at hnv
      have hnv2 : Dec.nval (E.extract m E.size).data.toList < 1000000000 := Nat.lt_of_lt_of_le hnv (Nat.le_trans (Nat.pow_le_pow_right (by omega) (show E.size - m ≤ 9 by omega)) (by decide))
      have HR : Hid ((Dec.dval l).natAbs = Dec.lval 1000000000 (o ++ [Dec.nval (E.extract m E.size).data.toList]) + 1000000000 ^ (k + 1) * Dec.nval (E.extract 0 m).data.toList) := by
        have hlo := HO.out
        subst hlo
        have h := HVE.out
        rw [← HC.out] at h
        exact Dec.parse_round' (D := Lib.decDigits (Dec.dval l).natAbs) (by rw [Dec.nval_decDigits]; exact h) (by
          rcases HM3.out with e | e
          · right; exact List.eq_nil_of_length_eq_zero (by rw [hE2]; exact e)
          · left; rw [hE1, e, Nat.add_sub_cancel_left]) |> fun h => by rw [Dec.nval_decDigits] at h; exact h
      have HE1 := Lib.hid hE1
      clear hE1 hE2 hdd hnv HC
      have hpu := parseUint_any (E.extract m E.size) wr HDD.out.2 (by intro e; have := congrArg List.length e; rw [HE1.out] at this; simp at this; omega) (by rw [HE1.out]; omega)
      generalize Dec.nval (E.extract m E.size).data.toList = y at hnv2 HR hpu
      have HPU := Lib.hid hpu
      clear hpu
      go_wp2_with fail
      refine HPU.out.mono ?_
      rintro e w1 ⟨rfl, hb1⟩
      clear HPU
      have HB1' := HB1.out.below hb1
      have HB2' := HB2.out.below hb1
      have d10 := HB2'.cell 0
      have d11 := HB2'.cell 1
      simp only [List.getElem?_toArray, List.getElem?_cons_zero, List.getElem?_cons_succ] at d10 d11
      have g11 := HB2'.frozen 1
      have hlt2 := HB2'.lt
      have hown1 := hown.below hb1
      have hbw1 : Below w.heap.size w w1 := hb.trans (hb1.mono hb.size)
      have X1 := Lib.hid HB1'
      have X2 := Lib.hid HB2'
      clear HB1' HB2' HB1 HB2 c10 c11 f11 hlt1
      go_wp2_with (at_builtin; refine wpList_app (w0 := w) rfl _ _ _ rfl 168 .u32 4 Tryz.underlying174 infoU32 (by omega) _ _ _ o rfl hown1 _ y (by omega) rfl (by omega) hbw1 ?_; intro A3 c3 w2 hown2 hb2 hblk _ _; have Z1 := Lib.hid (X1.out.keep (hblk _ X1.out.lt (hown1.neBlk X1.out (by decide)))); obtain ⟨_, e11, _, h11, Z2, hlt3⟩ := X2.out.keep2 (hblk _ X2.out.lt (hown1.neBlk X2.out (by decide))); clear hblk d10 d11 g11 hlt2)
      go_roundw
      case rel =>
        refine ⟨E.extract 0 m, A3, k + 1, c3, o ++ [y], rfl, by rw [hE3]; omega, Lib.hid HDD.out.1, Lib.hid (Z1.out.far (by simp) _), ?_, hown2.farSet Z2.out (by decide) _ _, hso.append (Dec.Small.cons hnv2 Dec.Small.nil), HR, hb2.setCell (p := ⟨w.heap.size + 1, 1, none⟩) (by simp) _⟩
        have := Z2.out.set_ 1 (.slice A3 (k + 1) c3)
        exact Lib.hid (by simpa using this)
      case measure => simp only [strLen]; omega
    · go_wp2_with fail
      refine (trim_any _ _ _ _ _ hown.sl (by omega)).mono ?_
      rintro e w' ⟨rfl, rfl⟩
      have b10 := HB1.out.cell 0
      have b11 := HB1.out.cell 1
      simp only [List.getElem?_toArray, List.getElem?_cons_zero, List.getElem?_cons_succ] at b10 b11
      have g10 := HB1.out.frozen 0
      have g11 := HB1.out.frozen 1
      go_wp2
      have HW := ((HB1.out.far (p := ⟨w.heap.size + 1, 1, none⟩) (by simp) (.slice A2 (Dec.trimZ o).length c2)).set_ 0 (.bool ng)).set_ 1 (.slice A2 (Dec.trimZ o).length c2)
      have hbW : Below w.heap.size w (((wr.setCell ⟨w.heap.size + 1, 1, none⟩ (.slice A2 (Dec.trimZ o).length c2)).setCell ⟨w.heap.size, 0, none⟩ (.bool ng)).setCell ⟨w.heap.size, 1, none⟩ (.slice A2 (Dec.trimZ o).length c2)) :=
        ((hb.setCell (p := ⟨w.heap.size + 1, 1, none⟩) (by simp) _).setCell (p := ⟨w.heap.size, 0, none⟩) (Nat.le_refl _) _).setCell (p := ⟨w.heap.size, 1, none⟩) (Nat.le_refl _) _
      have hsl : Sl (((wr.setCell ⟨w.heap.size + 1, 1, none⟩ (.slice A2 (Dec.trimZ o).length c2)).setCell ⟨w.heap.size, 0, none⟩ (.bool ng)).setCell ⟨w.heap.size, 1, none⟩ (.slice A2 (Dec.trimZ o).length c2)) .u32 A2 (Dec.trimZ o).length c2 (Dec.limbs 1000000000 (Dec.dval l).natAbs) := by
        have h1 := (((hown.farSet HB2.out (by decide) 1 (.slice A2 (Dec.trimZ o).length c2)).farSet (HB1.out.far (p := ⟨w.heap.size + 1, 1, none⟩) (by simp) (.slice A2 (Dec.trimZ o).length c2)) (by decide) 0 (.bool ng)).farSet ((HB1.out.far (p := ⟨w.heap.size + 1, 1, none⟩) (by simp) (.slice A2 (Dec.trimZ o).length c2)).set_ 0 (.bool ng)) (by decide) 1 (.slice A2 (Dec.trimZ o).length c2)).sl.trimmed (B := 1000000000) (by omega) hso
        have hv : Dec.lval 1000000000 o = (Dec.dval l).natAbs := by
          rw [HVE.out, List.eq_nil_of_length_eq_zero (l := E.data.toList) (by rw [← Lib.size_eq]; omega), Dec.nval_nil]; simp
        rwa [hv] at h1
      generalize (((wr.setCell ⟨w.heap.size + 1, 1, none⟩ (.slice A2 (Dec.trimZ o).length c2)).setCell ⟨w.heap.size, 0, none⟩ (.bool ng)).setCell ⟨w.heap.size, 1, none⟩ (.slice A2 (Dec.trimZ o).length c2)) = W at *
      have q0 : W.cell? ⟨w.heap.size, 0, none⟩ = some (.bool ng) := by rw [HW.cell 0]; rfl
      have q1 : W.cell? ⟨w.heap.size, 1, none⟩ = some (.slice A2 (Dec.trimZ o).length c2) := by rw [HW.cell 1]; rfl
      refine bodyPost_ret (v := .agg #[.bool ng, .slice A2 (Dec.trimZ o).length c2]) ?_ rfl ⟨A2, _, c2, by rw [HNG.out], hsl, ?_, hbW⟩
      · simp [results, Tryz.results151, go_sem, q0, q1]
      · have := trimZ_length_le o
        rw [HO.out] at this
        omega
end Go.Proofs.YtlbbfmijemnjdaaGreatDoor
/- strconv.Itoa, from the shelf; the table of powers that it reads. -/
namespace Go.Proofs.YtlbbfmijemnjdaaGreatDoor
open Go.RowKit

/-- the library's table of powers lies where it was laid -/
def Tab (w : World) : Prop := Lib.TabIs Tryz.prog w "internal/strconv.uint64pow10" .u64 Lib.pow10Tab
theorem Tab.below {w w' : World} (h : Tab w) (hb : Below w.heap.size w w') : Tab w' := Lib.tabBelow_of_tabIs h w' hb
theorem Tab.alloc {w : World} (h : Tab w) (o : Obj) : Tab (w.alloc o) := h.below ((Below.refl _ _).alloc (Nat.le_refl _) _)
theorem itoa_any (n : Int) (w : World) (ht : Tab w) (h0 : -9223372036854775808 ≤ n) (h1 : n ≤ 9223372036854775807) :
    Calls Tryz.prog 59 #[.int .i64 n] w fun e w' => e = .returned (.string ⟨(Lib.itoa n).toArray⟩) ∧ Below w.heap.size w w' := by
  refine (Tryz.strconv_Itoa n h0 h1 w ht).mono ?_
  rintro e w' ⟨rfl, k, os, rfl⟩
  exact ⟨rfl, Lib.below_grow _ _ (Nat.le_refl _) _ _⟩
end Go.Proofs.YtlbbfmijemnjdaaGreatDoor
/- Data in memory: plain cells, and slices whose elements are rows of such data; what a value reads as, and that new memory does not change it. -/
namespace Go.Proofs.YtlbbfmijemnjdaaGreatDoor
open Go.RowKit

abbrev str (l : List UInt8) : Value := .string ⟨l.toArray⟩
def RetPureV (v : Value) (w : World) (e : Ending) (w' : World) : Prop := e = .returned v ∧ w = w'
def RetBel (v : Value) (w : World) (e : Ending) (w' : World) : Prop := e = .returned v ∧ Below w.heap.size w w'
/-- a plain cell, or a slice: its elements, each a row of cells -/
inductive Dt where
  | val (v : Value)
  | row (l : List (List Dt))

/-- the value v reads as the datum d, through blocks of ok alone -/
inductive Rd (ok : Nat → Prop) (w : World) : Value → Dt → Prop
  | val (v : Value) : Rd ok w v (.val v)
  | nil (A : Option Addr) (c : Nat) : Rd ok w (.slice A 0 c) (.row [])
  | row (b o n c k : Nat) (l : List (List Dt)) (f : Nat → Nat → Value) (hn : l.length = n) (h0 : 0 < n) (hc : n ≤ c) (hb : b < w.heap.size) (hok : ok b)
      (hk : ∀ i (h : i < l.length), (l[i]).length = k)
      (hf : ∀ i j (h : i < l.length), j < (l[i]).length → w.cell? ⟨b, o + i * k + j, none⟩ = some (f i j))
      (hr : ∀ i j (h : i < l.length) (h' : j < (l[i]).length), Rd ok w (f i j) ((l[i])[j])) : Rd ok w (.slice (some ⟨b, o, none⟩) n c) (.row l)

section
variable {ok ok' : Nat → Prop} {w w' : World} {v : Value} {d : Dt}
theorem Rd.keep (h : Rd ok w v d) (hs : w.heap.size ≤ w'.heap.size) (hk : ∀ b, ok b → b < w.heap.size → w'.heap[b]? = w.heap[b]?) : Rd ok w' v d := by
  induction h with
  | val v => exact .val v
  | nil A c => exact .nil A c
  | row b o n c k l f hn h0 hc hb hok hk' hf _ ih =>
    exact .row b o n c k l f hn h0 hc (Nat.lt_of_lt_of_le hb hs) hok hk' (fun i j h h' => (World.cell?_of_block (w := w) (hk b hok hb)).trans (hf i j h h')) ih
theorem Rd.mono (h : Rd ok w v d) (hk : ∀ b, ok b → b < w.heap.size → ok' b) : Rd ok' w v d := by
  induction h with
  | val v => exact .val v
  | nil A c => exact .nil A c
  | row b o n c k l f hn h0 hc hb hok hk' hf _ ih => exact .row b o n c k l f hn h0 hc hb (hk b hok hb) hk' hf ih
theorem Rd.under (h : Rd ok w v d) (hb : Below w.heap.size w w') : Rd ok w' v d := h.keep hb.size fun b _ hlt => hb.block b hlt
theorem Rd.drew (h : Rd ok w v d) : Rd ok w.drew v d := h.keep (Nat.le_refl _) fun _ _ _ => rfl
/-- a store into a block that the datum does not pass -/
theorem Rd.far {p : Addr} (h : Rd ok w v d) (hp : ∀ b, ok b → b ≠ p.block) (u : Value) : Rd ok (w.setCell p u) v d :=
  h.keep (by simp [World.setCell]) fun b hok _ => Below.heap_setCell w p u b (hp b hok)
theorem Rd.val_eq {u : Value} (h : Rd ok w v (.val u)) : v = u := by cases h; rfl
theorem Rd.lt (h : Rd ok w v d) : Rd (fun b => ok b ∧ b < w.heap.size) w v d := h.mono fun _ h hb => ⟨h, hb⟩
/-- what a slice is -/
theorem Rd.slice {l : List (List Dt)} (h : Rd ok w v (.row l)) : ∃ A n c, v = .slice A n c ∧ l.length = n ∧ n ≤ c := by
  cases h with
  | nil A c => exact ⟨A, 0, c, rfl, rfl, Nat.zero_le _⟩
  | row b o n c k l f hn h0 hc => exact ⟨_, n, c, rfl, hn, hc⟩
theorem Rd.len {A : Option Addr} {n c : Nat} {l : List (List Dt)} (h : Rd ok w (.slice A n c) (.row l)) : l.length = n := by
  cases h with
  | nil => rfl
  | row _ _ _ _ _ _ _ hn => exact hn
theorem Rd.cap {A : Option Addr} {n c : Nat} {l : List (List Dt)} (h : Rd ok w (.slice A n c) (.row l)) : n ≤ c := by
  cases h with
  | nil => exact Nat.zero_le _
  | row _ _ _ _ _ _ _ _ _ hc => exact hc
/-- the cells of a slice that is not empty -/
theorem Rd.cells {A : Option Addr} {n c : Nat} {l : List (List Dt)} (h : Rd ok w (.slice A n c) (.row l)) (h0 : 0 < n) :
    ∃ b o k, A = some ⟨b, o, none⟩ ∧ b < w.heap.size ∧ ok b ∧ (∀ i (h : i < l.length), (l[i]).length = k) ∧
      ∀ i j (h : i < l.length) (h' : j < (l[i]).length), ∃ u, w.cell? ⟨b, o + i * k + j, none⟩ = some u ∧ Rd ok w u ((l[i])[j]) := by
  cases h with
  | nil => omega
  | row b o n c k l f hn _ hc hb hok hk hf hr => exact ⟨b, o, k, rfl, hb, hok, hk, fun i j h h' => ⟨f i j, hf i j h h', hr i j h h'⟩⟩
theorem Rd.mk {b o n c k : Nat} {l : List (List Dt)} (hn : l.length = n) (hc : n ≤ c) (hb : b < w.heap.size) (hok : ok b) (hk : ∀ i (h : i < l.length), (l[i]).length = k)
    (hf : ∀ i j (h : i < l.length) (h' : j < (l[i]).length), ∃ u, w.cell? ⟨b, o + i * k + j, none⟩ = some u ∧ Rd ok w u ((l[i])[j])) : Rd ok w (.slice (some ⟨b, o, none⟩) n c) (.row l) := by
  rcases Nat.eq_zero_or_pos n with e | e
  · subst e
    obtain rfl : l = [] := List.eq_nil_of_length_eq_zero hn
    exact .nil _ _
  · let f : Nat → Nat → Value := fun i j => (w.cell? ⟨b, o + i * k + j, none⟩).getD (.int .i64 0)
    refine .row b o n c k l f hn e hc hb hok hk (fun i j h h' => ?_) (fun i j h h' => ?_)
    · obtain ⟨u, h1, _⟩ := hf i j h h'
      simp only [f, h1, Option.getD_some]
    · obtain ⟨u, h1, h2⟩ := hf i j h h'
      simp only [f, h1, Option.getD_some]
      exact h2
/-- the first m elements -/
theorem Rd.take {A : Option Addr} {n c m : Nat} {l : List (List Dt)} (h : Rd ok w (.slice A n c) (.row l)) (hm : m ≤ n) : Rd ok w (.slice A m c) (.row (l.take m)) := by
  have hl := h.len
  rcases Nat.eq_zero_or_pos m with e | e
  · subst e; exact .nil _ _
  · obtain ⟨b, o, k, rfl, hb, hok, hk, hf⟩ := h.cells (by omega)
    refine Rd.mk (k := k) (by rw [List.length_take]; omega) (by have := h.cap; omega) hb hok (fun i hi => ?_) (fun i j hi hj => ?_)
    · rw [List.getElem_take]; exact hk i _
    · simp only [List.getElem_take] at hj ⊢
      exact hf i j (by rw [List.length_take] at hi; omega) hj
end
end Go.Proofs.YtlbbfmijemnjdaaGreatDoor
/- Rows of structs that a call itself has made: append of elements, of one or of a whole slice. -/
namespace Go.Proofs.YtlbbfmijemnjdaaGreatDoor
open Go.RowKit

def Dt.one : Dt → Bool
  | .val v => v.oneCell'
  | .row _ => true
theorem Rd.one {ok : Nat → Prop} {w : World} {v : Value} {d : Dt} (h : Rd ok w v d) (hd : d.one = true) : v.oneCell' = true := by
  cases h with
  | val v => exact hd
  | nil => rfl
  | row => rfl

/-- the slice '.slice A n c' is the call's own (from block base on) and reads as l; what its elements lead to lies in other blocks, those of ok -/
structure OwnD (ok : Nat → Prop) (w : World) (base : Nat) (E : TypeId) (k : Nat) (A : Option Addr) (n c : Nat) (l : List (List Dt)) : Prop where
  len : l.length = n
  own : ∃ xs, w.ownsRow base E k (.slice A n c) n xs ∧ ∀ i (hi : i < l.length), (l[i]).length = k ∧ ∀ j (hj : j < (l[i]).length), ∃ u, xs[i * k + j]? = some u ∧ Rd (fun b => ok b ∧ A ≠ some ⟨b, 0, none⟩) w u (l[i])[j]

section
variable {ok ok' : Nat → Prop} {w w' : World} {base : Nat} {E : TypeId} {k : Nat} {A : Option Addr} {n c : Nat} {l : List (List Dt)}
theorem OwnD.nil (ok : Nat → Prop) (w : World) (base : Nat) (E : TypeId) (k : Nat) : OwnD ok w base E k none 0 0 [] := ⟨rfl, [], World.ownsRow_nil w base E k, fun i hi => absurd hi (by simp)⟩
theorem OwnD.made (ok : Nat → Prop) (w : World) (base : Nat) (E : TypeId) (k cap : Nat) (cur : Array Value) (hb : base ≤ w.heap.size) (hm : cap ≤ maxLen) (hs : cur.size = cap * k) : OwnD ok (w.alloc (.cells cur E)) base E k (some ⟨w.heap.size, 0, none⟩) 0 cap [] :=
  ⟨rfl, [], World.ownsRow_made w cur cap hb hm hs, fun i hi => absurd hi (by simp)⟩
theorem OwnD.addr (h : OwnD ok w base E k A n c l) : A = none ∨ ∃ g, A = some ⟨g, 0, none⟩ ∧ base ≤ g ∧ g < w.heap.size := by
  obtain ⟨xs, ⟨_, ho⟩, _⟩ := h.own
  rcases ho with ⟨hv, _⟩ | ⟨g, cap, cur, hv, hbg, hg, _⟩
  · simp only [Value.slice.injEq] at hv; exact .inl hv.1
  · simp only [Value.slice.injEq] at hv
    refine .inr ⟨g, hv.1, hbg, ?_⟩
    rcases Nat.lt_or_ge g w.heap.size with hlt | hge
    · exact hlt
    · rw [Array.getElem?_eq_none hge] at hg; cases hg
/-- what is held reads as the list -/
theorem OwnD.rd (h : OwnD ok w base E k A n c l) : Rd (fun b => ok b ∨ base ≤ b) w (.slice A n c) (.row l) := by
  obtain ⟨xs, ⟨hx, ho⟩, he⟩ := h.own
  have hlen := h.len
  rcases Nat.eq_zero_or_pos n with h0 | h0
  · subst h0
    obtain rfl : l = [] := List.eq_nil_of_length_eq_zero hlen
    exact .nil _ _
  · rcases ho with ⟨_, h1⟩ | ⟨g, cap, cur, hv, hbg, hg, hnc, hcm, hcs, ht⟩
    · omega
    · simp only [Value.slice.injEq] at hv
      obtain ⟨rfl, _, rfl⟩ := hv
      refine Rd.mk (k := k) hlen hnc ?_ (.inr hbg) (fun i hi => (he i hi).1) (fun i j hi hj => ?_)
      · rcases Nat.lt_or_ge g w.heap.size with hlt | hge
        · exact hlt
        · rw [Array.getElem?_eq_none hge] at hg; cases hg
      · obtain ⟨u, h1, h2⟩ := (he i hi).2 j hj
        refine ⟨u, ?_, h2.mono fun b hb _ => .inl hb.1⟩
        have hj' : j < k := by rw [← (he i hi).1]; exact hj
        have hlt : i * k + j < n * k := by
          have : (i + 1) * k ≤ n * k := Nat.mul_le_mul_right k (by omega)
          rw [Nat.add_mul] at this; omega
        have e : cur[i * k + j]? = some u := by
          rw [← h1, ← ht, List.getElem?_take_of_lt hlt]; simp
        simp [World.cell?, hg, Nat.zero_add, e]
theorem OwnD.keep (h : OwnD ok w base E k A n c l) (hs : w.heap.size ≤ w'.heap.size) (hb : ∀ g, g < w.heap.size → (ok g ∨ A = some ⟨g, 0, none⟩) → w'.heap[g]? = w.heap[g]?) : OwnD ok w' base E k A n c l := by
  obtain ⟨xs, ⟨hx, ho⟩, he⟩ := h.own
  refine ⟨h.len, xs, ⟨hx, ?_⟩, fun i hi => ⟨(he i hi).1, fun j hj => ?_⟩⟩
  · rcases ho with hv | ⟨g, cap, cur, hv, hbg, hg, hr⟩
    · exact .inl hv
    · refine .inr ⟨g, cap, cur, hv, hbg, ?_, hr⟩
      simp only [Value.slice.injEq] at hv
      rw [hb g ?_ (.inr hv.1)]; exact hg
      rcases Nat.lt_or_ge g w.heap.size with hlt | hge
      · exact hlt
      · rw [Array.getElem?_eq_none hge] at hg; cases hg
  · obtain ⟨u, h1, h2⟩ := (he i hi).2 j hj
    exact ⟨u, h1, h2.keep hs fun b hb' hlt => hb b hlt (.inl hb'.1)⟩
theorem OwnD.mono (h : OwnD ok w base E k A n c l) (hk : ∀ b, ok b → b < w.heap.size → ok' b) : OwnD ok' w base E k A n c l := by
  obtain ⟨xs, ho, he⟩ := h.own
  exact ⟨h.len, xs, ho, fun i hi => ⟨(he i hi).1, fun j hj => by
    obtain ⟨u, h1, h2⟩ := (he i hi).2 j hj
    exact ⟨u, h1, h2.mono fun b hb hlt => ⟨hk b hb.1 hlt, hb.2⟩⟩⟩⟩
end

section
variable {P : Program} {w : World}
/-- 'append(s, x...)': the elements of x behind those of a row of the call's own -/
theorem run_appD (ok : Nat → Prop) (base : Nat) (t ty E : TypeId) (z : Value) (k bytes : Nat) (ht : P.underlying t = some (.slice E)) (hinfo : (P.info? E).map (fun i => (i.zero, i.size, i.bytes)) = some (some z, k, bytes)) (hz : z.cells.size = k) (hk0 : 0 < k)
    (A : Option Addr) (n c : Nat) (l : List (List Dt)) (hown : OwnD ok w base E k A n c l) (A' : Option Addr) (m c' : Nat) (l' : List (List Dt)) (hm : l'.length = m)
    (hsrc : 0 < m → ∃ b o, A' = some ⟨b, o, none⟩ ∧ ∀ i (hi : i < l'.length), (l'[i]).length = k ∧ ∀ j (hj : j < (l'[i]).length), ∃ u, w.cell? ⟨b, o + i * k + j, none⟩ = some u ∧ Rd (fun b => ok b ∧ A ≠ some ⟨b, 0, none⟩) w u (l'[i])[j] ∧ u.oneCell' = true)
    (hn : n + m ≤ maxLen) (hbytes : (n + m) * bytes ≤ 140737488355328) (hbase : base ≤ w.heap.size) :
    ∃ A2 c2 w2, (Builtin.append_ #[t, t] ty #[.slice A n c, .slice A' m c']).run P w = .ok (.slice A2 (n + m) c2) w2 ∧ OwnD ok w2 base E k A2 (n + m) c2 (l ++ l') ∧
      (∀ g, g < w.heap.size → A ≠ some ⟨g, 0, none⟩ → w2.heap[g]? = w.heap[g]?) ∧ w.heap.size ≤ w2.heap.size ∧ w2.os = w.os ∧ w2.tape = w.tape ∧ w2.output = w.output ∧ (A2 = A ∨ A2 = some ⟨w.heap.size, 0, none⟩) := by
  obtain ⟨i0, hi0, hz0, hz1, hz2⟩ := info_parts hinfo
  rcases Nat.eq_zero_or_pos m with h0 | h0
  · subst h0
    obtain rfl : l' = [] := List.eq_nil_of_length_eq_zero hm
    refine ⟨A, c, w, ?_, by simpa using hown, fun _ _ _ => rfl, Nat.le_refl _, rfl, rfl, rfl, .inl rfl⟩
    obtain ⟨xs, ⟨_, ho⟩, _⟩ := hown.own
    rcases ho with ⟨hv, h0⟩ | ⟨g, cap, cur, hv, _, _, hnc, _⟩
    · simp only [Value.slice.injEq] at hv
      obtain ⟨rfl, rfl, rfl⟩ := hv
      rcases A' with _ | ad <;> simp [Builtin.append_, run_underlying ht, sizeOf, typeInfo, hi0, Builtin.lenOf, Builtin.firstCells, loadCells, loadCellsFrom]
    · simp only [Value.slice.injEq] at hv
      obtain ⟨rfl, _, rfl⟩ := hv
      rcases A' with _ | ad <;> simp [Builtin.append_, run_underlying ht, sizeOf, typeInfo, hi0, Builtin.lenOf, Builtin.firstCells, hnc, storeCells, loadCells, loadCellsFrom]
  · obtain ⟨b, o, rfl, hel⟩ := hsrc h0
    obtain ⟨xs, ho, he⟩ := hown.own
    have hdiv : ∀ q, q < m * k → q / k < m ∧ q % k < k := fun q hq => ⟨Nat.div_lt_of_lt_mul (by rwa [Nat.mul_comm] at hq), Nat.mod_lt _ hk0⟩
    have hqr : ∀ q, q / k * k + q % k = q := fun q => by rw [Nat.mul_comm]; exact Nat.div_add_mod q k
    let news : List Value := (List.range (m * k)).map fun q => (w.cell? ⟨b, o + q, none⟩).getD (.int .i64 0)
    have hnl : news.length = m * k := by simp [news]
    have hnew : ∀ i (hi : i < l'.length) j (hj : j < (l'[i]).length), ∃ u, news[i * k + j]? = some u ∧ w.cell? ⟨b, o + (i * k + j), none⟩ = some u ∧ Rd (fun b => ok b ∧ A ≠ some ⟨b, 0, none⟩) w u (l'[i])[j] ∧ u.oneCell' = true := by
      intro i hi j hj
      obtain ⟨hk, hj2⟩ := hel i hi
      obtain ⟨u, h1, h2, h3⟩ := hj2 j hj
      have hlt : i * k + j < m * k := by
        have : (i + 1) * k ≤ m * k := Nat.mul_le_mul_right k (by omega)
        rw [Nat.add_mul] at this; omega
      refine ⟨u, ?_, by rw [← Nat.add_assoc]; exact h1, h2, h3⟩
      simp only [news]
      rw [List.getElem?_map, List.getElem?_range hlt, Option.map_some, ← Nat.add_assoc, h1, Option.getD_some]
    have hall : ∀ q u, news[q]? = some u → w.cell? ⟨b, o + q, none⟩ = some u ∧ u.oneCell' = true := by
      intro q u hq
      have hlt : q < m * k := by rw [← hnl]; exact (List.getElem?_eq_some_iff.1 hq).1
      obtain ⟨h1, h2⟩ := hdiv q hlt
      obtain ⟨hk, _⟩ := hel (q / k) (by omega)
      obtain ⟨u', e1, e2, _, e3⟩ := hnew (q / k) (by omega) (q % k) (by omega)
      rw [hqr] at e1 e2
      rw [hq] at e1
      injection e1 with e1
      subst e1
      exact ⟨e2, e3⟩
    have hadd : ∀ q, (⟨b, o, none⟩ : Addr).add q = ⟨b, o + q, none⟩ := fun q => by
      unfold Addr.add
      split
      · subst q; rfl
      · rfl
    obtain ⟨v', w2, hrun, h2, h3, h4, h5⟩ := run_append_own_at (P := P) w base t ty E i0 z k bytes ht hi0 hz0 hz1 hz2 hz hk0 _ n xs ho ⟨b, o, none⟩ m c' news hnl (fun q u hq => by rw [hadd]; exact (hall q u hq).1) (by
      intro u hu
      obtain ⟨q, hq⟩ := List.getElem?_of_mem hu
      exact (hall q u hq).2) hn hbytes hbase
    obtain ⟨A2, c2, rfl, hA2⟩ : ∃ A2 c2, v' = .slice A2 (n + m) c2 ∧ ∃ g, A2 = some ⟨g, 0, none⟩ := by
      rcases h2.2 with ⟨_, h0⟩ | ⟨g, cap, cur, rfl, _⟩
      · omega
      · exact ⟨_, _, rfl, g, rfl⟩
    obtain ⟨g2, rfl⟩ := hA2
    have hAg : ∀ g, A = some ⟨g, 0, none⟩ ↔ (Value.slice A n c).ownBlock = some g := by
      intro g
      rcases hown.addr with rfl | ⟨g', rfl, _⟩
      · simp [Value.ownBlock]
      · simp [Value.ownBlock]
    have hblk : ∀ g, g < w.heap.size → A ≠ some ⟨g, 0, none⟩ → w2.heap[g]? = w.heap[g]? := fun g hg hne => h3.block g hg fun e => hne ((hAg g).2 e.symm)
    have hA2' : (some ⟨g2, 0, none⟩ : Option Addr) = A ∨ g2 = w.heap.size := by
      rcases h5 with e | e
      · left; exact ((hAg g2).2 (by rw [← e]; rfl)).symm
      · right; simpa [Value.ownBlock] using e
    have hcarry : ∀ u d, Rd (fun b => ok b ∧ A ≠ some ⟨b, 0, none⟩) w u d → Rd (fun b => ok b ∧ (some ⟨g2, 0, none⟩ : Option Addr) ≠ some ⟨b, 0, none⟩) w2 u d := by
      intro u d hr
      refine (hr.lt.mono (ok' := fun b => (ok b ∧ A ≠ some ⟨b, 0, none⟩) ∧ b < w.heap.size) fun _ h _ => h).keep h3.size (fun b hb _ => hblk b hb.2 hb.1.2) |>.mono ?_
      intro b hb _
      refine ⟨hb.1.1, ?_⟩
      rcases hA2' with e | e
      · rw [e]; exact hb.1.2
      · intro e2
        injection e2 with e2
        injection e2 with e2
        have := hb.2
        omega
    refine ⟨_, c2, w2, hrun, ⟨by rw [List.length_append, hown.len, hm], xs ++ news, h2, fun i hi => ?_⟩, hblk, h3.size, h3.os, h3.tape, h3.output, ?_⟩
    · have hxl : xs.length = n * k := ho.1
      rw [List.length_append] at hi
      by_cases hin : i < l.length
      · have hil : i < n := by rw [← hown.len]; exact hin
        have e : (l ++ l')[i]'(by rw [List.length_append]; omega) = l[i] := List.getElem_append_left hin
        simp only [e]
        refine ⟨(he i hin).1, fun j hj => ?_⟩
        obtain ⟨u, h6, h7⟩ := (he i hin).2 j hj
        refine ⟨u, ?_, hcarry _ _ h7⟩
        rw [List.getElem?_append_left ((List.getElem?_eq_some_iff.1 h6).1)]; exact h6
      · have hil : n ≤ i := by rw [← hown.len]; omega
        have hil2 : i - n < l'.length := by have := hown.len; omega
        have e : (l ++ l')[i]'(by rw [List.length_append]; omega) = l'[i - n] := by
          rw [List.getElem_append_right (by omega)]
          congr 1; have := hown.len; omega
        simp only [e]
        refine ⟨(hel _ hil2).1, fun j hj => ?_⟩
        obtain ⟨u, h6, _, h7, _⟩ := hnew (i - n) hil2 j hj
        refine ⟨u, ?_, hcarry _ _ h7⟩
        have ee : i * k + j = n * k + ((i - n) * k + j) := by
          rw [Nat.sub_mul]
          have : n * k ≤ i * k := Nat.mul_le_mul_right k hil
          omega
        rw [ee, ← hxl, List.getElem?_append_right (by omega), Nat.add_sub_cancel_left]
        exact h6
    · rcases hA2' with e | e
      · exact .inl e
      · right; rw [e]
/-- 'make([]T, 0, n)' as an equation, for a region that draws its order -/
theorem run_mk0D (t E : TypeId) (z : Value) (k bytes : Nat) (ht : P.underlying t = some (.slice E)) (hinfo : (P.info? E).map (fun i => (i.zero, i.size, i.bytes)) = some (some z, k, bytes))
    (kl kc : IntKind) (C : Int) (n : Nat) (hC : C = (n : Int)) (hbytes : bytes * n ≤ 281474976710656) (hn : n ≤ maxLen) :
    ∃ CS : Array Value, CS.size = n * k ∧ ∀ w : World, (Instr.makeSlice t (.int kl 0) (.int kc C)).run P w = .ok (.slice (some ⟨w.heap.size, 0, none⟩) 0 n) (w.alloc (.cells CS E)) := by
  obtain ⟨i0, hi0, hz0, hz1, hz2⟩ := info_parts hinfo
  subst hC
  have h63' : (n : Int) ≤ 9223372036854775807 := by
    have h := hn
    simp [maxLen] at h
    omega
  have hb' : (i0.bytes : Int) * (n : Int) ≤ 281474976710656 := by
    have h : ((i0.bytes * n : Nat) : Int) ≤ 281474976710656 := by rw [hz2]; omega
    rwa [Int.natCast_mul] at h
  have hr := fun w : World => run_make (P := P) w t E i0 z ht hi0 hz0 kl kc 0 n (Int.le_refl _) (by omega) hb' h63'
  simp only [Int.toNat_zero, Int.toNat_natCast] at hr
  exact ⟨_, by rw [← hz1]; exact size_madeCells _ _, hr⟩
/-- the elements of a slice that is read -/
theorem Rd.src {ok ok' : Nat → Prop} {A A' : Option Addr} {m c' k : Nat} {l' : List (List Dt)} (h : Rd ok' w (.slice A' m c') (.row l')) (hok : ∀ b, ok' b → b < w.heap.size → ok b ∧ A ≠ some ⟨b, 0, none⟩) (hk : ∀ x ∈ l', x.length = k ∧ ∀ d ∈ x, d.one = true) :
    0 < m → ∃ b o, A' = some ⟨b, o, none⟩ ∧ ∀ i (hi : i < l'.length), (l'[i]).length = k ∧ ∀ j (hj : j < (l'[i]).length), ∃ u, w.cell? ⟨b, o + i * k + j, none⟩ = some u ∧ Rd (fun b => ok b ∧ A ≠ some ⟨b, 0, none⟩) w u (l'[i])[j] ∧ u.oneCell' = true := by
  intro h0
  obtain ⟨b, o, k', rfl, hb, _, hk', hf⟩ := h.cells h0
  have hl := h.len
  have e : k' = k := by rw [← hk' 0 (by omega)]; exact (hk _ (List.getElem_mem _)).1
  subst e
  refine ⟨b, o, rfl, fun i hi => ⟨hk' i hi, fun j hj => ?_⟩⟩
  obtain ⟨u, h1, h2⟩ := hf i j hi hj
  exact ⟨u, h1, h2.mono hok, h2.one ((hk _ (List.getElem_mem _)).2 _ (List.getElem_mem _))⟩
end
end Go.Proofs.YtlbbfmijemnjdaaGreatDoor
/- Symbols in memory. -/
namespace Go.Proofs.YtlbbfmijemnjdaaGreatDoor
open Go.RowKit

structure Sy where
  pkg : List UInt8
  name : List UInt8
  deriving DecidableEq
end Go.Proofs.YtlbbfmijemnjdaaGreatDoor
/- An argument's slice of structs, read by index: what its elements read as, whatever the type. -/
namespace Go.Proofs.YtlbbfmijemnjdaaGreatDoor
open Go.RowKit Go.ChangeShapes Go.WideShapes Go.Deep

section
variable {H : Type} {enc : TypeId × Value → H} {P : Program} {w : World} {base : Nat} {spare : Nat → Bool} {held : Bool}
theorem str_bytes (s : ByteArray) : Value.string s = str s.data.toList := by unfold str; rfl
theorem addPlain {a : Addr} {q : Nat} {v : Value} (h : w.cell? (a.add 0) = some v) : a.add q = ⟨a.block, a.off + q, none⟩ := by
  have hs : a.spot = none := by
    unfold Addr.add at h
    simp only [if_true] at h
    unfold World.cell? at h
    split at h
    · cases hsp : a.spot with
      | none => rfl
      | some x => simp [hsp] at h
    · cases h
  unfold Addr.add
  split
  · subst q
    obtain ⟨b, o, sp⟩ := a
    simp only at hs
    subst hs
    rfl
  · rfl
/-- a row of cells reads as a list of data -/
def Reads (w : World) (cs : List Value) (ds : List Dt) : Prop := cs.length = ds.length ∧ ∀ j (hj : j < ds.length), ∃ u, cs[j]? = some u ∧ Rd (fun _ => True) w u ds[j]
theorem read_rows {α : Type} (encA : α → List Dt) (Good : α → Prop) (k : Nat) (hk : 0 < k) (hlen : ∀ a, (encA a).length = k) {t e : TypeId} {fuel : Nat} {cs : List Value} {x : DataW H × List MemPlace}
    (ht : P.underlying t = some (.slice e)) (hc : P.cellsOf e = k) (h : DataW.trod enc P w base spare held fuel t cs = some x)
    (elem : ∀ n, fuel = n + 1 → ∀ cs' y, DataW.trod enc P w base spare held n e cs' = some y → ∃ a, Good a ∧ Reads w cs' (encA a)) :
    ∃ (A : Option Addr) (n c : Nat) (l : List α), cs = [.slice A n c] ∧ Rd (fun _ => True) w (.slice A n c) (.row (l.map encA)) ∧ n ≤ maxLen ∧ ∀ a ∈ l, Good a := by
  rcases DataW.trod_slice ht h with ⟨rfl, _⟩ | ⟨a, len, cap, elems, rest, n, hfu, rfl, _, hb, hl, hm, hel, hx, _, _⟩
  · exact ⟨none, 0, 0, [], rfl, .nil _ _, Nat.zero_le _, fun s hs => by cases hs⟩
  · rw [hc] at hx
    have he : ∀ i, i < len → ∃ y : α, Good y ∧ ∀ j (hj : j < (encA y).length), ∃ u, w.cell? (a.add (i * k + j)) = some u ∧ Rd (fun _ => True) w u (encA y)[j] := by
      intro i hi
      have h1 := hx i hi
      rw [List.getElem?_eq_getElem (by omega)] at h1
      obtain ⟨cs', h2, h3⟩ := Option.bind_eq_some_iff.1 h1
      obtain ⟨y, hg, hr⟩ := elem n hfu cs' _ h3
      refine ⟨y, hg, fun j hj => ?_⟩
      obtain ⟨u, h4, h5⟩ := hr.2 j hj
      obtain ⟨_, hcl, hat⟩ := World.cells?_some h2
      have hjk : j < k := by rw [← hlen y]; exact hj
      have := hat j hjk
      rw [Go.Deep.add_add] at this
      exact ⟨u, by rw [this, h4], h5⟩
    rcases Nat.eq_zero_or_pos len with e0 | e0
    · subst e0
      exact ⟨some a, 0, cap, [], rfl, .nil _ _, Nat.zero_le _, fun s hs => by cases hs⟩
    · obtain ⟨y0, _, _⟩ := he 0 e0
      have hch : ∃ f : Nat → α, ∀ i, i < len → Good (f i) ∧ ∀ j (hj : j < (encA (f i)).length), ∃ u, w.cell? (a.add (i * k + j)) = some u ∧ Rd (fun _ => True) w u (encA (f i))[j] := by
        refine ⟨fun i => if h : i < len then Classical.choose (he i h) else y0, fun i hi => ?_⟩
        simp only [hi, dif_pos]
        exact Classical.choose_spec (he i hi)
      obtain ⟨f, hf⟩ := hch
      obtain ⟨u0, h00, _⟩ := (hf 0 e0).2 0 (by rw [hlen]; exact hk)
      have h00' : w.cell? (a.add 0) = some u0 := by simpa using h00
      have hadd : ∀ q, a.add q = ⟨a.block, a.off + q, none⟩ := fun q => addPlain h00'
      have ha : a = ⟨a.block, a.off, none⟩ := by
        have := hadd 0
        simpa [Addr.add] using this
      refine ⟨some a, len, cap, (List.range len).map f, rfl, ?_, Nat.le_trans hl hm, ?_⟩
      · rw [ha]
        refine Rd.mk (k := k) (by simp) hl (World.block_lt_of_cell? _ _ h00' |> fun h => by simpa [hadd] using h) trivial (fun i hi => ?_) (fun i j hi hj => ?_)
        · rw [List.getElem_map]; exact hlen _
        · have hi' : i < len := by simpa using hi
          simp only [List.getElem_map, List.getElem_range] at hj ⊢
          obtain ⟨u, g0, g1⟩ := (hf i hi').2 j hj
          rw [hadd] at g0
          exact ⟨u, by rw [← g0, Nat.add_assoc], g1⟩
      · intro s hs
        obtain ⟨i, hi, rfl⟩ := List.mem_map.1 hs
        exact (hf i (List.mem_range.1 hi)).1
end
end Go.Proofs.YtlbbfmijemnjdaaGreatDoor
/- lispprovermake.Raw: trees of numbers and strings; how one lies in memory; arguments opened. -/
namespace Go.Proofs.YtlbbfmijemnjdaaGreatDoor
open Go.RowKit Go.ChangeShapes Go.WideShapes Go.Deep

structure Raw where
  kind : Int
  n : Int
  s : List UInt8
  l : List Raw
namespace Raw
mutual
def enc : Raw → List Dt
  | ⟨k, n, s, l⟩ => [.val (.int .i64 k), .val (.int .i64 n), .val (str s), .row (encL l)]
def encL : List Raw → List (List Dt)
  | [] => []
  | o :: r => enc o :: encL r
end
mutual
def size : Raw → Nat
  | ⟨_, _, _, l⟩ => sizeL l + 1
def sizeL : List Raw → Nat
  | [] => 0
  | o :: r => size o + sizeL r
end
theorem encL_map (l : List Raw) : encL l = l.map enc := by
  induction l with
  | nil => rfl
  | cons o r ih => rw [encL, ih]; rfl
theorem enc_eq (o : Raw) : o.enc = [.val (.int .i64 o.kind), .val (.int .i64 o.n), .val (str o.s), .row (o.l.map enc)] := by
  cases o; rw [enc, encL_map]
theorem enc_len (o : Raw) : o.enc.length = 4 := by rw [enc_eq]; rfl
theorem size_pos (o : Raw) : 0 < o.size := by cases o; rw [size]; omega
theorem sizeL_mem {l : List Raw} {o : Raw} (h : o ∈ l) : o.size ≤ sizeL l := by
  induction l with
  | nil => cases h
  | cons x r ih =>
    rw [sizeL]
    rcases List.mem_cons.1 h with rfl | h
    · omega
    · have := ih h; omega
theorem size_l {o x : Raw} (h : x ∈ o.l) : x.size < o.size := by
  obtain ⟨k, n, s, l⟩ := o
  rw [size]
  have := sizeL_mem (l := l) h
  omega
theorem ind {motive : Raw → Prop} (step : ∀ o, (∀ x ∈ o.l, motive x) → motive o) (o : Raw) : motive o := by
  have : ∀ n (o : Raw), o.size ≤ n → motive o := by
    intro n
    induction n with
    | zero => intro o h; have := size_pos o; omega
    | succ n ih => intro o h; exact step o fun x hx => ih x (by have := size_l hx; omega)
  exact this o.size o (Nat.le_refl _)
/-- numbers and lengths within Go's bounds, all the way down -/
inductive Wf : Raw → Prop
  | mk (o : Raw) (k0 : -9223372036854775808 ≤ o.kind) (k1 : o.kind ≤ 9223372036854775807) (n0 : -9223372036854775808 ≤ o.n) (n1 : o.n ≤ 9223372036854775807) (hs : o.s.length ≤ 9223372036854775807) (hl : o.l.length ≤ 9223372036854775807) (h : ∀ x ∈ o.l, Wf x) : Wf o
end Raw
/-! ### arguments -/
section
variable {H : Type} {enc : TypeId × Value → H} {w : World} {base : Nat} {spare : Nat → Bool} {held : Bool}
theorem cellsRaw : Tryz.prog.cellsOf 60 = 4 := by kernel_rfl
theorem cellsI : Tryz.prog.cellsOf 3 = 1 := by kernel_rfl
theorem cellsS : Tryz.prog.cellsOf 9 = 1 := by kernel_rfl
theorem cellsRs : Tryz.prog.cellsOf 22 = 1 := by kernel_rfl
theorem bytes_le {s : ByteArray} (h : s.size ≤ maxLen) : s.data.toList.length ≤ 9223372036854775807 := by unfold maxLen at h; rw [← Lib.size_eq]; exact h
set_option maxRecDepth 100000 in
theorem read_raw : ∀ (fuel : Nat) (cs : List Value) (x : DataW H × List MemPlace), DataW.trod enc Tryz.prog w base spare held fuel 60 cs = some x → ∃ r : Raw, r.Wf ∧ Reads w cs r.enc := by
  intro fuel
  induction fuel using Nat.strongRecOn with
  | _ fuel ih =>
    intro cs x h
    obtain ⟨xs, n, hfu, _, hlen, hxl, hf⟩ := DataW.trod_struct Tryz.underlying60 h
    rw [cellsRaw] at hlen
    match cs, hlen with
    | [c0, c1, c2, c3], _ =>
      have f0 : DataW.trod enc Tryz.prog w base spare held n 3 (List.take (Tryz.prog.cellsOf 3) (List.drop 0 [c0, c1, c2, c3])) = xs[0]? := hf 0 _ rfl
      have f1 : DataW.trod enc Tryz.prog w base spare held n 3 (List.take (Tryz.prog.cellsOf 3) (List.drop 1 [c0, c1, c2, c3])) = xs[1]? := hf 1 _ rfl
      have f2 : DataW.trod enc Tryz.prog w base spare held n 9 (List.take (Tryz.prog.cellsOf 9) (List.drop 2 [c0, c1, c2, c3])) = xs[2]? := hf 2 _ rfl
      have f3 : DataW.trod enc Tryz.prog w base spare held n 22 (List.take (Tryz.prog.cellsOf 22) (List.drop 3 [c0, c1, c2, c3])) = xs[3]? := hf 3 _ rfl
      rw [cellsI] at f0 f1
      rw [cellsS] at f2
      rw [cellsRs] at f3
      match xs, hxl with
      | [y0, y1, y2, y3], _ =>
        replace f0 : DataW.trod enc Tryz.prog w base spare held n 3 [c0] = some y0 := f0
        replace f1 : DataW.trod enc Tryz.prog w base spare held n 3 [c1] = some y1 := f1
        replace f2 : DataW.trod enc Tryz.prog w base spare held n 9 [c2] = some y2 := f2
        replace f3 : DataW.trod enc Tryz.prog w base spare held n 22 [c3] = some y3 := f3
        obtain ⟨k, e0, _, w0⟩ := DataW.trod_int Tryz.underlying3 f0
        obtain ⟨m, e1, _, w1⟩ := DataW.trod_int Tryz.underlying3 f1
        obtain ⟨s, e2, _, w2⟩ := DataW.trod_string Tryz.underlying9 f2
        obtain ⟨A, n', c', l, e3, hr, hn, hg⟩ := read_rows Raw.enc Raw.Wf 4 (by omega) Raw.enc_len Tryz.underlying22 cellsRaw f3 (fun n'' hn'' cs' y hy => ih n'' (by omega) cs' y hy)
        injection e0 with e0
        injection e1 with e1
        injection e2 with e2
        injection e3 with e3
        have b0 := bounds_i64 w0
        have b1 := bounds_i64 w1
        have hll : l.length = n' := by have := hr.len; rwa [List.length_map] at this
        refine ⟨⟨k, m, s.data.toList, l⟩, .mk _ b0.1 b0.2 b1.1 b1.2 (bytes_le w2) (by show l.length ≤ _; rw [hll]; unfold maxLen at hn; exact hn) hg, by rw [Raw.enc_len]; rfl, fun j hj => ?_⟩
        simp only [Raw.enc_eq]
        rw [Raw.enc_len] at hj
        rcases j with _ | _ | _ | _ | j
        · exact ⟨c0, rfl, by rw [e0]; exact .val _⟩
        · exact ⟨c1, rfl, by rw [e1]; exact .val _⟩
        · exact ⟨c2, rfl, by rw [e2, str_bytes]; exact .val _⟩
        · exact ⟨c3, rfl, by rw [e3]; exact hr⟩
        · omega
end
end Go.Proofs.YtlbbfmijemnjdaaGreatDoor
/- Names of packages and symbols: object.symbol, lispproverref2.Package, Named. -/
namespace Go.Proofs.YtlbbfmijemnjdaaGreatDoor
open Go.RowKit

theorem byteAt {D : ByteArray} {l : List UInt8} (h : D.data.toList = l) (k : Nat) (hk : k < D.size) : ∃ hl : k < l.length, D[k] = l[k] := by
  subst h
  exact ⟨by rw [← Lib.size_eq]; exact hk, rfl⟩

def lowC (c : UInt8) : Bool := decide (97 ≤ c.toNat) && decide (c.toNat ≤ 122)
def tailC (c : UInt8) : Bool := lowC c || decide (c.toNat = 45) || (decide (48 ≤ c.toNat) && decide (c.toNat ≤ 57))
def charOk (i : Nat) (c : UInt8) : Bool := if i = 0 then lowC c else tailC c
def pkgOk (l : List UInt8) : Bool := decide (1 ≤ l.length) && decide (l.length ≤ 40) && (List.range l.length).all fun i => charOk i (l.getD i 0)
def nameOk (l : List UInt8) : Bool := decide (1 ≤ l.length) && decide (l.length ≤ 40)
def symOk (s : Sy) : Bool := pkgOk s.pkg && nameOk s.name

theorem pkgOk_bad {l : List UInt8} {k : Nat} (hk : k < l.length) (h : charOk k l[k] = false) : pkgOk l = false := by
  unfold pkgOk
  rw [Bool.and_eq_false_iff]
  right
  rw [Bool.eq_false_iff]
  intro hc
  have := List.all_eq_true.1 hc k (List.mem_range.2 hk)
  rw [List.getD_eq_getElem?_getD, List.getElem?_eq_getElem hk] at this
  simp only [Option.getD_some] at this
  rw [h] at this; cases this
theorem pkgOk_good {l : List UInt8} (h1 : 1 ≤ l.length) (h2 : l.length ≤ 40) (h : ∀ i (hi : i < l.length), charOk i l[i] = true) : pkgOk l = true := by
  unfold pkgOk
  simp only [Bool.and_eq_true, decide_eq_true_eq]
  refine ⟨⟨h1, h2⟩, List.all_eq_true.2 fun i hi => ?_⟩
  have hi := List.mem_range.1 hi
  rw [List.getD_eq_getElem?_getD, List.getElem?_eq_getElem hi]
  exact h i hi
theorem charOk_iff {i : Nat} {c : UInt8} : charOk i c = true ↔ ((97 ≤ c.toNat ∧ c.toNat ≤ 122) ∨ (i ≠ 0 ∧ (c.toNat = 45 ∨ (48 ≤ c.toNat ∧ c.toNat ≤ 57)))) := by
  unfold charOk tailC lowC
  by_cases h : i = 0 <;> simp [h]
  omega
theorem charOk_not {i : Nat} {c : UInt8} : charOk i c = false ↔ ¬ ((97 ≤ c.toNat ∧ c.toNat ≤ 122) ∨ (i ≠ 0 ∧ (c.toNat = 45 ∨ (48 ≤ c.toNat ∧ c.toNat ≤ 57)))) := by
  rw [← charOk_iff]; simp
theorem pkgOk_len {l : List UInt8} (h : l.length < 1 ∨ 40 < l.length) : pkgOk l = false := by
  unfold pkgOk
  rcases h with h | h
  · have : decide (1 ≤ l.length) = false := by simpa using h
    rw [this]; rfl
  · have : decide (l.length ≤ 40) = false := by simpa using h
    rw [this]; simp
theorem nameOk_len {l : List UInt8} (h : l.length < 1 ∨ 40 < l.length) : nameOk l = false := by
  unfold nameOk
  rcases h with h | h
  · have : decide (1 ≤ l.length) = false := by simpa using h
    rw [this]; rfl
  · have : decide (l.length ≤ 40) = false := by simpa using h
    rw [this]; simp

theorem charCases (c : Nat) : (97 ≤ c ∧ c ≤ 122) ∨ (c = 45 ∧ c ≤ 45) ∨ (48 ≤ c ∧ c ≤ 57) ∨ (c < 48 ∧ c ≠ 45) ∨ (57 < c ∧ c < 97) ∨ (122 < c ∧ c ≠ 45) := by omega

set_option maxHeartbeats 1000000 in
theorem ref2Package_any (l : List UInt8) (w : World) (hl : l.length ≤ 9223372036854775807) :
    Calls Tryz.prog 126 #[str l] w (RetPureV (.bool (pkgOk l)) w) := by
  obtain ⟨D, hD⟩ : ∃ D : ByteArray, D = ⟨l.toArray⟩ := ⟨_, rfl⟩
  unfold str
  rw [← hD]
  have HT : Hid (D.data.toList = l) := by rw [hD]; exact (rfl : l.toArray.toList = l)
  have HSz : Hid (D.size = l.length) := by show _ = _; rw [Lib.size_eq, HT.out]
  have hsz : D.size ≤ 9223372036854775807 := by rw [HSz.out]; exact hl
  clear hD hl
  by_cases h1 : D.size < 1
  · have HR := Lib.hid (pkgOk_len (l := l) (.inl (by rw [← HSz.out]; exact h1)))
    go_enter Tryz.func126, Tryz.ntmps126
    go_wp2
    go_ret
    exact ⟨by rw [HR.out]; rfl, rfl⟩
  · by_cases h2 : 40 < D.size
    · have HR := Lib.hid (pkgOk_len (l := l) (.inr (by rw [← HSz.out]; exact h2)))
      go_enter Tryz.func126, Tryz.ntmps126
      go_wp2
      go_ret
      exact ⟨by rw [HR.out]; rfl, rfl⟩
    · have hp : 0 < D.size := by omega
      obtain ⟨hl0, e0⟩ := byteAt HT.out 0 hp
      have E0 := Lib.hid e0
      clear e0
      by_cases h3 : 97 ≤ D[0].toNat ∧ D[0].toNat ≤ 122
      · obtain ⟨h3, h4⟩ := h3
        go_enter Tryz.func126, Tryz.ntmps126
        go_wp2
        go_loop [3] (fun ix => ∃ k : Nat, k ≤ D.size ∧ ix = .int .i64 k ∧ Hid (∀ i (hi : i < l.length), i < k → charOk i l[i] = true)) (fun ix => D.size - (intOf ix).toNat)
        case atStart => exact ⟨0, Nat.zero_le _, rfl, Lib.hid (fun i _ h => absurd h (by omega))⟩
        case round =>
          obtain ⟨k, hk, rfl, HK⟩ := hrel
          by_cases hlt : k < D.size
          · obtain ⟨hkl, ek⟩ := byteAt HT.out k hlt
            have EK := Lib.hid ek
            have HU : Hid (charOk k l[k] = true → ∀ i (hi : i < l.length), i < k + 1 → charOk i l[i] = true) := fun hc i hi h => by
              rcases Nat.lt_or_ge i k with h' | h'
              · exact HK.out i hi h'
              · obtain rfl : i = k := by omega
                exact hc
            have H0 : Hid (k = 0 → 97 ≤ D[k].toNat ∧ D[k].toNat ≤ 122) := fun e => by subst e; exact ⟨h3, h4⟩
            clear ek
            rcases charCases D[k].toNat with ⟨g1, g2⟩ | ⟨g1, g2⟩ | ⟨g1, g2⟩ | ⟨g1, g2⟩ | ⟨g1, g2⟩ | ⟨g1, g2⟩
            · go_wp2
              go_round
              case rel => exact ⟨k + 1, by omega, by go_num, Lib.hid (HU.out (charOk_iff.2 (by rw [← EK.out]; omega)))⟩
              case measure => simp only [intOf]; omega
            · have hne : ((D[k].toNat : Int) != 45) = false := by rw [bne_eq_false_iff_eq]; omega
              have hk0 : k ≠ 0 := fun e => by have := H0.out e; omega
              go_wp2
              go_round
              case rel => exact ⟨k + 1, by omega, by go_num, Lib.hid (HU.out (charOk_iff.2 (by rw [← EK.out]; omega)))⟩
              case measure => simp only [intOf]; omega
            · have hk0 : k ≠ 0 := fun e => by have := H0.out e; omega
              go_wp2
              go_round
              case rel => exact ⟨k + 1, by omega, by go_num, Lib.hid (HU.out (charOk_iff.2 (by rw [← EK.out]; omega)))⟩
              case measure => simp only [intOf]; omega
            all_goals
              have hne : ((D[k].toNat : Int) != 45) = true := by rw [bne_iff_ne]; omega
              have HR := Lib.hid (pkgOk_bad hkl (charOk_not.2 (by rw [← EK.out]; omega)))
              go_wp2
              go_ret
              exact ⟨by rw [HR.out]; rfl, rfl⟩
          · have HR := Lib.hid (pkgOk_good (l := l) (by rw [← HSz.out]; omega) (by rw [← HSz.out]; omega) (fun i hi => HK.out i hi (by rw [← HSz.out] at hi; omega)))
            go_wp2
            go_ret
            exact ⟨by rw [HR.out]; rfl, rfl⟩
      · have HR := Lib.hid (pkgOk_bad hl0 (charOk_not.2 (by rw [← E0.out]; omega)))
        rcases Nat.lt_or_ge D[0].toNat 97 with h5 | h5
        · go_enter Tryz.func126, Tryz.ntmps126
          go_wp2
          go_ret
          exact ⟨by rw [HR.out]; rfl, rfl⟩
        · have h6 : 122 < D[0].toNat := by omega
          go_enter Tryz.func126, Tryz.ntmps126
          go_wp2
          go_ret
          exact ⟨by rw [HR.out]; rfl, rfl⟩
set_option maxHeartbeats 2000000 in
theorem objSymbol_any (s : Sy) (w : World) (hp : s.pkg.length ≤ 9223372036854775807) (hn : s.name.length ≤ 9223372036854775807) :
    Calls Tryz.prog 116 #[.agg #[str s.pkg, str s.name]] w (RetBel (.bool (symOk s)) w) := by
  obtain ⟨l, m⟩ := s
  unfold str
  dsimp only at hp hn ⊢
  obtain ⟨D, hD⟩ : ∃ D : ByteArray, D = ⟨l.toArray⟩ := ⟨_, rfl⟩
  obtain ⟨E, hE⟩ : ∃ E : ByteArray, E = ⟨m.toArray⟩ := ⟨_, rfl⟩
  rw [← hD, ← hE]
  have HT : Hid (D.data.toList = l) := by rw [hD]; exact (rfl : l.toArray.toList = l)
  have HSz : Hid (D.size = l.length) := by show _ = _; rw [Lib.size_eq, HT.out]
  have HSm : Hid (E.size = m.length) := by show _ = _; rw [Lib.size_eq, hE]
  have hsz : D.size ≤ 9223372036854775807 := by rw [HSz.out]; exact hp
  have hsm : E.size ≤ 9223372036854775807 := by rw [HSm.out]; exact hn
  clear hD hE hp hn
  have HP : Hid (pkgOk l = false → symOk ⟨l, m⟩ = false) := fun h => by unfold symOk; rw [h]; rfl
  have HM : Hid (nameOk m = false → symOk ⟨l, m⟩ = false) := fun h => by unfold symOk; rw [h]; simp
  by_cases h1 : D.size < 1
  · have HR := Lib.hid (HP.out (pkgOk_len (.inl (by rw [← HSz.out]; exact h1))))
    go_enter Tryz.func116, Tryz.ntmps116
    go_wp2
    go_ret
    exact ⟨by rw [HR.out]; rfl, (Below.refl _ _).alloc (Nat.le_refl _) _⟩
  by_cases h2 : 40 < D.size
  · have HR := Lib.hid (HP.out (pkgOk_len (.inr (by rw [← HSz.out]; exact h2))))
    go_enter Tryz.func116, Tryz.ntmps116
    go_wp2
    go_ret
    exact ⟨by rw [HR.out]; rfl, (Below.refl _ _).alloc (Nat.le_refl _) _⟩
  by_cases h3 : E.size < 1
  · have HR := Lib.hid (HM.out (nameOk_len (.inl (by rw [← HSm.out]; exact h3))))
    go_enter Tryz.func116, Tryz.ntmps116
    go_wp2
    go_ret
    exact ⟨by rw [HR.out]; rfl, (Below.refl _ _).alloc (Nat.le_refl _) _⟩
  by_cases h4 : 40 < E.size
  · have HR := Lib.hid (HM.out (nameOk_len (.inr (by rw [← HSm.out]; exact h4))))
    go_enter Tryz.func116, Tryz.ntmps116
    go_wp2
    go_ret
    exact ⟨by rw [HR.out]; rfl, (Below.refl _ _).alloc (Nat.le_refl _) _⟩
  have HN : Hid (nameOk m = true) := by show _ = _; unfold nameOk; rw [← HSm.out]; simp; omega
  go_enter Tryz.func116, Tryz.ntmps116
  go_wp2
  go_loop [31] (fun ix => ∃ k : Nat, k ≤ D.size ∧ ix = .int .i64 k ∧ Hid (∀ i (hi : i < l.length), i < k → charOk i l[i] = true)) (fun ix => D.size - (intOf ix).toNat)
  case atStart => exact ⟨0, Nat.zero_le _, rfl, Lib.hid (fun i _ h => absurd h (by omega))⟩
  case round =>
    obtain ⟨k, hk, rfl, HK⟩ := hrel
    by_cases hlt : k < D.size
    · obtain ⟨hkl, ek⟩ := byteAt HT.out k hlt
      have EK := Lib.hid ek
      have HU : Hid (charOk k l[k] = true → ∀ i (hi : i < l.length), i < k + 1 → charOk i l[i] = true) := fun hc i hi h => by
        rcases Nat.lt_or_ge i k with h' | h'
        · exact HK.out i hi h'
        · obtain rfl : i = k := by omega
          exact hc
      clear ek
      rcases Nat.eq_zero_or_pos k with hk0 | hk0
      · subst hk0
        by_cases g : 97 ≤ D[0].toNat ∧ D[0].toNat ≤ 122
        · obtain ⟨g1, g2⟩ := g
          go_wp2
          go_round
          case rel => exact ⟨1, by omega, rfl, Lib.hid (HU.out (charOk_iff.2 (by rw [← EK.out]; omega)))⟩
          case measure => simp only [intOf]; omega
        · have HR := Lib.hid (HP.out (pkgOk_bad hkl (charOk_not.2 (by rw [← EK.out]; omega))))
          rcases Nat.lt_or_ge D[0].toNat 97 with g1 | g1
          · go_wp2
            go_ret
            exact ⟨by rw [HR.out]; rfl, (Below.refl _ _).alloc (Nat.le_refl _) _⟩
          · have g2 : 122 < D[0].toNat := by omega
            have hd : decide ((D[0].toNat : Int) ≤ 122) = false := by simp; omega
            go_wp2
            go_ret
            exact ⟨by rw [HR.out]; rfl, (Below.refl _ _).alloc (Nat.le_refl _) _⟩
      · have e0 : ((k : Int) == 0) = false := by rw [beq_eq_false_iff_ne]; omega
        rcases charCases D[k].toNat with ⟨g1, g2⟩ | ⟨g1, g2⟩ | ⟨g1, g2⟩ | ⟨g1, g2⟩ | ⟨g1, g2⟩ | ⟨g1, g2⟩
        · go_wp2
          go_round
          case rel => exact ⟨k + 1, by omega, by go_num, Lib.hid (HU.out (charOk_iff.2 (by rw [← EK.out]; omega)))⟩
          case measure => simp only [intOf]; omega
        · have hne : ((D[k].toNat : Int) != 45) = false := by rw [bne_eq_false_iff_eq]; omega
          go_wp2
          go_round
          case rel => exact ⟨k + 1, by omega, by go_num, Lib.hid (HU.out (charOk_iff.2 (by rw [← EK.out]; omega)))⟩
          case measure => simp only [intOf]; omega
        · have hne : ((D[k].toNat : Int) != 45) = true := by rw [bne_iff_ne]; omega
          go_wp2
          go_round
          case rel => exact ⟨k + 1, by omega, by go_num, Lib.hid (HU.out (charOk_iff.2 (by rw [← EK.out]; omega)))⟩
          case measure => simp only [intOf]; omega
        all_goals
          have hne : ((D[k].toNat : Int) != 45) = true := by rw [bne_iff_ne]; omega
          have HR := Lib.hid (HP.out (pkgOk_bad hkl (charOk_not.2 (by rw [← EK.out]; omega))))
          first
            | (have hd : decide ((D[k].toNat : Int) ≤ 122) = false := (by simp; omega); have hd2 : 97 ≤ D[k].toNat := (by omega); go_wp2; go_ret; exact ⟨by rw [HR.out]; rfl, (Below.refl _ _).alloc (Nat.le_refl _) _⟩)
            | (go_wp2; go_ret; exact ⟨by rw [HR.out]; rfl, (Below.refl _ _).alloc (Nat.le_refl _) _⟩)
    · have HR : Hid (symOk ⟨l, m⟩ = true) := by
        show _ = _
        unfold symOk
        rw [pkgOk_good (by rw [← HSz.out]; omega) (by rw [← HSz.out]; omega) (fun i hi => HK.out i hi (by rw [← HSz.out] at hi; omega)), HN.out]; rfl
      go_wp2
      go_ret
      exact ⟨by rw [HR.out]; rfl, (Below.refl _ _).alloc (Nat.le_refl _) _⟩
end Go.Proofs.YtlbbfmijemnjdaaGreatDoor
