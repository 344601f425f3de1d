/- (*strings.Builder).WriteByte and WriteString on a builder that the call has made itself (turned from the shelf's own proofs: this translation refuses the panic of copyCheck, so the shelf's contracts cannot be laid). -/
import Derived.Test.YtgphkgmhcmffnaaGreatDoorShelf
import Derived.Test.YtgphkgmhcmffnaaGreatDoorJB
import Derived.Lib.AppendStr
import Derived.Lib.Builder
import Derived.Lib.UnsafeStr
import Derived.Laws.Externs
import Derived.Test.YtgphkgmhcmffnaaGreatDoorProg
import Derived.WalkKit
import Derived.WalkSpells
import Derived.OwnWalk
import Derived.Deep.Draws
import Derived.Test.YtgphkgmhcmffnaaGreatDoorJA
import Derived.WalkLawsBesides
import Derived.Test.YtgphkgmhcmffnaaGreatDoorJC
import Derived.Lib.AtoiErrMem
import Derived.Lib.AppendIntMem
namespace Go.Proofs.YtgphkgmhcmffnaaGreatDoor
open Go.RowKit

theorem sizeBuilder : (Tryz.prog.info? 122).map (·.size) = some 2 := by kernel_rfl
theorem liesBuilder : liesAt Tryz.prog Tryz.prog.depth 122 (2 / Tryz.prog.cellsOf 122) 0 122 1 = true := by kernel_rfl
theorem infoByte : (Tryz.prog.info? 5).map (fun i => (i.zero, i.size, i.bytes)) = some (some (.int .u8 0), 1, 1) := by kernel_rfl

set_option maxHeartbeats 1000000 in
set_option maxRecDepth 100000 in
theorem copyCheck_used (b : Nat) (w : World) (h0 : w.cell? ⟨b, 0, none⟩ = some (.pointer (some ⟨b, 0, none⟩))) :
    Calls Tryz.prog 174 #[.pointer (some ⟨b, 0, none⟩)] w fun e w' => e = .returned (.tuple #[]) ∧ w = w' := by
  obtain ⟨j, hj, _⟩ := Option.map_eq_some_iff.1 sizeBuilder
  go_enter Tryz.func174, Tryz.ntmps174
  go_wp2
  rw [Lib.run_neq_ptr_same w _ Tryz.underlying120 hj]
  go_wp2
  go_end0
  exact ⟨rfl, rfl⟩
set_option maxHeartbeats 1000000 in
set_option maxRecDepth 100000 in
theorem copyCheck_fresh (b : Nat) (w : World) (h0 : w.cell? ⟨b, 0, none⟩ = some (.pointer none)) (hsh : w.shape? b = some (122, 2)) (hfz : w.frozen? ⟨b, 0, none⟩ = false) :
    Calls Tryz.prog 174 #[.pointer (some ⟨b, 0, none⟩)] w fun e w' => e = .returned (.tuple #[]) ∧ w' = w.setCell ⟨b, 0, none⟩ (.pointer (some ⟨b, 0, none⟩)) := by
  obtain ⟨j, hj, hjs⟩ := Option.map_eq_some_iff.1 sizeBuilder
  go_enter Tryz.func174, Tryz.ntmps174
  go_wp2
  rw [Lib.run_to_unsafe w ⟨b, 0, none⟩ Tryz.underlying120 Tryz.underlying144 hj (by rw [hjs]; decide) hsh (Nat.zero_lt_succ 1)]
  simp only [Result.andThen]
  rw [Oper.upon_value]
  go_wp2
  rw [run_callFunc_extern Tryz.func186 (by kernel_rfl) (by kernel_rfl) (by kernel_rfl) (e := Extern.AbiNoEscape.same) (by kernel_rfl)]
  rw [Lib.run_noEscape]
  simp only [Result.andThen]
  rw [Oper.upon_value]
  go_wp2
  rw [Lib.run_from_unsafe w ⟨b, 0, none⟩ Tryz.underlying144 Tryz.underlying120 hj hsh liesBuilder]
  simp only [Result.andThen]
  rw [Oper.upon_value]
  go_wp2
  go_end0
  exact ⟨rfl, rfl⟩
theorem copyCheck_any (B b : Nat) (bs : List Value) (w : World) (h : Lib.IsBuilder 122 5 B b bs w) :
    Calls Tryz.prog 174 #[.pointer (some ⟨b, 0, none⟩)] w fun e w' => e = .returned (.tuple #[]) ∧ (Lib.BuilderAt 122 5 B b (.pointer (some ⟨b, 0, none⟩)) bs w' ∧ Below B w w') := by
  rcases h with h | h
  · refine (copyCheck_fresh b w h.cell0 h.shape h.frozen0).mono ?_
    rintro e w' ⟨rfl, rfl⟩
    exact ⟨rfl, h.used _, (Below.refl B w).setCell (p := ⟨b, 0, none⟩) h.1 _⟩
  · refine (copyCheck_used b w h.cell0).mono ?_
    rintro e w' ⟨rfl, rfl⟩
    exact ⟨rfl, h, Below.refl B _⟩
set_option maxHeartbeats 2000000 in
set_option maxRecDepth 100000 in
theorem writeByte_any (B b : Nat) (bs : List Value) (c : Int) (w : World) (h : Lib.IsBuilder 122 5 B b bs w) (hlen : bs.length + 1 ≤ 140737488355328) (hBw : B ≤ w.heap.size) :
    Calls Tryz.prog 161 #[.pointer (some ⟨b, 0, none⟩), .int .u8 c] w fun e w' => e = .returned .nilIface ∧ (Lib.BuilderAt 122 5 B b (.pointer (some ⟨b, 0, none⟩)) (bs ++ [.int .u8 c]) w' ∧ Below B w w') := by
  obtain ⟨i0, hi, hz0, hz1, hz2⟩ := info_parts infoByte
  go_enter Tryz.func161, Tryz.ntmps161
  go_wp2_with (go_at_call 174; refine (copyCheck_any B b bs _ h).mono ?_)
  rintro e w1 ⟨rfl, h1, hb1⟩
  obtain ⟨hB, v, hbk, hown, hne⟩ := h1
  have c0 : w1.cell? ⟨b, 0, none⟩ = some (.pointer (some ⟨b, 0, none⟩)) := by rw [Lib.cell_of_heap hbk]; rfl
  have c1 : w1.cell? ⟨b, 1, none⟩ = some v := by rw [Lib.cell_of_heap hbk]; rfl
  go_wp2_with (at_builtin; refine wpList_append_own _ rfl _ _ 91 rfl B 5 i0 (.int .u8 0) 1 1 Tryz.underlying91 hi hz0 hz1 hz2 rfl (by decide) _ _ _ rfl (hown.alloc _) ⟨w1.heap.size, 0, none⟩ 1 1 [.int .u8 c] rfl rfl ?c1 ?c2 ?c3 ?c4 ?c5 ?_)
  case c1 =>
    intro j u hj
    match j, hj with
    | 0, hj => simp at hj; subst hj; simp [Addr.add]
  case c2 => intro u hu; simp at hu; subst hu; rfl
  case c3 => unfold maxLen; omega
  case c4 => omega
  case c5 => have := hb1.size; simp; omega
  intro v' w2 hown' hgrow _
  have hlt : b < w1.heap.size := by
    rcases Nat.lt_or_ge b w1.heap.size with h' | h'
    · exact h'
    · simp [Array.getElem?_eq_none h'] at hbk
  have hb2 : w2.heap[b]? = some (.cells #[.pointer (some ⟨b, 0, none⟩), v] 122 (0, 0)) := by
    rw [hgrow.block b (by simp; omega) (fun e => hne e.symm), Lib.alloc_old w1 _ b hlt]
    exact hbk
  have d0 : w2.cell? ⟨b, 0, none⟩ = some (.pointer (some ⟨b, 0, none⟩)) := by rw [Lib.cell_of_heap hb2]; rfl
  have d1 : w2.cell? ⟨b, 1, none⟩ = some v := by rw [Lib.cell_of_heap hb2]; rfl
  have f1 : w2.frozen? ⟨b, 1, none⟩ = false := Lib.frozen_of_heap hb2 1
  obtain ⟨g, cap, rfl⟩ : ∃ g cap, v' = .slice (some ⟨g, 0, none⟩) (bs.length + 1) cap := by
    rcases hown'.2 with ⟨_, h0⟩ | ⟨g, cap, cur, hv, _⟩
    · omega
    · exact ⟨g, cap, hv⟩
  go_wp2
  go_ret
  refine ⟨rfl, ?_, ?_⟩
  · exact Lib.BuilderAt.put (T := 122) (e := 5) hB hb2 (bs' := bs ++ [.int .u8 c]) (by simpa using hown') (by decide)
  · exact ((hb1.alloc (by have := hb1.size; omega) _).grown hgrow (by have := hb1.size; simp; omega) (fun k hk => (hown.lt k hk).1)).setCell (p := ⟨b, 1, none⟩) hB _
set_option maxHeartbeats 2000000 in
set_option maxRecDepth 100000 in
theorem writeString_any (B b : Nat) (bs : List Value) (s : ByteArray) (w : World) (h : Lib.IsBuilder 122 5 B b bs w) (hlen : bs.length + s.size ≤ 140737488355328) (hBw : B ≤ w.heap.size) :
    Calls Tryz.prog 162 #[.pointer (some ⟨b, 0, none⟩), .string s] w fun e w' => e = .returned (.tuple #[.int .i64 s.size, .nilIface]) ∧ (Lib.BuilderAt 122 5 B b (.pointer (some ⟨b, 0, none⟩)) (bs ++ Lib.strCells s) w' ∧ Below B w w') := by
  obtain ⟨i0, hi, hz0, hz1, hz2⟩ := info_parts infoByte
  go_enter Tryz.func162, Tryz.ntmps162
  go_wp2_with (go_at_call 174; refine (copyCheck_any B b bs _ h).mono ?_)
  rintro e w1 ⟨rfl, h1, hb1⟩
  obtain ⟨hB, v, hbk, hown, hne⟩ := h1
  have c0 : w1.cell? ⟨b, 0, none⟩ = some (.pointer (some ⟨b, 0, none⟩)) := by rw [Lib.cell_of_heap hbk]; rfl
  have c1 : w1.cell? ⟨b, 1, none⟩ = some v := by rw [Lib.cell_of_heap hbk]; rfl
  go_wp2_with (at_builtin; refine Lib.wpList_append_own_string _ rfl _ _ 91 9 rfl B 5 i0 Tryz.underlying91 Tryz.underlying9 hi hz0 hz1 hz2 _ _ _ rfl hown s rfl ?c3 ?c4 ?c5 ?_)
  case c3 => unfold maxLen; omega
  case c4 => omega
  case c5 => have := hb1.size; omega
  intro v' w2 hown' hgrow _
  have hlt : b < w1.heap.size := by
    rcases Nat.lt_or_ge b w1.heap.size with h' | h'
    · exact h'
    · simp [Array.getElem?_eq_none h'] at hbk
  have hb2 : w2.heap[b]? = some (.cells #[.pointer (some ⟨b, 0, none⟩), v] 122 (0, 0)) := by
    rw [hgrow.block b hlt (fun e => hne e.symm)]
    exact hbk
  have d0 : w2.cell? ⟨b, 0, none⟩ = some (.pointer (some ⟨b, 0, none⟩)) := by rw [Lib.cell_of_heap hb2]; rfl
  have d1 : w2.cell? ⟨b, 1, none⟩ = some v := by rw [Lib.cell_of_heap hb2]; rfl
  have f1 : w2.frozen? ⟨b, 1, none⟩ = false := Lib.frozen_of_heap hb2 1
  obtain ⟨ao, n', cap, rfl⟩ : ∃ ao n' cap, v' = .slice ao n' cap := by
    rcases hown'.2 with ⟨hv, _⟩ | ⟨g, cap, cur, hv, _⟩
    · exact ⟨_, _, _, hv⟩
    · exact ⟨_, _, _, hv⟩
  go_wp2
  go_ret2
  refine ⟨rfl, ?_, ?_⟩
  · exact Lib.BuilderAt.put (T := 122) (e := 5) hB hb2 (bs' := bs ++ Lib.strCells s) (by simpa [Lib.strCells_length] using hown') (by decide)
  · exact (hb1.grown hgrow (by have := hb1.size; omega) (fun k hk => (hown.lt k hk).1)).setCell (p := ⟨b, 1, none⟩) hB _
end Go.Proofs.YtgphkgmhcmffnaaGreatDoor
/- A block of cells known whole. -/
namespace Go.Proofs.YtgphkgmhcmffnaaGreatDoor
open Go.RowKit

def BlkIs (w : World) (g : Nat) (t : TypeId) (cs : Array Value) : Prop := w.heap[g]? = some (.cells cs t (0, 0))
theorem BlkIs.lt {w : World} {g : Nat} {t : TypeId} {cs : Array Value} (h : BlkIs w g t cs) : g < w.heap.size := by
  rcases Nat.lt_or_ge g w.heap.size with hlt | hge
  · exact hlt
  · unfold BlkIs at h; rw [Array.getElem?_eq_none hge] at h; cases h
theorem BlkIs.cell {w : World} {g : Nat} {t : TypeId} {cs : Array Value} (h : BlkIs w g t cs) (i : Nat) : w.cell? ⟨g, i, none⟩ = cs[i]? := by
  unfold BlkIs at h; simp [World.cell?, h]
theorem BlkIs.frozen {w : World} {g : Nat} {t : TypeId} {cs : Array Value} (h : BlkIs w g t cs) (i : Nat) : w.frozen? ⟨g, i, none⟩ = false := by
  unfold BlkIs at h; simp [World.frozen?, h]
theorem BlkIs.keep {w w' : World} {g : Nat} {t : TypeId} {cs : Array Value} (h : BlkIs w g t cs) (e : w'.heap[g]? = w.heap[g]?) : BlkIs w' g t cs := e.trans h
theorem BlkIs.alloc {w : World} {g : Nat} {t : TypeId} {cs : Array Value} (h : BlkIs w g t cs) (o : Obj) : BlkIs (w.alloc o) g t cs := h.keep (Below.heap_alloc w o g h.lt)
theorem BlkIs.new (w : World) (t : TypeId) (cs : Array Value) : BlkIs (w.alloc (.cells cs t)) w.heap.size t cs := heap_alloc_new w _
theorem BlkIs.set_ {w : World} {g : Nat} {t : TypeId} {cs : Array Value} (h : BlkIs w g t cs) (i : Nat) (u : Value) : BlkIs (w.setCell ⟨g, i, none⟩ u) g t (cs.setIfInBounds i u) := by
  unfold BlkIs at h ⊢; simp [World.setCell, Array.getElem?_modify, h]
theorem BlkIs.far {w : World} {g : Nat} {t : TypeId} {cs : Array Value} (h : BlkIs w g t cs) {p : Addr} (hp : g ≠ p.block) (u : Value) : BlkIs (w.setCell p u) g t cs := h.keep (Below.heap_setCell w p u g hp)
theorem BlkIs.below {w w' : World} {g : Nat} {t : TypeId} {cs : Array Value} (h : BlkIs w g t cs) (hb : Below w.heap.size w w') : BlkIs w' g t cs := h.keep (hb.block g h.lt)
theorem BlkIs.two {w : World} {g : Nat} {t : TypeId} {u v : Value} (h : BlkIs w g t #[u, v]) : w.cell? ⟨g, 0, none⟩ = some u ∧ w.cell? ⟨g, 1, none⟩ = some v ∧ w.frozen? ⟨g, 0, none⟩ = false ∧ w.frozen? ⟨g, 1, none⟩ = false ∧ g < w.heap.size :=
  ⟨h.cell 0, h.cell 1, h.frozen 0, h.frozen 1, h.lt⟩
theorem BlkIs.drew {w : World} {g : Nat} {t : TypeId} {cs : Array Value} (h : BlkIs w g t cs) : BlkIs w.drew g t cs := h
theorem BlkIs.drewN {w : World} {g : Nat} {t : TypeId} {cs : Array Value} (h : BlkIs w g t cs) (n : Nat) : BlkIs (w.drewN n) g t cs := h
theorem BlkIs.at0 {w : World} {g : Nat} {t : TypeId} {u v : Value} (h : BlkIs w g t #[u, v]) (u' : Value) : BlkIs (w.setCell ⟨g, 0, none⟩ u') g t #[u', v] := by
  simpa using h.set_ 0 u'
theorem BlkIs.at1 {w : World} {g : Nat} {t : TypeId} {u v : Value} (h : BlkIs w g t #[u, v]) (v' : Value) : BlkIs (w.setCell ⟨g, 1, none⟩ v') g t #[u, v'] := by
  simpa using h.set_ 1 v'
theorem BlkIs.new1 (w : World) (o : Obj) (t : TypeId) (cs : Array Value) : BlkIs ((w.alloc o).alloc (.cells cs t)) (w.heap.size + 1) t cs := by
  have := BlkIs.new (w.alloc o) t cs
  simpa using this
theorem box (w : World) (o : Obj) : Below w.heap.size w (w.alloc o) := (Below.refl _ _).alloc (Nat.le_refl _) _
theorem via {w w1 : World} {o : Obj} (h : Below (w.alloc o).heap.size (w.alloc o) w1) : Below w.heap.size w w1 := (box w o).trans (h.mono (box w o).size)
theorem via2 {a w w1 : World} {o : Obj} (h0 : Below a.heap.size a w) (h : Below (w.alloc o).heap.size (w.alloc o) w1) : Below a.heap.size a w1 := h0.trans ((via h).mono h0.size)
theorem then_ {a w w1 : World} (h0 : Below a.heap.size a w) (h : Below w.heap.size w w1) : Below a.heap.size a w1 := h0.trans (h.mono h0.size)
theorem box2 {a w : World} (h0 : Below a.heap.size a w) (o : Obj) : Below a.heap.size a (w.alloc o) := h0.alloc h0.size o
theorem below_dN {a w : World} (h0 : Below a.heap.size a w) (n : Nat) : Below a.heap.size a (w.drewN n) := ⟨h0.os, h0.tape, h0.output, h0.size, h0.block⟩
theorem set2 {a w : World} (h0 : Below a.heap.size a w) {g i : Nat} (hg : a.heap.size ≤ g) (u : Value) : Below a.heap.size a (w.setCell ⟨g, i, none⟩ u) := h0.setCell (p := ⟨g, i, none⟩) hg u
theorem BlkIs.via {w w1 : World} {t : TypeId} {cs : Array Value} (h : Below (w.alloc (.cells cs t)).heap.size (w.alloc (.cells cs t)) w1) : BlkIs w1 w.heap.size t cs := (BlkIs.new w t cs).below h
theorem BlkIs.seven {w : World} {g : Nat} {t : TypeId} {c0 c1 c2 c3 c4 c5 c6 : Value} (h : BlkIs w g t #[c0, c1, c2, c3, c4, c5, c6]) :
    w.cell? ⟨g, 0, none⟩ = some c0 ∧ w.cell? ⟨g, 1, none⟩ = some c1 ∧ w.cell? ⟨g, 2, none⟩ = some c2 ∧ w.cell? ⟨g, 3, none⟩ = some c3 ∧ w.cell? ⟨g, 4, none⟩ = some c4 ∧ w.cell? ⟨g, 5, none⟩ = some c5 ∧ w.cell? ⟨g, 6, none⟩ = some c6 ∧ g < w.heap.size :=
  ⟨h.cell 0, h.cell 1, h.cell 2, h.cell 3, h.cell 4, h.cell 5, h.cell 6, h.lt⟩
end Go.Proofs.YtgphkgmhcmffnaaGreatDoor
/- number.Valid, decimal, Digits: which strings are decimals. -/
namespace Go.Proofs.YtgphkgmhcmffnaaGreatDoor
open Go.RowKit

theorem trimPrefix_mag (l : List UInt8) : Lib.trimPrefix l [45] = Dec.mag l := by
  cases l with
  | nil => rfl
  | cons c r =>
    by_cases h : c = 45
    · subst h; simp [Lib.trimPrefix, Lib.hasPrefix, Dec.mag]
    · have h' : ¬ 45 = c := fun e => h e.symm
      simp [Lib.trimPrefix, Lib.hasPrefix, Dec.mag, h, h']
theorem trimPrefix_any (l : List UInt8) (w : World) :
    Calls Tryz.prog 150 #[.string ⟨l.toArray⟩, .string ⟨#[45]⟩] w fun e w' => e = .returned (.string ⟨(Dec.mag l).toArray⟩) ∧ w = w' := by
  refine (Tryz.strings_TrimPrefix ⟨l.toArray⟩ ⟨#[45]⟩ w).mono ?_
  rintro e w' ⟨rfl, rfl⟩
  exact ⟨by rw [← trimPrefix_mag], rfl⟩

theorem isDec_head48 {l r : List UInt8} {c : UInt8} (h : Dec.mag l = c :: r) (hc : c.toNat = 48) : Dec.isDec l = (l == [48]) := by
  have e : c = 48 := UInt8.toNat_inj.1 (by simpa using hc)
  unfold Dec.isDec; rw [h, e]; simp
theorem isDec_head {l r : List UInt8} {c : UInt8} (h : Dec.mag l = c :: r) (hc : c.toNat ≠ 48) : Dec.isDec l = Dec.digs (Dec.mag l) := by
  have h0 : l ≠ [48] := by
    rintro rfl
    have e : Dec.mag [48] = [48] := by decide
    rw [e] at h
    injection h with h _
    exact hc (by rw [← h]; rfl)
  rw [Bool.eq_iff_iff, Dec.isDec_iff h0]
  exact ⟨fun ⟨a, _⟩ => a, fun a => ⟨a, c, r, h, hc⟩⟩
theorem byte_at {D : ByteArray} {l : List UInt8} (h : D.data.toList = l) (k : Nat) (hk : k < D.size) : ∃ hl : k < l.length, D[k] = l[k] := by
  subst h
  exact ⟨by rw [← Lib.size_eq]; exact hk, rfl⟩
theorem digs_take_succ {l : List UInt8} {k : Nat} (hk : k < l.length) (h : Dec.digs (l.take k) = true) (h1 : 48 ≤ l[k].toNat) (h2 : l[k].toNat ≤ 57) : Dec.digs (l.take (k + 1)) = true := by
  rw [List.take_succ_eq_append_getElem hk]
  exact Dec.digs_snoc.2 ⟨h, by simp [Dec.dig, h1, h2]⟩
theorem digs_not {l : List UInt8} {k : Nat} (hk : k < l.length) (h : l[k].toNat < 48 ∨ 57 < l[k].toNat) : Dec.digs l = false := by
  cases hd : Dec.digs l with
  | false => rfl
  | true =>
    have := List.all_eq_true.1 hd _ (List.getElem_mem hk)
    simp only [Dec.dig, Bool.and_eq_true, decide_eq_true_eq] at this
    omega
theorem empty_toList {D : ByteArray} (h : D.size = 0) : D.toList = [] := by
  rw [Lib.toList_data]; exact List.eq_nil_of_length_eq_zero (by rw [← Lib.size_eq]; exact h)
theorem ne_toList {D : ByteArray} (h : ¬ D.size = 0) : ¬ D.toList = [] := by
  rw [Lib.toList_data]; intro e; exact h (by rw [Lib.size_eq, e]; rfl)

set_option maxHeartbeats 400000 in
theorem valid_any (l : List UInt8) (w : World) (hl : l.length ≤ 1000000000) :
    Calls Tryz.prog 131 #[.string ⟨l.toArray⟩] w fun e w' => e = .returned (.bool (Dec.isDec l)) ∧ w = w' := by
  have hml := Dec.mag_length_le l
  go_enter Tryz.func131, Tryz.ntmps131
  go_wp2_with fail
  refine (trimPrefix_any l _).mono ?_
  rintro e w' ⟨rfl, rfl⟩
  obtain ⟨D, hD⟩ : ∃ D : ByteArray, D = ⟨(Dec.mag l).toArray⟩ := ⟨_, rfl⟩
  rw [← hD]
  have HT : Hid (D.data.toList = Dec.mag l) := by rw [hD]; exact (rfl : (Dec.mag l).toArray.toList = Dec.mag l)
  clear hD
  have hsz : D.size ≤ 1000000000 := by rw [Lib.size_eq, HT.out]; omega
  clear hml
  by_cases h0 : D.size = 0
  · have hE1 := empty_toList h0
    have HF : Hid (Dec.isDec l = (l == [48])) := by
      have hm : Dec.mag l = [] := by rw [← HT.out]; exact List.eq_nil_of_length_eq_zero (by rw [← Lib.size_eq]; exact h0)
      show _ = _
      unfold Dec.isDec; rw [hm]; simp
    go_wp2
    go_ret
    exact ⟨by rw [HF.out]; rfl, rfl⟩
  · have hE1 := ne_toList h0
    have hE2 : D.toList.isEmpty = false := by simp [hE1]
    have hpos : 0 < D.size := by omega
    obtain ⟨hl0, e0⟩ := byte_at HT.out 0 hpos
    obtain ⟨c, r, hcr⟩ : ∃ c r, Dec.mag l = c :: r := by
      cases hm : Dec.mag l with
      | nil => rw [hm] at hl0; simp at hl0
      | cons c r => exact ⟨c, r, rfl⟩
    have ec : D[0] = c := by rw [e0]; simp [hcr]
    by_cases h48 : D[0].toNat = 48
    · have HF := Lib.hid (isDec_head48 hcr (by rw [← ec]; exact h48))
      have hb : ((D[0].toNat : Int) == 48) = true := by rw [beq_iff_eq]; omega
      clear h48 hcr e0 ec hl0
      go_wp2
      go_ret
      exact ⟨by rw [HF.out]; rfl, rfl⟩
    · have HF := Lib.hid (isDec_head hcr (by rw [← ec]; exact h48))
      have hb : ((D[0].toNat : Int) == 48) = false := by rw [beq_eq_false_iff_ne]; omega
      clear h48 hcr e0 ec hl0
      go_wp2
      go_loop [18] (fun ix => ∃ k : Nat, k ≤ D.size ∧ ix = .int .i64 k ∧ Hid (Dec.digs ((Dec.mag l).take k) = true)) (fun ix => D.size - (intOf ix).toNat)
      case atStart => exact ⟨0, Nat.zero_le _, rfl, (rfl : Dec.digs ((Dec.mag l).take 0) = true)⟩
      case round =>
        obtain ⟨k, hk, rfl, HK⟩ := hrel
        by_cases hlt : k < D.size
        · obtain ⟨hkl, ek⟩ := byte_at HT.out k hlt
          have EK := Lib.hid ek
          clear ek
          rcases Nat.lt_or_ge D[k].toNat 48 with h1 | h1
          · have HR : Hid (Dec.isDec l = false) := by show _ = _; rw [HF.out]; exact digs_not hkl (.inl (by rw [← EK.out]; exact h1))
            go_wp2
            go_ret
            exact ⟨by rw [HR.out]; rfl, rfl⟩
          · rcases Nat.lt_or_ge 57 D[k].toNat with h2 | h2
            · have HR : Hid (Dec.isDec l = false) := by show _ = _; rw [HF.out]; exact digs_not hkl (.inr (by rw [← EK.out]; exact h2))
              go_wp2
              go_ret
              exact ⟨by rw [HR.out]; rfl, rfl⟩
            · go_wp2
              go_round
              case rel => exact ⟨k + 1, by omega, by go_num, digs_take_succ hkl HK.out (by rw [← EK.out]; exact h1) (by rw [← EK.out]; exact h2)⟩
              case measure => simp only [intOf]; omega
        · have HR : Hid (Dec.isDec l = true) := by
            show _ = _
            rw [HF.out]
            have := HK.out
            rwa [List.take_of_length_le (by rw [← HT.out, ← Lib.size_eq]; omega)] at this
          go_wp2
          go_ret
          exact ⟨by rw [HR.out]; rfl, rfl⟩
end Go.Proofs.YtgphkgmhcmffnaaGreatDoor
/- number.decimal and number.parse: the sign and the limbs of a decimal. -/
namespace Go.Proofs.YtgphkgmhcmffnaaGreatDoor
open Go.RowKit

/-! ### library calls, their worlds said by 'Below' -/
theorem parseUint_any (s : ByteArray) (w : World) (h : Dec.digs s.data.toList = true) (h0 : s.data.toList ≠ []) (h9 : s.data.toList.length ≤ 9) :
    Calls Tryz.prog 159 #[.string s, .int .i64 10, .int .i64 32] w fun e w' => e = .returned (.tuple #[.int .u64 (Dec.nval s.data.toList : Nat), .nilIface]) ∧ Below w.heap.size w w' := by
  have hs : s.size ≤ 9 := by rw [Lib.size_eq]; exact h9
  refine (Tryz.strconv_ParseUint_10_at32_ok s (by omega) _ (Dec.parseUint32 h h0 h9) w).mono ?_
  rintro e w' ⟨rfl, hw⟩
  refine ⟨rfl, ?_⟩
  rcases hw with rfl | rfl
  · exact Below.refl _ _
  · exact Lib.bytesWorld_below _ _ _
theorem parseInt_any (l : List UInt8) (w : World) (h : Dec.isDec l = true) (h18 : l.length ≤ 18) :
    Calls Tryz.prog 156 #[.string ⟨l.toArray⟩, .int .i64 10, .int .i64 64] w fun e w' => e = .returned (.tuple #[.int .i64 (Dec.dval l), .nilIface]) ∧ Below w.heap.size w w' := by
  have hs : (⟨l.toArray⟩ : ByteArray).size ≤ 18 := by rw [Lib.size_eq]; exact h18
  refine (Tryz.strconv_ParseInt_10_at64_ok ⟨l.toArray⟩ (by omega) _ (Dec.parseInt64_dec h h18) w).mono ?_
  rintro e w' ⟨rfl, hw⟩
  refine ⟨rfl, ?_⟩
  rcases hw with rfl | ⟨t, rfl⟩
  · exact Below.refl _ _
  · exact Lib.bytesWorld_below _ _ _

/-! ### decimal -/
def norm (l : List UInt8) : List UInt8 := if Dec.isDec l then l else [48]
theorem norm_dec (l : List UInt8) : Dec.isDec (norm l) = true := by
  unfold norm; split
  · assumption
  · rfl
theorem norm_eq (l : List UInt8) : norm l = Lib.itoa (Dec.dval l) := by
  unfold norm
  split
  · exact (Dec.itoa_dval ‹_›).symm
  · rename_i h
    unfold Dec.dval; rw [if_neg h, Dec.itoa_zero]
theorem norm_length (l : List UInt8) : (norm l).length ≤ l.length + 1 := by
  unfold norm; split <;> simp
theorem dval_norm (l : List UInt8) : Dec.dval (norm l) = Dec.dval l := by rw [norm_eq, Dec.dval_itoa]
theorem decimal_any (l : List UInt8) (w : World) (hl : l.length ≤ 1000000000) :
    Calls Tryz.prog 151 #[.string ⟨l.toArray⟩] w fun e w' => e = .returned (.string ⟨(norm l).toArray⟩) ∧ w = w' := by
  cases hv : Dec.isDec l with
  | true =>
    have HN : Hid (norm l = l) := by show _ = _; unfold norm; rw [if_pos hv]
    have hc := valid_any l w hl
    rw [hv] at hc
    have HC := Lib.hid hc
    clear hc hv
    go_enter Tryz.func151, Tryz.ntmps151
    go_wp2_with fail
    refine HC.out.mono ?_
    rintro e w' ⟨rfl, rfl⟩
    go_wp2
    go_ret
    exact ⟨by rw [HN.out]; rfl, rfl⟩
  | false =>
    have HN : Hid (norm l = [48]) := by show _ = _; unfold norm; rw [if_neg (by rw [hv]; simp)]
    have hc := valid_any l w hl
    rw [hv] at hc
    have HC := Lib.hid hc
    clear hc hv
    go_enter Tryz.func151, Tryz.ntmps151
    go_wp2_with fail
    refine HC.out.mono ?_
    rintro e w' ⟨rfl, rfl⟩
    go_wp2
    go_ret
    exact ⟨by rw [HN.out]; rfl, rfl⟩
/-- the digits of a decimal -/
theorem mag_norm (l : List UInt8) : Dec.digs (Dec.mag (norm l)) = true ∧ Dec.mag (norm l) ≠ [] ∧ Dec.nval (Dec.mag (norm l)) = (Dec.dval l).natAbs ∧ (decide ((Dec.mag (norm l)).length < (norm l).length)) = decide (Dec.dval l < 0) := by
  have hd := norm_dec l
  have hv := dval_norm l
  generalize norm l = s at *
  by_cases h0 : s = [48]
  · subst h0
    rw [← hv]; decide
  · obtain ⟨h1, h2⟩ := (Dec.isDec_iff h0).1 hd
    have hz := (Dec.decDigits_nval _ h1 h2).2
    obtain ⟨c, r, e, _⟩ := h2
    refine ⟨h1, by rw [e]; simp, ?_, ?_⟩
    · rw [← hv]; unfold Dec.dval; rw [if_pos hd]
      split <;> omega
    · rw [← hv]; unfold Dec.dval; rw [if_pos hd]
      cases hn : Dec.neg s with
      | true =>
        have := congrArg List.length (Dec.cons_of_neg hn)
        rw [List.length_cons] at this
        rw [if_pos rfl, decide_eq_true (by omega), decide_eq_true (by omega)]
      | false =>
        rw [Dec.mag_of_not hn, if_neg (by simp), decide_eq_false (by omega), decide_eq_false (by omega)]

/-! ### parse -/
/-- a struct 'integer' that stands for v -/
def RetInt (K : Nat) (v : Int) (w : World) (e : Ending) (w' : World) : Prop :=
  ∃ A n c, e = .returned (.agg #[.bool (decide (v < 0)), .slice A n c]) ∧ Sl w' .u32 A n c (Dec.limbs 1000000000 v.natAbs) ∧ n ≤ K ∧ Below w.heap.size w w'
theorem Own.neBlk {w : World} {base : Nat} {E t : TypeId} {k : IntKind} {A : Option Addr} {n c g : Nat} {l : List Nat} {cs : Array Value} (h : Own w base E k A n c l) (hb : BlkIs w g t cs) (hne : E ≠ t) : A ≠ some ⟨g, 0, none⟩ := by
  rintro rfl
  rcases h.own.2 with ⟨hv, _⟩ | ⟨g', cap, cur, hv, _, hg, _⟩
  · simp only [Value.slice.injEq] at hv; cases hv.1
  · simp only [Value.slice.injEq] at hv
    obtain ⟨e, _⟩ := hv
    injection e with e
    injection e with e1
    subst e1
    unfold BlkIs at hb
    rw [hg] at hb
    injection hb with hb
    injection hb with _ ht
    exact hne ht
theorem Own.farSet {w : World} {base : Nat} {E t : TypeId} {k : IntKind} {A : Option Addr} {n c g : Nat} {l : List Nat} {cs : Array Value} (h : Own w base E k A n c l) (hb : BlkIs w g t cs) (hne : E ≠ t) (i : Nat) (u : Value) : Own (w.setCell ⟨g, i, none⟩ u) base E k A n c l :=
  h.keep fun g' e => Below.heap_setCell w _ u g' (by rintro rfl; exact h.neBlk hb hne e)
theorem BlkIs.keep2 {w w' : World} {g : Nat} {t : TypeId} {u v : Value} (h : BlkIs w g t #[u, v]) (e : w'.heap[g]? = w.heap[g]?) :
    w'.cell? ⟨g, 0, none⟩ = some u ∧ w'.cell? ⟨g, 1, none⟩ = some v ∧ w'.frozen? ⟨g, 0, none⟩ = false ∧ w'.frozen? ⟨g, 1, none⟩ = false ∧ Hid (BlkIs w' g t #[u, v]) ∧ g < w'.heap.size := by
  have h' := h.keep e
  exact ⟨h'.cell 0, h'.cell 1, h'.frozen 0, h'.frozen 1, Lib.hid h', h'.lt⟩
theorem length_limbs_le {L x : Nat} (h : x < 10 ^ L) : (Dec.limbs 1000000000 x).length ≤ L :=
  Dec.limbs_lt_length (by omega) (Nat.lt_of_lt_of_le h (Nat.pow_le_pow_left (by omega) L))
theorem extract_lo (D : ByteArray) (k : Nat) : (D.extract 0 k).data.toList ++ (D.extract k D.size).data.toList = D.data.toList := by
  rw [Lib.extract_data, Lib.extract_data, List.drop_zero, Nat.sub_zero, List.take_of_length_le (l := D.data.toList.drop k) (by rw [List.length_drop, ← Lib.size_eq]; omega), List.take_append_drop]

def strLen : Value → Nat
  | .string s => s.size
  | _ => 0
set_option maxHeartbeats 1000000 in
theorem parse_any (l : List UInt8) (w : World) (hl : l.length ≤ 2500000) :
    Calls Tryz.prog 142 #[.string ⟨l.toArray⟩] w (RetInt (l.length + 1) (Dec.dval l) w) := by
  obtain ⟨hd1, hd2, hd3, hd4⟩ := mag_norm l
  have HD1 := Lib.hid hd1
  have HD2 := Lib.hid hd2
  have HD3 := Lib.hid hd3
  have hml : (Dec.mag (norm l)).length ≤ l.length + 1 := Nat.le_trans (Dec.mag_length_le _) (norm_length l)
  have hnl := norm_length l
  have HD4 := Lib.hid hd4
  clear hd1 hd2 hd3 hd4
  go_enter Tryz.func142, Tryz.ntmps142
  go_wp2_with fail
  refine (decimal_any l _ (by omega)).mono ?_
  rintro e w' ⟨rfl, rfl⟩
  go_wp2_with fail
  refine (trimPrefix_any (norm l) _).mono ?_
  rintro e w' ⟨rfl, rfl⟩
  obtain ⟨D, hD⟩ : ∃ D : ByteArray, D = ⟨(Dec.mag (norm l)).toArray⟩ := ⟨_, rfl⟩
  rw [← hD]
  have HT : Hid (D.data.toList = Dec.mag (norm l)) := by rw [hD]; exact (rfl : (Dec.mag (norm l)).toArray.toList = _)
  clear hD
  have hsz : D.size ≤ l.length + 1 := by rw [Lib.size_eq, HT.out]; exact hml
  obtain ⟨D0, hD0⟩ : ∃ D0 : ByteArray, D0 = ⟨(norm l).toArray⟩ := ⟨_, rfl⟩
  rw [← hD0]
  have hsz0 : D0.size ≤ l.length + 1 := by rw [hD0, Lib.size_eq]; exact hnl
  have hneg : decide (D.size < D0.size) = decide (Dec.dval l < 0) := by
    rw [hD0, Lib.size_eq, Lib.size_eq, HT.out]; exact HD4.out
  clear hD0 HD4 hnl hml
  generalize hng : decide (Dec.dval l < 0) = ng at hneg
  have HNG := Lib.hid hng
  clear hng
  go_wp2
  have HV : Hid (Dec.nval D.data.toList = (Dec.dval l).natAbs) := by show _ = _; rw [HT.out]; exact HD3.out
  have HD : Hid (Dec.digs D.data.toList = true) := by show _ = _; rw [HT.out]; exact HD1.out
  clear HT HD1 HD2 HD3
  go_loopw [3] (fun s3 wr => ∃ (E : ByteArray) (A2 : Option Addr) (k c2 : Nat) (o : List Nat), s3 = .string E ∧ E.size + k ≤ l.length + 1 ∧ Hid (Dec.digs E.data.toList = true) ∧ Hid (BlkIs wr w.heap.size 99 #[.bool false, .slice none 0 0]) ∧ Hid (BlkIs wr (w.heap.size + 1) 99 #[.bool ng, .slice A2 k c2]) ∧ Own wr w.heap.size 118 .u32 A2 k c2 o ∧ Dec.Small 1000000000 o ∧ Hid ((Dec.dval l).natAbs = Dec.lval 1000000000 o + 1000000000 ^ k * Dec.nval E.data.toList) ∧ Below w.heap.size w wr) (fun s3 _ => strLen s3)
  case atStart =>
    refine ⟨D, none, 0, 0, [], rfl, by omega, HD, ?_, ?_, Own.nil _ _ _ _, Dec.Small.nil, (by rw [HV.out]; simp [Dec.lval] : (Dec.dval l).natAbs = Dec.lval 1000000000 [] + 1000000000 ^ 0 * Dec.nval D.data.toList), ?_⟩
    · exact (BlkIs.new w _ _).alloc _
    · have := BlkIs.new (w.alloc (.cells #[.bool false, .slice none 0 0] 99)) 99 #[.bool ng, .slice none 0 0]
      exact Lib.hid (by simpa using this)
    · exact ((Below.refl _ _).alloc (Nat.le_refl _) _).alloc (by simp) _
  case round =>
    obtain ⟨E, A2, k, c2, o, rfl, hEk, HE, HB1, HB2, hown, hso, HVE, hb⟩ := hrel
    have HO := Lib.hid hown.len
    have c10 := HB2.out.cell 0
    have c11 := HB2.out.cell 1
    simp only [List.getElem?_toArray, List.getElem?_cons_zero, List.getElem?_cons_succ] at c10 c11
    have f11 := HB2.out.frozen 1
    have hlt1 := HB2.out.lt
    by_cases h0 : 0 < E.size
    · obtain ⟨m, hmax, hm1, hm2, HM3⟩ : ∃ m : Nat, max 0 ((E.size : Int) - 9) = (m : Int) ∧ m < E.size ∧ E.size ≤ m + 9 ∧ Hid (m = 0 ∨ E.size = m + 9) :=
        ⟨E.size - 9, by omega, by omega, by omega, Lib.hid (by omega)⟩
      have HC : Hid ((E.extract 0 m).data.toList ++ (E.extract m E.size).data.toList = E.data.toList) := extract_lo E m
      have hE1 : (E.extract m E.size).data.toList.length = E.size - m := by
        rw [Lib.extract_data, List.length_take, List.length_drop, ← Lib.size_eq]; omega
      have hE2 : (E.extract 0 m).data.toList.length = m := by
        rw [Lib.extract_data, List.length_take, List.length_drop, ← Lib.size_eq]; omega
      have hE3 : (E.extract 0 m).size = m := by rw [Lib.size_eq, hE2]
      have hdd : Dec.digs (E.extract 0 m).data.toList = true ∧ Dec.digs (E.extract m E.size).data.toList = true := Dec.digs_append.1 (by rw [HC.out]; exact HE.out)
      have HDD := Lib.hid hdd
      have hnv := Dec.nval_lt _ hdd.2
      rw [hE1] at hnv
      have hnv2 : Dec.nval (E.extract m E.size).data.toList < 1000000000 := Nat.lt_of_lt_of_le hnv (Nat.le_trans (Nat.pow_le_pow_right (by omega) (show E.size - m ≤ 9 by omega)) (by decide))
      have HR : Hid ((Dec.dval l).natAbs = Dec.lval 1000000000 (o ++ [Dec.nval (E.extract m E.size).data.toList]) + 1000000000 ^ (k + 1) * Dec.nval (E.extract 0 m).data.toList) := by
        have hlo := HO.out
        subst hlo
        have h := HVE.out
        rw [← HC.out] at h
        exact Dec.parse_round' (D := Lib.decDigits (Dec.dval l).natAbs) (by rw [Dec.nval_decDigits]; exact h) (by
          rcases HM3.out with e | e
          · right; exact List.eq_nil_of_length_eq_zero (by rw [hE2]; exact e)
          · left; rw [hE1, e, Nat.add_sub_cancel_left]) |> fun h => by rw [Dec.nval_decDigits] at h; exact h
      have HE1 := Lib.hid hE1
      clear hE1 hE2 hdd hnv HC
      have hpu := parseUint_any (E.extract m E.size) wr HDD.out.2 (by intro e; have := congrArg List.length e; rw [HE1.out] at this; simp at this; omega) (by rw [HE1.out]; omega)
      generalize Dec.nval (E.extract m E.size).data.toList = y at hnv2 HR hpu
      have HPU := Lib.hid hpu
      clear hpu
      go_wp2_with fail
      refine HPU.out.mono ?_
      rintro e w1 ⟨rfl, hb1⟩
      clear HPU
      have HB1' := HB1.out.below hb1
      have HB2' := HB2.out.below hb1
      have d10 := HB2'.cell 0
      have d11 := HB2'.cell 1
      simp only [List.getElem?_toArray, List.getElem?_cons_zero, List.getElem?_cons_succ] at d10 d11
      have g11 := HB2'.frozen 1
      have hlt2 := HB2'.lt
      have hown1 := hown.below hb1
      have hbw1 : Below w.heap.size w w1 := hb.trans (hb1.mono hb.size)
      have X1 := Lib.hid HB1'
      have X2 := Lib.hid HB2'
      clear HB1' HB2' HB1 HB2 c10 c11 f11 hlt1
      go_wp2_with (at_builtin; refine wpList_app (w0 := w) rfl _ _ _ rfl 118 .u32 4 Tryz.underlying97 infoU32 (by omega) _ _ _ o rfl hown1 _ y (by omega) rfl (by omega) hbw1 ?_; intro A3 c3 w2 hown2 hb2 hblk _ _; have Z1 := Lib.hid (X1.out.keep (hblk _ X1.out.lt (hown1.neBlk X1.out (by decide)))); obtain ⟨_, e11, _, h11, Z2, hlt3⟩ := X2.out.keep2 (hblk _ X2.out.lt (hown1.neBlk X2.out (by decide))); clear hblk d10 d11 g11 hlt2)
      go_roundw
      case rel =>
        refine ⟨E.extract 0 m, A3, k + 1, c3, o ++ [y], rfl, by rw [hE3]; omega, Lib.hid HDD.out.1, Lib.hid (Z1.out.far (by simp) _), ?_, hown2.farSet Z2.out (by decide) _ _, hso.append (Dec.Small.cons hnv2 Dec.Small.nil), HR, hb2.setCell (p := ⟨w.heap.size + 1, 1, none⟩) (by simp) _⟩
        have := Z2.out.set_ 1 (.slice A3 (k + 1) c3)
        exact Lib.hid (by simpa using this)
      case measure => simp only [strLen]; omega
    · go_wp2_with fail
      refine (trim_any _ _ _ _ _ hown.sl (by omega)).mono ?_
      rintro e w' ⟨rfl, rfl⟩
      have b10 := HB1.out.cell 0
      have b11 := HB1.out.cell 1
      simp only [List.getElem?_toArray, List.getElem?_cons_zero, List.getElem?_cons_succ] at b10 b11
      have g10 := HB1.out.frozen 0
      have g11 := HB1.out.frozen 1
      go_wp2
      have HW := ((HB1.out.far (p := ⟨w.heap.size + 1, 1, none⟩) (by simp) (.slice A2 (Dec.trimZ o).length c2)).set_ 0 (.bool ng)).set_ 1 (.slice A2 (Dec.trimZ o).length c2)
      have hbW : Below w.heap.size w (((wr.setCell ⟨w.heap.size + 1, 1, none⟩ (.slice A2 (Dec.trimZ o).length c2)).setCell ⟨w.heap.size, 0, none⟩ (.bool ng)).setCell ⟨w.heap.size, 1, none⟩ (.slice A2 (Dec.trimZ o).length c2)) :=
        ((hb.setCell (p := ⟨w.heap.size + 1, 1, none⟩) (by simp) _).setCell (p := ⟨w.heap.size, 0, none⟩) (Nat.le_refl _) _).setCell (p := ⟨w.heap.size, 1, none⟩) (Nat.le_refl _) _
      have hsl : Sl (((wr.setCell ⟨w.heap.size + 1, 1, none⟩ (.slice A2 (Dec.trimZ o).length c2)).setCell ⟨w.heap.size, 0, none⟩ (.bool ng)).setCell ⟨w.heap.size, 1, none⟩ (.slice A2 (Dec.trimZ o).length c2)) .u32 A2 (Dec.trimZ o).length c2 (Dec.limbs 1000000000 (Dec.dval l).natAbs) := by
        have h1 := (((hown.farSet HB2.out (by decide) 1 (.slice A2 (Dec.trimZ o).length c2)).farSet (HB1.out.far (p := ⟨w.heap.size + 1, 1, none⟩) (by simp) (.slice A2 (Dec.trimZ o).length c2)) (by decide) 0 (.bool ng)).farSet ((HB1.out.far (p := ⟨w.heap.size + 1, 1, none⟩) (by simp) (.slice A2 (Dec.trimZ o).length c2)).set_ 0 (.bool ng)) (by decide) 1 (.slice A2 (Dec.trimZ o).length c2)).sl.trimmed (B := 1000000000) (by omega) hso
        have hv : Dec.lval 1000000000 o = (Dec.dval l).natAbs := by
          rw [HVE.out, List.eq_nil_of_length_eq_zero (l := E.data.toList) (by rw [← Lib.size_eq]; omega), Dec.nval_nil]; simp
        rwa [hv] at h1
      generalize (((wr.setCell ⟨w.heap.size + 1, 1, none⟩ (.slice A2 (Dec.trimZ o).length c2)).setCell ⟨w.heap.size, 0, none⟩ (.bool ng)).setCell ⟨w.heap.size, 1, none⟩ (.slice A2 (Dec.trimZ o).length c2)) = W at *
      have q0 : W.cell? ⟨w.heap.size, 0, none⟩ = some (.bool ng) := by rw [HW.cell 0]; rfl
      have q1 : W.cell? ⟨w.heap.size, 1, none⟩ = some (.slice A2 (Dec.trimZ o).length c2) := by rw [HW.cell 1]; rfl
      refine bodyPost_ret (v := .agg #[.bool ng, .slice A2 (Dec.trimZ o).length c2]) ?_ rfl ⟨A2, _, c2, by rw [HNG.out], hsl, ?_, hbW⟩
      · simp [results, Tryz.results142, go_sem, q0, q1]
      · have := trimZ_length_le o
        rw [HO.out] at this
        omega
end Go.Proofs.YtgphkgmhcmffnaaGreatDoor
/- strconv.Itoa, from the shelf; the table of powers that it reads. -/
namespace Go.Proofs.YtgphkgmhcmffnaaGreatDoor
open Go.RowKit

/-- the library's table of powers lies where it was laid -/
def Tab (w : World) : Prop := Lib.TabIs Tryz.prog w "internal/strconv.uint64pow10" .u64 Lib.pow10Tab
theorem Tab.below {w w' : World} (h : Tab w) (hb : Below w.heap.size w w') : Tab w' := Lib.tabBelow_of_tabIs h w' hb
theorem Tab.alloc {w : World} (h : Tab w) (o : Obj) : Tab (w.alloc o) := h.below ((Below.refl _ _).alloc (Nat.le_refl _) _)
theorem itoa_any (n : Int) (w : World) (ht : Tab w) (h0 : -9223372036854775808 ≤ n) (h1 : n ≤ 9223372036854775807) :
    Calls Tryz.prog 82 #[.int .i64 n] w fun e w' => e = .returned (.string ⟨(Lib.itoa n).toArray⟩) ∧ Below w.heap.size w w' := by
  refine (Tryz.strconv_Itoa n h0 h1 w ht).mono ?_
  rintro e w' ⟨rfl, k, os, rfl⟩
  exact ⟨rfl, Lib.below_grow _ _ (Nat.le_refl _) _ _⟩
end Go.Proofs.YtgphkgmhcmffnaaGreatDoor
