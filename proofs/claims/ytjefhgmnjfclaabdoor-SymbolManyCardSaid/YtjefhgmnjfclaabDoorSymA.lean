/- Packages and symbols in memory; Find. -/
import Derived.Test.YtjefhgmnjfclaabDoorDt
import Derived.Lib.Hide
namespace Go.Proofs.YtjefhgmnjfclaabDoor
open Go.RowKit

abbrev str (l : List UInt8) : Value := .string ⟨l.toArray⟩
structure Sy where
  pkg : List UInt8
  name : List UInt8
  deriving DecidableEq
structure Pk where
  name : List UInt8
  imps : List Sy
def Sy.enc (s : Sy) : List Dt := [.val (str s.pkg), .val (str s.name)]
def Pk.enc (p : Pk) : List Dt := [.val (str p.name), .row (p.imps.map Sy.enc)]
theorem Sy.enc_len (s : Sy) : s.enc.length = 2 := rfl
theorem Pk.enc_len (p : Pk) : p.enc.length = 2 := rfl

theorem Rd.syms {ok : Nat → Prop} {w wr : World} {A : Option Addr} {n c : Nat} {l : List Sy} (h : Rd ok w (.slice A n c) (.row (l.map Sy.enc))) (hbr : Below w.heap.size w wr) {i : Nat} (hi : i < n) :
    ∃ (b o : Nat) (hl : i < l.length), A = some ⟨b, o, none⟩ ∧ b < w.heap.size ∧ ok b ∧ wr.cell? ⟨b, o + i * 2, none⟩ = some (str (l[i]).pkg) ∧ wr.cell? ⟨b, o + i * 2 + 1, none⟩ = some (str (l[i]).name) := by
  have hlen := h.len
  rw [List.length_map] at hlen
  obtain ⟨b, o, k, rfl, hb, hok, hk, hf⟩ := h.cells (by omega)
  have e : (l.map Sy.enc)[i]'(by rw [List.length_map]; omega) = (l[i]'(by omega)).enc := List.getElem_map _
  have hk' := hk i (by rw [List.length_map]; omega)
  rw [e] at hk'
  subst hk'
  obtain ⟨u0, h0, r0⟩ := hf i 0 (by rw [List.length_map]; omega) (by rw [e]; exact Nat.lt_of_sub_eq_succ rfl)
  obtain ⟨u1, h1, r1⟩ := hf i 1 (by rw [List.length_map]; omega) (by rw [e]; exact Nat.lt_of_sub_eq_succ rfl)
  simp only [e, Sy.enc, List.getElem_cons_zero, List.getElem_cons_succ] at r0 r1
  rw [r0.val_eq] at h0
  rw [r1.val_eq] at h1
  exact ⟨b, o, by omega, rfl, hb, hok, (hbr.cell (p := ⟨b, o + i * 2, none⟩) hb).trans h0, (hbr.cell (p := ⟨b, o + i * 2 + 1, none⟩) hb).trans h1⟩
theorem Rd.pkgs {ok : Nat → Prop} {w wr : World} {A : Option Addr} {n c : Nat} {l : List Pk} (h : Rd ok w (.slice A n c) (.row (l.map Pk.enc))) (hbr : Below w.heap.size w wr) {i : Nat} (hi : i < n) :
    ∃ (b o : Nat) (hl : i < l.length) (A' : Option Addr) (n' c' : Nat), A = some ⟨b, o, none⟩ ∧ b < w.heap.size ∧ ok b ∧ wr.cell? ⟨b, o + i * 2, none⟩ = some (str (l[i]).name) ∧ wr.cell? ⟨b, o + i * 2 + 1, none⟩ = some (.slice A' n' c') ∧ Rd ok w (.slice A' n' c') (.row ((l[i]).imps.map Sy.enc)) := by
  have hlen := h.len
  rw [List.length_map] at hlen
  obtain ⟨b, o, k, rfl, hb, hok, hk, hf⟩ := h.cells (by omega)
  have e : (l.map Pk.enc)[i]'(by rw [List.length_map]; omega) = (l[i]'(by omega)).enc := List.getElem_map _
  have hk' := hk i (by rw [List.length_map]; omega)
  rw [e] at hk'
  subst hk'
  obtain ⟨u0, h0, r0⟩ := hf i 0 (by rw [List.length_map]; omega) (by rw [e]; exact Nat.lt_of_sub_eq_succ rfl)
  obtain ⟨u1, h1, r1⟩ := hf i 1 (by rw [List.length_map]; omega) (by rw [e]; exact Nat.lt_of_sub_eq_succ rfl)
  simp only [e, Pk.enc, List.getElem_cons_zero, List.getElem_cons_succ] at r0 r1
  rw [r0.val_eq] at h0
  obtain ⟨A', n', c', rfl, _⟩ := r1.slice
  exact ⟨b, o, by omega, A', n', c', rfl, hb, hok, (hbr.cell (p := ⟨b, o + i * 2, none⟩) hb).trans h0, (hbr.cell (p := ⟨b, o + i * 2 + 1, none⟩) hb).trans h1, r1⟩

/-! ### Find -/
def findP (l : List Pk) (nm : List UInt8) : Option Pk := l.find? fun p => p.name == nm
def RetFind (ok : Nat → Prop) (r : Option Pk) (w : World) (e : Ending) (w' : World) : Prop :=
  (match r with
   | none => e = .returned (.tuple #[.agg #[str [], .slice none 0 0], .bool false])
   | some p => ∃ A n c, e = .returned (.tuple #[.agg #[str p.name, .slice A n c], .bool true]) ∧ Rd ok w (.slice A n c) (.row (p.imps.map Sy.enc))) ∧ Below w.heap.size w w'

theorem findP_step {l : List Pk} {nm : List UInt8} {k : Nat} (hk : k < l.length) (h : ((l[k]).name == nm) = false) : findP (l.drop (k + 1)) nm = findP (l.drop k) nm := by
  unfold findP
  rw [List.drop_eq_getElem_cons hk, List.find?_cons, h]
theorem findP_hit {l : List Pk} {nm : List UInt8} {k : Nat} (hk : k < l.length) (h : ((l[k]).name == nm) = true) : findP (l.drop k) nm = some l[k] := by
  unfold findP
  rw [List.drop_eq_getElem_cons hk, List.find?_cons, h]
theorem findP_none {l : List Pk} {nm : List UInt8} {k : Nat} (hk : l.length ≤ k) : findP (l.drop k) nm = none := by
  unfold findP
  rw [List.drop_of_length_le hk]; rfl

set_option maxHeartbeats 1000000 in
theorem symFind_any (ok : Nat → Prop) (l : List Pk) (nm : List UInt8) (A : Option Addr) (n c : Nat) (w : World) (hl : Rd ok w (.slice A n c) (.row (l.map Pk.enc))) (hn : n ≤ 1000000000) :
    Calls Tryd.prog 21 #[.slice A n c, str nm] w (RetFind ok (findP l nm) w) := by
  have HL := Lib.hid hl.len
  rw [List.length_map] at HL
  go_enter Tryd.func21, Tryd.ntmps21
  go_wp2
  go_loopw [10] (fun ix wr => ∃ k : Nat, k ≤ n ∧ ix = .int .i64 k ∧ Hid (findP (l.drop k) nm = findP l nm) ∧ Hid (BlkIs wr w.heap.size 33 #[str [], .slice none 0 0]) ∧ Below w.heap.size w wr) (fun ix _ => n - (intOf ix).toNat)
  case atStart => exact ⟨0, Nat.zero_le _, rfl, Lib.hid rfl, Lib.hid (BlkIs.new w _ _), (Below.refl _ _).alloc (Nat.le_refl _) _⟩
  case round =>
    obtain ⟨k, hk, rfl, HF, HB, hb⟩ := hrel
    obtain ⟨c0, c1, f0, f1, hlt⟩ := HB.out.two
    by_cases hkn : k < n
    · obtain ⟨b, o, hkl, A', n', c', rfl, hbl, hok, h0, h1, hr⟩ := hl.pkgs hb hkn
      have hbl' := Nat.lt_of_lt_of_le hbl hb.size
      cases hm : ((l[k]).name == nm) with
      | false =>
        have HS := Lib.hid (findP_step hkl hm)
        go_wp2
        go_roundw
        case rel => exact ⟨k + 1, by omega, by go_num, Lib.hid (HS.out.trans HF.out), Lib.hid (HB.out.alloc _), hb.alloc hb.size _⟩
        case measure => simp only [intOf]; omega
      | true =>
        have HH := Lib.hid (HF.out.symm.trans (findP_hit hkl hm))
        go_wp2
        obtain ⟨r0, r1, _⟩ := (((HB.out.at0 (str (l[k]).name)).at1 (.slice A' n' c')).alloc (.cells #[str (l[k]).name, .slice A' n' c'] 33)).two
        refine bodyPost_ret (v := .tuple #[.agg #[str (l[k]).name, .slice A' n' c'], .bool true]) (by simp [results, Tryd.results21, go_sem, r0, r1]) rfl ?_
        rw [HH.out]
        exact ⟨⟨A', n', c', rfl, hr⟩, ((hb.setCell (p := ⟨w.heap.size, 0, none⟩) (Nat.le_refl _) (str (l[k]).name)).setCell (p := ⟨w.heap.size, 1, none⟩) (Nat.le_refl _) (.slice A' n' c')).alloc (by simp [World.setCell]; exact hb.size) _⟩
    · have HN := Lib.hid (HF.out.symm.trans (findP_none (nm := nm) (l := l) (k := k) (by rw [HL.out]; omega)))
      go_wp2
      obtain ⟨r0, r1, _⟩ := ((HB.out.at0 (str [])).at1 (.slice none 0 0)).two
      refine bodyPost_ret (v := .tuple #[.agg #[str [], .slice none 0 0], .bool false]) (by simp [results, Tryd.results21, go_sem, r0, r1]) rfl ?_
      rw [HN.out]
      exact ⟨rfl, (hb.setCell (p := ⟨w.heap.size, 0, none⟩) (Nat.le_refl _) _).setCell (p := ⟨w.heap.size, 1, none⟩) (Nat.le_refl _) _⟩

set_option maxHeartbeats 1000000 in
theorem refFind_any (ok : Nat → Prop) (l : List Pk) (nm : List UInt8) (A : Option Addr) (n c : Nat) (w : World) (hl : Rd ok w (.slice A n c) (.row (l.map Pk.enc))) (hn : n ≤ 1000000000) :
    Calls Tryd.prog 22 #[.slice A n c, str nm] w (RetFind ok (findP l nm) w) := by
  have HL := Lib.hid hl.len
  rw [List.length_map] at HL
  go_enter Tryd.func22, Tryd.ntmps22
  go_wp2
  go_loopw [6] (fun ix wr => ∃ k : Nat, k ≤ n ∧ ix = .int .i64 k ∧ Hid (findP (l.drop k) nm = findP l nm) ∧ Hid (BlkIs wr w.heap.size 33 #[str [], .slice none 0 0]) ∧ Below w.heap.size w wr) (fun ix _ => n - (intOf ix).toNat)
  case atStart => exact ⟨0, Nat.zero_le _, rfl, Lib.hid rfl, Lib.hid (BlkIs.new w _ _), (Below.refl _ _).alloc (Nat.le_refl _) _⟩
  case round =>
    obtain ⟨k, hk, rfl, HF, HB, hb⟩ := hrel
    obtain ⟨c0, c1, f0, f1, hlt⟩ := HB.out.two
    by_cases hkn : k < n
    · obtain ⟨b, o, hkl, A', n', c', rfl, hbl, hok, h0, h1, hr⟩ := hl.pkgs hb hkn
      have hbl' := Nat.lt_of_lt_of_le hbl hb.size
      cases hm : ((l[k]).name == nm) with
      | false =>
        have HS := Lib.hid (findP_step hkl hm)
        go_wp2
        go_roundw
        case rel => exact ⟨k + 1, by omega, by go_num, Lib.hid (HS.out.trans HF.out), Lib.hid HB.out, hb⟩
        case measure => simp only [intOf]; omega
      | true =>
        have HH := Lib.hid (HF.out.symm.trans (findP_hit hkl hm))
        go_wp2
        obtain ⟨r0, r1, _⟩ := (((HB.out.at0 (str (l[k]).name)).at1 (.slice A' n' c'))).two
        refine bodyPost_ret (v := .tuple #[.agg #[str (l[k]).name, .slice A' n' c'], .bool true]) (by simp [results, Tryd.results22, go_sem, r0, r1]) rfl ?_
        rw [HH.out]
        exact ⟨⟨A', n', c', rfl, hr⟩, (hb.setCell (p := ⟨w.heap.size, 0, none⟩) (Nat.le_refl _) (str (l[k]).name)).setCell (p := ⟨w.heap.size, 1, none⟩) (Nat.le_refl _) (.slice A' n' c')⟩
    · have HN := Lib.hid (HF.out.symm.trans (findP_none (nm := nm) (l := l) (k := k) (by rw [HL.out]; omega)))
      go_wp2
      obtain ⟨r0, r1, _⟩ := ((HB.out.at0 (str [])).at1 (.slice none 0 0)).two
      refine bodyPost_ret (v := .tuple #[.agg #[str [], .slice none 0 0], .bool false]) (by simp [results, Tryd.results22, go_sem, r0, r1]) rfl ?_
      rw [HN.out]
      exact ⟨rfl, (hb.setCell (p := ⟨w.heap.size, 0, none⟩) (Nat.le_refl _) _).setCell (p := ⟨w.heap.size, 1, none⟩) (Nat.le_refl _) _⟩
end Go.Proofs.YtjefhgmnjfclaabDoor
