/- Packages and symbols in memory; Find. -/
import Derived.Test.YtgphkgmhcmffnaaGreatDoorJP
namespace Go.Proofs.YtgphkgmhcmffnaaGreatDoor
open Go.RowKit

structure Pk where
  name : List UInt8
  imps : List Sy
def Pk.enc (p : Pk) : List Dt := [.val (str p.name), .row (p.imps.map Sy.enc)]
theorem Pk.enc_len (p : Pk) : p.enc.length = 2 := rfl

theorem Rd.pkgs {ok : Nat → Prop} {w wr : World} {A : Option Addr} {n c : Nat} {l : List Pk} (h : Rd ok w (.slice A n c) (.row (l.map Pk.enc))) (hbr : Below w.heap.size w wr) {i : Nat} (hi : i < n) :
    ∃ (b o : Nat) (hl : i < l.length) (A' : Option Addr) (n' c' : Nat), A = some ⟨b, o, none⟩ ∧ b < w.heap.size ∧ ok b ∧ wr.cell? ⟨b, o + i * 2, none⟩ = some (str (l[i]).name) ∧ wr.cell? ⟨b, o + i * 2 + 1, none⟩ = some (.slice A' n' c') ∧ Rd ok w (.slice A' n' c') (.row ((l[i]).imps.map Sy.enc)) := by
  have hlen := h.len
  rw [List.length_map] at hlen
  obtain ⟨b, o, k, rfl, hb, hok, hk, hf⟩ := h.cells (by omega)
  have e : (l.map Pk.enc)[i]'(by rw [List.length_map]; omega) = (l[i]'(by omega)).enc := List.getElem_map _
  have hk' := hk i (by rw [List.length_map]; omega)
  rw [e] at hk'
  subst hk'
  obtain ⟨u0, h0, r0⟩ := hf i 0 (by rw [List.length_map]; omega) (by rw [e]; exact Nat.lt_of_sub_eq_succ rfl)
  obtain ⟨u1, h1, r1⟩ := hf i 1 (by rw [List.length_map]; omega) (by rw [e]; exact Nat.lt_of_sub_eq_succ rfl)
  simp only [e, Pk.enc, List.getElem_cons_zero, List.getElem_cons_succ] at r0 r1
  rw [r0.val_eq] at h0
  obtain ⟨A', n', c', rfl, _⟩ := r1.slice
  exact ⟨b, o, by omega, A', n', c', rfl, hb, hok, (hbr.cell (p := ⟨b, o + i * 2, none⟩) hb).trans h0, (hbr.cell (p := ⟨b, o + i * 2 + 1, none⟩) hb).trans h1, r1⟩

/-! ### Find -/
def findP (l : List Pk) (nm : List UInt8) : Option Pk := l.find? fun p => p.name == nm
def RetFind (ok : Nat → Prop) (r : Option Pk) (w : World) (e : Ending) (w' : World) : Prop :=
  (match r with
   | none => e = .returned (.tuple #[.agg #[str [], .slice none 0 0], .bool false])
   | some p => ∃ A n c, e = .returned (.tuple #[.agg #[str p.name, .slice A n c], .bool true]) ∧ Rd ok w (.slice A n c) (.row (p.imps.map Sy.enc))) ∧ Below w.heap.size w w'

theorem findP_step {l : List Pk} {nm : List UInt8} {k : Nat} (hk : k < l.length) (h : ((l[k]).name == nm) = false) : findP (l.drop (k + 1)) nm = findP (l.drop k) nm := by
  unfold findP
  rw [List.drop_eq_getElem_cons hk, List.find?_cons, h]
theorem findP_hit {l : List Pk} {nm : List UInt8} {k : Nat} (hk : k < l.length) (h : ((l[k]).name == nm) = true) : findP (l.drop k) nm = some l[k] := by
  unfold findP
  rw [List.drop_eq_getElem_cons hk, List.find?_cons, h]
theorem findP_none {l : List Pk} {nm : List UInt8} {k : Nat} (hk : l.length ≤ k) : findP (l.drop k) nm = none := by
  unfold findP
  rw [List.drop_of_length_le hk]; rfl

end Go.Proofs.YtgphkgmhcmffnaaGreatDoor
