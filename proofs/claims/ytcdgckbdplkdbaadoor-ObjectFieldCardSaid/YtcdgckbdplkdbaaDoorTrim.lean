/- number.trim: the slice without the zero limbs at its end. -/
import Derived.Test.YtcdgckbdplkdbaaDoorProg
import Derived.Test.YtcdgckbdplkdbaaDoorMem
import Derived.Test.YtcdgckbdplkdbaaDoorLimb
namespace Go.Proofs.YtcdgckbdplkdbaaDoor
open Go.RowKit

theorem trimZ_take (l : List Nat) : l.take (Dec.trimZ l).length = Dec.trimZ l := by
  induction l using Dec.snoc_ind with
  | nil => rfl
  | snoc l c ih =>
    by_cases hc : c = 0
    · subst hc
      rw [Dec.trimZ_snoc_zero, List.take_append_of_le_length, ih]
      have := congrArg List.length ih
      rw [List.length_take] at this
      omega
    · rw [Dec.trimZ_snoc hc, List.take_length]
theorem trimZ_length_le (l : List Nat) : (Dec.trimZ l).length ≤ l.length := by
  have := congrArg List.length (trimZ_take l)
  rw [List.length_take] at this
  omega
theorem trimZ_step {l : List Nat} {m : Nat} (h0 : 0 < m) (hm : m ≤ l.length) (hz : l.getD (m - 1) 0 = 0) : Dec.trimZ (l.take (m - 1)) = Dec.trimZ (l.take m) := by
  obtain ⟨k, rfl⟩ : ∃ k, m = k + 1 := ⟨m - 1, by omega⟩
  rw [Nat.add_sub_cancel] at hz ⊢
  rw [List.take_succ_eq_append_getElem (by omega)]
  rw [List.getD_eq_getElem?_getD, List.getElem?_eq_getElem (by omega)] at hz
  simp only [Option.getD_some] at hz
  rw [hz, Dec.trimZ_snoc_zero]
theorem trimZ_stop {l : List Nat} {m : Nat} (h0 : 0 < m) (hm : m ≤ l.length) (hz : l.getD (m - 1) 0 ≠ 0) : Dec.trimZ (l.take m) = l.take m := by
  obtain ⟨k, rfl⟩ : ∃ k, m = k + 1 := ⟨m - 1, by omega⟩
  rw [Nat.add_sub_cancel] at hz
  rw [List.take_succ_eq_append_getElem (by omega)]
  rw [List.getD_eq_getElem?_getD, List.getElem?_eq_getElem (by omega)] at hz
  exact Dec.trimZ_snoc hz _
def sliceLen : Value → Nat
  | .slice _ m _ => m
  | _ => 0

set_option maxHeartbeats 400000 in
theorem trim_any (A : Option Addr) (n c : Nat) (l : List Nat) (w : World) (h : Sl w .u32 A n c l) (hn : n ≤ 1000000000) :
    Calls Tryd.prog 61 #[.slice A n c] w fun e w' => e = .returned (.slice A (Dec.trimZ l).length c) ∧ w = w' := by
  have hlen := h.len
  have hcap := h.cap
  go_enter Tryd.func61, Tryd.ntmps61
  go_wp2
  go_loop [0] (fun v => ∃ m : Nat, v = .slice A m c ∧ m ≤ n ∧ Dec.trimZ (l.take m) = Dec.trimZ l) (fun v => sliceLen v)
  case atStart => exact ⟨n, rfl, Nat.le_refl _, by rw [List.take_of_length_le (by omega)]⟩
  case round =>
    obtain ⟨m, rfl, hm, ht⟩ := hrel
    have HT := Lib.hid ht
    clear ht
    by_cases h0 : 0 < m
    · obtain ⟨b, o, rfl, hb, hc⟩ := h.cells (by omega)
      have hcm := hc (m - 1) (by omega)
      clear hc
      go_wp2
      · have hz : l.getD (m - 1) 0 = 0 := by simpa using ‹((l[m - 1]?.getD 0 : Nat) == (0 : Int)) = true›
        exact ⟨⟨m - 1, rfl, by omega, by rw [trimZ_step h0 (by omega) hz]; exact HT.out⟩, by simp only [sliceLen]; omega⟩
      · have hz : l.getD (m - 1) 0 ≠ 0 := by simpa using ‹((l[m - 1]?.getD 0 : Nat) == (0 : Int)) = false›
        go_ret
        refine ⟨?_, rfl⟩
        have e : (Dec.trimZ l).length = m := by
          rw [← HT.out, trimZ_stop h0 (by omega) hz, List.length_take]; omega
        rw [e]; rfl
    · go_wp2
      go_ret
      refine ⟨?_, rfl⟩
      have e : (Dec.trimZ l).length = m := by
        rw [← HT.out, show m = 0 by omega]; rfl
      rw [e]; rfl
/-- the trimmed slice reads as the limbs of the value -/
theorem Sl.trimmed {w : World} {k : IntKind} {A : Option Addr} {n c : Nat} {l : List Nat} (h : Sl w k A n c l) {B : Nat} (hB : 2 ≤ B) (hs : Dec.Small B l) :
    Sl w k A (Dec.trimZ l).length c (Dec.limbs B (Dec.lval B l)) := by
  have h1 := h.take (m := (Dec.trimZ l).length) (by rw [← h.len]; exact trimZ_length_le l)
  rw [trimZ_take] at h1
  rw [← Dec.trimZ_limbs hB l hs]
  exact h1
end Go.Proofs.YtcdgckbdplkdbaaDoor
