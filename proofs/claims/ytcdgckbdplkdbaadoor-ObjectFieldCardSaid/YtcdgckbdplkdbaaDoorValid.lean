/- number.Valid, decimal, Digits: which strings are decimals. -/
import Derived.Test.YtcdgckbdplkdbaaDoorBuild
import Derived.Test.YtcdgckbdplkdbaaDoorLimb
import Derived.WalkLawsBesides
namespace Go.Proofs.YtcdgckbdplkdbaaDoor
open Go.RowKit

theorem trimPrefix_mag (l : List UInt8) : Lib.trimPrefix l [45] = Dec.mag l := by
  cases l with
  | nil => rfl
  | cons c r =>
    by_cases h : c = 45
    · subst h; simp [Lib.trimPrefix, Lib.hasPrefix, Dec.mag]
    · have h' : ¬ 45 = c := fun e => h e.symm
      simp [Lib.trimPrefix, Lib.hasPrefix, Dec.mag, h, h']
theorem trimPrefix_any (l : List UInt8) (w : World) :
    Calls Tryd.prog 59 #[.string ⟨l.toArray⟩, .string ⟨#[45]⟩] w fun e w' => e = .returned (.string ⟨(Dec.mag l).toArray⟩) ∧ w = w' := by
  refine (Tryd.strings_TrimPrefix ⟨l.toArray⟩ ⟨#[45]⟩ w).mono ?_
  rintro e w' ⟨rfl, rfl⟩
  exact ⟨by rw [← trimPrefix_mag], rfl⟩

theorem isDec_head48 {l r : List UInt8} {c : UInt8} (h : Dec.mag l = c :: r) (hc : c.toNat = 48) : Dec.isDec l = (l == [48]) := by
  have e : c = 48 := UInt8.toNat_inj.1 (by simpa using hc)
  unfold Dec.isDec; rw [h, e]; simp
theorem isDec_head {l r : List UInt8} {c : UInt8} (h : Dec.mag l = c :: r) (hc : c.toNat ≠ 48) : Dec.isDec l = Dec.digs (Dec.mag l) := by
  have h0 : l ≠ [48] := by
    rintro rfl
    have e : Dec.mag [48] = [48] := by decide
    rw [e] at h
    injection h with h _
    exact hc (by rw [← h]; rfl)
  rw [Bool.eq_iff_iff, Dec.isDec_iff h0]
  exact ⟨fun ⟨a, _⟩ => a, fun a => ⟨a, c, r, h, hc⟩⟩
theorem byte_at {D : ByteArray} {l : List UInt8} (h : D.data.toList = l) (k : Nat) (hk : k < D.size) : ∃ hl : k < l.length, D[k] = l[k] := by
  subst h
  exact ⟨by rw [← Lib.size_eq]; exact hk, rfl⟩
theorem digs_take_succ {l : List UInt8} {k : Nat} (hk : k < l.length) (h : Dec.digs (l.take k) = true) (h1 : 48 ≤ l[k].toNat) (h2 : l[k].toNat ≤ 57) : Dec.digs (l.take (k + 1)) = true := by
  rw [List.take_succ_eq_append_getElem hk]
  exact Dec.digs_snoc.2 ⟨h, by simp [Dec.dig, h1, h2]⟩
theorem digs_not {l : List UInt8} {k : Nat} (hk : k < l.length) (h : l[k].toNat < 48 ∨ 57 < l[k].toNat) : Dec.digs l = false := by
  cases hd : Dec.digs l with
  | false => rfl
  | true =>
    have := List.all_eq_true.1 hd _ (List.getElem_mem hk)
    simp only [Dec.dig, Bool.and_eq_true, decide_eq_true_eq] at this
    omega
theorem empty_toList {D : ByteArray} (h : D.size = 0) : D.toList = [] := by
  rw [Lib.toList_data]; exact List.eq_nil_of_length_eq_zero (by rw [← Lib.size_eq]; exact h)
theorem ne_toList {D : ByteArray} (h : ¬ D.size = 0) : ¬ D.toList = [] := by
  rw [Lib.toList_data]; intro e; exact h (by rw [Lib.size_eq, e]; rfl)

set_option maxHeartbeats 400000 in
theorem valid_any (l : List UInt8) (w : World) (hl : l.length ≤ 1000000000) :
    Calls Tryd.prog 52 #[.string ⟨l.toArray⟩] w fun e w' => e = .returned (.bool (Dec.isDec l)) ∧ w = w' := by
  have hml := Dec.mag_length_le l
  go_enter Tryd.func52, Tryd.ntmps52
  go_wp2_with fail
  refine (trimPrefix_any l _).mono ?_
  rintro e w' ⟨rfl, rfl⟩
  obtain ⟨D, hD⟩ : ∃ D : ByteArray, D = ⟨(Dec.mag l).toArray⟩ := ⟨_, rfl⟩
  rw [← hD]
  have HT : Hid (D.data.toList = Dec.mag l) := by rw [hD]; exact (rfl : (Dec.mag l).toArray.toList = Dec.mag l)
  clear hD
  have hsz : D.size ≤ 1000000000 := by rw [Lib.size_eq, HT.out]; omega
  clear hml
  by_cases h0 : D.size = 0
  · have hE1 := empty_toList h0
    have HF : Hid (Dec.isDec l = (l == [48])) := by
      have hm : Dec.mag l = [] := by rw [← HT.out]; exact List.eq_nil_of_length_eq_zero (by rw [← Lib.size_eq]; exact h0)
      show _ = _
      unfold Dec.isDec; rw [hm]; simp
    go_wp2
    go_ret
    exact ⟨by rw [HF.out]; rfl, rfl⟩
  · have hE1 := ne_toList h0
    have hE2 : D.toList.isEmpty = false := by simp [hE1]
    have hpos : 0 < D.size := by omega
    obtain ⟨hl0, e0⟩ := byte_at HT.out 0 hpos
    obtain ⟨c, r, hcr⟩ : ∃ c r, Dec.mag l = c :: r := by
      cases hm : Dec.mag l with
      | nil => rw [hm] at hl0; simp at hl0
      | cons c r => exact ⟨c, r, rfl⟩
    have ec : D[0] = c := by rw [e0]; simp [hcr]
    by_cases h48 : D[0].toNat = 48
    · have HF := Lib.hid (isDec_head48 hcr (by rw [← ec]; exact h48))
      have hb : ((D[0].toNat : Int) == 48) = true := by rw [beq_iff_eq]; omega
      clear h48 hcr e0 ec hl0
      go_wp2
      go_ret
      exact ⟨by rw [HF.out]; rfl, rfl⟩
    · have HF := Lib.hid (isDec_head hcr (by rw [← ec]; exact h48))
      have hb : ((D[0].toNat : Int) == 48) = false := by rw [beq_eq_false_iff_ne]; omega
      clear h48 hcr e0 ec hl0
      go_wp2
      go_loop [18] (fun ix => ∃ k : Nat, k ≤ D.size ∧ ix = .int .i64 k ∧ Hid (Dec.digs ((Dec.mag l).take k) = true)) (fun ix => D.size - (intOf ix).toNat)
      case atStart => exact ⟨0, Nat.zero_le _, rfl, (rfl : Dec.digs ((Dec.mag l).take 0) = true)⟩
      case round =>
        obtain ⟨k, hk, rfl, HK⟩ := hrel
        by_cases hlt : k < D.size
        · obtain ⟨hkl, ek⟩ := byte_at HT.out k hlt
          have EK := Lib.hid ek
          clear ek
          rcases Nat.lt_or_ge D[k].toNat 48 with h1 | h1
          · have HR : Hid (Dec.isDec l = false) := by show _ = _; rw [HF.out]; exact digs_not hkl (.inl (by rw [← EK.out]; exact h1))
            go_wp2
            go_ret
            exact ⟨by rw [HR.out]; rfl, rfl⟩
          · rcases Nat.lt_or_ge 57 D[k].toNat with h2 | h2
            · have HR : Hid (Dec.isDec l = false) := by show _ = _; rw [HF.out]; exact digs_not hkl (.inr (by rw [← EK.out]; exact h2))
              go_wp2
              go_ret
              exact ⟨by rw [HR.out]; rfl, rfl⟩
            · go_wp2
              go_round
              case rel => exact ⟨k + 1, by omega, by go_num, digs_take_succ hkl HK.out (by rw [← EK.out]; exact h1) (by rw [← EK.out]; exact h2)⟩
              case measure => simp only [intOf]; omega
        · have HR : Hid (Dec.isDec l = true) := by
            show _ = _
            rw [HF.out]
            have := HK.out
            rwa [List.take_of_length_le (by rw [← HT.out, ← Lib.size_eq]; omega)] at this
          go_wp2
          go_ret
          exact ⟨by rw [HR.out]; rfl, rfl⟩
end Go.Proofs.YtcdgckbdplkdbaaDoor
