/- lispproverref1.Valid: which strings are decimals. -/
import Derived.Test.YtjefhgmnjfclaaaDoorValid
namespace Go.Proofs.YtjefhgmnjfclaaaDoor
open Go.RowKit

theorem isDec_nil {l : List UInt8} (h0 : (l == [48]) = false) (h : Dec.mag l = []) : Dec.isDec l = false := by
  unfold Dec.isDec; rw [h0, h]; rfl
theorem isDec_48 {l : List UInt8} {c : UInt8} {r : List UInt8} (h0 : (l == [48]) = false) (h : Dec.mag l = c :: r) (hc : c.toNat = 48) : Dec.isDec l = false := by
  rw [isDec_head48 h hc, h0]
theorem byte_drop {D : ByteArray} {l : List UInt8} (h : D.data.toList = l) (f k : Nat) (hf : f ≤ k) (hk : k < D.size) : ∃ hl : k - f < (l.drop f).length, D[k] = (l.drop f)[k - f] := by
  obtain ⟨h1, e⟩ := byte_at h k hk
  refine ⟨by rw [List.length_drop]; omega, ?_⟩
  rw [e]
  simp only [List.getElem_drop]
  congr 1
  omega
theorem cons_of_pos {l : List UInt8} (h : 0 < l.length) : ∃ c r, l = c :: r := by
  cases l with
  | nil => simp at h
  | cons c r => exact ⟨c, r, rfl⟩

set_option maxHeartbeats 1000000 in
theorem refValid_any (l : List UInt8) (w : World) (hl : l.length ≤ 9223372036854775807) :
    Calls Tryd.prog 23 #[.string ⟨l.toArray⟩] w fun e w' => e = .returned (.bool (Dec.isDec l)) ∧ w = w' := by
  obtain ⟨D, hD⟩ : ∃ D : ByteArray, D = ⟨l.toArray⟩ := ⟨_, rfl⟩
  rw [← hD]
  have HT : Hid (D.data.toList = l) := by rw [hD]; exact (rfl : l.toArray.toList = l)
  clear hD
  have hsz : D.size ≤ 9223372036854775807 := by rw [Lib.size_eq, HT.out]; exact hl
  cases h48 : (l == [48]) with
  | true =>
    have hE : (D.toList == [48]) = true := by rw [Lib.toList_data, HT.out]; exact h48
    have HR : Hid (Dec.isDec l = true) := by show _ = _; unfold Dec.isDec; rw [h48]; rfl
    clear h48
    go_enter Tryd.func23, Tryd.ntmps23
    go_wp2
    go_ret
    exact ⟨by rw [HR.out]; rfl, rfl⟩
  | false =>
    have hE : (D.toList == [48]) = false := by rw [Lib.toList_data, HT.out]; exact h48
    have H48 := Lib.hid h48
    clear h48
    by_cases h0 : D.size = 0
    · have HR := Lib.hid (isDec_nil H48.out (by rw [← HT.out, List.eq_nil_of_length_eq_zero (l := D.data.toList) (by rw [← Lib.size_eq]; exact h0)]; rfl))
      go_enter Tryd.func23, Tryd.ntmps23
      go_wp2
      go_ret
      exact ⟨by rw [HR.out]; rfl, rfl⟩
    · have hpos : 0 < D.size := by omega
      obtain ⟨hl0, e0⟩ := byte_at HT.out 0 hpos
      obtain ⟨c0, r0, hcr⟩ := cons_of_pos hl0
      have ec : D[0] = c0 := by rw [e0]; simp [hcr]
      by_cases h45 : c0 = 45
      · have HM : Hid (Dec.mag l = l.drop 1) := by show _ = _; rw [hcr, h45, Dec.mag_cons45]; rfl
        have hb45 : ((D[0].toNat : Int) == 45) = true := by rw [ec, h45]; rfl
        clear h45 e0 ec hcr hl0
        by_cases hf : D.size ≤ 1
        · have HR := Lib.hid (isDec_nil H48.out (by rw [HM.out, List.drop_of_length_le (by rw [← HT.out, ← Lib.size_eq]; exact hf)]))
          go_enter Tryd.func23, Tryd.ntmps23
          go_wp2
          go_ret
          exact ⟨by rw [HR.out]; rfl, rfl⟩
        · have hfs : 1 < D.size := by omega
          obtain ⟨hlf, ef⟩ := byte_drop HT.out 1 1 (Nat.le_refl _) hfs
          obtain ⟨c, r, hcr⟩ := cons_of_pos (l := l.drop 1) (by omega)
          have ec : D[1] = c := by rw [ef]; simp [hcr]
          by_cases h8 : D[1].toNat = 48
          · have HR := Lib.hid (isDec_48 H48.out (HM.out.trans hcr) (by rw [← ec]; exact h8))
            have hb48 : ((D[1].toNat : Int) == 48) = true := by rw [beq_iff_eq]; omega
            clear h8 ef ec hcr hlf
            go_enter Tryd.func23, Tryd.ntmps23
            go_wp2
            go_ret
            exact ⟨by rw [HR.out]; rfl, rfl⟩
          · have HF := Lib.hid (isDec_head (HM.out.trans hcr) (by rw [← ec]; exact h8))
            have hb48 : ((D[1].toNat : Int) == 48) = false := by rw [beq_eq_false_iff_ne]; omega
            clear h8 ef ec hcr hlf
            go_enter Tryd.func23, Tryd.ntmps23
            go_wp2
            go_loop [4] (fun ix => ∃ k : Nat, 1 ≤ k ∧ k ≤ D.size ∧ ix = .int .i64 k ∧ Hid (Dec.digs ((Dec.mag l).take (k - 1)) = true)) (fun ix => D.size - (intOf ix).toNat)
            case atStart => exact ⟨1, Nat.le_refl _, by omega, rfl, (rfl : Dec.digs ((Dec.mag l).take 0) = true)⟩
            case round =>
              obtain ⟨k, hfk, hk, rfl, HK⟩ := hrel
              by_cases hlt : k < D.size
              · obtain ⟨hkl, ek⟩ := byte_drop HT.out 1 k hfk hlt
                have EK := Lib.hid ek
                clear ek
                rcases Nat.lt_or_ge D[k].toNat 48 with h1 | h1
                · have HR : Hid (Dec.isDec l = false) := by show _ = _; rw [HF.out, HM.out]; exact digs_not hkl (.inl (by rw [← EK.out]; exact h1))
                  go_wp2
                  go_ret
                  exact ⟨by rw [HR.out]; rfl, rfl⟩
                · rcases Nat.lt_or_ge 57 D[k].toNat with h2 | h2
                  · have HR : Hid (Dec.isDec l = false) := by show _ = _; rw [HF.out, HM.out]; exact digs_not hkl (.inr (by rw [← EK.out]; exact h2))
                    go_wp2
                    go_ret
                    exact ⟨by rw [HR.out]; rfl, rfl⟩
                  · go_wp2
                    go_round
                    case rel => exact ⟨k + 1, by omega, by omega, by go_num, Lib.hid (by
                      have h3 := HK.out
                      rw [HM.out] at h3 ⊢
                      rw [show k + 1 - 1 = (k - 1) + 1 by omega]
                      exact digs_take_succ hkl h3 (by rw [← EK.out]; exact h1) (by rw [← EK.out]; exact h2))⟩
                    case measure => simp only [intOf]; omega
              · have HR : Hid (Dec.isDec l = true) := by
                  show _ = _
                  rw [HF.out]
                  have := HK.out
                  rwa [List.take_of_length_le (by rw [HM.out, List.length_drop, ← HT.out, ← Lib.size_eq]; omega)] at this
                go_wp2
                go_ret
                exact ⟨by rw [HR.out]; rfl, rfl⟩
      · have HM : Hid (Dec.mag l = l.drop 0) := by show _ = _; rw [hcr]; simp [Dec.mag, h45]
        have hb45 : ((D[0].toNat : Int) == 45) = false := by
          rw [ec, beq_eq_false_iff_ne]; intro e
          exact h45 (UInt8.toNat_inj.1 (by have : c0.toNat = 45 := by omega
                                           simpa using this))
        clear h45 e0 ec hcr hl0
        by_cases hf : D.size ≤ 0
        · omega
        · have hfs : 0 < D.size := by omega
          obtain ⟨hlf, ef⟩ := byte_drop HT.out 0 0 (Nat.le_refl _) hfs
          obtain ⟨c, r, hcr⟩ := cons_of_pos (l := l.drop 0) (by omega)
          have ec : D[0] = c := by rw [ef]; simp [hcr]
          by_cases h8 : D[0].toNat = 48
          · have HR := Lib.hid (isDec_48 H48.out (HM.out.trans hcr) (by rw [← ec]; exact h8))
            have hb48 : ((D[0].toNat : Int) == 48) = true := by rw [beq_iff_eq]; omega
            clear h8 ef ec hcr hlf
            go_enter Tryd.func23, Tryd.ntmps23
            go_wp2
            go_ret
            exact ⟨by rw [HR.out]; rfl, rfl⟩
          · have HF := Lib.hid (isDec_head (HM.out.trans hcr) (by rw [← ec]; exact h8))
            have hb48 : ((D[0].toNat : Int) == 48) = false := by rw [beq_eq_false_iff_ne]; omega
            clear h8 ef ec hcr hlf
            go_enter Tryd.func23, Tryd.ntmps23
            go_wp2
            go_loop [4] (fun ix => ∃ k : Nat, 0 ≤ k ∧ k ≤ D.size ∧ ix = .int .i64 k ∧ Hid (Dec.digs ((Dec.mag l).take (k - 0)) = true)) (fun ix => D.size - (intOf ix).toNat)
            case atStart => exact ⟨0, Nat.le_refl _, by omega, rfl, (rfl : Dec.digs ((Dec.mag l).take 0) = true)⟩
            case round =>
              obtain ⟨k, hfk, hk, rfl, HK⟩ := hrel
              by_cases hlt : k < D.size
              · obtain ⟨hkl, ek⟩ := byte_drop HT.out 0 k hfk hlt
                have EK := Lib.hid ek
                clear ek
                rcases Nat.lt_or_ge D[k].toNat 48 with h1 | h1
                · have HR : Hid (Dec.isDec l = false) := by show _ = _; rw [HF.out, HM.out]; exact digs_not hkl (.inl (by rw [← EK.out]; exact h1))
                  go_wp2
                  go_ret
                  exact ⟨by rw [HR.out]; rfl, rfl⟩
                · rcases Nat.lt_or_ge 57 D[k].toNat with h2 | h2
                  · have HR : Hid (Dec.isDec l = false) := by show _ = _; rw [HF.out, HM.out]; exact digs_not hkl (.inr (by rw [← EK.out]; exact h2))
                    go_wp2
                    go_ret
                    exact ⟨by rw [HR.out]; rfl, rfl⟩
                  · go_wp2
                    go_round
                    case rel => exact ⟨k + 1, by omega, by omega, by go_num, Lib.hid (by
                      have h3 := HK.out
                      rw [HM.out] at h3 ⊢
                      rw [show k + 1 - 0 = (k - 0) + 1 by omega]
                      exact digs_take_succ hkl h3 (by rw [← EK.out]; exact h1) (by rw [← EK.out]; exact h2))⟩
                    case measure => simp only [intOf]; omega
              · have HR : Hid (Dec.isDec l = true) := by
                  show _ = _
                  rw [HF.out]
                  have := HK.out
                  rwa [List.take_of_length_le (by rw [HM.out, List.length_drop, ← HT.out, ← Lib.size_eq]; omega)] at this
                go_wp2
                go_ret
                exact ⟨by rw [HR.out]; rfl, rfl⟩
end Go.Proofs.YtjefhgmnjfclaaaDoor
