/- lispproverref1.Small, Digits. -/
import Derived.Test.YtjefhgmnjfclaaaDoorRefH
import Derived.Test.YtjefhgmnjfclaaaDoorNumJ
namespace Go.Proofs.YtjefhgmnjfclaaaDoor
open Go.RowKit

theorem digits_len (l : List UInt8) : (Dec.mag (norm l)).length = max 1 (Dec.limbs 10 (Dec.dval l).natAbs).length := by
  have hm := mag_norm l
  have hd := norm_dec l
  have hv := dval_norm l
  generalize norm l = s at hm hd hv
  by_cases h48 : s = [48]
  · subst h48
    rw [← hv]
    decide +kernel
  · obtain ⟨h1, h2, h3, _⟩ := hm
    obtain ⟨_, hh⟩ := (Dec.isDec_iff h48).1 hd
    have h4 := Dec.revDigs_limbs h1 hh
    rw [h3] at h4
    rw [← h4]
    have : (Dec.revDigs (Dec.mag s)).length = (Dec.mag s).length := by simp [Dec.revDigs]
    rw [this]
    have : 0 < (Dec.mag s).length := List.length_pos_iff.2 h2
    omega

set_option maxHeartbeats 1000000 in
theorem refDigitsN_any (l : List UInt8) (w : World) (hl : l.length ≤ 1000000) :
    Calls Tryd.prog 36 #[.string ⟨l.toArray⟩] w (RetI64 ((Dec.mag (norm l)).length : Nat) w) := by
  have HD := Lib.hid (refDigW l hl w)
  have HL := Lib.hid (digits_len l)
  generalize (Dec.mag (norm l)).length = K at *
  generalize Dec.dval l = x at *
  obtain ⟨s, hsd⟩ : ∃ s, s = decide (x < 0) := ⟨_, rfl⟩
  have HSD := Lib.hid hsd
  clear hsd
  go_enter Tryd.func36, Tryd.ntmps36
  go_wp2_with fail
  refine HD.out.mono ?_
  rintro e w1 ⟨A1, n1, c1, rfl, hs1, hn1, hb1⟩
  rw [← HSD.out]
  have HN := Lib.hid hs1.len
  go_wp2
  go_ret
  refine ⟨?_, hb1⟩
  rw [HL.out, HN.out, show ((max 1 n1 : Nat) : Int) = max 1 (n1 : Int) by omega]
  rfl

set_option maxHeartbeats 1000000 in
theorem refSmall_no (l : List UInt8) (w : World) (hl : l.length ≤ 1000000) (h9 : 9 < (Dec.mag (norm l)).length) :
    Calls Tryd.prog 33 #[.string ⟨l.toArray⟩] w (RetSmall 0 false w) := by
  have HD := Lib.hid (refDigW l hl w)
  rw [digits_len l] at h9
  generalize Dec.dval l = x at *
  obtain ⟨s, hsd⟩ : ∃ s, s = decide (x < 0) := ⟨_, rfl⟩
  have HSD := Lib.hid hsd
  clear hsd
  go_enter Tryd.func33, Tryd.ntmps33
  go_wp2_with fail
  refine HD.out.mono ?_
  rintro e w1 ⟨A1, n1, c1, rfl, hs1, hn1, hb1⟩
  rw [← HSD.out]
  have hn9 : 9 < n1 := by rw [hs1.len] at h9; omega
  clear h9
  go_wp2
  go_ret2
  exact ⟨rfl, hb1⟩

set_option maxHeartbeats 1000000 in
theorem refSmall_yes (l : List UInt8) (w : World) (hl : l.length ≤ 1000000) (h9 : (Dec.mag (norm l)).length ≤ 9) :
    Calls Tryd.prog 33 #[.string ⟨l.toArray⟩] w (RetSmall (Dec.dval l) true w) := by
  have HD := Lib.hid (refDigW l hl w)
  rw [digits_len l] at h9
  generalize Dec.dval l = x at *
  have hxb : x.natAbs < 10 ^ 9 := by
    have h1 := Dec.lval_lt (B := 10) (by omega) (Dec.limbs_small (by omega) x.natAbs)
    rw [Dec.lval_limbs (by omega)] at h1
    exact Nat.lt_of_lt_of_le h1 (Nat.pow_le_pow_right (by omega) (by omega))
  have hsm := Dec.limbs_small (B := 10) (by omega) x.natAbs
  by_cases hs : x < 0
  · go_enter Tryd.func33, Tryd.ntmps33
    go_wp2_with fail
    refine HD.out.mono ?_
    rintro e w1 ⟨A1, n1, c1, rfl, hs1, hn1, hb1⟩
    rw [decide_eq_true hs]
    have hn9 : n1 ≤ 9 := by rw [hs1.len] at h9; omega
    have HL := Lib.hid hs1.len
    clear h9
    go_wp2_with fail
    go_loop [6, 7] (fun nv ix => ∃ j : Nat, j ≤ n1 ∧ ix = .int .i64 ((j : Int) - 1) ∧ nv = .int .i64 (Dec.lval 10 ((Dec.limbs 10 x.natAbs).drop j) : Nat)) (fun _ ix => (intOf ix + 1).toNat)
    case atStart => exact ⟨n1, Nat.le_refl _, rfl, by rw [List.drop_of_length_le (by rw [HL.out]; exact Nat.le_refl _)]; rfl⟩
    case round =>
      obtain ⟨j, hj, rfl, rfl⟩ := hrel
      have hvb : Dec.lval 10 ((Dec.limbs 10 x.natAbs).drop j) < 10 ^ 9 := by
        have h1 := Dec.lval_lt (B := 10) (by omega) (hsm.drop j)
        exact Nat.lt_of_lt_of_le h1 (Nat.pow_le_pow_right (by omega) (by rw [List.length_drop, HL.out]; omega))
      by_cases hj0 : 0 < j
      · obtain ⟨bx, ox, rfl, hbx, hcx⟩ := hs1.cells (by omega)
        have hcu := hcx (j - 1) (by omega)
        clear hcx
        have hu := getD_lt hsm (by omega) (j - 1)
        have HV : Hid (Dec.lval 10 ((Dec.limbs 10 x.natAbs).drop (j - 1)) = (Dec.limbs 10 x.natAbs).getD (j - 1) 0 + 10 * Dec.lval 10 ((Dec.limbs 10 x.natAbs).drop j)) := by
          have := Dec.lval_drop 10 (Dec.limbs 10 x.natAbs) (j - 1) (by rw [HL.out]; omega)
          rw [show j - 1 + 1 = j by omega] at this
          exact this
        generalize (Dec.limbs 10 x.natAbs).getD (j - 1) 0 = u at hcu hu HV
        generalize Dec.lval 10 ((Dec.limbs 10 x.natAbs).drop j) = V at hvb HV
        have hi1 : (0 : Int) ≤ (j : Int) - 1 := by omega
        have hi2 : (j : Int) - 1 < n1 := by omega
        have hi3 : ((j : Int) - 1).toNat = j - 1 := by omega
        go_wp2
        go_round
        case rel => exact ⟨j - 1, by omega, by go_num, by rw [HV.out]; go_num⟩
        case measure => simp only [intOf]; omega
      · obtain rfl : j = 0 := by omega
        have HV : Hid (Dec.lval 10 ((Dec.limbs 10 x.natAbs).drop 0) = x.natAbs) := by rw [List.drop_zero]; exact Dec.lval_limbs (by omega) _
        generalize Dec.lval 10 ((Dec.limbs 10 x.natAbs).drop 0) = V at hvb HV
        go_wp2
        go_ret2
        refine ⟨?_, hb1⟩
        have e : -(V : Int) = x := by have := HV.out; omega
        rw [← e]
        rfl
  · go_enter Tryd.func33, Tryd.ntmps33
    go_wp2_with fail
    refine HD.out.mono ?_
    rintro e w1 ⟨A1, n1, c1, rfl, hs1, hn1, hb1⟩
    rw [decide_eq_false (by omega)]
    have hn9 : n1 ≤ 9 := by rw [hs1.len] at h9; omega
    have HL := Lib.hid hs1.len
    clear h9
    go_wp2_with fail
    go_loop [6, 7] (fun nv ix => ∃ j : Nat, j ≤ n1 ∧ ix = .int .i64 ((j : Int) - 1) ∧ nv = .int .i64 (Dec.lval 10 ((Dec.limbs 10 x.natAbs).drop j) : Nat)) (fun _ ix => (intOf ix + 1).toNat)
    case atStart => exact ⟨n1, Nat.le_refl _, rfl, by rw [List.drop_of_length_le (by rw [HL.out]; exact Nat.le_refl _)]; rfl⟩
    case round =>
      obtain ⟨j, hj, rfl, rfl⟩ := hrel
      have hvb : Dec.lval 10 ((Dec.limbs 10 x.natAbs).drop j) < 10 ^ 9 := by
        have h1 := Dec.lval_lt (B := 10) (by omega) (hsm.drop j)
        exact Nat.lt_of_lt_of_le h1 (Nat.pow_le_pow_right (by omega) (by rw [List.length_drop, HL.out]; omega))
      by_cases hj0 : 0 < j
      · obtain ⟨bx, ox, rfl, hbx, hcx⟩ := hs1.cells (by omega)
        have hcu := hcx (j - 1) (by omega)
        clear hcx
        have hu := getD_lt hsm (by omega) (j - 1)
        have HV : Hid (Dec.lval 10 ((Dec.limbs 10 x.natAbs).drop (j - 1)) = (Dec.limbs 10 x.natAbs).getD (j - 1) 0 + 10 * Dec.lval 10 ((Dec.limbs 10 x.natAbs).drop j)) := by
          have := Dec.lval_drop 10 (Dec.limbs 10 x.natAbs) (j - 1) (by rw [HL.out]; omega)
          rw [show j - 1 + 1 = j by omega] at this
          exact this
        generalize (Dec.limbs 10 x.natAbs).getD (j - 1) 0 = u at hcu hu HV
        generalize Dec.lval 10 ((Dec.limbs 10 x.natAbs).drop j) = V at hvb HV
        have hi1 : (0 : Int) ≤ (j : Int) - 1 := by omega
        have hi2 : (j : Int) - 1 < n1 := by omega
        have hi3 : ((j : Int) - 1).toNat = j - 1 := by omega
        go_wp2
        go_round
        case rel => exact ⟨j - 1, by omega, by go_num, by rw [HV.out]; go_num⟩
        case measure => simp only [intOf]; omega
      · obtain rfl : j = 0 := by omega
        have HV : Hid (Dec.lval 10 ((Dec.limbs 10 x.natAbs).drop 0) = x.natAbs) := by rw [List.drop_zero]; exact Dec.lval_limbs (by omega) _
        generalize Dec.lval 10 ((Dec.limbs 10 x.natAbs).drop 0) = V at hvb HV
        go_wp2
        go_ret2
        refine ⟨?_, hb1⟩
        have e : (V : Int) = x := by have := HV.out; omega
        rw [← e]
        rfl
end Go.Proofs.YtjefhgmnjfclaaaDoor
