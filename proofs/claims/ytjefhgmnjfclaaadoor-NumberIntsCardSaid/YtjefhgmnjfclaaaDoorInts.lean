/- lispproverlaw1.NumberInts returns true. -/
import Derived.Test.YtjefhgmnjfclaaaDoorOrder
import Derived.Test.YtjefhgmnjfclaaaDoorNumJ
namespace Go.Proofs.YtjefhgmnjfclaaaDoor
open Go.RowKit

theorem nval_cons (c : UInt8) (r : List UInt8) : Dec.nval (c :: r) = (c.toNat - 48) * 10 ^ r.length + Dec.nval r := by
  have := Dec.nval_append [c] r
  rw [Dec.nval_one] at this
  exact this
theorem mag_small (n : Int) : (Dec.mag (norm (Lib.itoa n))).length ≤ 9 ↔ (-1000000000 < n ∧ n < 1000000000) := by
  have hm := mag_norm (Lib.itoa n)
  have hd := norm_dec (Lib.itoa n)
  rw [Dec.dval_itoa] at hm
  generalize norm (Lib.itoa n) = s at hm hd
  obtain ⟨h1, h2, h3, _⟩ := hm
  have hlt := Dec.nval_lt _ h1
  rw [h3] at hlt
  constructor
  · intro h
    have := Nat.pow_le_pow_right (n := 10) (by omega) h
    omega
  · intro h
    refine Classical.byContradiction fun hc => ?_
    have h48 : s ≠ [48] := by rintro rfl; exact hc (by decide)
    obtain ⟨_, c, r, he, hz⟩ := (Dec.isDec_iff h48).1 hd
    rw [he] at h1 h3 hc
    simp only [Dec.digs, List.all_cons, Bool.and_eq_true, Dec.dig, decide_eq_true_eq] at h1
    rw [nval_cons] at h3
    simp only [List.length_cons] at hc
    have hp := Nat.pow_le_pow_right (n := 10) (by omega) (show 9 ≤ r.length by omega)
    have hq := Nat.le_mul_of_pos_left (10 ^ r.length) (show 0 < c.toNat - 48 by omega)
    omega

set_option maxHeartbeats 4000000 in
set_option maxRecDepth 100000 in
theorem ints_any (n m : Int) (w : World) (ht : Tab w) (h0 : -9223372036854775808 ≤ n) (h1 : n ≤ 9223372036854775807) (h2 : -9223372036854775808 ≤ m) (h3 : m ≤ 9223372036854775807) :
    Calls Tryd.prog 12 #[.int .i64 n, .int .i64 m] w (RetTrue w) := by
  have ln := itoa_length_any n (k := 19) (by omega) (by omega)
  have lm := itoa_length_any m (k := 19) (by omega) (by omega)
  have HA : Hid (∀ w' : World, Tab w' → Calls Tryd.prog 37 #[.int .i64 n] w' (RetStr (Lib.itoa n) w')) := fun w' ht' => fromInt_any n w' ht' h0 h1
  have HB : Hid (∀ w' : World, Tab w' → Calls Tryd.prog 37 #[.int .i64 m] w' (RetStr (Lib.itoa m) w')) := fun w' ht' => fromInt_any m w' ht' h2 h3
  have HI : Hid (∀ w' : World, Tab w' → Calls Tryd.prog 38 #[.int .i64 n] w' (RetStr (Lib.itoa n) w')) := fun w' ht' => itoa_any n w' ht' h0 h1
  have HV : Hid (∀ w' : World, Calls Tryd.prog 34 #[.string ⟨(Lib.itoa n).toArray⟩] w' (RetPure (.bool true) w')) := fun w' => by
    have := valid_any (Lib.itoa n) w' (by omega)
    rwa [Dec.isDec_itoa] at this
  have HC : Hid (∀ w' : World, Calls Tryd.prog 25 #[.string ⟨(Lib.itoa n).toArray⟩, .string ⟨(Lib.itoa m).toArray⟩] w' (RetI64 (cmpI n m) w')) := fun w' => by
    have := compareN_any (Lib.itoa n) (Lib.itoa m) w' (by omega) (by omega)
    rwa [Dec.dval_itoa, Dec.dval_itoa] at this
  have HS : Hid (∀ w' : World, Calls Tryd.prog 32 #[.string ⟨(Lib.itoa n).toArray⟩] w' (RetSmall (if -1000000000 < n ∧ n < 1000000000 then n else 0) (decide (-1000000000 < n ∧ n < 1000000000)) w')) := fun w' => by
    by_cases h : -1000000000 < n ∧ n < 1000000000
    · have := small_yes (Lib.itoa n) w' (by omega) ((mag_small n).2 h)
      rw [Dec.dval_itoa] at this
      rwa [if_pos h, decide_eq_true h]
    · have := small_no (Lib.itoa n) w' (by omega) (by have := mt (mag_small n).1 h; omega)
      rwa [if_neg h, decide_eq_false h]
  clear ln lm
  generalize Lib.itoa n = a at *
  generalize Lib.itoa m = b at *
  have hs : (-1000000000 < n ∧ n < 1000000000) ∨ n ≤ -1000000000 ∨ 1000000000 ≤ n := by omega
  rcases Int.lt_trichotomy n m with hc | hc | hc
  · rw [cmpI_lt hc] at HC
    rcases hs with hs | hs | hs
    · rw [if_pos hs, decide_eq_true hs] at HS
      go_enter Tryd.func12, Tryd.ntmps12
      go_wp2_with fail
      refine (first_any _ ht).mono ?_
      rintro e w1 ⟨rfl, b1⟩
      go_wp2_with fail
      refine (HA.out _ (ht.below b1)).mono ?_
      rintro e w2 ⟨rfl, hb⟩
      have b2 := b1.trans (hb.mono b1.size)
      clear hb
      go_wp2_with fail
      refine (HB.out _ (ht.below b2)).mono ?_
      rintro e w3 ⟨rfl, hb⟩
      have b3 := b2.trans (hb.mono b2.size)
      clear hb
      go_wp2_with fail
      refine (HS.out _).mono ?_
      rintro e w4 ⟨rfl, hb⟩
      have b4 := b3.trans (hb.mono b3.size)
      clear hb
      go_wp2_with fail
      refine (HI.out _ (ht.below b4)).mono ?_
      rintro e w5 ⟨rfl, hb⟩
      have b5 := b4.trans (hb.mono b4.size)
      clear hb
      go_wp2_with fail
      refine (HV.out _).mono ?_
      rintro e w' ⟨rfl, rfl⟩
      go_wp2_with fail
      refine (HC.out _).mono ?_
      rintro e w6 ⟨rfl, hb⟩
      have b6 := b5.trans (hb.mono b5.size)
      clear hb
      go_wp2
      go_ret
      exact ⟨rfl, b6⟩
    · rw [if_neg (by omega), decide_eq_false (by omega)] at HS
      go_enter Tryd.func12, Tryd.ntmps12
      go_wp2_with fail
      refine (first_any _ ht).mono ?_
      rintro e w1 ⟨rfl, b1⟩
      go_wp2_with fail
      refine (HA.out _ (ht.below b1)).mono ?_
      rintro e w2 ⟨rfl, hb⟩
      have b2 := b1.trans (hb.mono b1.size)
      clear hb
      go_wp2_with fail
      refine (HB.out _ (ht.below b2)).mono ?_
      rintro e w3 ⟨rfl, hb⟩
      have b3 := b2.trans (hb.mono b2.size)
      clear hb
      go_wp2_with fail
      refine (HS.out _).mono ?_
      rintro e w4 ⟨rfl, hb⟩
      have b4 := b3.trans (hb.mono b3.size)
      clear hb
      go_wp2_with fail
      refine (HI.out _ (ht.below b4)).mono ?_
      rintro e w5 ⟨rfl, hb⟩
      have b5 := b4.trans (hb.mono b4.size)
      clear hb
      go_wp2_with fail
      refine (HV.out _).mono ?_
      rintro e w' ⟨rfl, rfl⟩
      go_wp2_with fail
      refine (HC.out _).mono ?_
      rintro e w6 ⟨rfl, hb⟩
      have b6 := b5.trans (hb.mono b5.size)
      clear hb
      go_wp2
      go_ret
      exact ⟨rfl, b6⟩
    · rw [if_neg (by omega), decide_eq_false (by omega)] at HS
      go_enter Tryd.func12, Tryd.ntmps12
      go_wp2_with fail
      refine (first_any _ ht).mono ?_
      rintro e w1 ⟨rfl, b1⟩
      go_wp2_with fail
      refine (HA.out _ (ht.below b1)).mono ?_
      rintro e w2 ⟨rfl, hb⟩
      have b2 := b1.trans (hb.mono b1.size)
      clear hb
      go_wp2_with fail
      refine (HB.out _ (ht.below b2)).mono ?_
      rintro e w3 ⟨rfl, hb⟩
      have b3 := b2.trans (hb.mono b2.size)
      clear hb
      go_wp2_with fail
      refine (HS.out _).mono ?_
      rintro e w4 ⟨rfl, hb⟩
      have b4 := b3.trans (hb.mono b3.size)
      clear hb
      go_wp2_with fail
      refine (HI.out _ (ht.below b4)).mono ?_
      rintro e w5 ⟨rfl, hb⟩
      have b5 := b4.trans (hb.mono b4.size)
      clear hb
      go_wp2_with fail
      refine (HV.out _).mono ?_
      rintro e w' ⟨rfl, rfl⟩
      go_wp2_with fail
      refine (HC.out _).mono ?_
      rintro e w6 ⟨rfl, hb⟩
      have b6 := b5.trans (hb.mono b5.size)
      clear hb
      go_wp2
      go_ret
      exact ⟨rfl, b6⟩
  · subst hc
    rw [cmpI_eq] at HC
    rcases hs with hs | hs | hs
    · rw [if_pos hs, decide_eq_true hs] at HS
      go_enter Tryd.func12, Tryd.ntmps12
      go_wp2_with fail
      refine (first_any _ ht).mono ?_
      rintro e w1 ⟨rfl, b1⟩
      go_wp2_with fail
      refine (HA.out _ (ht.below b1)).mono ?_
      rintro e w2 ⟨rfl, hb⟩
      have b2 := b1.trans (hb.mono b1.size)
      clear hb
      go_wp2_with fail
      refine (HB.out _ (ht.below b2)).mono ?_
      rintro e w3 ⟨rfl, hb⟩
      have b3 := b2.trans (hb.mono b2.size)
      clear hb
      go_wp2_with fail
      refine (HS.out _).mono ?_
      rintro e w4 ⟨rfl, hb⟩
      have b4 := b3.trans (hb.mono b3.size)
      clear hb
      go_wp2_with fail
      refine (HI.out _ (ht.below b4)).mono ?_
      rintro e w5 ⟨rfl, hb⟩
      have b5 := b4.trans (hb.mono b4.size)
      clear hb
      go_wp2_with fail
      refine (HV.out _).mono ?_
      rintro e w' ⟨rfl, rfl⟩
      go_wp2_with fail
      refine (HC.out _).mono ?_
      rintro e w6 ⟨rfl, hb⟩
      have b6 := b5.trans (hb.mono b5.size)
      clear hb
      go_wp2
      go_ret
      exact ⟨rfl, b6⟩
    · rw [if_neg (by omega), decide_eq_false (by omega)] at HS
      go_enter Tryd.func12, Tryd.ntmps12
      go_wp2_with fail
      refine (first_any _ ht).mono ?_
      rintro e w1 ⟨rfl, b1⟩
      go_wp2_with fail
      refine (HA.out _ (ht.below b1)).mono ?_
      rintro e w2 ⟨rfl, hb⟩
      have b2 := b1.trans (hb.mono b1.size)
      clear hb
      go_wp2_with fail
      refine (HB.out _ (ht.below b2)).mono ?_
      rintro e w3 ⟨rfl, hb⟩
      have b3 := b2.trans (hb.mono b2.size)
      clear hb
      go_wp2_with fail
      refine (HS.out _).mono ?_
      rintro e w4 ⟨rfl, hb⟩
      have b4 := b3.trans (hb.mono b3.size)
      clear hb
      go_wp2_with fail
      refine (HI.out _ (ht.below b4)).mono ?_
      rintro e w5 ⟨rfl, hb⟩
      have b5 := b4.trans (hb.mono b4.size)
      clear hb
      go_wp2_with fail
      refine (HV.out _).mono ?_
      rintro e w' ⟨rfl, rfl⟩
      go_wp2_with fail
      refine (HC.out _).mono ?_
      rintro e w6 ⟨rfl, hb⟩
      have b6 := b5.trans (hb.mono b5.size)
      clear hb
      go_wp2
      go_ret
      exact ⟨rfl, b6⟩
    · rw [if_neg (by omega), decide_eq_false (by omega)] at HS
      go_enter Tryd.func12, Tryd.ntmps12
      go_wp2_with fail
      refine (first_any _ ht).mono ?_
      rintro e w1 ⟨rfl, b1⟩
      go_wp2_with fail
      refine (HA.out _ (ht.below b1)).mono ?_
      rintro e w2 ⟨rfl, hb⟩
      have b2 := b1.trans (hb.mono b1.size)
      clear hb
      go_wp2_with fail
      refine (HB.out _ (ht.below b2)).mono ?_
      rintro e w3 ⟨rfl, hb⟩
      have b3 := b2.trans (hb.mono b2.size)
      clear hb
      go_wp2_with fail
      refine (HS.out _).mono ?_
      rintro e w4 ⟨rfl, hb⟩
      have b4 := b3.trans (hb.mono b3.size)
      clear hb
      go_wp2_with fail
      refine (HI.out _ (ht.below b4)).mono ?_
      rintro e w5 ⟨rfl, hb⟩
      have b5 := b4.trans (hb.mono b4.size)
      clear hb
      go_wp2_with fail
      refine (HV.out _).mono ?_
      rintro e w' ⟨rfl, rfl⟩
      go_wp2_with fail
      refine (HC.out _).mono ?_
      rintro e w6 ⟨rfl, hb⟩
      have b6 := b5.trans (hb.mono b5.size)
      clear hb
      go_wp2
      go_ret
      exact ⟨rfl, b6⟩
  · rw [cmpI_gt hc] at HC
    rcases hs with hs | hs | hs
    · rw [if_pos hs, decide_eq_true hs] at HS
      go_enter Tryd.func12, Tryd.ntmps12
      go_wp2_with fail
      refine (first_any _ ht).mono ?_
      rintro e w1 ⟨rfl, b1⟩
      go_wp2_with fail
      refine (HA.out _ (ht.below b1)).mono ?_
      rintro e w2 ⟨rfl, hb⟩
      have b2 := b1.trans (hb.mono b1.size)
      clear hb
      go_wp2_with fail
      refine (HB.out _ (ht.below b2)).mono ?_
      rintro e w3 ⟨rfl, hb⟩
      have b3 := b2.trans (hb.mono b2.size)
      clear hb
      go_wp2_with fail
      refine (HS.out _).mono ?_
      rintro e w4 ⟨rfl, hb⟩
      have b4 := b3.trans (hb.mono b3.size)
      clear hb
      go_wp2_with fail
      refine (HI.out _ (ht.below b4)).mono ?_
      rintro e w5 ⟨rfl, hb⟩
      have b5 := b4.trans (hb.mono b4.size)
      clear hb
      go_wp2_with fail
      refine (HV.out _).mono ?_
      rintro e w' ⟨rfl, rfl⟩
      go_wp2_with fail
      refine (HC.out _).mono ?_
      rintro e w6 ⟨rfl, hb⟩
      have b6 := b5.trans (hb.mono b5.size)
      clear hb
      go_wp2
      go_ret
      exact ⟨rfl, b6⟩
    · rw [if_neg (by omega), decide_eq_false (by omega)] at HS
      go_enter Tryd.func12, Tryd.ntmps12
      go_wp2_with fail
      refine (first_any _ ht).mono ?_
      rintro e w1 ⟨rfl, b1⟩
      go_wp2_with fail
      refine (HA.out _ (ht.below b1)).mono ?_
      rintro e w2 ⟨rfl, hb⟩
      have b2 := b1.trans (hb.mono b1.size)
      clear hb
      go_wp2_with fail
      refine (HB.out _ (ht.below b2)).mono ?_
      rintro e w3 ⟨rfl, hb⟩
      have b3 := b2.trans (hb.mono b2.size)
      clear hb
      go_wp2_with fail
      refine (HS.out _).mono ?_
      rintro e w4 ⟨rfl, hb⟩
      have b4 := b3.trans (hb.mono b3.size)
      clear hb
      go_wp2_with fail
      refine (HI.out _ (ht.below b4)).mono ?_
      rintro e w5 ⟨rfl, hb⟩
      have b5 := b4.trans (hb.mono b4.size)
      clear hb
      go_wp2_with fail
      refine (HV.out _).mono ?_
      rintro e w' ⟨rfl, rfl⟩
      go_wp2_with fail
      refine (HC.out _).mono ?_
      rintro e w6 ⟨rfl, hb⟩
      have b6 := b5.trans (hb.mono b5.size)
      clear hb
      go_wp2
      go_ret
      exact ⟨rfl, b6⟩
    · rw [if_neg (by omega), decide_eq_false (by omega)] at HS
      go_enter Tryd.func12, Tryd.ntmps12
      go_wp2_with fail
      refine (first_any _ ht).mono ?_
      rintro e w1 ⟨rfl, b1⟩
      go_wp2_with fail
      refine (HA.out _ (ht.below b1)).mono ?_
      rintro e w2 ⟨rfl, hb⟩
      have b2 := b1.trans (hb.mono b1.size)
      clear hb
      go_wp2_with fail
      refine (HB.out _ (ht.below b2)).mono ?_
      rintro e w3 ⟨rfl, hb⟩
      have b3 := b2.trans (hb.mono b2.size)
      clear hb
      go_wp2_with fail
      refine (HS.out _).mono ?_
      rintro e w4 ⟨rfl, hb⟩
      have b4 := b3.trans (hb.mono b3.size)
      clear hb
      go_wp2_with fail
      refine (HI.out _ (ht.below b4)).mono ?_
      rintro e w5 ⟨rfl, hb⟩
      have b5 := b4.trans (hb.mono b4.size)
      clear hb
      go_wp2_with fail
      refine (HV.out _).mono ?_
      rintro e w' ⟨rfl, rfl⟩
      go_wp2_with fail
      refine (HC.out _).mono ?_
      rintro e w6 ⟨rfl, hb⟩
      have b6 := b5.trans (hb.mono b5.size)
      clear hb
      go_wp2
      go_ret
      exact ⟨rfl, b6⟩
end Go.Proofs.YtjefhgmnjfclaaaDoor
