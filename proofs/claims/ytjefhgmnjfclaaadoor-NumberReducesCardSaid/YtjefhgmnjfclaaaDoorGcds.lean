/- lispproverlaw1.NumberGcds returns true. -/
import Derived.Test.YtjefhgmnjfclaaaDoorDivides
import Derived.Test.YtjefhgmnjfclaaaDoorRefI
namespace Go.Proofs.YtjefhgmnjfclaaaDoor
open Go.RowKit

theorem rm_gcd {X : Int} {g : Nat} (hg : g ≠ 0) (h : g ∣ X.natAbs) : Lib.itoa (rm X (g : Int)) = [48] := by
  obtain ⟨k, hk⟩ := h
  have hgk : ((g * k : Nat) : Int) = (g : Int) * k := Int.natCast_mul _ _
  have e : rm X (g : Int) = 0 := by
    rcases Int.le_total 0 X with h | h
    · have e : X = k * g + 0 := by rw [Int.mul_comm, ← hgk]; omega
      exact (qd_of_pos (by omega) e (by omega) (by omega)).2
    · have e : X = (-(k : Int)) * g + 0 := by rw [Int.neg_mul, Int.mul_comm, ← hgk]; omega
      exact (qd_of_pos (by omega) e (by omega) (by omega)).2
  rw [e]; exact Dec.itoa_zero
theorem long2 (a b : List UInt8) (h : ¬ (a.length ≤ 25 ∧ b.length ≤ 25)) : (25 < (a.length : Int)) ∨ ((a.length : Int) ≤ 25 ∧ 25 < (b.length : Int)) := by omega

set_option maxHeartbeats 2000000 in
set_option maxRecDepth 100000 in
theorem gcds_any (a b : List UInt8) (w : World) (ht : Tab w) (ha : a.length ≤ 9223372036854775807) (hb : b.length ≤ 9223372036854775807) :
    Calls Tryd.prog 5 #[.string ⟨a.toArray⟩, .string ⟨b.toArray⟩] w (RetTrue w) := by
  by_cases hz : a.length ≤ 25 ∧ b.length ≤ 25
  · obtain ⟨la, lb⟩ := hz
    have na := Num.of a la
    have nb := Num.of b lb
    have hgl := gcd_len (K := 25) (by omega) na.abs nb.abs
    have HG : Hid (∀ w' : World, Tab w' → Calls Tryd.prog 19 #[.string ⟨a.toArray⟩, .string ⟨b.toArray⟩] w' (RetStr (Lib.itoa (Nat.gcd (Dec.dval a).natAbs (Dec.dval b).natAbs : Nat)) w')) := fun w' ht' => gcdN_any a b w' (by omega) (by omega) ht'
    have HR : Hid (∀ w' : World, Calls Tryd.prog 20 #[.string ⟨a.toArray⟩, .string ⟨b.toArray⟩] w' (RetStr (Lib.itoa (Nat.gcd (Dec.dval a).natAbs (Dec.dval b).natAbs : Nat)) w')) := fun w' => refGcd_any a b w' (by omega) (by omega)
    by_cases h0 : Nat.gcd (Dec.dval a).natAbs (Dec.dval b).natAbs = 0
    · rw [h0] at HG HR
      rw [show ((0 : Nat) : Int) = 0 from rfl, Dec.itoa_zero] at HG HR
      clear h0 hgl
      go_enter Tryd.func5, Tryd.ntmps5
      go_wp2_with fail
      refine (first_any _ ht).mono ?_
      rintro e v0 ⟨rfl, b0⟩
      go_wp2_with fail
      refine (HG.out _ (ht.below b0)).mono ?_
      rintro e v1 ⟨rfl, hb⟩
      have b1 := b0.trans (hb.mono b0.size)
      clear hb
      go_wp2_with fail
      refine (HR.out _).mono ?_
      rintro e v2 ⟨rfl, hb⟩
      have b2 := b1.trans (hb.mono b1.size)
      clear hb
      go_wp2
      go_ret
      exact ⟨rfl, b2⟩
    · have g1 := rm_gcd h0 (Nat.gcd_dvd_left _ _)
      have g2 := rm_gcd h0 (Nat.gcd_dvd_right (Dec.dval a).natAbs _)
      have ng : Num 26 (Lib.itoa (Nat.gcd (Dec.dval a).natAbs (Dec.dval b).natAbs : Nat)) (Nat.gcd (Dec.dval a).natAbs (Dec.dval b).natAbs : Nat) := ⟨Dec.dval_itoa _, hgl⟩
      have hne : (Lib.itoa (Nat.gcd (Dec.dval a).natAbs (Dec.dval b).natAbs : Nat) == [48]) = false := by
        rw [beq_eq_false_iff_ne]; exact itoa_ne_zero (by omega)
      have hD1 := fun w' ht' => divZ na ng (by omega) (by omega) w' ht'
      have hD2 := fun w' ht' => divZ nb ng (by omega) (by omega) w' ht'
      simp only [g1, g2] at hD1 hD2
      have HD1 := Lib.hid hD1
      have HD2 := Lib.hid hD2
      clear hD1 hD2 g1 g2 ng hgl
      generalize Lib.itoa (Nat.gcd (Dec.dval a).natAbs (Dec.dval b).natAbs : Nat) = G at *
      generalize Lib.itoa (qd (Dec.dval a) _) = q1 at *
      generalize Lib.itoa (qd (Dec.dval b) _) = q2 at *
      go_enter Tryd.func5, Tryd.ntmps5
      go_wp2_with fail
      refine (first_any _ ht).mono ?_
      rintro e v0 ⟨rfl, b0⟩
      go_wp2_with fail
      refine (HG.out _ (ht.below b0)).mono ?_
      rintro e v1 ⟨rfl, hb⟩
      have b1 := b0.trans (hb.mono b0.size)
      clear hb
      go_wp2_with fail
      refine (HD1.out _ (ht.below b1)).mono ?_
      rintro e v2 ⟨rfl, hb⟩
      have b2 := b1.trans (hb.mono b1.size)
      clear hb
      go_wp2_with fail
      refine (HD2.out _ (ht.below b2)).mono ?_
      rintro e v3 ⟨rfl, hb⟩
      have b3 := b2.trans (hb.mono b2.size)
      clear hb
      go_wp2_with fail
      refine (HR.out _).mono ?_
      rintro e v4 ⟨rfl, hb⟩
      have b4 := b3.trans (hb.mono b3.size)
      clear hb
      go_wp2
      go_ret
      exact ⟨rfl, b4⟩
  · rcases long2 a b hz with h | ⟨h1, h⟩
    all_goals
      clear hz
      go_enter Tryd.func5, Tryd.ntmps5
      go_wp2_with fail
      refine (first_any _ ht).mono ?_
      rintro e v0 ⟨rfl, b0⟩
      go_wp2
      go_ret
      exact ⟨rfl, b0⟩
end Go.Proofs.YtjefhgmnjfclaaaDoor
