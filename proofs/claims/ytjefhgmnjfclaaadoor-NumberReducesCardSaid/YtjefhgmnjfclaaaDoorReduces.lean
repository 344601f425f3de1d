/- lispproverlaw1.NumberReduces returns true. -/
import Derived.Test.YtjefhgmnjfclaaaDoorGcds
namespace Go.Proofs.YtjefhgmnjfclaaaDoor
open Go.RowKit

theorem rd_cases (x y : Int) : (y = 0 ∧ rdN x y = 0 ∧ rdD x y = 1) ∨ (y ≠ 0 ∧ ∃ g k m : Nat, 0 < g ∧ x.natAbs = g * k ∧ y.natAbs = g * m ∧ Nat.gcd k m = 1 ∧ rdD x y = m ∧ ((rdN x y = k ∧ (decide (x < 0) = decide (y < 0) ∨ x = 0)) ∨ (rdN x y = -(k : Int) ∧ decide (x < 0) ≠ decide (y < 0)))) := by
  by_cases hy : y = 0
  · left; subst hy; exact ⟨rfl, rfl, rfl⟩
  · right
    have hn := rd_num (x := x) hy rfl
    have hd := rd_den (x := x) hy
    have hg : 0 < Nat.gcd x.natAbs y.natAbs := Nat.gcd_pos_of_pos_right _ (by omega)
    obtain ⟨k, hk⟩ := Nat.gcd_dvd_left x.natAbs y.natAbs
    obtain ⟨m, hm⟩ := Nat.gcd_dvd_right x.natAbs y.natAbs
    generalize hG : Nat.gcd x.natAbs y.natAbs = g at *
    refine ⟨hy, g, k, m, hg, hk, hm, ?_, ?_, ?_⟩
    · rw [hk, hm, Nat.gcd_mul_left] at hG
      exact Nat.eq_of_mul_eq_mul_left hg (by rw [hG, Nat.mul_one])
    · rw [← hd, hm, Nat.mul_div_cancel_left _ hg]; simp
    · rw [hk, Nat.mul_div_cancel_left _ hg] at hn
      by_cases h : decide (x < 0) = decide (y < 0)
      · left; exact ⟨by rw [← hn, h]; simp, .inl h⟩
      · right
        refine ⟨?_, h⟩
        rw [← hn, if_pos (by cases h1 : decide (x < 0) <;> cases h2 : decide (y < 0) <;> simp_all)]
theorem rd_gcd (x y : Int) : Nat.gcd (rdN x y).natAbs (rdD x y).natAbs = 1 := by
  rcases rd_cases x y with ⟨_, h1, h2⟩ | ⟨_, g, k, m, _, _, _, hc, h2, h⟩
  · rw [h1, h2]; rfl
  · rw [h2]
    rcases h with ⟨h, _⟩ | ⟨h, _⟩
    · rw [h]; simpa using hc
    · rw [h, Int.natAbs_neg]; simpa using hc
theorem rd_cross {x y : Int} (hy : y ≠ 0) : rdN x y * y = x * rdD x y := by
  rcases rd_cases x y with ⟨h, _⟩ | ⟨_, g, k, m, hg, hx, hm, hc, h2, h⟩
  · exact absurd h hy
  · rw [h2]
    have e1 : ((g * k : Nat) : Int) = (g : Int) * k := Int.natCast_mul _ _
    have e2 : ((g * m : Nat) : Int) = (g : Int) * m := Int.natCast_mul _ _
    have p : (0 : Int) ≤ (g : Int) * k := by rw [← e1]; omega
    by_cases h1 : x < 0 <;> by_cases h3 : y < 0
    · have ex : x = -((g : Int) * k) := by omega
      have ey : y = -((g : Int) * m) := by omega
      rcases h with ⟨h, _⟩ | ⟨_, h⟩
      · rw [h, ex, ey]; grind
      · simp [h1, h3] at h
    · have ex : x = -((g : Int) * k) := by omega
      have ey : y = ((g : Int) * m) := by omega
      rcases h with ⟨h, h'⟩ | ⟨h, _⟩
      · rcases h' with h' | h'
        · simp [h1, h3] at h'
        · omega
      · rw [h, ex, ey]; grind
    · have ex : x = ((g : Int) * k) := by omega
      have ey : y = -((g : Int) * m) := by omega
      rcases h with ⟨h, h'⟩ | ⟨h, _⟩
      · rcases h' with h' | h'
        · simp [h1, h3] at h'
        · have hk0 : (k : Int) = 0 := by
            have : g * k = 0 := by rw [← hx, h']; rfl
            rcases Nat.mul_eq_zero.1 this with h0 | h0
            · omega
            · omega
          rw [h, h', hk0]; simp
      · rw [h, ex, ey]; grind
    · have ex : x = ((g : Int) * k) := by omega
      have ey : y = ((g : Int) * m) := by omega
      rcases h with ⟨h, _⟩ | ⟨_, h⟩
      · rw [h, ex, ey]; grind
      · simp [h1, h3] at h
theorem rd_bounds (x y : Int) : (rdN x y).natAbs ≤ x.natAbs ∧ (rdD x y).natAbs ≤ y.natAbs + 1 := by
  rcases rd_cases x y with ⟨_, h1, h2⟩ | ⟨_, g, k, m, hg, hx, hm, hc, h2, h⟩
  · rw [h1, h2]; simp
  · have hk : k ≤ g * k := Nat.le_mul_of_pos_left k hg
    have hm' : m ≤ g * m := Nat.le_mul_of_pos_left m hg
    rcases h with ⟨h, _⟩ | ⟨h, _⟩ <;> rw [h, h2] <;> omega
theorem Num.rdN {k m : Nat} {l r : List UInt8} {X Y : Int} (h : Num k l X) (_h' : Num m r Y) : Num (k + m + 2) (Lib.itoa (rdN X Y)) (rdN X Y) :=
  ⟨Dec.dval_itoa _, itoa_length_any _ (k := k + m + 1) (by omega) (by
    have h1 := h.abs
    have h2 := (rd_bounds X Y).1
    have h3 : 10 ^ k ≤ 10 ^ (k + m + 1) := Nat.pow_le_pow_right (by omega) (by omega)
    omega)⟩
theorem Num.rdD {k m : Nat} {l r : List UInt8} {X Y : Int} (_h : Num k l X) (h' : Num m r Y) : Num (k + m + 2) (Lib.itoa (rdD X Y)) (rdD X Y) :=
  ⟨Dec.dval_itoa _, itoa_length_any _ (k := k + m + 1) (by omega) (by
    have h1 := h'.abs
    have h2 := (rd_bounds X Y).2
    have h3 : 10 ^ (m + 1) ≤ 10 ^ (k + m + 1) := Nat.pow_le_pow_right (by omega) (by omega)
    have h4 : 10 ^ (m + 1) = 10 ^ m * 10 := Nat.pow_succ _ _
    omega)⟩

set_option maxHeartbeats 4000000 in
set_option maxRecDepth 100000 in
theorem reduces_any (a b : List UInt8) (w : World) (ht : Tab w) (ha : a.length ≤ 9223372036854775807) (hb : b.length ≤ 9223372036854775807) :
    Calls Tryd.prog 6 #[.string ⟨a.toArray⟩, .string ⟨b.toArray⟩] w (RetTrue w) := by
  by_cases hz : a.length ≤ 25 ∧ b.length ≤ 25
  · obtain ⟨la, lb⟩ := hz
    have na := Num.of a la
    have nb := Num.of b lb
    have nn := na.rdN nb
    have nd := na.rdD nb
    have HG : Hid (∀ w' : World, Tab w' → Calls Tryd.prog 19 #[.string ⟨(Lib.itoa (rdN (Dec.dval a) (Dec.dval b))).toArray⟩, .string ⟨(Lib.itoa (rdD (Dec.dval a) (Dec.dval b))).toArray⟩] w' (RetStr [49] w')) := fun w' ht' => by
      have := gcdN_any (Lib.itoa (rdN (Dec.dval a) (Dec.dval b))) (Lib.itoa (rdD (Dec.dval a) (Dec.dval b))) w' (by have := nn.len; omega) (by have := nd.len; omega) ht'
      rw [Dec.dval_itoa, Dec.dval_itoa, rd_gcd, show ((1 : Nat) : Int) = 1 from rfl, itoa_one] at this
      exact this
    have HN : Hid (∀ w' : World, Tab w' → Calls Tryd.prog 21 #[.string ⟨a.toArray⟩, .string ⟨b.toArray⟩] w' (RetStr2 (Lib.itoa (rdN (Dec.dval a) (Dec.dval b))) (Lib.itoa (rdD (Dec.dval a) (Dec.dval b))) w')) := fun w' ht' => reduceN_any a b w' (by omega) (by omega) ht'
    have HR : Hid (∀ w' : World, Calls Tryd.prog 22 #[.string ⟨a.toArray⟩, .string ⟨b.toArray⟩] w' (RetStr2 (Lib.itoa (rdN (Dec.dval a) (Dec.dval b))) (Lib.itoa (rdD (Dec.dval a) (Dec.dval b))) w')) := fun w' => refReduce_any a b w' (by omega) (by omega)
    have HM1 : Hid (∀ w' : World, Tab w' → Calls Tryd.prog 15 #[.string ⟨(Lib.itoa (rdN (Dec.dval a) (Dec.dval b))).toArray⟩, .string ⟨b.toArray⟩] w' (RetStr (Lib.itoa (rdN (Dec.dval a) (Dec.dval b) * Dec.dval b)) w')) := fun w' ht' => mulZ nn nb (by omega) (by omega) w' ht'
    have HM2 : Hid (∀ w' : World, Tab w' → Calls Tryd.prog 15 #[.string ⟨a.toArray⟩, .string ⟨(Lib.itoa (rdD (Dec.dval a) (Dec.dval b))).toArray⟩] w' (RetStr (Lib.itoa (Dec.dval a * rdD (Dec.dval a) (Dec.dval b))) w')) := fun w' ht' => mulZ na nd (by omega) (by omega) w' ht'
    have hX : Dec.isDec b = true → (b == [48]) = false → rdN (Dec.dval a) (Dec.dval b) * Dec.dval b = Dec.dval a * rdD (Dec.dval a) (Dec.dval b) := fun hv h0 => rd_cross fun e => by
      have := Dec.itoa_dval hv
      rw [e, Dec.itoa_zero] at this
      rw [← this] at h0
      cases h0
    clear nn nd
    cases hv : Dec.isDec b with
    | false =>
      have HV := Lib.hid hv
      clear hv hX
      generalize Lib.itoa (rdN (Dec.dval a) (Dec.dval b)) = N at *
      generalize Lib.itoa (rdD (Dec.dval a) (Dec.dval b)) = D at *
      go_enter Tryd.func6, Tryd.ntmps6
      go_wp2_with fail
      refine (first_any _ ht).mono ?_
      rintro e v0 ⟨rfl, b0⟩
      go_wp2_with fail
      refine (HN.out _ (ht.below b0)).mono ?_
      rintro e v1 ⟨rfl, hb⟩
      have b1 := b0.trans (hb.mono b0.size)
      clear hb
      go_wp2_with fail
      refine (HR.out _).mono ?_
      rintro e v2 ⟨rfl, hb⟩
      have b2 := b1.trans (hb.mono b1.size)
      clear hb
      go_wp2_with fail
      refine (HG.out _ (ht.below b2)).mono ?_
      rintro e v3 ⟨rfl, hb⟩
      have b3 := b2.trans (hb.mono b2.size)
      clear hb
      go_wp2_with fail
      refine (refv b _ HV.out hb _).mono ?_
      rintro e w' ⟨rfl, rfl⟩
      go_wp2
      go_ret
      exact ⟨rfl, b3⟩
    | true =>
      have HV := Lib.hid hv
      cases h0 : (b == [48]) with
      | true =>
        clear hv hX
        generalize Lib.itoa (rdN (Dec.dval a) (Dec.dval b)) = N at *
        generalize Lib.itoa (rdD (Dec.dval a) (Dec.dval b)) = D at *
        go_enter Tryd.func6, Tryd.ntmps6
        go_wp2_with fail
        refine (first_any _ ht).mono ?_
        rintro e v0 ⟨rfl, b0⟩
        go_wp2_with fail
        refine (HN.out _ (ht.below b0)).mono ?_
        rintro e v1 ⟨rfl, hb⟩
        have b1 := b0.trans (hb.mono b0.size)
        clear hb
        go_wp2_with fail
        refine (HR.out _).mono ?_
        rintro e v2 ⟨rfl, hb⟩
        have b2 := b1.trans (hb.mono b1.size)
        clear hb
        go_wp2_with fail
        refine (HG.out _ (ht.below b2)).mono ?_
        rintro e v3 ⟨rfl, hb⟩
        have b3 := b2.trans (hb.mono b2.size)
        clear hb
        go_wp2_with fail
        refine (refv b _ HV.out hb _).mono ?_
        rintro e w' ⟨rfl, rfl⟩
        go_wp2
        go_ret
        exact ⟨rfl, b3⟩
      | false =>
        have h := hX hv h0
        rw [h] at HM1
        clear hv hX h
        generalize Lib.itoa (Dec.dval a * rdD (Dec.dval a) (Dec.dval b)) = P at *
        generalize Lib.itoa (rdN (Dec.dval a) (Dec.dval b)) = N at *
        generalize Lib.itoa (rdD (Dec.dval a) (Dec.dval b)) = D at *
        go_enter Tryd.func6, Tryd.ntmps6
        go_wp2_with fail
        refine (first_any _ ht).mono ?_
        rintro e v0 ⟨rfl, b0⟩
        go_wp2_with fail
        refine (HN.out _ (ht.below b0)).mono ?_
        rintro e v1 ⟨rfl, hb⟩
        have b1 := b0.trans (hb.mono b0.size)
        clear hb
        go_wp2_with fail
        refine (HR.out _).mono ?_
        rintro e v2 ⟨rfl, hb⟩
        have b2 := b1.trans (hb.mono b1.size)
        clear hb
        go_wp2_with fail
        refine (HG.out _ (ht.below b2)).mono ?_
        rintro e v3 ⟨rfl, hb⟩
        have b3 := b2.trans (hb.mono b2.size)
        clear hb
        go_wp2_with fail
        refine (refv b _ HV.out hb _).mono ?_
        rintro e w' ⟨rfl, rfl⟩
        go_wp2_with fail
        refine (HM1.out _ (ht.below b3)).mono ?_
        rintro e v4 ⟨rfl, hb⟩
        have b4 := b3.trans (hb.mono b3.size)
        clear hb
        go_wp2_with fail
        refine (HM2.out _ (ht.below b4)).mono ?_
        rintro e v5 ⟨rfl, hb⟩
        have b5 := b4.trans (hb.mono b4.size)
        clear hb
        go_wp2
        go_ret
        exact ⟨rfl, b5⟩
  · rcases long2 a b hz with h | ⟨h1, h⟩
    all_goals
      clear hz
      go_enter Tryd.func6, Tryd.ntmps6
      go_wp2_with fail
      refine (first_any _ ht).mono ?_
      rintro e v0 ⟨rfl, b0⟩
      go_wp2
      go_ret
      exact ⟨rfl, b0⟩
end Go.Proofs.YtjefhgmnjfclaaaDoor
