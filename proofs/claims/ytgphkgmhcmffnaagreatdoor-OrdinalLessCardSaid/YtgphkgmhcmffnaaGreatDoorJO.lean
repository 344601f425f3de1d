/- lispproverref1.Divide, Gcd, Reduce. -/
import Derived.Test.YtgphkgmhcmffnaaGreatDoorJN
import Derived.Test.YtgphkgmhcmffnaaGreatDoorJM
import Derived.Test.YtgphkgmhcmffnaaGreatDoorJJ
namespace Go.Proofs.YtgphkgmhcmffnaaGreatDoor
open Go.RowKit

theorem natAbs10 {x : Int} {n : Nat} (h : (Dec.limbs 10 x.natAbs).length = n) : n = 0 ↔ x = 0 := by
  subst h
  constructor
  · intro h
    have := (Dec.limbs_eq_nil (B := 10) (by omega)).1 (List.eq_nil_of_length_eq_zero h)
    omega
  · rintro rfl; rfl
theorem limbs10_pos {v n : Nat} (h : (Dec.limbs 10 v).length = n) (h0 : n ≠ 0) : 0 < v := by
  rcases Nat.eq_zero_or_pos v with e | e
  · subst e; rw [Dec.limbs_zero] at h; simp at h; omega
  · exact e
theorem length10_div {a b n : Nat} (h : (Dec.limbs 10 a).length = n) : (Dec.limbs 10 (a / b)).length ≤ n := by
  rw [← h]; exact Dec.limbs_length_mono (by omega) (Nat.div_le_self a b)
theorem length10_mod {a b n : Nat} (hb : 0 < b) (h : (Dec.limbs 10 b).length = n) : (Dec.limbs 10 (a % b)).length ≤ n := by
  rw [← h]; exact Dec.limbs_length_mono (by omega) (Nat.le_of_lt (Nat.mod_lt a hb))
theorem refTextN (ng : Bool) (A : Option Addr) (n c v : Nat) (l : List UInt8) (w : World) (hx : Sl w .i64 A n c (Dec.limbs 10 v)) (hn : n ≤ 100000000) (hv : numStr ng v = l) :
    Calls Tryz.prog 109 #[.bool ng, .slice A n c] w (RetStr l w) := by
  have := refText_any ng A n c _ w hx hn (Dec.limbs_small (by omega) v)
  rw [Dec.lval_limbs (by omega), hv] at this
  exact this

set_option maxHeartbeats 1000000 in
theorem refGcd_any (a b : List UInt8) (w : World) (ha : a.length ≤ 2400000) (hb : b.length ≤ 2400000) :
    Calls Tryz.prog 107 #[.string ⟨a.toArray⟩, .string ⟨b.toArray⟩] w (RetStr (Lib.itoa (Nat.gcd (Dec.dval a).natAbs (Dec.dval b).natAbs : Nat)) w) := by
  have HP1 : Hid (∀ w' : World, Calls Tryz.prog 106 #[.string ⟨a.toArray⟩] w' (RetDig (a.length + 1) (Dec.dval a) w')) := fun w' => refDigW a (by omega) w'
  have HP2 : Hid (∀ w' : World, Calls Tryz.prog 106 #[.string ⟨b.toArray⟩] w' (RetDig (b.length + 1) (Dec.dval b) w')) := fun w' => refDigW b (by omega) w'
  generalize Dec.dval a = x at *
  generalize Dec.dval b = y at *
  generalize hG : Nat.gcd x.natAbs y.natAbs = G
  have HG := Lib.hid hG
  clear hG
  obtain ⟨s, hsd⟩ : ∃ s, s = decide (x < 0) := ⟨_, rfl⟩
  have HSD := Lib.hid hsd
  clear hsd
  obtain ⟨s', hsd'⟩ : ∃ s', s' = decide (y < 0) := ⟨_, rfl⟩
  have HSD' := Lib.hid hsd'
  clear hsd'
  go_enter Tryz.func107, Tryz.ntmps107
  go_wp2_with fail
  refine (HP1.out _).mono ?_
  rintro e w1 ⟨A1, n1, c1, rfl, hs1, hn1, hb1⟩
  rw [← HSD.out]
  go_wp2_with fail
  refine (HP2.out _).mono ?_
  rintro e w2 ⟨A2, n2, c2, rfl, hs2, hn2, hb2⟩
  rw [← HSD'.out]
  have hbw2 := hb1.trans (hb2.mono hb1.size)
  go_wp2_with fail
  go_loopg [6, 8] y.natAbs (fun kx s5 s6 wr => ∃ (A B : Option Addr) (n c m d u v : Nat), s5 = .slice A n c ∧ s6 = .slice B m d ∧ Sl wr .i64 A n c (Dec.limbs 10 u) ∧ Sl wr .i64 B m d (Dec.limbs 10 v) ∧ n ≤ 2400001 ∧ m ≤ 2400001 ∧ v ≤ kx ∧ Hid (Nat.gcd u v = G) ∧ Below w.heap.size w wr)
  case atStart => exact ⟨A1, A2, n1, c1, n2, c2, _, _, rfl, rfl, hs1.below hb2, hs2, by omega, by omega, Nat.le_refl _, HG, hbw2⟩
  case round =>
    obtain ⟨A, B, n, c, m, d, u, v, rfl, rfl, hu, hv, hn, hm, hk, HGu, hb⟩ := hrel
    by_cases hm0 : 0 < m
    · have hv0 : 0 < v := limbs10_pos hv.len (by omega)
      have hlr := length10_mod (a := u) hv0 hv.len
      have hml := Nat.mod_lt u hv0
      have HGn : Hid (Nat.gcd v (u % v) = G) := by show _ = _; rw [← HGu.out, Nat.gcd_comm v, ← Nat.gcd_rec, Nat.gcd_comm]
      have HDv := Lib.hid (refOver_any A B n m c d u v wr hu hv (by omega) (by omega) hv0)
      go_wp2_with (go_at_call 108; refine HDv.out.mono ?_; rintro e w3 ⟨A3, n3, c3, A4, n4, c4, rfl, hs3, hs4, hb3⟩; have hn4 : n4 ≤ m := (by rw [← hs4.len]; exact hlr))
      go_roundg (u % v)
      case measure => omega
      case rel => exact ⟨B, A4, m, d, n4, c4, v, u % v, rfl, rfl, hv.below hb3, hs4, hm, by omega, Nat.le_refl _, HGn, hb.trans (hb3.mono hb.size)⟩
    · have hv0 : v = 0 := (Dec.limbs_eq_nil (B := 10) (by omega)).1 (List.eq_nil_of_length_eq_zero (by rw [hv.len]; omega))
      subst hv0
      have HE : Hid (numStr false u = Lib.itoa (G : Int)) := by show _ = _; rw [← HGu.out, Nat.gcd_zero_right]; rfl
      go_wp2_with fail
      refine (refTextN false A n c u _ _ hu (by omega) HE.out).mono ?_
      rintro e w3 ⟨rfl, hb3⟩
      go_wp2
      go_ret
      exact ⟨rfl, hb.trans (hb3.mono hb.size)⟩

/-! ### Reduce -/
theorem rd_num {x y : Int} {z : Bool} (hy : y ≠ 0) (hz : (!(decide (x < 0) == decide (y < 0))) = z) : (if z then -((x.natAbs / Nat.gcd x.natAbs y.natAbs : Nat) : Int) else ((x.natAbs / Nat.gcd x.natAbs y.natAbs : Nat) : Int)) = rdN x y := by
  have hg : 0 < Nat.gcd x.natAbs y.natAbs := Nat.gcd_pos_of_pos_right _ (by omega)
  have hd := Nat.gcd_dvd_left x.natAbs y.natAbs
  unfold rdN
  rw [if_neg hy]
  generalize Nat.gcd x.natAbs y.natAbs = g at *
  obtain ⟨k, hk⟩ := hd
  rw [hk, Nat.mul_div_cancel_left _ hg]
  have hgk : ((g * k : Nat) : Int) = (g : Int) * k := Int.natCast_mul _ _
  by_cases h1 : x < 0 <;> by_cases h2 : y < 0
  · have e : rdX x y = k * g + 0 := by unfold rdX; rw [if_pos h2, Int.mul_comm, ← hgk]; omega
    rw [(qd_of_pos (by omega) e (by omega) (by omega)).1]
    subst hz; simp [h1, h2]
  · have e : rdX x y = (-(k : Int)) * g + 0 := by unfold rdX; rw [if_neg h2, Int.neg_mul, Int.mul_comm, ← hgk]; omega
    rw [(qd_of_pos (by omega) e (by omega) (by omega)).1]
    subst hz; simp [h1, h2]
  · have e : rdX x y = (-(k : Int)) * g + 0 := by unfold rdX; rw [if_pos h2, Int.neg_mul, Int.mul_comm, ← hgk]; omega
    rw [(qd_of_pos (by omega) e (by omega) (by omega)).1]
    subst hz; simp [h1, h2]
  · have e : rdX x y = k * g + 0 := by unfold rdX; rw [if_neg h2, Int.mul_comm, ← hgk]; omega
    rw [(qd_of_pos (by omega) e (by omega) (by omega)).1]
    subst hz; simp [h1, h2]
theorem rd_den {x y : Int} (hy : y ≠ 0) : (if false = true then -((y.natAbs / Nat.gcd x.natAbs y.natAbs : Nat) : Int) else ((y.natAbs / Nat.gcd x.natAbs y.natAbs : Nat) : Int)) = rdD x y := by
  have hg : 0 < Nat.gcd x.natAbs y.natAbs := Nat.gcd_pos_of_pos_right _ (by omega)
  have hd := Nat.gcd_dvd_right x.natAbs y.natAbs
  unfold rdD
  rw [if_neg hy]
  generalize Nat.gcd x.natAbs y.natAbs = g at *
  obtain ⟨k, hk⟩ := hd
  rw [hk, Nat.mul_div_cancel_left _ hg]
  have hgk : ((g * k : Nat) : Int) = (g : Int) * k := Int.natCast_mul _ _
  have e : rdY y = k * g + 0 := by unfold rdY; split <;> rw [Int.mul_comm, ← hgk] <;> omega
  rw [(qd_of_pos (by omega) e (by omega) (by omega)).1]
  simp

set_option maxHeartbeats 2000000 in
theorem refReduce_any (a b : List UInt8) (w : World) (ha : a.length ≤ 1100000) (hb : b.length ≤ 1100000) :
    Calls Tryz.prog 81 #[.string ⟨a.toArray⟩, .string ⟨b.toArray⟩] w (RetStr2 (Lib.itoa (rdN (Dec.dval a) (Dec.dval b))) (Lib.itoa (rdD (Dec.dval a) (Dec.dval b))) w) := by
  have HP1 : Hid (∀ w' : World, Calls Tryz.prog 106 #[.string ⟨a.toArray⟩] w' (RetDig (a.length + 1) (Dec.dval a) w')) := fun w' => refDigW a (by omega) w'
  have HP2 : Hid (∀ w' : World, Calls Tryz.prog 106 #[.string ⟨b.toArray⟩] w' (RetDig (b.length + 1) (Dec.dval b) w')) := fun w' => refDigW b (by omega) w'
  have HG : Hid (∀ w' : World, Calls Tryz.prog 107 #[.string ⟨a.toArray⟩, .string ⟨b.toArray⟩] w' (RetStr (Lib.itoa (Nat.gcd (Dec.dval a).natAbs (Dec.dval b).natAbs : Nat)) w')) := fun w' => refGcd_any a b w' (by omega) (by omega)
  have hgl : (Lib.itoa (Nat.gcd (Dec.dval a).natAbs (Dec.dval b).natAbs : Nat)).length ≤ 1100002 := by
    obtain ⟨K, hK⟩ : ∃ K, K = 1100001 := ⟨_, rfl⟩
    have := gcd_len (K := K) (x := Dec.dval a) (y := Dec.dval b) (by omega) (dval_lt18 (by omega)) (dval_lt18 (by omega))
    omega
  generalize Dec.dval a = x at *
  generalize Dec.dval b = y at *
  by_cases hy : y = 0
  · subst hy
    rw [show rdN x 0 = 0 from rfl, show rdD x 0 = 1 from rfl, Dec.itoa_zero, itoa_one]
    go_enter Tryz.func81, Tryz.ntmps81
    go_wp2_with fail
    refine (HP2.out _).mono ?_
    rintro e w2 ⟨A2, n2, c2, rfl, hs2, hn2, hb2⟩
    obtain rfl : n2 = 0 := (natAbs10 (x := 0) hs2.len).2 rfl
    go_wp2
    go_ret2
    exact ⟨rfl, hb2⟩
  · obtain ⟨z, hz⟩ : ∃ z, z = (!(decide (x < 0) == decide (y < 0))) := ⟨_, rfl⟩
    have HN := Lib.hid (rd_num (x := x) hy hz.symm)
    have HD := Lib.hid (rd_den (x := x) hy)
    have hg0 : 0 < Nat.gcd x.natAbs y.natAbs := Nat.gcd_pos_of_pos_right _ (by omega)
    generalize Nat.gcd x.natAbs y.natAbs = g at *
    have HPg : Hid (∀ w' : World, Calls Tryz.prog 106 #[.string ⟨(Lib.itoa (g : Int)).toArray⟩] w' (RetDig 1100100 (g : Int) w')) := fun w' => by
      have := refDigW (Lib.itoa (g : Int)) (by omega) w'
      rw [Dec.dval_itoa] at this
      exact this.mono (by
        rintro e w'' ⟨A, n, c, h1, h2, h3, h4⟩
        exact ⟨A, n, c, h1, h2, by omega, h4⟩)
    obtain ⟨s, hsd⟩ : ∃ s, s = decide (x < 0) := ⟨_, rfl⟩
    obtain ⟨s', hsd'⟩ : ∃ s', s' = decide (y < 0) := ⟨_, rfl⟩
    rw [← hsd, ← hsd'] at hz
    have hz' : (!(s == s')) = z := hz.symm
    have HSD := Lib.hid hsd
    have HSD' := Lib.hid hsd'
    clear hsd hsd' hz hgl
    go_enter Tryz.func81, Tryz.ntmps81
    go_wp2_with fail
    refine (HP2.out _).mono ?_
    rintro e w2 ⟨A2, n2, c2, rfl, hs2, hn2, hb2⟩
    rw [← HSD'.out]
    have hn20 : ((n2 : Int) == 0) = false := by rw [beq_eq_false_iff_ne]; intro e; exact hy ((natAbs10 hs2.len).1 (by omega))
    clear hy
    go_wp2_with fail
    refine (HP1.out _).mono ?_
    rintro e w1 ⟨A1, n1, c1, rfl, hs1, hn1, hb1⟩
    rw [← HSD.out]
    have b1 := hb2.trans (hb1.mono hb2.size)
    have hsB1 := hs2.below hb1
    go_wp2_with fail
    refine (HG.out _).mono ?_
    rintro e w3 ⟨rfl, hb3⟩
    have b3 := b1.trans (hb3.mono b1.size)
    have hsA3 := hs1.below hb3
    have hsB3 := hsB1.below hb3
    go_wp2_with fail
    refine (HPg.out _).mono ?_
    rintro e w4 ⟨A4, n4, c4, rfl, hs4, hn4, hb4⟩
    have b4 := b3.trans (hb4.mono b3.size)
    have hsA4 := hsA3.below hb4
    have hsB4 := hsB3.below hb4
    rw [show decide ((g : Int) < 0) = false from decide_eq_false (by omega)]
    rw [Int.natAbs_natCast] at hs4
    have hlq := length10_div (b := g) hsA4.len
    have hld := length10_div (b := g) hsB4.len
    go_wp2_with fail
    refine (refOver_any A1 A4 n1 n4 c1 c4 _ _ w4 hsA4 hs4 (by omega) (by omega) hg0).mono ?_
    rintro e w5 ⟨A5, n5, c5, A6, n6, c6, rfl, hs5, hs6, hb5⟩
    have b5 := b4.trans (hb5.mono b4.size)
    have hn5 : n5 ≤ n1 := by rw [← hs5.len]; exact hlq
    go_wp2_with fail
    refine (refOver_any A2 A4 n2 n4 c2 c4 _ _ w5 (hsB4.below hb5) (hs4.below hb5) (by omega) (by omega) hg0).mono ?_
    rintro e w7 ⟨A7, n7, c7, A8, n8, c8, rfl, hs7, hs8, hb7⟩
    have b7 := b5.trans (hb7.mono b5.size)
    have hn7 : n7 ≤ n2 := by rw [← hs7.len]; exact hld
    go_wp2_with fail
    refine (refTextV z A5 n5 c5 _ _ _ (hs5.below hb7) (by omega) HN.out).mono ?_
    rintro e w9 ⟨rfl, hb9⟩
    have b9 := b7.trans (hb9.mono b7.size)
    go_wp2_with fail
    refine (refTextV false A7 n7 c7 _ _ _ (hs7.below hb9) (by omega) HD.out).mono ?_
    rintro e w10 ⟨rfl, hb10⟩
    go_wp2
    go_ret2
    exact ⟨rfl, b9.trans (hb10.mono b9.size)⟩
end Go.Proofs.YtgphkgmhcmffnaaGreatDoor
/- lispproverref1.Small, Digits. -/
namespace Go.Proofs.YtgphkgmhcmffnaaGreatDoor
open Go.RowKit

theorem digits_len (l : List UInt8) : (Dec.mag (norm l)).length = max 1 (Dec.limbs 10 (Dec.dval l).natAbs).length := by
  have hm := mag_norm l
  have hd := norm_dec l
  have hv := dval_norm l
  generalize norm l = s at hm hd hv
  by_cases h48 : s = [48]
  · subst h48
    rw [← hv]
    decide +kernel
  · obtain ⟨h1, h2, h3, _⟩ := hm
    obtain ⟨_, hh⟩ := (Dec.isDec_iff h48).1 hd
    have h4 := Dec.revDigs_limbs h1 hh
    rw [h3] at h4
    rw [← h4]
    have : (Dec.revDigs (Dec.mag s)).length = (Dec.mag s).length := by simp [Dec.revDigs]
    rw [this]
    have : 0 < (Dec.mag s).length := List.length_pos_iff.2 h2
    omega

set_option maxHeartbeats 1000000 in
theorem refDigitsN_any (l : List UInt8) (w : World) (hl : l.length ≤ 2500000) :
    Calls Tryz.prog 126 #[.string ⟨l.toArray⟩] w (RetI64 ((Dec.mag (norm l)).length : Nat) w) := by
  have HD := Lib.hid (refDigW l hl w)
  have HL := Lib.hid (digits_len l)
  generalize (Dec.mag (norm l)).length = K at *
  generalize Dec.dval l = x at *
  obtain ⟨s, hsd⟩ : ∃ s, s = decide (x < 0) := ⟨_, rfl⟩
  have HSD := Lib.hid hsd
  clear hsd
  go_enter Tryz.func126, Tryz.ntmps126
  go_wp2_with fail
  refine HD.out.mono ?_
  rintro e w1 ⟨A1, n1, c1, rfl, hs1, hn1, hb1⟩
  rw [← HSD.out]
  have HN := Lib.hid hs1.len
  go_wp2
  go_ret
  refine ⟨?_, hb1⟩
  rw [HL.out, HN.out, show ((max 1 n1 : Nat) : Int) = max 1 (n1 : Int) by omega]
  rfl

end Go.Proofs.YtgphkgmhcmffnaaGreatDoor
/- What reducing a fraction gives, in words of integers. -/
namespace Go.Proofs.YtgphkgmhcmffnaaGreatDoor
open Go.RowKit

theorem rd_cases (x y : Int) : (y = 0 ∧ rdN x y = 0 ∧ rdD x y = 1) ∨ (y ≠ 0 ∧ ∃ g k m : Nat, 0 < g ∧ x.natAbs = g * k ∧ y.natAbs = g * m ∧ Nat.gcd k m = 1 ∧ rdD x y = m ∧ ((rdN x y = k ∧ (decide (x < 0) = decide (y < 0) ∨ x = 0)) ∨ (rdN x y = -(k : Int) ∧ decide (x < 0) ≠ decide (y < 0)))) := by
  by_cases hy : y = 0
  · left; subst hy; exact ⟨rfl, rfl, rfl⟩
  · right
    have hn := rd_num (x := x) hy rfl
    have hd := rd_den (x := x) hy
    have hg : 0 < Nat.gcd x.natAbs y.natAbs := Nat.gcd_pos_of_pos_right _ (by omega)
    obtain ⟨k, hk⟩ := Nat.gcd_dvd_left x.natAbs y.natAbs
    obtain ⟨m, hm⟩ := Nat.gcd_dvd_right x.natAbs y.natAbs
    generalize hG : Nat.gcd x.natAbs y.natAbs = g at *
    refine ⟨hy, g, k, m, hg, hk, hm, ?_, ?_, ?_⟩
    · rw [hk, hm, Nat.gcd_mul_left] at hG
      exact Nat.eq_of_mul_eq_mul_left hg (by rw [hG, Nat.mul_one])
    · rw [← hd, hm, Nat.mul_div_cancel_left _ hg]; simp
    · rw [hk, Nat.mul_div_cancel_left _ hg] at hn
      by_cases h : decide (x < 0) = decide (y < 0)
      · left; exact ⟨by rw [← hn, h]; simp, .inl h⟩
      · right
        refine ⟨?_, h⟩
        rw [← hn, if_pos (by cases h1 : decide (x < 0) <;> cases h2 : decide (y < 0) <;> simp_all)]
theorem rd_gcd (x y : Int) : Nat.gcd (rdN x y).natAbs (rdD x y).natAbs = 1 := by
  rcases rd_cases x y with ⟨_, h1, h2⟩ | ⟨_, g, k, m, _, _, _, hc, h2, h⟩
  · rw [h1, h2]; rfl
  · rw [h2]
    rcases h with ⟨h, _⟩ | ⟨h, _⟩
    · rw [h]; simpa using hc
    · rw [h, Int.natAbs_neg]; simpa using hc
theorem rd_cross {x y : Int} (hy : y ≠ 0) : rdN x y * y = x * rdD x y := by
  rcases rd_cases x y with ⟨h, _⟩ | ⟨_, g, k, m, hg, hx, hm, hc, h2, h⟩
  · exact absurd h hy
  · rw [h2]
    have e1 : ((g * k : Nat) : Int) = (g : Int) * k := Int.natCast_mul _ _
    have e2 : ((g * m : Nat) : Int) = (g : Int) * m := Int.natCast_mul _ _
    have p : (0 : Int) ≤ (g : Int) * k := by rw [← e1]; omega
    by_cases h1 : x < 0 <;> by_cases h3 : y < 0
    · have ex : x = -((g : Int) * k) := by omega
      have ey : y = -((g : Int) * m) := by omega
      rcases h with ⟨h, _⟩ | ⟨_, h⟩
      · rw [h, ex, ey]; grind
      · simp [h1, h3] at h
    · have ex : x = -((g : Int) * k) := by omega
      have ey : y = ((g : Int) * m) := by omega
      rcases h with ⟨h, h'⟩ | ⟨h, _⟩
      · rcases h' with h' | h'
        · simp [h1, h3] at h'
        · omega
      · rw [h, ex, ey]; grind
    · have ex : x = ((g : Int) * k) := by omega
      have ey : y = -((g : Int) * m) := by omega
      rcases h with ⟨h, h'⟩ | ⟨h, _⟩
      · rcases h' with h' | h'
        · simp [h1, h3] at h'
        · have hk0 : (k : Int) = 0 := by
            have : g * k = 0 := by rw [← hx, h']; rfl
            rcases Nat.mul_eq_zero.1 this with h0 | h0
            · omega
            · omega
          rw [h, h', hk0]; simp
      · rw [h, ex, ey]; grind
    · have ex : x = ((g : Int) * k) := by omega
      have ey : y = ((g : Int) * m) := by omega
      rcases h with ⟨h, _⟩ | ⟨_, h⟩
      · rw [h, ex, ey]; grind
      · simp [h1, h3] at h
theorem rd_bounds (x y : Int) : (rdN x y).natAbs ≤ x.natAbs ∧ (rdD x y).natAbs ≤ y.natAbs + 1 := by
  rcases rd_cases x y with ⟨_, h1, h2⟩ | ⟨_, g, k, m, hg, hx, hm, hc, h2, h⟩
  · rw [h1, h2]; simp
  · have hk : k ≤ g * k := Nat.le_mul_of_pos_left k hg
    have hm' : m ≤ g * m := Nat.le_mul_of_pos_left m hg
    rcases h with ⟨h, _⟩ | ⟨h, _⟩ <;> rw [h, h2] <;> omega
theorem Num.rdN {k m : Nat} {l r : List UInt8} {X Y : Int} (h : Num k l X) (_h' : Num m r Y) : Num (k + m + 2) (Lib.itoa (rdN X Y)) (rdN X Y) :=
  ⟨Dec.dval_itoa _, itoa_length_any _ (k := k + m + 1) (by omega) (by
    have h1 := h.abs
    have h2 := (rd_bounds X Y).1
    have h3 : 10 ^ k ≤ 10 ^ (k + m + 1) := Nat.pow_le_pow_right (by omega) (by omega)
    omega)⟩
theorem Num.rdD {k m : Nat} {l r : List UInt8} {X Y : Int} (_h : Num k l X) (h' : Num m r Y) : Num (k + m + 2) (Lib.itoa (rdD X Y)) (rdD X Y) :=
  ⟨Dec.dval_itoa _, itoa_length_any _ (k := k + m + 1) (by omega) (by
    have h1 := h'.abs
    have h2 := (rd_bounds X Y).2
    have h3 : 10 ^ (m + 1) ≤ 10 ^ (k + m + 1) := Nat.pow_le_pow_right (by omega) (by omega)
    have h4 : 10 ^ (m + 1) = 10 ^ m * 10 := Nat.pow_succ _ _
    omega)⟩

end Go.Proofs.YtgphkgmhcmffnaaGreatDoor
