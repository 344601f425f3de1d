/- lispproverref1.Divide, Gcd, Reduce. -/
import Derived.Test.YtmkcnjfhdfanoaaGreatDoorKE
import Derived.Test.YtmkcnjfhdfanoaaGreatDoorKD
import Derived.Deep.RegionHeld3
import Derived.Test.YtmkcnjfhdfanoaaGreatDoorKB
namespace Go.Proofs.YtmkcnjfhdfanoaaGreatDoor
open Go.RowKit

theorem natAbs10 {x : Int} {n : Nat} (h : (Dec.limbs 10 x.natAbs).length = n) : n = 0 ↔ x = 0 := by
  subst h
  constructor
  · intro h
    have := (Dec.limbs_eq_nil (B := 10) (by omega)).1 (List.eq_nil_of_length_eq_zero h)
    omega
  · rintro rfl; rfl
theorem limbs10_pos {v n : Nat} (h : (Dec.limbs 10 v).length = n) (h0 : n ≠ 0) : 0 < v := by
  rcases Nat.eq_zero_or_pos v with e | e
  · subst e; rw [Dec.limbs_zero] at h; simp at h; omega
  · exact e
theorem length10_div {a b n : Nat} (h : (Dec.limbs 10 a).length = n) : (Dec.limbs 10 (a / b)).length ≤ n := by
  rw [← h]; exact Dec.limbs_length_mono (by omega) (Nat.div_le_self a b)
theorem length10_mod {a b n : Nat} (hb : 0 < b) (h : (Dec.limbs 10 b).length = n) : (Dec.limbs 10 (a % b)).length ≤ n := by
  rw [← h]; exact Dec.limbs_length_mono (by omega) (Nat.le_of_lt (Nat.mod_lt a hb))
theorem refTextN (ng : Bool) (A : Option Addr) (n c v : Nat) (l : List UInt8) (w : World) (hx : Sl w .i64 A n c (Dec.limbs 10 v)) (hn : n ≤ 100000000) (hv : numStr ng v = l) :
    Calls Tryz.prog 119 #[.bool ng, .slice A n c] w (RetStr l w) := by
  have := refText_any ng A n c _ w hx hn (Dec.limbs_small (by omega) v)
  rw [Dec.lval_limbs (by omega), hv] at this
  exact this

set_option maxHeartbeats 1000000 in
theorem refDiv_zero (a b : List UInt8) (w : World) (ha : a.length ≤ 2400000) (hb : b.length ≤ 2400000) (hy0 : Dec.dval b = 0) :
    Calls Tryz.prog 106 #[.string ⟨a.toArray⟩, .string ⟨b.toArray⟩] w (RetStr2 [48] (Lib.itoa (Dec.dval a)) w) := by
  have HP1 : Hid (∀ w' : World, Calls Tryz.prog 116 #[.string ⟨a.toArray⟩] w' (RetDig (a.length + 1) (Dec.dval a) w')) := fun w' => refDigW a (by omega) w'
  have HP2 : Hid (∀ w' : World, Calls Tryz.prog 116 #[.string ⟨b.toArray⟩] w' (RetDig (b.length + 1) 0 w')) := fun w' => by have := refDigW b (by omega) w'; rwa [hy0] at this
  clear hy0
  generalize Dec.dval a = x at *
  obtain ⟨s, hsd⟩ : ∃ s, s = decide (x < 0) := ⟨_, rfl⟩
  have HSD := Lib.hid hsd
  clear hsd
  go_enter Tryz.func106, Tryz.ntmps106
  go_wp2_with fail
  refine (HP1.out _).mono ?_
  rintro e w1 ⟨A1, n1, c1, rfl, hs1, hn1, hb1⟩
  rw [← HSD.out]
  go_wp2_with fail
  refine (HP2.out _).mono ?_
  rintro e w2 ⟨A2, n2, c2, rfl, hs2, hn2, hb2⟩
  have hbw2 := hb1.trans (hb2.mono hb1.size)
  obtain rfl : n2 = 0 := (natAbs10 (x := 0) hs2.len).2 rfl
  go_wp2_with fail
  refine (refTextV s A1 n1 c1 _ x _ (hs1.below hb2) (by omega) (by rw [HSD.out]; by_cases h : x < 0 <;> simp [h] <;> omega)).mono ?_
  rintro e w3 ⟨rfl, hb3⟩
  go_wp2
  go_ret2
  exact ⟨rfl, hbw2.trans (hb3.mono hbw2.size)⟩

set_option maxHeartbeats 2000000 in
theorem refDiv_easy (a b : List UInt8) (w : World) (ha : a.length ≤ 2400000) (hb : b.length ≤ 2400000) (x y : Int) (hxv : Dec.dval a = x) (hyv : Dec.dval b = y) (hy0 : y ≠ 0) (s s' z : Bool) (hsd : decide (x < 0) = s) (hsd' : decide (y < 0) = s')
    (hz : (!(s == s')) = z) (hcase : z = false ∨ x.natAbs % y.natAbs = 0) (q r : List UInt8) (HQ : Hid (numStr z (x.natAbs / y.natAbs) = q)) (HR : Hid (numStr s' (x.natAbs % y.natAbs) = r)) :
    Calls Tryz.prog 106 #[.string ⟨a.toArray⟩, .string ⟨b.toArray⟩] w (RetStr2 q r w) := by
  have HP1 : Hid (∀ w' : World, Calls Tryz.prog 116 #[.string ⟨a.toArray⟩] w' (RetDig (a.length + 1) x w')) := fun w' => by have := refDigW a (by omega) w'; rwa [hxv] at this
  have HP2 : Hid (∀ w' : World, Calls Tryz.prog 116 #[.string ⟨b.toArray⟩] w' (RetDig (b.length + 1) y w')) := fun w' => by have := refDigW b (by omega) w'; rwa [hyv] at this
  have HSD := Lib.hid hsd
  have HSD' := Lib.hid hsd'
  have hyp : 0 < y.natAbs := by omega
  have HCase := Lib.hid hcase
  clear hcase
  clear hsd hsd' hxv hyv
  go_enter Tryz.func106, Tryz.ntmps106
  go_wp2_with fail
  refine (HP1.out _).mono ?_
  rintro e w1 ⟨A1, n1, c1, rfl, hs1, hn1, hb1⟩
  rw [HSD.out]
  go_wp2_with fail
  refine (HP2.out _).mono ?_
  rintro e w2 ⟨A2, n2, c2, rfl, hs2, hn2, hb2⟩
  rw [HSD'.out]
  have hbw2 := hb1.trans (hb2.mono hb1.size)
  have hn20 : ((n2 : Int) == 0) = false := by rw [beq_eq_false_iff_ne]; intro e; exact hy0 ((natAbs10 hs2.len).1 (by omega))
  clear hy0
  have hsA := hs1.below hb2
  have hlq := length10_div (b := y.natAbs) hsA.len
  have hlr := length10_mod (a := x.natAbs) hyp hs2.len
  go_wp2_with fail
  refine (refOver_any A1 A2 n1 n2 c1 c2 _ _ w2 hsA hs2 (by omega) (by omega) hyp).mono ?_
  rintro e w3 ⟨A3, n3, c3, A4, n4, c4, rfl, hs3, hs4, hb3⟩
  have hbw3 := hbw2.trans (hb3.mono hbw2.size)
  have hn3 : n3 ≤ n1 := by rw [← hs3.len]; exact hlq
  have hn4 : n4 ≤ n2 := by rw [← hs4.len]; exact hlr
  have HN4 := Lib.hid hs4.len
  by_cases hzt : z = true
  · have hn40 : n4 = 0 := by
      rcases HCase.out with h | h
      · rw [h] at hzt; cases hzt
      · have := HN4.out; rw [h] at this; simpa [Dec.limbs_zero] using this.symm
    subst hn40
    subst hzt
    go_wp2_with fail
    refine (refTextN true A3 n3 c3 _ q _ hs3 (by omega) HQ.out).mono ?_
    rintro e w4 ⟨rfl, hb4⟩
    have hbw4 := hbw3.trans (hb4.mono hbw3.size)
    go_wp2_with fail
    refine (refTextN s' A4 0 c4 _ r _ (hs4.below hb4) (by omega) HR.out).mono ?_
    rintro e w5 ⟨rfl, hb5⟩
    go_wp2
    go_ret2
    exact ⟨rfl, hbw4.trans (hb5.mono hbw4.size)⟩
  · have hzf : z = false := by cases z <;> simp_all
    subst hzf
    go_wp2_with fail
    refine (refTextN false A3 n3 c3 _ q _ hs3 (by omega) HQ.out).mono ?_
    rintro e w4 ⟨rfl, hb4⟩
    have hbw4 := hbw3.trans (hb4.mono hbw3.size)
    go_wp2_with fail
    refine (refTextN s' A4 n4 c4 _ r _ (hs4.below hb4) (by omega) HR.out).mono ?_
    rintro e w5 ⟨rfl, hb5⟩
    go_wp2
    go_ret2
    exact ⟨rfl, hbw4.trans (hb5.mono hbw4.size)⟩

set_option maxHeartbeats 2000000 in
theorem refDiv_hard (a b : List UInt8) (w : World) (ha : a.length ≤ 2400000) (hb : b.length ≤ 2400000) (x y : Int) (hxv : Dec.dval a = x) (hyv : Dec.dval b = y) (hy0 : y ≠ 0) (s s' : Bool) (hsd : decide (x < 0) = s) (hsd' : decide (y < 0) = s')
    (hz : (!(s == s')) = true) (hcase : x.natAbs % y.natAbs ≠ 0) (q r : List UInt8) (HQ : Hid (numStr true (x.natAbs / y.natAbs + 1) = q)) (HR : Hid (numStr s' (y.natAbs - x.natAbs % y.natAbs) = r)) :
    Calls Tryz.prog 106 #[.string ⟨a.toArray⟩, .string ⟨b.toArray⟩] w (RetStr2 q r w) := by
  have HP1 : Hid (∀ w' : World, Calls Tryz.prog 116 #[.string ⟨a.toArray⟩] w' (RetDig (a.length + 1) x w')) := fun w' => by have := refDigW a (by omega) w'; rwa [hxv] at this
  have HP2 : Hid (∀ w' : World, Calls Tryz.prog 116 #[.string ⟨b.toArray⟩] w' (RetDig (b.length + 1) y w')) := fun w' => by have := refDigW b (by omega) w'; rwa [hyv] at this
  have HSD := Lib.hid hsd
  have HSD' := Lib.hid hsd'
  have hyp : 0 < y.natAbs := by omega
  have HCase := Lib.hid hcase
  clear hcase
  clear hsd hsd' hxv hyv
  go_enter Tryz.func106, Tryz.ntmps106
  go_wp2_with fail
  refine (HP1.out _).mono ?_
  rintro e w1 ⟨A1, n1, c1, rfl, hs1, hn1, hb1⟩
  rw [HSD.out]
  go_wp2_with fail
  refine (HP2.out _).mono ?_
  rintro e w2 ⟨A2, n2, c2, rfl, hs2, hn2, hb2⟩
  rw [HSD'.out]
  have hbw2 := hb1.trans (hb2.mono hb1.size)
  have hn20 : ((n2 : Int) == 0) = false := by rw [beq_eq_false_iff_ne]; intro e; exact hy0 ((natAbs10 hs2.len).1 (by omega))
  clear hy0
  have hsA := hs1.below hb2
  have hlq := length10_div (b := y.natAbs) hsA.len
  have hlr := length10_mod (a := x.natAbs) hyp hs2.len
  go_wp2_with fail
  refine (refOver_any A1 A2 n1 n2 c1 c2 _ _ w2 hsA hs2 (by omega) (by omega) hyp).mono ?_
  rintro e w3 ⟨A3, n3, c3, A4, n4, c4, rfl, hs3, hs4, hb3⟩
  have hbw3 := hbw2.trans (hb3.mono hbw2.size)
  have hn3 : n3 ≤ n1 := by rw [← hs3.len]; exact hlq
  have hn4 : n4 ≤ n2 := by rw [← hs4.len]; exact hlr
  have HN4 := Lib.hid hs4.len
  have hn4p : 0 < n4 := by
    rcases Nat.eq_zero_or_pos n4 with e | e
    · have := (Dec.limbs_eq_nil (B := 10) (by omega)).1 (List.eq_nil_of_length_eq_zero (HN4.out.trans e))
      exact absurd this HCase.out
    · exact e
  have hml := Nat.mod_lt x.natAbs hyp
  have hone := Sl.one w3 .i64 3 1
  have hbW : Below w3.heap.size w3 (w3.alloc (.cells #[.int .i64 ((1 : Nat) : Int)] 3)) := (Below.refl _ _).alloc (Nat.le_refl _) _
  have hP := refPlus_any A3 (some ⟨w3.heap.size, 0, none⟩) n3 1 c3 1 _ [1] (w3.alloc (.cells #[.int .i64 ((1 : Nat) : Int)] 3)) (hs3.below hbW) hone (by omega) (by omega) (Dec.limbs_small (by omega) _) (Dec.Small.cons (by omega) Dec.Small.nil)
  rw [Dec.lval_limbs (by omega), show Dec.lval 10 [1] = 1 from rfl] at hP
  have HP := Lib.hid hP
  clear hP hone
  go_wp2_with fail
  refine HP.out.mono ?_
  rintro e w4 ⟨A5, n5, c5, o5, rfl, hn5, hs5, hso5, hv5, hb5, _⟩
  have HV5 := Lib.hid hv5
  clear hv5
  have hb45 := hbW.trans (hb5.mono hbW.size)
  have hbw4 := hbw3.trans (hb45.mono hbw3.size)
  have hM := refMinus_any A2 A4 n2 n4 c2 c4 _ _ w4 ((hs2.below hb3).below hb45) (hs4.below hb45) (by omega) hn4 (Dec.limbs_small (by omega) _) (Dec.limbs_small (by omega) _) (by rw [Dec.lval_limbs (by omega), Dec.lval_limbs (by omega)]; omega)
  rw [Dec.lval_limbs (by omega), Dec.lval_limbs (by omega)] at hM
  have HM := Lib.hid hM
  clear hM
  have hll : (Dec.limbs 10 (y.natAbs - x.natAbs % y.natAbs)).length ≤ n2 := by rw [← hs2.len]; exact Dec.limbs_length_mono (by omega) (by omega)
  go_wp2_with fail
  refine HM.out.mono ?_
  rintro e w6 ⟨A6, n6, c6, rfl, hs6, hb6, _⟩
  have hn6 : n6 ≤ n2 := by rw [← hs6.len]; exact hll
  have hbw6 := hbw4.trans (hb6.mono hbw4.size)
  have hX := refText_any true A5 n5 c5 o5 w6 (hs5.below hb6) (by omega) hso5
  rw [HV5.out, HQ.out] at hX
  have HX := Lib.hid hX
  clear hX
  go_wp2_with fail
  refine HX.out.mono ?_
  rintro e w7 ⟨rfl, hb7⟩
  have hbw7 := hbw6.trans (hb7.mono hbw6.size)
  go_wp2_with fail
  refine (refTextN s' A6 n6 c6 _ r _ (hs6.below hb7) (by omega) HR.out).mono ?_
  rintro e w8 ⟨rfl, hb8⟩
  go_wp2
  go_ret2
  exact ⟨rfl, hbw7.trans (hb8.mono hbw7.size)⟩

theorem refDiv_any (a b : List UInt8) (w : World) (ha : a.length ≤ 2400000) (hb : b.length ≤ 2400000) :
    Calls Tryz.prog 106 #[.string ⟨a.toArray⟩, .string ⟨b.toArray⟩] w (RetStr2 (Lib.itoa (qd (Dec.dval a) (Dec.dval b))) (Lib.itoa (rm (Dec.dval a) (Dec.dval b))) w) := by
  by_cases hy : Dec.dval b = 0
  · have := refDiv_zero a b w ha hb hy
    rw [hy, qd_zero, rm_zero, Dec.itoa_zero]
    exact this
  · generalize hx : Dec.dval a = x
    generalize hyv : Dec.dval b = y at hy
    cases hs : decide (y < 0) with
    | _ =>
      by_cases hd : decide (x < 0) = decide (y < 0)
      · obtain ⟨h1, h2⟩ := qd_same hy (hd.trans hs) hs
        exact refDiv_easy a b w ha hb x y hx hyv hy _ _ false (hd.trans hs) hs (by simp) (.inl rfl) _ _ (Lib.hid (numStr_eq (by simpa using h1))) (Lib.hid (numStr_eq h2))
      · have hd' : decide (x < 0) = !(decide (y < 0)) := by cases h1 : decide (x < 0) <;> cases h2 : decide (y < 0) <;> simp_all
        rw [hs] at hd'
        by_cases h0 : x.natAbs % y.natAbs = 0
        · obtain ⟨h1, h2⟩ := qd_diff0 hy hd' hs h0
          exact refDiv_easy a b w ha hb x y hx hyv hy _ _ true hd' hs (by simp) (.inr h0) _ _ (Lib.hid (numStr_eq (by simpa using h1))) (Lib.hid (by rw [h0, numStr_zero, h2, Dec.itoa_zero]))
        · obtain ⟨h1, h2⟩ := qd_diff hy hd' hs h0
          exact refDiv_hard a b w ha hb x y hx hyv hy _ _ hd' hs (by simp) h0 _ _ (Lib.hid (numStr_eq (by simpa using h1))) (Lib.hid (numStr_eq h2))

set_option maxHeartbeats 1000000 in
theorem refGcd_any (a b : List UInt8) (w : World) (ha : a.length ≤ 2400000) (hb : b.length ≤ 2400000) :
    Calls Tryz.prog 117 #[.string ⟨a.toArray⟩, .string ⟨b.toArray⟩] w (RetStr (Lib.itoa (Nat.gcd (Dec.dval a).natAbs (Dec.dval b).natAbs : Nat)) w) := by
  have HP1 : Hid (∀ w' : World, Calls Tryz.prog 116 #[.string ⟨a.toArray⟩] w' (RetDig (a.length + 1) (Dec.dval a) w')) := fun w' => refDigW a (by omega) w'
  have HP2 : Hid (∀ w' : World, Calls Tryz.prog 116 #[.string ⟨b.toArray⟩] w' (RetDig (b.length + 1) (Dec.dval b) w')) := fun w' => refDigW b (by omega) w'
  generalize Dec.dval a = x at *
  generalize Dec.dval b = y at *
  generalize hG : Nat.gcd x.natAbs y.natAbs = G
  have HG := Lib.hid hG
  clear hG
  obtain ⟨s, hsd⟩ : ∃ s, s = decide (x < 0) := ⟨_, rfl⟩
  have HSD := Lib.hid hsd
  clear hsd
  obtain ⟨s', hsd'⟩ : ∃ s', s' = decide (y < 0) := ⟨_, rfl⟩
  have HSD' := Lib.hid hsd'
  clear hsd'
  go_enter Tryz.func117, Tryz.ntmps117
  go_wp2_with fail
  refine (HP1.out _).mono ?_
  rintro e w1 ⟨A1, n1, c1, rfl, hs1, hn1, hb1⟩
  rw [← HSD.out]
  go_wp2_with fail
  refine (HP2.out _).mono ?_
  rintro e w2 ⟨A2, n2, c2, rfl, hs2, hn2, hb2⟩
  rw [← HSD'.out]
  have hbw2 := hb1.trans (hb2.mono hb1.size)
  go_wp2_with fail
  go_loopg [6, 8] y.natAbs (fun kx s5 s6 wr => ∃ (A B : Option Addr) (n c m d u v : Nat), s5 = .slice A n c ∧ s6 = .slice B m d ∧ Sl wr .i64 A n c (Dec.limbs 10 u) ∧ Sl wr .i64 B m d (Dec.limbs 10 v) ∧ n ≤ 2400001 ∧ m ≤ 2400001 ∧ v ≤ kx ∧ Hid (Nat.gcd u v = G) ∧ Below w.heap.size w wr)
  case atStart => exact ⟨A1, A2, n1, c1, n2, c2, _, _, rfl, rfl, hs1.below hb2, hs2, by omega, by omega, Nat.le_refl _, HG, hbw2⟩
  case round =>
    obtain ⟨A, B, n, c, m, d, u, v, rfl, rfl, hu, hv, hn, hm, hk, HGu, hb⟩ := hrel
    by_cases hm0 : 0 < m
    · have hv0 : 0 < v := limbs10_pos hv.len (by omega)
      have hlr := length10_mod (a := u) hv0 hv.len
      have hml := Nat.mod_lt u hv0
      have HGn : Hid (Nat.gcd v (u % v) = G) := by show _ = _; rw [← HGu.out, Nat.gcd_comm v, ← Nat.gcd_rec, Nat.gcd_comm]
      have HDv := Lib.hid (refOver_any A B n m c d u v wr hu hv (by omega) (by omega) hv0)
      go_wp2_with (go_at_call 118; refine HDv.out.mono ?_; rintro e w3 ⟨A3, n3, c3, A4, n4, c4, rfl, hs3, hs4, hb3⟩; have hn4 : n4 ≤ m := (by rw [← hs4.len]; exact hlr))
      go_roundg (u % v)
      case measure => omega
      case rel => exact ⟨B, A4, m, d, n4, c4, v, u % v, rfl, rfl, hv.below hb3, hs4, hm, by omega, Nat.le_refl _, HGn, hb.trans (hb3.mono hb.size)⟩
    · have hv0 : v = 0 := (Dec.limbs_eq_nil (B := 10) (by omega)).1 (List.eq_nil_of_length_eq_zero (by rw [hv.len]; omega))
      subst hv0
      have HE : Hid (numStr false u = Lib.itoa (G : Int)) := by show _ = _; rw [← HGu.out, Nat.gcd_zero_right]; rfl
      go_wp2_with fail
      refine (refTextN false A n c u _ _ hu (by omega) HE.out).mono ?_
      rintro e w3 ⟨rfl, hb3⟩
      go_wp2
      go_ret
      exact ⟨rfl, hb.trans (hb3.mono hb.size)⟩

/-! ### Reduce -/
theorem rd_num {x y : Int} {z : Bool} (hy : y ≠ 0) (hz : (!(decide (x < 0) == decide (y < 0))) = z) : (if z then -((x.natAbs / Nat.gcd x.natAbs y.natAbs : Nat) : Int) else ((x.natAbs / Nat.gcd x.natAbs y.natAbs : Nat) : Int)) = rdN x y := by
  have hg : 0 < Nat.gcd x.natAbs y.natAbs := Nat.gcd_pos_of_pos_right _ (by omega)
  have hd := Nat.gcd_dvd_left x.natAbs y.natAbs
  unfold rdN
  rw [if_neg hy]
  generalize Nat.gcd x.natAbs y.natAbs = g at *
  obtain ⟨k, hk⟩ := hd
  rw [hk, Nat.mul_div_cancel_left _ hg]
  have hgk : ((g * k : Nat) : Int) = (g : Int) * k := Int.natCast_mul _ _
  by_cases h1 : x < 0 <;> by_cases h2 : y < 0
  · have e : rdX x y = k * g + 0 := by unfold rdX; rw [if_pos h2, Int.mul_comm, ← hgk]; omega
    rw [(qd_of_pos (by omega) e (by omega) (by omega)).1]
    subst hz; simp [h1, h2]
  · have e : rdX x y = (-(k : Int)) * g + 0 := by unfold rdX; rw [if_neg h2, Int.neg_mul, Int.mul_comm, ← hgk]; omega
    rw [(qd_of_pos (by omega) e (by omega) (by omega)).1]
    subst hz; simp [h1, h2]
  · have e : rdX x y = (-(k : Int)) * g + 0 := by unfold rdX; rw [if_pos h2, Int.neg_mul, Int.mul_comm, ← hgk]; omega
    rw [(qd_of_pos (by omega) e (by omega) (by omega)).1]
    subst hz; simp [h1, h2]
  · have e : rdX x y = k * g + 0 := by unfold rdX; rw [if_neg h2, Int.mul_comm, ← hgk]; omega
    rw [(qd_of_pos (by omega) e (by omega) (by omega)).1]
    subst hz; simp [h1, h2]
theorem rd_den {x y : Int} (hy : y ≠ 0) : (if false = true then -((y.natAbs / Nat.gcd x.natAbs y.natAbs : Nat) : Int) else ((y.natAbs / Nat.gcd x.natAbs y.natAbs : Nat) : Int)) = rdD x y := by
  have hg : 0 < Nat.gcd x.natAbs y.natAbs := Nat.gcd_pos_of_pos_right _ (by omega)
  have hd := Nat.gcd_dvd_right x.natAbs y.natAbs
  unfold rdD
  rw [if_neg hy]
  generalize Nat.gcd x.natAbs y.natAbs = g at *
  obtain ⟨k, hk⟩ := hd
  rw [hk, Nat.mul_div_cancel_left _ hg]
  have hgk : ((g * k : Nat) : Int) = (g : Int) * k := Int.natCast_mul _ _
  have e : rdY y = k * g + 0 := by unfold rdY; split <;> rw [Int.mul_comm, ← hgk] <;> omega
  rw [(qd_of_pos (by omega) e (by omega) (by omega)).1]
  simp

set_option maxHeartbeats 2000000 in
theorem refReduce_any (a b : List UInt8) (w : World) (ha : a.length ≤ 1100000) (hb : b.length ≤ 1100000) :
    Calls Tryz.prog 74 #[.string ⟨a.toArray⟩, .string ⟨b.toArray⟩] w (RetStr2 (Lib.itoa (rdN (Dec.dval a) (Dec.dval b))) (Lib.itoa (rdD (Dec.dval a) (Dec.dval b))) w) := by
  have HP1 : Hid (∀ w' : World, Calls Tryz.prog 116 #[.string ⟨a.toArray⟩] w' (RetDig (a.length + 1) (Dec.dval a) w')) := fun w' => refDigW a (by omega) w'
  have HP2 : Hid (∀ w' : World, Calls Tryz.prog 116 #[.string ⟨b.toArray⟩] w' (RetDig (b.length + 1) (Dec.dval b) w')) := fun w' => refDigW b (by omega) w'
  have HG : Hid (∀ w' : World, Calls Tryz.prog 117 #[.string ⟨a.toArray⟩, .string ⟨b.toArray⟩] w' (RetStr (Lib.itoa (Nat.gcd (Dec.dval a).natAbs (Dec.dval b).natAbs : Nat)) w')) := fun w' => refGcd_any a b w' (by omega) (by omega)
  have hgl : (Lib.itoa (Nat.gcd (Dec.dval a).natAbs (Dec.dval b).natAbs : Nat)).length ≤ 1100002 := by
    obtain ⟨K, hK⟩ : ∃ K, K = 1100001 := ⟨_, rfl⟩
    have := gcd_len (K := K) (x := Dec.dval a) (y := Dec.dval b) (by omega) (dval_lt18 (by omega)) (dval_lt18 (by omega))
    omega
  generalize Dec.dval a = x at *
  generalize Dec.dval b = y at *
  by_cases hy : y = 0
  · subst hy
    rw [show rdN x 0 = 0 from rfl, show rdD x 0 = 1 from rfl, Dec.itoa_zero, itoa_one]
    go_enter Tryz.func74, Tryz.ntmps74
    go_wp2_with fail
    refine (HP2.out _).mono ?_
    rintro e w2 ⟨A2, n2, c2, rfl, hs2, hn2, hb2⟩
    obtain rfl : n2 = 0 := (natAbs10 (x := 0) hs2.len).2 rfl
    go_wp2
    go_ret2
    exact ⟨rfl, hb2⟩
  · obtain ⟨z, hz⟩ : ∃ z, z = (!(decide (x < 0) == decide (y < 0))) := ⟨_, rfl⟩
    have HN := Lib.hid (rd_num (x := x) hy hz.symm)
    have HD := Lib.hid (rd_den (x := x) hy)
    have hg0 : 0 < Nat.gcd x.natAbs y.natAbs := Nat.gcd_pos_of_pos_right _ (by omega)
    generalize Nat.gcd x.natAbs y.natAbs = g at *
    have HPg : Hid (∀ w' : World, Calls Tryz.prog 116 #[.string ⟨(Lib.itoa (g : Int)).toArray⟩] w' (RetDig 1100100 (g : Int) w')) := fun w' => by
      have := refDigW (Lib.itoa (g : Int)) (by omega) w'
      rw [Dec.dval_itoa] at this
      exact this.mono (by
        rintro e w'' ⟨A, n, c, h1, h2, h3, h4⟩
        exact ⟨A, n, c, h1, h2, by omega, h4⟩)
    obtain ⟨s, hsd⟩ : ∃ s, s = decide (x < 0) := ⟨_, rfl⟩
    obtain ⟨s', hsd'⟩ : ∃ s', s' = decide (y < 0) := ⟨_, rfl⟩
    rw [← hsd, ← hsd'] at hz
    have hz' : (!(s == s')) = z := hz.symm
    have HSD := Lib.hid hsd
    have HSD' := Lib.hid hsd'
    clear hsd hsd' hz hgl
    go_enter Tryz.func74, Tryz.ntmps74
    go_wp2_with fail
    refine (HP2.out _).mono ?_
    rintro e w2 ⟨A2, n2, c2, rfl, hs2, hn2, hb2⟩
    rw [← HSD'.out]
    have hn20 : ((n2 : Int) == 0) = false := by rw [beq_eq_false_iff_ne]; intro e; exact hy ((natAbs10 hs2.len).1 (by omega))
    clear hy
    go_wp2_with fail
    refine (HP1.out _).mono ?_
    rintro e w1 ⟨A1, n1, c1, rfl, hs1, hn1, hb1⟩
    rw [← HSD.out]
    have b1 := hb2.trans (hb1.mono hb2.size)
    have hsB1 := hs2.below hb1
    go_wp2_with fail
    refine (HG.out _).mono ?_
    rintro e w3 ⟨rfl, hb3⟩
    have b3 := b1.trans (hb3.mono b1.size)
    have hsA3 := hs1.below hb3
    have hsB3 := hsB1.below hb3
    go_wp2_with fail
    refine (HPg.out _).mono ?_
    rintro e w4 ⟨A4, n4, c4, rfl, hs4, hn4, hb4⟩
    have b4 := b3.trans (hb4.mono b3.size)
    have hsA4 := hsA3.below hb4
    have hsB4 := hsB3.below hb4
    rw [show decide ((g : Int) < 0) = false from decide_eq_false (by omega)]
    rw [Int.natAbs_natCast] at hs4
    have hlq := length10_div (b := g) hsA4.len
    have hld := length10_div (b := g) hsB4.len
    go_wp2_with fail
    refine (refOver_any A1 A4 n1 n4 c1 c4 _ _ w4 hsA4 hs4 (by omega) (by omega) hg0).mono ?_
    rintro e w5 ⟨A5, n5, c5, A6, n6, c6, rfl, hs5, hs6, hb5⟩
    have b5 := b4.trans (hb5.mono b4.size)
    have hn5 : n5 ≤ n1 := by rw [← hs5.len]; exact hlq
    go_wp2_with fail
    refine (refOver_any A2 A4 n2 n4 c2 c4 _ _ w5 (hsB4.below hb5) (hs4.below hb5) (by omega) (by omega) hg0).mono ?_
    rintro e w7 ⟨A7, n7, c7, A8, n8, c8, rfl, hs7, hs8, hb7⟩
    have b7 := b5.trans (hb7.mono b5.size)
    have hn7 : n7 ≤ n2 := by rw [← hs7.len]; exact hld
    go_wp2_with fail
    refine (refTextV z A5 n5 c5 _ _ _ (hs5.below hb7) (by omega) HN.out).mono ?_
    rintro e w9 ⟨rfl, hb9⟩
    have b9 := b7.trans (hb9.mono b7.size)
    go_wp2_with fail
    refine (refTextV false A7 n7 c7 _ _ _ (hs7.below hb9) (by omega) HD.out).mono ?_
    rintro e w10 ⟨rfl, hb10⟩
    go_wp2
    go_ret2
    exact ⟨rfl, b9.trans (hb10.mono b9.size)⟩
end Go.Proofs.YtmkcnjfhdfanoaaGreatDoor
/- lispproverref1.Small, Digits. -/
namespace Go.Proofs.YtmkcnjfhdfanoaaGreatDoor
open Go.RowKit

theorem digits_len (l : List UInt8) : (Dec.mag (norm l)).length = max 1 (Dec.limbs 10 (Dec.dval l).natAbs).length := by
  have hm := mag_norm l
  have hd := norm_dec l
  have hv := dval_norm l
  generalize norm l = s at hm hd hv
  by_cases h48 : s = [48]
  · subst h48
    rw [← hv]
    decide +kernel
  · obtain ⟨h1, h2, h3, _⟩ := hm
    obtain ⟨_, hh⟩ := (Dec.isDec_iff h48).1 hd
    have h4 := Dec.revDigs_limbs h1 hh
    rw [h3] at h4
    rw [← h4]
    have : (Dec.revDigs (Dec.mag s)).length = (Dec.mag s).length := by simp [Dec.revDigs]
    rw [this]
    have : 0 < (Dec.mag s).length := List.length_pos_iff.2 h2
    omega

set_option maxHeartbeats 1000000 in
theorem refDigitsN_any (l : List UInt8) (w : World) (hl : l.length ≤ 2500000) :
    Calls Tryz.prog 114 #[.string ⟨l.toArray⟩] w (RetI64 ((Dec.mag (norm l)).length : Nat) w) := by
  have HD := Lib.hid (refDigW l hl w)
  have HL := Lib.hid (digits_len l)
  generalize (Dec.mag (norm l)).length = K at *
  generalize Dec.dval l = x at *
  obtain ⟨s, hsd⟩ : ∃ s, s = decide (x < 0) := ⟨_, rfl⟩
  have HSD := Lib.hid hsd
  clear hsd
  go_enter Tryz.func114, Tryz.ntmps114
  go_wp2_with fail
  refine HD.out.mono ?_
  rintro e w1 ⟨A1, n1, c1, rfl, hs1, hn1, hb1⟩
  rw [← HSD.out]
  have HN := Lib.hid hs1.len
  go_wp2
  go_ret
  refine ⟨?_, hb1⟩
  rw [HL.out, HN.out, show ((max 1 n1 : Nat) : Int) = max 1 (n1 : Int) by omega]
  rfl

set_option maxHeartbeats 1000000 in
theorem refSmall_no (l : List UInt8) (w : World) (hl : l.length ≤ 2500000) (h9 : 9 < (Dec.mag (norm l)).length) :
    Calls Tryz.prog 112 #[.string ⟨l.toArray⟩] w (RetSmall 0 false w) := by
  have HD := Lib.hid (refDigW l hl w)
  rw [digits_len l] at h9
  generalize Dec.dval l = x at *
  obtain ⟨s, hsd⟩ : ∃ s, s = decide (x < 0) := ⟨_, rfl⟩
  have HSD := Lib.hid hsd
  clear hsd
  go_enter Tryz.func112, Tryz.ntmps112
  go_wp2_with fail
  refine HD.out.mono ?_
  rintro e w1 ⟨A1, n1, c1, rfl, hs1, hn1, hb1⟩
  rw [← HSD.out]
  have hn9 : 9 < n1 := by rw [hs1.len] at h9; omega
  clear h9
  go_wp2
  go_ret2
  exact ⟨rfl, hb1⟩

set_option maxHeartbeats 1000000 in
theorem refSmall_yes (l : List UInt8) (w : World) (hl : l.length ≤ 2500000) (h9 : (Dec.mag (norm l)).length ≤ 9) :
    Calls Tryz.prog 112 #[.string ⟨l.toArray⟩] w (RetSmall (Dec.dval l) true w) := by
  have HD := Lib.hid (refDigW l hl w)
  rw [digits_len l] at h9
  generalize Dec.dval l = x at *
  have hxb : x.natAbs < 10 ^ 9 := by
    have h1 := Dec.lval_lt (B := 10) (by omega) (Dec.limbs_small (by omega) x.natAbs)
    rw [Dec.lval_limbs (by omega)] at h1
    exact Nat.lt_of_lt_of_le h1 (Nat.pow_le_pow_right (by omega) (by omega))
  have hsm := Dec.limbs_small (B := 10) (by omega) x.natAbs
  by_cases hs : x < 0
  · go_enter Tryz.func112, Tryz.ntmps112
    go_wp2_with fail
    refine HD.out.mono ?_
    rintro e w1 ⟨A1, n1, c1, rfl, hs1, hn1, hb1⟩
    rw [decide_eq_true hs]
    have hn9 : n1 ≤ 9 := by rw [hs1.len] at h9; omega
    have HL := Lib.hid hs1.len
    clear h9
    go_wp2_with fail
    go_loop [6, 7] (fun nv ix => ∃ j : Nat, j ≤ n1 ∧ ix = .int .i64 ((j : Int) - 1) ∧ nv = .int .i64 (Dec.lval 10 ((Dec.limbs 10 x.natAbs).drop j) : Nat)) (fun _ ix => (intOf ix + 1).toNat)
    case atStart => exact ⟨n1, Nat.le_refl _, rfl, by rw [List.drop_of_length_le (by rw [HL.out]; exact Nat.le_refl _)]; rfl⟩
    case round =>
      obtain ⟨j, hj, rfl, rfl⟩ := hrel
      have hvb : Dec.lval 10 ((Dec.limbs 10 x.natAbs).drop j) < 10 ^ 9 := by
        have h1 := Dec.lval_lt (B := 10) (by omega) (hsm.drop j)
        exact Nat.lt_of_lt_of_le h1 (Nat.pow_le_pow_right (by omega) (by rw [List.length_drop, HL.out]; omega))
      by_cases hj0 : 0 < j
      · obtain ⟨bx, ox, rfl, hbx, hcx⟩ := hs1.cells (by omega)
        have hcu := hcx (j - 1) (by omega)
        clear hcx
        have hu := getD_lt hsm (by omega) (j - 1)
        have HV : Hid (Dec.lval 10 ((Dec.limbs 10 x.natAbs).drop (j - 1)) = (Dec.limbs 10 x.natAbs).getD (j - 1) 0 + 10 * Dec.lval 10 ((Dec.limbs 10 x.natAbs).drop j)) := by
          have := Dec.lval_drop 10 (Dec.limbs 10 x.natAbs) (j - 1) (by rw [HL.out]; omega)
          rw [show j - 1 + 1 = j by omega] at this
          exact this
        generalize (Dec.limbs 10 x.natAbs).getD (j - 1) 0 = u at hcu hu HV
        generalize Dec.lval 10 ((Dec.limbs 10 x.natAbs).drop j) = V at hvb HV
        have hi1 : (0 : Int) ≤ (j : Int) - 1 := by omega
        have hi2 : (j : Int) - 1 < n1 := by omega
        have hi3 : ((j : Int) - 1).toNat = j - 1 := by omega
        go_wp2
        go_round
        case rel => exact ⟨j - 1, by omega, by go_num, by rw [HV.out]; go_num⟩
        case measure => simp only [intOf]; omega
      · obtain rfl : j = 0 := by omega
        have HV : Hid (Dec.lval 10 ((Dec.limbs 10 x.natAbs).drop 0) = x.natAbs) := by rw [List.drop_zero]; exact Dec.lval_limbs (by omega) _
        generalize Dec.lval 10 ((Dec.limbs 10 x.natAbs).drop 0) = V at hvb HV
        go_wp2
        go_ret2
        refine ⟨?_, hb1⟩
        have e : -(V : Int) = x := by have := HV.out; omega
        rw [← e]
        rfl
  · go_enter Tryz.func112, Tryz.ntmps112
    go_wp2_with fail
    refine HD.out.mono ?_
    rintro e w1 ⟨A1, n1, c1, rfl, hs1, hn1, hb1⟩
    rw [decide_eq_false (by omega)]
    have hn9 : n1 ≤ 9 := by rw [hs1.len] at h9; omega
    have HL := Lib.hid hs1.len
    clear h9
    go_wp2_with fail
    go_loop [6, 7] (fun nv ix => ∃ j : Nat, j ≤ n1 ∧ ix = .int .i64 ((j : Int) - 1) ∧ nv = .int .i64 (Dec.lval 10 ((Dec.limbs 10 x.natAbs).drop j) : Nat)) (fun _ ix => (intOf ix + 1).toNat)
    case atStart => exact ⟨n1, Nat.le_refl _, rfl, by rw [List.drop_of_length_le (by rw [HL.out]; exact Nat.le_refl _)]; rfl⟩
    case round =>
      obtain ⟨j, hj, rfl, rfl⟩ := hrel
      have hvb : Dec.lval 10 ((Dec.limbs 10 x.natAbs).drop j) < 10 ^ 9 := by
        have h1 := Dec.lval_lt (B := 10) (by omega) (hsm.drop j)
        exact Nat.lt_of_lt_of_le h1 (Nat.pow_le_pow_right (by omega) (by rw [List.length_drop, HL.out]; omega))
      by_cases hj0 : 0 < j
      · obtain ⟨bx, ox, rfl, hbx, hcx⟩ := hs1.cells (by omega)
        have hcu := hcx (j - 1) (by omega)
        clear hcx
        have hu := getD_lt hsm (by omega) (j - 1)
        have HV : Hid (Dec.lval 10 ((Dec.limbs 10 x.natAbs).drop (j - 1)) = (Dec.limbs 10 x.natAbs).getD (j - 1) 0 + 10 * Dec.lval 10 ((Dec.limbs 10 x.natAbs).drop j)) := by
          have := Dec.lval_drop 10 (Dec.limbs 10 x.natAbs) (j - 1) (by rw [HL.out]; omega)
          rw [show j - 1 + 1 = j by omega] at this
          exact this
        generalize (Dec.limbs 10 x.natAbs).getD (j - 1) 0 = u at hcu hu HV
        generalize Dec.lval 10 ((Dec.limbs 10 x.natAbs).drop j) = V at hvb HV
        have hi1 : (0 : Int) ≤ (j : Int) - 1 := by omega
        have hi2 : (j : Int) - 1 < n1 := by omega
        have hi3 : ((j : Int) - 1).toNat = j - 1 := by omega
        go_wp2
        go_round
        case rel => exact ⟨j - 1, by omega, by go_num, by rw [HV.out]; go_num⟩
        case measure => simp only [intOf]; omega
      · obtain rfl : j = 0 := by omega
        have HV : Hid (Dec.lval 10 ((Dec.limbs 10 x.natAbs).drop 0) = x.natAbs) := by rw [List.drop_zero]; exact Dec.lval_limbs (by omega) _
        generalize Dec.lval 10 ((Dec.limbs 10 x.natAbs).drop 0) = V at hvb HV
        go_wp2
        go_ret2
        refine ⟨?_, hb1⟩
        have e : (V : Int) = x := by have := HV.out; omega
        rw [← e]
        rfl
end Go.Proofs.YtmkcnjfhdfanoaaGreatDoor
/- What reducing a fraction gives, in words of integers. -/
namespace Go.Proofs.YtmkcnjfhdfanoaaGreatDoor
open Go.RowKit

end Go.Proofs.YtmkcnjfhdfanoaaGreatDoor
/- The reference of objects: constructors and the small questions. -/
namespace Go.Proofs.YtmkcnjfhdfanoaaGreatDoor
open Go.RowKit

theorem divInt_one' (n : Int) : Rat.divInt n 1 = (n : Rat) := by
  have := Rat.num_divInt_den (n : Rat)
  rwa [Rat.num_intCast, Rat.den_intCast] at this
set_option maxHeartbeats 400000 in
theorem rLisp_any (l : List UInt8) (w : World) : Calls Tryz.prog 33 #[str l] w (RetBel (.agg #[str lispB, str l]) w) := by
  go_enter Tryz.func33, Tryz.ntmps33
  go_wp2
  exact bodyPost_ret (v := .agg #[str lispB, str l]) (by simp [results, Tryz.results33, go_sem]) rfl ⟨rfl, box _ _⟩
set_option maxHeartbeats 400000 in
theorem refFromInt_any (n : Int) (w : World) (ht : Tab w) (h0 : -9223372036854775808 ≤ n) (h1 : n ≤ 9223372036854775807) :
    Calls Tryz.prog 36 #[.int .i64 n] w (RetStr (Lib.itoa n) w) := by
  have HI := Lib.hid (itoa_any n w ht h0 h1)
  clear h0 h1
  go_enter Tryz.func36, Tryz.ntmps36
  go_wp2_with fail
  refine HI.out.mono ?_
  rintro e w1 ⟨rfl, hb⟩
  go_wp2
  go_ret
  exact ⟨rfl, hb⟩
set_option maxHeartbeats 400000 in
theorem rNil_any (w : World) : Calls Tryz.prog 30 #[] w (RetLeaf nilO w) := by
  go_enter Tryz.func30, Tryz.ntmps30
  go_wp2_with fail
  refine (rLisp_any nilB _).mono ?_
  rintro e w1 ⟨rfl, hb⟩
  go_wp2_with fail
  refine (rSymbol_any _ lispB nilB).mono ?_
  rintro e w2 ⟨rfl, hb2⟩
  have HB := Lib.hid ((BlkIs.via hb).below hb2)
  obtain ⟨u0, u1, u2, u3, u4, u5, u6, ul⟩ := HB.out.seven
  obtain ⟨uf0, uf1, uf2, uf3, uf4, uf5, uf6⟩ := HB.out.frozen7
  go_wp2
  exact ret_obj Tryz.results30 rfl HB.out.put7 rfl ⟨rfl, set7 (then_ (via hb) hb2) (Nat.le_refl _) _ _ _ _ _ _ _⟩
set_option maxHeartbeats 400000 in
theorem rT_any (w : World) : Calls Tryz.prog 38 #[] w (RetLeaf tO w) := by
  go_enter Tryz.func38, Tryz.ntmps38
  go_wp2_with fail
  refine (rLisp_any [116] _).mono ?_
  rintro e w1 ⟨rfl, hb⟩
  go_wp2_with fail
  refine (rSymbol_any _ lispB [116]).mono ?_
  rintro e w2 ⟨rfl, hb2⟩
  have HB := Lib.hid ((BlkIs.via hb).below hb2)
  obtain ⟨u0, u1, u2, u3, u4, u5, u6, ul⟩ := HB.out.seven
  obtain ⟨uf0, uf1, uf2, uf3, uf4, uf5, uf6⟩ := HB.out.frozen7
  go_wp2
  exact ret_obj Tryz.results38 rfl HB.out.put7 rfl ⟨rfl, set7 (then_ (via hb) hb2) (Nat.le_refl _) _ _ _ _ _ _ _⟩
set_option maxHeartbeats 400000 in
theorem rRational_any (a b : List UInt8) (w : World) (ha : a.length ≤ 1100000) (hb : b.length ≤ 1100000) : Calls Tryz.prog 35 #[str a, str b] w (RetLeaf (numO (Lib.itoa (rdN (Dec.dval a) (Dec.dval b))) (Lib.itoa (rdD (Dec.dval a) (Dec.dval b)))) w) := by
  have HF := Lib.hid (fun w' (_ : Below w.heap.size w w') => refReduce_any a b w' ha hb)
  clear ha hb
  generalize Lib.itoa (rdN (Dec.dval a) (Dec.dval b)) = n at *
  generalize Lib.itoa (rdD (Dec.dval a) (Dec.dval b)) = d at *
  go_enter Tryz.func35, Tryz.ntmps35
  go_wp2_with fail
  refine (HF.out _ (box _ _)).mono ?_
  rintro e w1 ⟨rfl, hb⟩
  have HB := Lib.hid (BlkIs.via hb)
  obtain ⟨u0, u1, u2, u3, u4, u5, u6, hu⟩ := HB.out.seven
  obtain ⟨f0, f1, f2, f3, f4, f5, f6⟩ := HB.out.frozen7
  go_wp2
  exact ret_obj Tryz.results35 rfl HB.out.put7 rfl ⟨rfl, set7 (via hb) (Nat.le_refl _) _ _ _ _ _ _ _⟩
theorem rRationalQ (a b : List UInt8) (w : World) (ha : a.length ≤ 1100000) (hb : b.length ≤ 1100000) : Calls Tryz.prog 35 #[str a, str b] w (RetLeaf (ratO (Rat.divInt (Dec.dval a) (Dec.dval b))) w) := by
  have := rRational_any a b w ha hb
  rwa [(rd_rat _ _).1, (rd_rat _ _).2] at this
set_option maxHeartbeats 400000 in
theorem rCons_any (ok : Nat → Prop) (a d : Ob) (A A' : Option Addr) (n n' c c' : Nat) (w : World) (ha : Rd ok w (.slice A n c) (.row (a.pair.map Ob.enc))) (hd : Rd ok w (.slice A' n' c') (.row (d.pair.map Ob.enc))) :
    Calls Tryz.prog 77 #[objV a (.slice A n c), objV d (.slice A' n' c')] w (RetObj ok (consO a d) w) := by
  go_enter Tryz.func77, Tryz.ntmps77
  go_wp2
  exact ret_obj Tryz.results77 rfl ((BlkIs.new2 w _ _ _ _).alloc _) rfl (cons_ret ok a d A A' n n' c c' w ha hd)
set_option maxHeartbeats 400000 in
theorem rIsCons_any (o : Ob) (A : Option Addr) (n c : Nat) (w : World) (hn : n ≤ 9223372036854775807) :
    Calls Tryz.prog 102 #[objV o (.slice A n c)] w (RetBel (.bool (decide (o.kind = 4 ∧ n = 2))) w) := by
  by_cases hk : o.kind = 4
  · by_cases h2 : n = 2
    · rw [decide_eq_true ⟨hk, h2⟩]
      obtain ⟨k, nm, d, p, s, t, l⟩ := o
      dsimp only at hk
      subst hk h2
      go_enter Tryz.func102, Tryz.ntmps102
      go_wp2
      go_ret
      exact ⟨rfl, box _ _⟩
    · rw [decide_eq_false (fun h => h2 h.2)]
      obtain ⟨k, nm, d, p, s, t, l⟩ := o
      dsimp only at hk
      subst hk
      have hn2 : ((n : Int) == 2) = false := by rw [beq_eq_false_iff_ne]; omega
      clear h2
      go_enter Tryz.func102, Tryz.ntmps102
      go_wp2
      go_ret
      exact ⟨rfl, box _ _⟩
  · rw [decide_eq_false (fun h => hk h.1)]
    obtain ⟨k, nm, d, p, s, t, l⟩ := o
    dsimp only at hk
    have hn2 : (k == 4) = false := by rw [beq_eq_false_iff_ne]; exact hk
    clear hk
    go_enter Tryz.func102, Tryz.ntmps102
    go_wp2
    go_ret
    exact ⟨rfl, box _ _⟩
set_option maxHeartbeats 400000 in
theorem rInt_any (n : Int) (w : World) (ht : Tab w) (h0 : -9223372036854775808 ≤ n) (h1 : n ≤ 9223372036854775807) : Calls Tryz.prog 27 #[.int .i64 n] w (RetLeaf (ratO (n : Rat)) w) := by
  have HF := Lib.hid (fun w' (hb : Below w.heap.size w w') => refFromInt_any n w' (ht.below hb) h0 h1)
  have hl : (Lib.itoa n).length ≤ 20 := itoa_length_any n (k := 19) (by omega) (by omega)
  have HR : Hid (∀ w' : World, Calls Tryz.prog 35 #[str (Lib.itoa n), str [49]] w' (RetLeaf (ratO (n : Rat)) w')) := fun w' => by
    have := rRationalQ (Lib.itoa n) [49] w' (by omega) (by decide)
    rwa [Dec.dval_itoa, show Dec.dval [49] = 1 by decide +kernel, divInt_one'] at this
  unfold ratO at HR ⊢
  clear h0 h1 hl
  generalize Lib.itoa (n : Rat).num = l1 at *
  generalize Lib.itoa ((n : Rat).den : Int) = l2 at *
  generalize Lib.itoa n = ln at *
  go_enter Tryz.func27, Tryz.ntmps27
  go_wp2_with fail
  refine (HF.out _ (box _ _)).mono ?_
  rintro e w1 ⟨rfl, hb⟩
  go_wp2_with fail
  refine (HR.out _).mono ?_
  rintro e w2 ⟨rfl, hb2⟩
  have HB := Lib.hid ((BlkIs.via hb).below hb2)
  obtain ⟨u0, u1, u2, u3, u4, u5, u6, ul⟩ := HB.out.seven
  obtain ⟨uf0, uf1, uf2, uf3, uf4, uf5, uf6⟩ := HB.out.frozen7
  go_wp2
  exact ret_obj Tryz.results27 rfl HB.out.put7 rfl ⟨rfl, set7 (then_ (via hb) hb2) (Nat.le_refl _) _ _ _ _ _ _ _⟩
set_option maxHeartbeats 2000000 in
set_option maxRecDepth 100000 in
theorem rList_any (ok : Nat → Prop) (l : List Ob) (A : Option Addr) (n c : Nat) (w : World) (h : Rd ok w (.slice A n c) (.row (l.map Ob.enc))) (hn : n ≤ 1000000) :
    Calls Tryz.prog 79 #[.slice A n c] w (RetObj ok (listO l) w) := by
  have HL := Lib.hid h.len
  go_enter Tryz.func79, Tryz.ntmps79
  go_wp2_with fail
  refine (rNil_any _).mono ?_
  rintro e w1 ⟨rfl, hb1⟩
  have R1 := Lib.hid (BlkIs.via hb1)
  have b1 : Below w.heap.size w w1 := via hb1
  have hsz := R1.out.lt
  clear hb1
  go_wp2
  go_loopw [4] (fun ix wr => ∃ (j : Nat) (o : Ob) (Ao : Option Addr) (no co : Nat), j ≤ n ∧ ix = .int .i64 ((j : Int) - 1) ∧ Hid (o = listO (l.drop j)) ∧ Hid (BlkIs wr w.heap.size 36 zeroCells) ∧ Hid (BlkIs wr w1.heap.size 36 (obCells o (.slice Ao no co))) ∧ Rd (fun b => (ok b ∧ b < w.heap.size) ∨ w1.heap.size < b) wr (.slice Ao no co) (.row (o.pair.map Ob.enc)) ∧ Below w.heap.size w wr) (fun ix _ => (intOf ix + 1).toNat)
  case atStart => exact ⟨n, nilO, none, 0, 0, Nat.le_refl _, rfl, Lib.hid (by rw [List.drop_of_length_le (by have := HL.out; rw [List.length_map] at this; omega)]; rfl), Lib.hid (R1.out.alloc _), Lib.hid (BlkIs.new w1 _ _), .nil _ _, box2 b1 _⟩
  case round =>
    obtain ⟨j, o, Ao, no, co, hj, rfl, HO, R, X, hr, hb⟩ := hrel
    clear b1 R1
    have hgs := X.out.lt
    obtain ⟨x0, x1, x2, x3, x4, x5, x6, xl⟩ := X.out.seven
    obtain ⟨xf0, xf1, xf2, xf3, xf4, xf5, xf6⟩ := X.out.frozen7
    rcases Nat.eq_zero_or_pos j with h0 | h0
    · subst h0
      obtain ⟨r0, r1, r2, r3, r4, r5, r6, rl⟩ := R.out.seven
      obtain ⟨rf0, rf1, rf2, rf3, rf4, rf5, rf6⟩ := R.out.frozen7
      go_wp2
      have e : o = listO l := by rw [HO.out]; rfl
      refine ret_obj Tryz.results79 rfl R.out.put7 rfl ⟨Ao, no, co, by rw [← e], ?_, set7 hb (Nat.le_refl _) _ _ _ _ _ _ _⟩
      rw [← e]
      refine Rd.mono (hr.far7 (g := w.heap.size) (fun b hb' => by omega) _ _ _ _ _ _ _) (fun b hb' _ => ?_)
      rcases hb' with h1 | h1
      · exact .inl h1.1
      · exact .inr (by omega)
    · obtain ⟨b, q, hil, A3, n3, c3, rfl, hbl, hok, a0, a1, a2, a3, a4, a5, a6, ha⟩ := h.objs hb (i := j - 1) (by omega)
      have hbl' := Nat.lt_of_lt_of_le hbl hb.size
      have HS := Lib.hid (drop_cons hil)
      have hi1 : (0 : Int) ≤ (j : Int) - 1 := by omega
      have hi2 : (j : Int) - 1 < n := by omega
      have hi3 : ((j : Int) - 1).toNat = j - 1 := by omega
      have ha' : Rd (fun b => (ok b ∧ b < w.heap.size) ∨ w1.heap.size < b) wr.drew (.slice A3 n3 c3) (.row ((l[j - 1]).pair.map Ob.enc)) := (((ha.mono fun b h1 h2 => ⟨h1, h2⟩ : Rd (fun b => ok b ∧ b < w.heap.size) w _ _).under hb).mono fun b h1 _ => .inl h1).drew
      have HC := Lib.hid (rCons_any (fun b => (ok b ∧ b < w.heap.size) ∨ w1.heap.size < b) l[j - 1] o A3 Ao n3 no c3 co wr.drew ha' hr.drew)
      have hbd := hb.drew
      go_upto_region 5 with (fail)
      go_still_tail 5, (by kernel_rfl)
      go_wp2_with fail
      refine HC.out.mono ?_
      rintro e v ⟨A5, n5, c5, rfl, hr5, hb5⟩
      have X5 := Lib.hid (X.out.drew.below hb5)
      have R5 := Lib.hid (R.out.drew.below hb5)
      have hv := hb5.size
      have hb5' := then_ hbd hb5
      clear x0 xf0 x1 xf1 x2 xf2 x3 xf3 x4 xf4 x5 xf5 x6 xf6 a0 a1 a2 a3 a4 a5 a6
      obtain ⟨y0, y1, y2, y3, y4, y5, y6, yl⟩ := X5.out.seven
      obtain ⟨yf0, yf1, yf2, yf3, yf4, yf5, yf6⟩ := X5.out.frozen7
      go_wp2
      go_roundw
      case rel =>
        refine ⟨j - 1, consO l[j - 1] o, A5, n5, c5, by omega, by go_num, Lib.hid ?_, Lib.hid (R5.out.far7 (by omega) _ _ _ _ _ _ _), Lib.hid X5.out.put7, ?_, set7 hb5' (by omega) _ _ _ _ _ _ _⟩
        · have := HS.out
          rw [Nat.sub_add_cancel h0, ← HO.out] at this
          exact this.symm
        · refine (hr5.mono (fun b h1 _ => ?_)).far7 (fun b h1 => by omega) _ _ _ _ _ _ _
          rcases h1 with h1 | h1
          · exact h1
          · right
            have : wr.drew.heap.size = wr.heap.size := rfl
            omega
      case measure => simp only [intOf]; omega
end Go.Proofs.YtmkcnjfhdfanoaaGreatDoor
/- The reference of objects: Equal, IsNil. -/
namespace Go.Proofs.YtmkcnjfhdfanoaaGreatDoor
open Go.RowKit

theorem all_eq {l m : List Ob} {n : Nat} (hl : l.length = n) (hm : m.length = n) (h : ∀ j (h1 : j < l.length) (h2 : j < m.length), j < n → l[j] = m[j]) : l = m := by
  apply List.ext_getElem (by omega)
  intro i h1 h2
  exact h i h1 h2 (by omega)
set_option maxHeartbeats 8000000 in
set_option maxRecDepth 100000 in
theorem rEqual_any (ok ok' : Nat → Prop) : ∀ (N : Nat) (a b : Ob), a.size ≤ N → a.Wf → ∀ (A A' : Option Addr) (n n' c c' : Nat) (w : World), Rd ok w (.slice A n c) (.row (a.pair.map Ob.enc)) → Rd ok' w (.slice A' n' c') (.row (b.pair.map Ob.enc)) →
    Calls Tryz.prog 22 #[objV a (.slice A n c), objV b (.slice A' n' c')] w (RetEq (a = b) w) := by
  intro N
  induction N with
  | zero => intro a b h; have := Ob.size_pos a; omega
  | succ N ih =>
    intro a b hN hW A A' n n' c c' w hx hy
    obtain ⟨P, HP⟩ : ∃ P : Prop, Hid (P ↔ a = b) := ⟨_, Lib.hid Iff.rfl⟩
    rw [show (a = b) = P from propext HP.out.symm]
    obtain ⟨xk, xn, xd, xp, xs, xt, xl⟩ := a
    obtain ⟨yk, yn, yd, yp, ys, yt, yl⟩ := b
    have hxl := hx.len
    have hyl := hy.len
    rw [List.length_map] at hxl hyl
    have hw1 := hW.len
    dsimp only at hxl hyl hw1
    by_cases hk : xk = yk
    case neg =>
      have hz : (xk != yk) = true := by rw [bne_iff_ne]; exact hk
      have HF : Hid (¬ P) := fun e => hk (by have e1 := HP.out.1 e; injection e1)
      clear hk hxl hyl
      go_enter Tryz.func22, Tryz.ntmps22
      go_wp2
      go_ret
      exact ⟨false, rfl, iff_no HF.out, box2 (box _ _) _⟩
    subst hk
    by_cases hn : xn = yn
    case neg =>
      have hz : (xn == yn) = false := by rw [beq_eq_false_iff_ne]; exact hn
      have HF : Hid (¬ P) := fun e => hn (by have e1 := HP.out.1 e; injection e1)
      clear hn hxl hyl
      go_enter Tryz.func22, Tryz.ntmps22
      go_wp2
      go_ret
      exact ⟨false, rfl, iff_no HF.out, box2 (box _ _) _⟩
    subst hn
    by_cases hd : xd = yd
    case neg =>
      have hz : (xd == yd) = false := by rw [beq_eq_false_iff_ne]; exact hd
      have HF : Hid (¬ P) := fun e => hd (by have e1 := HP.out.1 e; injection e1)
      clear hd hxl hyl
      go_enter Tryz.func22, Tryz.ntmps22
      go_wp2
      go_ret
      exact ⟨false, rfl, iff_no HF.out, box2 (box _ _) _⟩
    subst hd
    by_cases hp : xp = yp
    case neg =>
      have hz : (xp == yp) = false := by rw [beq_eq_false_iff_ne]; exact hp
      have HF : Hid (¬ P) := fun e => hp (by have e1 := HP.out.1 e; injection e1)
      clear hp hxl hyl
      go_enter Tryz.func22, Tryz.ntmps22
      go_wp2
      go_ret
      exact ⟨false, rfl, iff_no HF.out, box2 (box _ _) _⟩
    subst hp
    by_cases hs : xs = ys
    case neg =>
      have hz : (xs == ys) = false := by rw [beq_eq_false_iff_ne]; exact hs
      have HF : Hid (¬ P) := fun e => hs (by have e1 := HP.out.1 e; injection e1)
      clear hs hxl hyl
      go_enter Tryz.func22, Tryz.ntmps22
      go_wp2
      go_ret
      exact ⟨false, rfl, iff_no HF.out, box2 (box _ _) _⟩
    subst hs
    by_cases ht : xt = yt
    case neg =>
      have hz : (xt == yt) = false := by rw [beq_eq_false_iff_ne]; exact ht
      have HF : Hid (¬ P) := fun e => ht (by have e1 := HP.out.1 e; injection e1)
      clear ht hxl hyl
      go_enter Tryz.func22, Tryz.ntmps22
      go_wp2
      go_ret
      exact ⟨false, rfl, iff_no HF.out, box2 (box _ _) _⟩
    subst ht
    by_cases hl : n = n'
    case neg =>
      have hz : ((n : Int) != (n' : Int)) = true := by rw [bne_iff_ne]; omega
      have HF : Hid (¬ P) := fun e => hl (by have e1 := HP.out.1 e; injection e1 with _ _ _ _ _ _ e2; rw [← hxl, ← hyl, e2])
      clear hl hxl hyl
      go_enter Tryz.func22, Tryz.ntmps22
      go_wp2
      go_ret
      exact ⟨false, rfl, iff_no HF.out, box2 (box _ _) _⟩
    subst hl
    have HXL := Lib.hid hxl
    have HYL := Lib.hid hyl
    rw [hxl] at hw1
    clear hxl hyl
    go_enter Tryz.func22, Tryz.ntmps22
    go_wp2
    go_loopw [5] (fun ix wq => ∃ i : Nat, i ≤ n ∧ ix = .int .i64 i ∧ Hid (∀ j (h1 : j < xl.length) (h2 : j < yl.length), j < i → xl[j] = yl[j]) ∧ Hid (BlkIs wq w.heap.size 36 (obCells ⟨xk, xn, xd, xp, xs, xt, xl⟩ (.slice A n c))) ∧ Hid (BlkIs wq (w.heap.size + 1) 36 (obCells ⟨xk, xn, xd, xp, xs, xt, yl⟩ (.slice A' n c'))) ∧ Below w.heap.size w wq) (fun ix _ => n - (intOf ix).toNat)
    case atStart => exact ⟨0, Nat.zero_le _, rfl, Lib.hid (fun j _ _ h => absurd h (by omega)), Lib.hid ((BlkIs.new w _ _).alloc _), Lib.hid (BlkIs.new1 w _ _ _), box2 (box _ _) _⟩
    case round =>
      obtain ⟨i, hi, rfl, HJ, HX, HY, hb⟩ := hrel
      obtain ⟨u0, u1, u2, u3, u4, u5, u6, hu⟩ := HX.out.seven
      obtain ⟨v0, v1, v2, v3, v4, v5, v6, hv⟩ := HY.out.seven
      by_cases hin : i < n
      · obtain ⟨p1, q1, hil, A4, n4, c4, rfl, hp1, _, a0, a1, a2, a3, a4, a5, a6, ha⟩ := hx.objs hb (i := i) hin
        obtain ⟨p2, q2, hil', A5, n5, c5, rfl, hp2, _, b0, b1, b2, b3, b4, b5, b6, hb'⟩ := hy.objs hb (i := i) hin
        have hp1' := Nat.lt_of_lt_of_le hp1 hb.size
        have hp2' := Nat.lt_of_lt_of_le hp2 hb.size
        have hsz := Ob.size_pair (o := ⟨xk, xn, xd, xp, xs, xt, xl⟩) (x := xl[i]) (List.getElem_mem hil)
        have hwf := hW.kids (x := xl[i]) (List.getElem_mem hil)
        have HC : Hid (∀ wd : World, Below w.heap.size w wd → Calls Tryz.prog 22 #[objV xl[i] (.slice A4 n4 c4), objV yl[i] (.slice A5 n5 c5)] wd (RetEq (xl[i] = yl[i]) wd)) := fun wd hd => ih xl[i] yl[i] (by omega) hwf A4 A5 n4 n5 c4 c5 wd (ha.under hd) (hb'.under hd)
        have hi1 : (0 : Int) ≤ (i : Int) := by omega
        have hi2 : (i : Int) < n := by omega
        have hbd := hb.drew
        go_upto_region 6 with (fail)
        go_still_tail 10, (by kernel_rfl)
        go_wp2_with fail
        refine (HC.out _ hbd).mono ?_
        rintro e w1 ⟨bb, rfl, hbb, hb1⟩
        have hbw1 := then_ hbd hb1
        cases bb with
        | false =>
          have HF : Hid (¬ P) := fun e => by
            have e1 := HP.out.1 e
            injection e1 with _ _ _ _ _ _ e2
            have := hbb.2 (by subst e2; rfl)
            cases this
          clear hbb
          go_wp2
          go_ret
          exact ⟨false, rfl, iff_no HF.out, hbw1⟩
        | true =>
          have HE := Lib.hid (hbb.1 rfl)
          clear hbb
          go_wp2
          go_roundw
          case rel => exact ⟨i + 1, by omega, by go_num, Lib.hid (fun j h1 h2 h => by
            rcases Nat.lt_or_ge j i with h3 | h3
            · exact HJ.out j h1 h2 h3
            · obtain rfl : j = i := by omega
              exact HE.out), Lib.hid (HX.out.drew.below hb1), Lib.hid (HY.out.drew.below hb1), hbw1⟩
          case measure => simp only [intOf]; omega
      · obtain rfl : i = n := by omega
        have HT : Hid P := HP.out.2 (by
          rw [all_eq HXL.out HYL.out HJ.out])
        go_wp2
        go_ret
        exact ⟨true, rfl, iff_yes HT.out, hb⟩
theorem rEqual_yes {ok ok' : Nat → Prop} {a : Ob} (hw : a.Wf) {A A' : Option Addr} {n n' c c' : Nat} {w : World} (ha : Rd ok w (.slice A n c) (.row (a.pair.map Ob.enc))) (hb : Rd ok' w (.slice A' n' c') (.row (a.pair.map Ob.enc))) :
    Calls Tryz.prog 22 #[objV a (.slice A n c), objV a (.slice A' n' c')] w (RetBel (.bool true) w) :=
  (rEqual_any ok ok' a.size a a (Nat.le_refl _) hw A A' n n' c c' w ha hb).mono fun _ _ ⟨b, h1, h2, h3⟩ => ⟨by rw [h1, h2.2 rfl], h3⟩
end Go.Proofs.YtmkcnjfhdfanoaaGreatDoor
/- The reference of objects: IsNil, IsInteger, Fix. -/
namespace Go.Proofs.YtmkcnjfhdfanoaaGreatDoor
open Go.RowKit

set_option maxHeartbeats 1000000 in
set_option maxRecDepth 100000 in
theorem rIsNil_any (ok : Nat → Prop) (o : Ob) (hw : o.Wf) (A : Option Addr) (n c : Nat) (w : World) (h : Rd ok w (.slice A n c) (.row (o.pair.map Ob.enc))) : Calls Tryz.prog 39 #[objV o (.slice A n c)] w (RetEq (o = nilO) w) := by
  have HE : Hid (∀ w' : World, Below w.heap.size w w' → Calls Tryz.prog 22 #[objV o (.slice A n c), objV nilO (.slice none 0 0)] w' (RetEq (o = nilO) w')) := fun w' hb => rEqual_any ok (fun _ => True) o.size o nilO (Nat.le_refl _) hw A none n 0 c 0 w' (h.under hb) (.nil _ _)
  generalize (o = nilO) = P at *
  go_enter Tryz.func39, Tryz.ntmps39
  go_upto_region 1 with (fail)
  have X0' := Lib.hid (BlkIs.new w 36 (obCells o (.slice A n c)))
  have b0 := (box w (.cells (obCells o (.slice A n c)) 36)).drew
  generalize w.alloc (.cells (obCells o (.slice A n c)) 36) = W at *
  have X0 := Lib.hid X0'.out.drew
  obtain ⟨xs0, xs1, xs2, xs3, xs4, xs5, xs6, xsl⟩ := X0'.out.seven
  go_region_held3 (fun w' => w'.cell? ⟨w.heap.size, 0, none⟩ = some (.int .i64 o.kind) ∧ w'.cell? ⟨w.heap.size, 1, none⟩ = some (str o.num) ∧ w'.cell? ⟨w.heap.size, 2, none⟩ = some (str o.den) ∧ w'.cell? ⟨w.heap.size, 3, none⟩ = some (str o.sp) ∧ w'.cell? ⟨w.heap.size, 4, none⟩ = some (str o.sn) ∧ w'.cell? ⟨w.heap.size, 5, none⟩ = some (str o.text) ∧ w'.cell? ⟨w.heap.size, 6, none⟩ = some (.slice A n c)) (go_keep)
    (first | (go_at_call 30; ((with_reducible refine (rNil_any _).mono ?_)); rintro e v1 ⟨rfl, hb1⟩; have b1 := then_ b0 hb1; have X1 := Lib.hid (X0.out.below hb1); obtain ⟨xc1_0, xc1_1, xc1_2, xc1_3, xc1_4, xc1_5, xc1_6, xc1_l⟩ := X1.out.seven) | (go_at_call 22; ((with_reducible refine (HE.out _ b1).mono ?_)); rintro e v2 ⟨bb, rfl, hbb, hb2⟩; have b2 := then_ b1 hb2; have X2 := Lib.hid (X1.out.below hb2); obtain ⟨xc2_0, xc2_1, xc2_2, xc2_3, xc2_4, xc2_5, xc2_6, xc2_l⟩ := X2.out.seven))
  go_wp2
  go_ret
  exact ⟨bb, rfl, hbb, b2⟩
set_option maxHeartbeats 400000 in
theorem rFix_any (o : Ob) (q : Rat) (hv : Val o q) (A : Option Addr) (n c : Nat) (hn : o.pair.length = n) (w : World) (ht : Tab w) : Calls Tryz.prog 101 #[objV o (.slice A n c)] w (RetNum q w) := by
  rcases hv with ⟨hk, rfl⟩ | ⟨hk, rfl⟩
  · obtain rfl : n = 0 := by rw [← hn]; rfl
    clear hk hn
    generalize Lib.itoa q.num = ln at *
    generalize Lib.itoa (q.den : Int) = ld at *
    go_enter Tryz.func101, Tryz.ntmps101
    go_wp2
    exact ret_obj Tryz.results101 rfl (BlkIs.new1 w _ _ _) rfl ⟨A, c, rfl, box2 (box _ _) _⟩
  · obtain ⟨k, nm, d, p, s, t, l⟩ := o
    dsimp only at hk
    have hz : (k == 1) = false := by rw [beq_eq_false_iff_ne]; exact hk
    clear hk hn
    have HI : Hid (∀ w' : World, Below w.heap.size w w' → Calls Tryz.prog 27 #[.int .i64 0] w' (RetLeaf (numO (Lib.itoa (0 : Rat).num) (Lib.itoa ((0 : Rat).den : Int))) w')) := fun w' hb => by
      exact rInt_any 0 w' (ht.below hb) (by omega) (by omega)
    unfold RetNum
    generalize Lib.itoa (0 : Rat).num = ln at *
    generalize Lib.itoa ((0 : Rat).den : Int) = ld at *
    go_enter Tryz.func101, Tryz.ntmps101
    go_wp2_with fail
    refine (HI.out _ (box2 (box _ _) _)).mono ?_
    rintro e w1 ⟨rfl, hb⟩
    have HB := Lib.hid ((BlkIs.new1 w _ _ _).below hb)
    obtain ⟨u0, u1, u2, u3, u4, u5, u6, hu⟩ := HB.out.seven
    obtain ⟨f0, f1, f2, f3, f4, f5, f6⟩ := HB.out.frozen7
    go_wp2
    exact ret_obj Tryz.results101 rfl HB.out.put7 rfl ⟨none, 0, rfl, set7 (via (via hb)) (Nat.le_succ _) _ _ _ _ _ _ _⟩
end Go.Proofs.YtmkcnjfhdfanoaaGreatDoor
/- object.Compare and the reference's Compare on plain trees. -/
namespace Go.Proofs.YtmkcnjfhdfanoaaGreatDoor
open Go.RowKit

def rkI (k : Int) : Int := if k = 1 then 0 else if k = 3 then 1 else if k = 2 then 2 else 3
end Go.Proofs.YtmkcnjfhdfanoaaGreatDoor
/- The reference's Compare and Less on plain trees. -/
namespace Go.Proofs.YtmkcnjfhdfanoaaGreatDoor
open Go.RowKit

theorem rMulZ {k m : Nat} {l r : List UInt8} {X Y : Int} (h : Num k l X) (h' : Num m r Y) (hk : k ≤ 100000) (hm : m ≤ 100000) (w : World) :
    Calls Tryz.prog 146 #[str l, str r] w (RetStr (Lib.itoa (X * Y)) w) := by
  have := refMul_any l r w (by have := h.len; omega) (by have := h'.len; omega)
  rwa [h.val, h'.val] at this
theorem rCompareZ {k m : Nat} {l r : List UInt8} {X Y V : Int} (h : Num k l X) (h' : Num m r Y) (hk : k ≤ 100000) (hm : m ≤ 100000) (hv : cmpI X Y = V) (w : World) :
    Calls Tryz.prog 170 #[str l, str r] w (RetI64 V w) := by
  have := refCompare_any l r w (by have := h.len; omega) (by have := h'.len; omega)
  rwa [h.val, h'.val, hv] at this
set_option maxHeartbeats 1000000 in
set_option maxRecDepth 100000 in
theorem rRank_any (o : Ob) (A : Option Addr) (n c : Nat) (w : World) : Calls Tryz.prog 169 #[objV o (.slice A n c)] w (RetBel (.int .i64 (rkI o.kind + 1)) w) := by
  obtain ⟨k, nm, d, p, t, x, l⟩ := o
  unfold rkI
  dsimp only
  by_cases h1 : k = 1
  · subst h1
    go_enter Tryz.func169, Tryz.ntmps169
    go_wp2
    go_ret
    exact ⟨rfl, box _ _⟩
  have e1 : (k == 1) = false := by rw [beq_eq_false_iff_ne]; exact h1
  rw [if_neg h1]
  by_cases h3 : k = 3
  · subst h3
    go_enter Tryz.func169, Tryz.ntmps169
    go_wp2
    go_ret
    exact ⟨rfl, box _ _⟩
  have e3 : (k == 3) = false := by rw [beq_eq_false_iff_ne]; exact h3
  rw [if_neg h3]
  by_cases h2 : k = 2
  · subst h2
    go_enter Tryz.func169, Tryz.ntmps169
    go_wp2
    go_ret
    exact ⟨rfl, box _ _⟩
  have e2 : (k == 2) = false := by rw [beq_eq_false_iff_ne]; exact h2
  rw [if_neg h2]
  clear h1 h2 h3
  go_enter Tryz.func169, Tryz.ntmps169
  go_wp2
  go_ret
  exact ⟨rfl, box _ _⟩
set_option maxHeartbeats 4000000 in
set_option maxRecDepth 100000 in
theorem rCompare_num (p q : Rat) {k m : Nat} (bp : Rb k p) (bq : Rb m q) (hk : k ≤ 10000) (hm : m ≤ 10000) (A A' : Option Addr) (n n' c c' : Nat) (w : World) :
    Calls Tryz.prog 147 #[objV (ratO p) (.slice A n c), objV (ratO q) (.slice A' n' c')] w (RetBel (.int .i64 (cmpQ p q)) w) := by
  have n1 : Num (k + 1) (Lib.itoa p.num) p.num := ⟨Dec.dval_itoa _, bp.nlen⟩
  have d1 : Num (k + 1) (Lib.itoa (p.den : Int)) p.den := ⟨Dec.dval_itoa _, bp.dlen⟩
  have n2 : Num (m + 1) (Lib.itoa q.num) q.num := ⟨Dec.dval_itoa _, bq.nlen⟩
  have d2 : Num (m + 1) (Lib.itoa (q.den : Int)) q.den := ⟨Dec.dval_itoa _, bq.dlen⟩
  have HM1 : Hid (∀ w' : World, Calls Tryz.prog 146 #[str (Lib.itoa p.num), str (Lib.itoa (q.den : Int))] w' (RetStr (Lib.itoa (p.num * q.den)) w')) := fun w' => rMulZ n1 d2 (by omega) (by omega) w'
  have HM2 : Hid (∀ w' : World, Calls Tryz.prog 146 #[str (Lib.itoa q.num), str (Lib.itoa (p.den : Int))] w' (RetStr (Lib.itoa (q.num * p.den)) w')) := fun w' => rMulZ n2 d1 (by omega) (by omega) w'
  have HC : Hid (∀ w' : World, Calls Tryz.prog 170 #[str (Lib.itoa (p.num * q.den)), str (Lib.itoa (q.num * p.den))] w' (RetI64 (cmpQ p q) w')) := fun w' => rCompareZ (n1.mul d2) (n2.mul d1) (by omega) (by omega) (cmpQ_cross p q) w'
  clear n1 n2 d1 d2
  unfold ratO
  generalize cmpQ p q = z at *
  generalize Lib.itoa (p.num * q.den) = l1 at *
  generalize Lib.itoa (q.num * p.den) = l2 at *
  generalize Lib.itoa p.num = ln at *
  generalize Lib.itoa q.num = rn at *
  generalize Lib.itoa (p.den : Int) = ld at *
  generalize Lib.itoa (q.den : Int) = rd at *
  have HR1 : Hid (∀ w' : World, Calls Tryz.prog 169 #[objV (numO ln ld) (.slice A n c)] w' (RetBel (.int .i64 1) w')) := fun w' => rRank_any (numO ln ld) A n c w'
  have HR2 : Hid (∀ w' : World, Calls Tryz.prog 169 #[objV (numO rn rd) (.slice A' n' c')] w' (RetBel (.int .i64 1) w')) := fun w' => rRank_any (numO rn rd) A' n' c' w'
  go_enter Tryz.func147, Tryz.ntmps147
  go_upto_region 1 with (fail)
  have X0' := Lib.hid ((BlkIs.new w 36 (obCells (numO ln ld) (.slice A n c))).alloc (.cells (obCells (numO rn rd) (.slice A' n' c')) 36))
  have Y0' := Lib.hid (BlkIs.new1 w (.cells (obCells (numO ln ld) (.slice A n c)) 36) 36 (obCells (numO rn rd) (.slice A' n' c')))
  have b0 := (box2 (box w (.cells (obCells (numO ln ld) (.slice A n c)) 36)) (.cells (obCells (numO rn rd) (.slice A' n' c')) 36)).drew
  generalize (w.alloc (.cells (obCells (numO ln ld) (.slice A n c)) 36)).alloc (.cells (obCells (numO rn rd) (.slice A' n' c')) 36) = W at *
  have X0 := Lib.hid X0'.out.drew
  have Y0 := Lib.hid Y0'.out.drew
  obtain ⟨xs0, xs1, xs2, xs3, xs4, xs5, xs6, xsl⟩ := X0'.out.seven
  obtain ⟨ys0, ys1, ys2, ys3, ys4, ys5, ys6, ysl⟩ := Y0'.out.seven
  go_region_held3 (fun w' => w'.cell? ⟨w.heap.size, 0, none⟩ = some (.int .i64 1) ∧ w'.cell? ⟨w.heap.size, 1, none⟩ = some (str ln) ∧ w'.cell? ⟨w.heap.size, 2, none⟩ = some (str ld) ∧ w'.cell? ⟨w.heap.size, 3, none⟩ = some (str []) ∧ w'.cell? ⟨w.heap.size, 4, none⟩ = some (str []) ∧ w'.cell? ⟨w.heap.size, 5, none⟩ = some (str []) ∧ w'.cell? ⟨w.heap.size, 6, none⟩ = some (.slice A n c) ∧ w'.cell? ⟨w.heap.size + 1, 0, none⟩ = some (.int .i64 1) ∧ w'.cell? ⟨w.heap.size + 1, 1, none⟩ = some (str rn) ∧ w'.cell? ⟨w.heap.size + 1, 2, none⟩ = some (str rd) ∧ w'.cell? ⟨w.heap.size + 1, 3, none⟩ = some (str []) ∧ w'.cell? ⟨w.heap.size + 1, 4, none⟩ = some (str []) ∧ w'.cell? ⟨w.heap.size + 1, 5, none⟩ = some (str []) ∧ w'.cell? ⟨w.heap.size + 1, 6, none⟩ = some (.slice A' n' c')) (go_keep)
    (first | (go_at_call 169; ((with_reducible refine (HR1.out _).mono ?_)); rintro e v1 ⟨rfl, hb1⟩; have b1 := then_ b0 hb1; have X1 := Lib.hid (X0.out.below hb1); have Y1 := Lib.hid (Y0.out.below hb1); obtain ⟨xc1_0, xc1_1, xc1_2, xc1_3, xc1_4, xc1_5, xc1_6, xc1_l⟩ := X1.out.seven; obtain ⟨yc1_0, yc1_1, yc1_2, yc1_3, yc1_4, yc1_5, yc1_6, yc1_l⟩ := Y1.out.seven) | (go_at_call 169; ((with_reducible refine (HR2.out _).mono ?_)); rintro e v2 ⟨rfl, hb2⟩; have b2 := then_ b1 hb2; have X2 := Lib.hid (X1.out.below hb2); have Y2 := Lib.hid (Y1.out.below hb2); obtain ⟨xc2_0, xc2_1, xc2_2, xc2_3, xc2_4, xc2_5, xc2_6, xc2_l⟩ := X2.out.seven; obtain ⟨yc2_0, yc2_1, yc2_2, yc2_3, yc2_4, yc2_5, yc2_6, yc2_l⟩ := Y2.out.seven))
  go_wp2_with fail
  refine (HR1.out _).mono ?_
  rintro e v3 ⟨rfl, hb3⟩
  have b3 := then_ b2 hb3
  have X3 := Lib.hid (X2.out.below hb3)
  have Y3 := Lib.hid (Y2.out.below hb3)
  clear xc2_0 xc2_1 xc2_2 xc2_3 xc2_4 xc2_5 xc2_6 yc2_0 yc2_1 yc2_2 yc2_3 yc2_4 yc2_5 yc2_6
  obtain ⟨xc3_0, xc3_1, xc3_2, xc3_3, xc3_4, xc3_5, xc3_6, xc3_l⟩ := X3.out.seven
  obtain ⟨yc3_0, yc3_1, yc3_2, yc3_3, yc3_4, yc3_5, yc3_6, yc3_l⟩ := Y3.out.seven
  go_upto_region 7 with (fail)
  have X4 := Lib.hid X3.out.drew
  have Y4 := Lib.hid Y3.out.drew
  have b4 := b3.drew
  go_region_held3 (fun w' => w'.cell? ⟨w.heap.size, 1, none⟩ = some (str ln) ∧ w'.cell? ⟨w.heap.size, 2, none⟩ = some (str ld) ∧ w'.cell? ⟨w.heap.size + 1, 1, none⟩ = some (str rn) ∧ w'.cell? ⟨w.heap.size + 1, 2, none⟩ = some (str rd)) (go_keep)
    (first | (go_at_call 146; ((with_reducible refine (HM1.out _).mono ?_)); rintro e v5 ⟨rfl, hb5⟩; have b5 := then_ b4 hb5; have X5 := Lib.hid (X4.out.below hb5); have Y5 := Lib.hid (Y4.out.below hb5); obtain ⟨xc5_0, xc5_1, xc5_2, xc5_3, xc5_4, xc5_5, xc5_6, xc5_l⟩ := X5.out.seven; obtain ⟨yc5_0, yc5_1, yc5_2, yc5_3, yc5_4, yc5_5, yc5_6, yc5_l⟩ := Y5.out.seven) | (go_at_call 146; ((with_reducible refine (HM2.out _).mono ?_)); rintro e v6 ⟨rfl, hb6⟩; have b6 := then_ b5 hb6; have X6 := Lib.hid (X5.out.below hb6); have Y6 := Lib.hid (Y5.out.below hb6); obtain ⟨xc6_0, xc6_1, xc6_2, xc6_3, xc6_4, xc6_5, xc6_6, xc6_l⟩ := X6.out.seven; obtain ⟨yc6_0, yc6_1, yc6_2, yc6_3, yc6_4, yc6_5, yc6_6, yc6_l⟩ := Y6.out.seven) | (go_at_call 170; ((with_reducible refine (HC.out _).mono ?_)); rintro e v7 ⟨rfl, hb7⟩; have b7 := then_ b6 hb7; have X7 := Lib.hid (X6.out.below hb7); have Y7 := Lib.hid (Y6.out.below hb7); obtain ⟨xc7_0, xc7_1, xc7_2, xc7_3, xc7_4, xc7_5, xc7_6, xc7_l⟩ := X7.out.seven; obtain ⟨yc7_0, yc7_1, yc7_2, yc7_3, yc7_4, yc7_5, yc7_6, yc7_l⟩ := Y7.out.seven))
  go_wp2
  go_ret
  exact ⟨rfl, b7⟩
set_option maxHeartbeats 1000000 in
set_option maxRecDepth 100000 in
theorem rLess_any (a b : Ob) (p q : Rat) (hp : Val a p) (hq : Val b q) {k m : Nat} (bp : Rb k p) (bq : Rb m q) (hk : k ≤ 10000) (hm : m ≤ 10000) (A A' : Option Addr) (n n' c c' : Nat) (hn : a.pair.length = n) (hn' : b.pair.length = n') (w : World) (ht : Tab w) :
    Calls Tryz.prog 110 #[objV a (.slice A n c), objV b (.slice A' n' c')] w (RetBel (.bool (decide (p < q))) w) := by
  have HF1 : Hid (∀ w' : World, Below w.heap.size w w' → Calls Tryz.prog 101 #[objV a (.slice A n c)] w' (RetNL (Lib.itoa p.num) (Lib.itoa (p.den : Int)) w')) := fun w' hb => rFix_any a p hp A n c hn w' (ht.below hb)
  have HF2 : Hid (∀ w' : World, Below w.heap.size w w' → Calls Tryz.prog 101 #[objV b (.slice A' n' c')] w' (RetNL (Lib.itoa q.num) (Lib.itoa (q.den : Int)) w')) := fun w' hb => rFix_any b q hq A' n' c' hn' w' (ht.below hb)
  have HV : Hid (∀ (w' : World) (A1 A2 : Option Addr) (c1 c2 : Nat), Below w.heap.size w w' → Calls Tryz.prog 147 #[objV (ratO p) (.slice A1 0 c1), objV (ratO q) (.slice A2 0 c2)] w' (RetBel (.int .i64 (cmpQ p q)) w')) := fun w' A1 A2 c1 c2 _ => rCompare_num p q bp bq hk hm A1 A2 0 0 c1 c2 w'
  unfold ratO at HV
  rw [← cmpQ_neg]
  clear hp hq bp bq hk hm hn hn'
  generalize cmpQ p q = z at *
  generalize Lib.itoa p.num = ln at *
  generalize Lib.itoa (p.den : Int) = ld at *
  generalize Lib.itoa q.num = rn at *
  generalize Lib.itoa (q.den : Int) = rd at *
  go_enter Tryz.func110, Tryz.ntmps110
  go_upto_region 1 with (fail)
  have X0' := Lib.hid ((BlkIs.new w 36 (obCells a (.slice A n c))).alloc (.cells (obCells b (.slice A' n' c')) 36))
  have Y0' := Lib.hid (BlkIs.new1 w (.cells (obCells a (.slice A n c)) 36) 36 (obCells b (.slice A' n' c')))
  have b0 := (box2 (box w (.cells (obCells a (.slice A n c)) 36)) (.cells (obCells b (.slice A' n' c')) 36)).drew
  generalize (w.alloc (.cells (obCells a (.slice A n c)) 36)).alloc (.cells (obCells b (.slice A' n' c')) 36) = W at *
  have X0 := Lib.hid X0'.out.drew
  have Y0 := Lib.hid Y0'.out.drew
  obtain ⟨xs0, xs1, xs2, xs3, xs4, xs5, xs6, xsl⟩ := X0'.out.seven
  obtain ⟨ys0, ys1, ys2, ys3, ys4, ys5, ys6, ysl⟩ := Y0'.out.seven
  go_region_held3 (fun w' => w'.cell? ⟨w.heap.size, 0, none⟩ = some (.int .i64 a.kind) ∧ w'.cell? ⟨w.heap.size, 1, none⟩ = some (str a.num) ∧ w'.cell? ⟨w.heap.size, 2, none⟩ = some (str a.den) ∧ w'.cell? ⟨w.heap.size, 3, none⟩ = some (str a.sp) ∧ w'.cell? ⟨w.heap.size, 4, none⟩ = some (str a.sn) ∧ w'.cell? ⟨w.heap.size, 5, none⟩ = some (str a.text) ∧ w'.cell? ⟨w.heap.size, 6, none⟩ = some (.slice A n c) ∧ w'.cell? ⟨w.heap.size + 1, 0, none⟩ = some (.int .i64 b.kind) ∧ w'.cell? ⟨w.heap.size + 1, 1, none⟩ = some (str b.num) ∧ w'.cell? ⟨w.heap.size + 1, 2, none⟩ = some (str b.den) ∧ w'.cell? ⟨w.heap.size + 1, 3, none⟩ = some (str b.sp) ∧ w'.cell? ⟨w.heap.size + 1, 4, none⟩ = some (str b.sn) ∧ w'.cell? ⟨w.heap.size + 1, 5, none⟩ = some (str b.text) ∧ w'.cell? ⟨w.heap.size + 1, 6, none⟩ = some (.slice A' n' c')) (go_keep)
    (first | (go_at_call 101; ((with_reducible refine (HF1.out _ b0).mono ?_)); rintro e v1 ⟨A1, c1, rfl, hb1⟩; have b1 := then_ b0 hb1; have X1 := Lib.hid (X0.out.below hb1); have Y1 := Lib.hid (Y0.out.below hb1); obtain ⟨xc1_0, xc1_1, xc1_2, xc1_3, xc1_4, xc1_5, xc1_6, xc1_l⟩ := X1.out.seven; obtain ⟨yc1_0, yc1_1, yc1_2, yc1_3, yc1_4, yc1_5, yc1_6, yc1_l⟩ := Y1.out.seven) | (go_at_call 101; ((with_reducible refine (HF2.out _ b1).mono ?_)); rintro e v2 ⟨A2, c2, rfl, hb2⟩; have b2 := then_ b1 hb2; have X2 := Lib.hid (X1.out.below hb2); have Y2 := Lib.hid (Y1.out.below hb2); obtain ⟨xc2_0, xc2_1, xc2_2, xc2_3, xc2_4, xc2_5, xc2_6, xc2_l⟩ := X2.out.seven; obtain ⟨yc2_0, yc2_1, yc2_2, yc2_3, yc2_4, yc2_5, yc2_6, yc2_l⟩ := Y2.out.seven) | (go_at_call 147; ((with_reducible refine (HV.out _ A1 A2 c1 c2 b2).mono ?_)); rintro e v3 ⟨rfl, hb3⟩; have b3 := then_ b2 hb3; have X3 := Lib.hid (X2.out.below hb3); have Y3 := Lib.hid (Y2.out.below hb3); obtain ⟨xc3_0, xc3_1, xc3_2, xc3_3, xc3_4, xc3_5, xc3_6, xc3_l⟩ := X3.out.seven; obtain ⟨yc3_0, yc3_1, yc3_2, yc3_3, yc3_4, yc3_5, yc3_6, yc3_l⟩ := Y3.out.seven))
  go_wp2
  go_ret
  exact ⟨rfl, b3⟩
end Go.Proofs.YtmkcnjfhdfanoaaGreatDoor
/- Which objects are formed and valid, how many nodes they have: package object and the reference, for any object. -/
namespace Go.Proofs.YtmkcnjfhdfanoaaGreatDoor
open Go.RowKit

abbrev dg (l : List UInt8) : Nat := (Dec.mag (norm l)).length
/-- a fraction in lowest terms within the limits -/
def lowB (n d : List UInt8) : Bool := decide (Lib.itoa (rdN (Dec.dval n) (Dec.dval d)) = n ∧ Lib.itoa (rdD (Dec.dval n) (Dec.dval d)) = d ∧ dg n ≤ 100 ∧ dg d ≤ 100)
namespace Ob
mutual
def formB : Ob → Bool
  | ⟨k, n, d, p, s, t, l⟩ =>
    if k = 4 then decide (n = [] ∧ d = [] ∧ p = [] ∧ s = [] ∧ t = [] ∧ l.length = 2) && allB l
    else if k = 1 then decide (p = [] ∧ s = [] ∧ t = [] ∧ l.length = 0) && lowB n d
    else if k = 2 then decide (n = [] ∧ d = [] ∧ t = [] ∧ l.length = 0) && symOk ⟨p, s⟩
    else if k = 3 then decide (n = [] ∧ d = [] ∧ p = [] ∧ s = [] ∧ t.length ≤ 200 ∧ l.length = 0)
    else false
def allB : List Ob → Bool
  | [] => true
  | o :: r => formB o && allB r
end
theorem formB_eq (k : Int) (n d p s t : List UInt8) (l : List Ob) : formB ⟨k, n, d, p, s, t, l⟩ = (if k = 4 then decide (n = [] ∧ d = [] ∧ p = [] ∧ s = [] ∧ t = [] ∧ l.length = 2) && allB l
    else if k = 1 then decide (p = [] ∧ s = [] ∧ t = [] ∧ l.length = 0) && lowB n d
    else if k = 2 then decide (n = [] ∧ d = [] ∧ t = [] ∧ l.length = 0) && symOk ⟨p, s⟩
    else if k = 3 then decide (n = [] ∧ d = [] ∧ p = [] ∧ s = [] ∧ t.length ≤ 200 ∧ l.length = 0)
    else false) := by rw [formB]
/-- numerals of at most B letters, all the way down -/
inductive Sm : Ob → Prop
  | mk (o : Ob) (hn : o.num.length ≤ 1100000) (hd : o.den.length ≤ 1100000) (h : ∀ x ∈ o.pair, Sm x) : Sm o
theorem Sm.kids {o x : Ob} (h : o.Sm) (hx : x ∈ o.pair) : x.Sm := by
  cases h with
  | mk _ _ _ h => exact h x hx
theorem Sm.len {o : Ob} (h : o.Sm) : o.num.length ≤ 1100000 ∧ o.den.length ≤ 1100000 := by
  cases h with
  | mk _ a b _ => exact ⟨a, b⟩
end Ob
set_option maxHeartbeats 1000000 in
theorem bareC_any (o : Ob) (A : Option Addr) (n c : Nat) (w : World) : Calls Tryz.prog 139 #[objV o (.slice A n c), .bool false, .bool false, .bool false] w (RetBel (.bool (decide (o.num = [] ∧ o.den = [] ∧ o.sp = [] ∧ o.sn = [] ∧ o.text = []))) w) := by
  obtain ⟨k, nm, d, p, sy, t, l⟩ := o
  dsimp only
  by_cases hnm : nm = []
  case neg =>
    rw [decide_eq_false (fun h => hnm (h.1))]
    have hz : (nm == []) = false := by rw [beq_eq_false_iff_ne]; exact hnm
    clear hnm
    go_enter Tryz.func139, Tryz.ntmps139
    go_wp2
    go_ret
    exact ⟨rfl, box _ _⟩
  subst hnm
  by_cases hd : d = []
  case neg =>
    rw [decide_eq_false (fun h => hd (h.2.1))]
    have hz : (d == []) = false := by rw [beq_eq_false_iff_ne]; exact hd
    clear hd
    go_enter Tryz.func139, Tryz.ntmps139
    go_wp2
    go_ret
    exact ⟨rfl, box _ _⟩
  subst hd
  by_cases hp : p = []
  case neg =>
    rw [decide_eq_false (fun h => hp (h.2.2.1))]
    have hz : (p == []) = false := by rw [beq_eq_false_iff_ne]; exact hp
    clear hp
    go_enter Tryz.func139, Tryz.ntmps139
    go_wp2
    go_ret
    exact ⟨rfl, box _ _⟩
  subst hp
  by_cases hsy : sy = []
  case neg =>
    rw [decide_eq_false (fun h => hsy (h.2.2.2.1))]
    have hz : (sy == []) = false := by rw [beq_eq_false_iff_ne]; exact hsy
    clear hsy
    go_enter Tryz.func139, Tryz.ntmps139
    go_wp2
    go_ret
    exact ⟨rfl, box _ _⟩
  subst hsy
  by_cases ht : t = []
  case neg =>
    rw [decide_eq_false (fun h => ht (h.2.2.2.2))]
    have hz : (t == []) = false := by rw [beq_eq_false_iff_ne]; exact ht
    clear ht
    go_enter Tryz.func139, Tryz.ntmps139
    go_wp2
    go_ret
    exact ⟨rfl, box _ _⟩
  subst ht
  rw [decide_eq_true (by simp)]
  go_enter Tryz.func139, Tryz.ntmps139
  go_wp2
  go_ret
  exact ⟨rfl, box _ _⟩
set_option maxHeartbeats 1000000 in
theorem bareN_any (o : Ob) (A : Option Addr) (n c : Nat) (w : World) : Calls Tryz.prog 139 #[objV o (.slice A n c), .bool true, .bool false, .bool false] w (RetBel (.bool (decide (o.sp = [] ∧ o.sn = [] ∧ o.text = []))) w) := by
  obtain ⟨k, nm, d, p, sy, t, l⟩ := o
  dsimp only
  by_cases hp : p = []
  case neg =>
    rw [decide_eq_false (fun h => hp (h.1))]
    have hz : (p == []) = false := by rw [beq_eq_false_iff_ne]; exact hp
    clear hp
    go_enter Tryz.func139, Tryz.ntmps139
    go_wp2
    go_ret
    exact ⟨rfl, box _ _⟩
  subst hp
  by_cases hsy : sy = []
  case neg =>
    rw [decide_eq_false (fun h => hsy (h.2.1))]
    have hz : (sy == []) = false := by rw [beq_eq_false_iff_ne]; exact hsy
    clear hsy
    go_enter Tryz.func139, Tryz.ntmps139
    go_wp2
    go_ret
    exact ⟨rfl, box _ _⟩
  subst hsy
  by_cases ht : t = []
  case neg =>
    rw [decide_eq_false (fun h => ht (h.2.2))]
    have hz : (t == []) = false := by rw [beq_eq_false_iff_ne]; exact ht
    clear ht
    go_enter Tryz.func139, Tryz.ntmps139
    go_wp2
    go_ret
    exact ⟨rfl, box _ _⟩
  subst ht
  rw [decide_eq_true (by simp)]
  go_enter Tryz.func139, Tryz.ntmps139
  go_wp2
  go_ret
  exact ⟨rfl, box _ _⟩
set_option maxHeartbeats 1000000 in
theorem bareS_any (o : Ob) (A : Option Addr) (n c : Nat) (w : World) : Calls Tryz.prog 139 #[objV o (.slice A n c), .bool false, .bool true, .bool false] w (RetBel (.bool (decide (o.num = [] ∧ o.den = [] ∧ o.text = []))) w) := by
  obtain ⟨k, nm, d, p, sy, t, l⟩ := o
  dsimp only
  by_cases hnm : nm = []
  case neg =>
    rw [decide_eq_false (fun h => hnm (h.1))]
    have hz : (nm == []) = false := by rw [beq_eq_false_iff_ne]; exact hnm
    clear hnm
    go_enter Tryz.func139, Tryz.ntmps139
    go_wp2
    go_ret
    exact ⟨rfl, box _ _⟩
  subst hnm
  by_cases hd : d = []
  case neg =>
    rw [decide_eq_false (fun h => hd (h.2.1))]
    have hz : (d == []) = false := by rw [beq_eq_false_iff_ne]; exact hd
    clear hd
    go_enter Tryz.func139, Tryz.ntmps139
    go_wp2
    go_ret
    exact ⟨rfl, box _ _⟩
  subst hd
  by_cases ht : t = []
  case neg =>
    rw [decide_eq_false (fun h => ht (h.2.2))]
    have hz : (t == []) = false := by rw [beq_eq_false_iff_ne]; exact ht
    clear ht
    go_enter Tryz.func139, Tryz.ntmps139
    go_wp2
    go_ret
    exact ⟨rfl, box _ _⟩
  subst ht
  rw [decide_eq_true (by simp)]
  go_enter Tryz.func139, Tryz.ntmps139
  go_wp2
  go_ret
  exact ⟨rfl, box _ _⟩
set_option maxHeartbeats 1000000 in
theorem bareT_any (o : Ob) (A : Option Addr) (n c : Nat) (w : World) : Calls Tryz.prog 139 #[objV o (.slice A n c), .bool false, .bool false, .bool true] w (RetBel (.bool (decide (o.num = [] ∧ o.den = [] ∧ o.sp = [] ∧ o.sn = []))) w) := by
  obtain ⟨k, nm, d, p, sy, t, l⟩ := o
  dsimp only
  by_cases hnm : nm = []
  case neg =>
    rw [decide_eq_false (fun h => hnm (h.1))]
    have hz : (nm == []) = false := by rw [beq_eq_false_iff_ne]; exact hnm
    clear hnm
    go_enter Tryz.func139, Tryz.ntmps139
    go_wp2
    go_ret
    exact ⟨rfl, box _ _⟩
  subst hnm
  by_cases hd : d = []
  case neg =>
    rw [decide_eq_false (fun h => hd (h.2.1))]
    have hz : (d == []) = false := by rw [beq_eq_false_iff_ne]; exact hd
    clear hd
    go_enter Tryz.func139, Tryz.ntmps139
    go_wp2
    go_ret
    exact ⟨rfl, box _ _⟩
  subst hd
  by_cases hp : p = []
  case neg =>
    rw [decide_eq_false (fun h => hp (h.2.2.1))]
    have hz : (p == []) = false := by rw [beq_eq_false_iff_ne]; exact hp
    clear hp
    go_enter Tryz.func139, Tryz.ntmps139
    go_wp2
    go_ret
    exact ⟨rfl, box _ _⟩
  subst hp
  by_cases hsy : sy = []
  case neg =>
    rw [decide_eq_false (fun h => hsy (h.2.2.2))]
    have hz : (sy == []) = false := by rw [beq_eq_false_iff_ne]; exact hsy
    clear hsy
    go_enter Tryz.func139, Tryz.ntmps139
    go_wp2
    go_ret
    exact ⟨rfl, box _ _⟩
  subst hsy
  rw [decide_eq_true (by simp)]
  go_enter Tryz.func139, Tryz.ntmps139
  go_wp2
  go_ret
  exact ⟨rfl, box _ _⟩
theorem lowB_dec {n d : List UInt8} (h : lowB n d = true) : Dec.isDec n = true ∧ Dec.isDec d = true ∧ dg n ≤ 100 ∧ dg d ≤ 100 := by
  unfold lowB at h
  obtain ⟨h1, h2, h3, h4⟩ := of_decide_eq_true h
  exact ⟨by rw [← h1]; exact Dec.isDec_itoa _, by rw [← h2]; exact Dec.isDec_itoa _, h3, h4⟩
set_option maxHeartbeats 1000000 in
theorem lowest_any (a b : List UInt8) (w : World) (ht : Tab w) (ha : a.length ≤ 1100000) (hb : b.length ≤ 1100000) : Calls Tryz.prog 140 #[str a, str b] w (RetBel (.bool (lowB a b)) w) := by
  have HV1 : Hid (∀ w' : World, Calls Tryz.prog 154 #[str a] w' (RetPure (.bool (Dec.isDec a)) w')) := fun w' => valid_any a w' (by omega)
  have HV2 : Hid (∀ w' : World, Calls Tryz.prog 154 #[str b] w' (RetPure (.bool (Dec.isDec b)) w')) := fun w' => valid_any b w' (by omega)
  have HD1 : Hid (∀ w' : World, Calls Tryz.prog 130 #[str a] w' (RetPure (.int .i64 (dg a : Nat)) w')) := fun w' => digits_any a w' (by omega)
  have HD2 : Hid (∀ w' : World, Calls Tryz.prog 130 #[str b] w' (RetPure (.int .i64 (dg b : Nat)) w')) := fun w' => digits_any b w' (by omega)
  have HR : Hid (∀ w' : World, Below w.heap.size w w' → Calls Tryz.prog 128 #[str a, str b] w' (RetStr2 (Lib.itoa (rdN (Dec.dval a) (Dec.dval b))) (Lib.itoa (rdD (Dec.dval a) (Dec.dval b))) w')) := fun w' hb' => reduceN_any a b w' ha hb (ht.below hb')
  have hda : dg a ≤ 1100002 := by have h1 := Dec.mag_length_le (norm a); have h2 := norm_length a; show (Dec.mag (norm a)).length ≤ _; omega
  have hdb : dg b ≤ 1100002 := by have h1 := Dec.mag_length_le (norm b); have h2 := norm_length b; show (Dec.mag (norm b)).length ≤ _; omega
  have HN : Hid (∀ h : ¬ (Dec.isDec a = true ∧ Dec.isDec b = true ∧ dg a ≤ 100 ∧ dg b ≤ 100), lowB a b = false) := fun h => by
    rw [Bool.eq_false_iff]; exact fun e => h (lowB_dec e)
  have HL : Hid (lowB a b = decide (Lib.itoa (rdN (Dec.dval a) (Dec.dval b)) = a ∧ Lib.itoa (rdD (Dec.dval a) (Dec.dval b)) = b ∧ dg a ≤ 100 ∧ dg b ≤ 100)) := rfl
  generalize lowB a b = z at *
  generalize Lib.itoa (rdN (Dec.dval a) (Dec.dval b)) = x at *
  generalize Lib.itoa (rdD (Dec.dval a) (Dec.dval b)) = y at *
  generalize dg a = da at *
  generalize dg b = db at *
  cases h1 : Dec.isDec a with
  | false =>
    obtain rfl := HN.out (fun h => by rw [h1] at h; cases h.1)
    rw [h1] at HV1
    clear HL HN h1
    go_enter Tryz.func140, Tryz.ntmps140
    go_wp2_with fail
    refine (HV1.out _).mono ?_
    rintro e w' ⟨rfl, rfl⟩
    go_wp2
    go_ret
    exact ⟨rfl, Below.refl _ _⟩
  | true =>
  rw [h1] at HV1
  cases h2 : Dec.isDec b with
  | false =>
    obtain rfl := HN.out (fun h => by rw [h2] at h; cases h.2.1)
    rw [h2] at HV2
    clear HL HN h1 h2
    go_enter Tryz.func140, Tryz.ntmps140
    go_wp2_with fail
    refine (HV1.out _).mono ?_
    rintro e w' ⟨rfl, rfl⟩
    go_wp2_with fail
    refine (HV2.out _).mono ?_
    rintro e w' ⟨rfl, rfl⟩
    go_wp2
    go_ret
    exact ⟨rfl, Below.refl _ _⟩
  | true =>
  rw [h2] at HV2
  have VV : Hid (Dec.isDec a = true ∧ Dec.isDec b = true) := ⟨h1, h2⟩
  clear h1 h2
  by_cases h3 : da ≤ 100
  case neg =>
    obtain rfl := HN.out (fun h => h3 h.2.2.1)
    clear HL HN VV
    go_enter Tryz.func140, Tryz.ntmps140
    go_wp2_with fail
    refine (HV1.out _).mono ?_
    rintro e w' ⟨rfl, rfl⟩
    go_wp2_with fail
    refine (HV2.out _).mono ?_
    rintro e w' ⟨rfl, rfl⟩
    go_wp2_with fail
    refine (HD1.out _).mono ?_
    rintro e w' ⟨rfl, rfl⟩
    go_wp2
    go_ret
    exact ⟨rfl, Below.refl _ _⟩
  by_cases h4 : db ≤ 100
  case neg =>
    obtain rfl := HN.out (fun h => h4 h.2.2.2)
    clear HL HN VV
    go_enter Tryz.func140, Tryz.ntmps140
    go_wp2_with fail
    refine (HV1.out _).mono ?_
    rintro e w' ⟨rfl, rfl⟩
    go_wp2_with fail
    refine (HV2.out _).mono ?_
    rintro e w' ⟨rfl, rfl⟩
    go_wp2_with fail
    refine (HD1.out _).mono ?_
    rintro e w' ⟨rfl, rfl⟩
    go_wp2_with fail
    refine (HD2.out _).mono ?_
    rintro e w' ⟨rfl, rfl⟩
    go_wp2
    go_ret
    exact ⟨rfl, Below.refl _ _⟩
  have HZ : Hid (z = decide (x = a ∧ y = b)) := by
    show z = _
    rw [HL.out]
    exact decide_eq_decide.2 ⟨fun h => ⟨h.1, h.2.1⟩, fun h => ⟨h.1, h.2, h3, h4⟩⟩
  clear HN HL VV
  by_cases h5 : x = a
  · by_cases h6 : y = b
    · obtain rfl : z = true := by rw [HZ.out]; exact decide_eq_true ⟨h5, h6⟩
      subst h5 h6
      clear HZ
      go_enter Tryz.func140, Tryz.ntmps140
      go_wp2_with fail
      refine (HV1.out _).mono ?_
      rintro e w' ⟨rfl, rfl⟩
      go_wp2_with fail
      refine (HV2.out _).mono ?_
      rintro e w' ⟨rfl, rfl⟩
      go_wp2_with fail
      refine (HD1.out _).mono ?_
      rintro e w' ⟨rfl, rfl⟩
      go_wp2_with fail
      refine (HD2.out _).mono ?_
      rintro e w' ⟨rfl, rfl⟩
      go_wp2_with fail
      refine (HR.out _ (Below.refl _ _)).mono ?_
      rintro e w1 ⟨rfl, hb1⟩
      go_wp2
      go_ret
      exact ⟨rfl, hb1⟩
    · obtain rfl : z = false := by rw [HZ.out]; exact decide_eq_false (fun h => h6 h.2)
      subst h5
      have hz : (y == b) = false := by rw [beq_eq_false_iff_ne]; exact h6
      clear HZ h6
      go_enter Tryz.func140, Tryz.ntmps140
      go_wp2_with fail
      refine (HV1.out _).mono ?_
      rintro e w' ⟨rfl, rfl⟩
      go_wp2_with fail
      refine (HV2.out _).mono ?_
      rintro e w' ⟨rfl, rfl⟩
      go_wp2_with fail
      refine (HD1.out _).mono ?_
      rintro e w' ⟨rfl, rfl⟩
      go_wp2_with fail
      refine (HD2.out _).mono ?_
      rintro e w' ⟨rfl, rfl⟩
      go_wp2_with fail
      refine (HR.out _ (Below.refl _ _)).mono ?_
      rintro e w1 ⟨rfl, hb1⟩
      go_wp2
      go_ret
      exact ⟨rfl, hb1⟩
  · obtain rfl : z = false := by rw [HZ.out]; exact decide_eq_false (fun h => h5 h.1)
    have hz : (x == a) = false := by rw [beq_eq_false_iff_ne]; exact h5
    clear HZ h5
    go_enter Tryz.func140, Tryz.ntmps140
    go_wp2_with fail
    refine (HV1.out _).mono ?_
    rintro e w' ⟨rfl, rfl⟩
    go_wp2_with fail
    refine (HV2.out _).mono ?_
    rintro e w' ⟨rfl, rfl⟩
    go_wp2_with fail
    refine (HD1.out _).mono ?_
    rintro e w' ⟨rfl, rfl⟩
    go_wp2_with fail
    refine (HD2.out _).mono ?_
    rintro e w' ⟨rfl, rfl⟩
    go_wp2_with fail
    refine (HR.out _ (Below.refl _ _)).mono ?_
    rintro e w1 ⟨rfl, hb1⟩
    go_wp2
    go_ret
    exact ⟨rfl, hb1⟩
set_option maxHeartbeats 4000000 in
set_option maxRecDepth 100000 in
theorem formed_any (ok : Nat → Prop) : ∀ (N : Nat) (o : Ob), o.size ≤ N → o.Wf → o.Sm → ∀ (A : Option Addr) (n c : Nat) (w : World), Tab w → Rd ok w (.slice A n c) (.row (o.pair.map Ob.enc)) →
    Calls Tryz.prog 100 #[objV o (.slice A n c)] w (RetBel (.bool o.formB) w) := by
  intro N
  induction N with
  | zero => intro o h; have := Ob.size_pos o; omega
  | succ N ih =>
    intro o hN hW hS A n c w ht hP
    obtain ⟨fb, hfb⟩ : ∃ fb, fb = o.formB := ⟨_, rfl⟩
    rw [← hfb]
    have HF0 : Hid (o.formB = fb) := hfb.symm
    clear hfb
    go_enter Tryz.func100, Tryz.ntmps100
    go_wp2
    go_loopg [2] o.size (fun gx lv wr => ∃ (x : Ob) (A2 : Option Addr) (n2 c2 : Nat), lv = .bool false ∧ Hid (BlkIs wr w.heap.size 36 (obCells x (.slice A2 n2 c2))) ∧ Rd ok w (.slice A2 n2 c2) (.row (x.pair.map Ob.enc)) ∧ x.size ≤ N + 1 ∧ Hid x.Wf ∧ Hid x.Sm ∧ Hid (x.formB = fb) ∧ x.size ≤ gx ∧ Below w.heap.size w wr)
    case atStart => exact ⟨o, A, n, c, rfl, Lib.hid (BlkIs.new w _ _), hP, hN, Lib.hid hW, Lib.hid hS, HF0, Nat.le_refl _, box _ _⟩
    case round =>
      clear HF0 hW hS hP
      obtain ⟨⟨xk, xn, xd, xp, xs, xt, xl'⟩, A2, n2, c2, rfl, X, hr, hxN, HXW, HXS, HF, hgx, hb⟩ := hrel
      have hlen := hr.len
      rw [List.length_map] at hlen
      have hw1 := HXW.out.len
      have hs1 := HXS.out.len
      dsimp only at hlen hw1 hs1 hr X
      have hn2 : n2 ≤ 9223372036854775807 := by rw [← hlen]; exact hw1
      obtain ⟨hs1, hs2⟩ := hs1
      clear hw1
      obtain ⟨x0, x1, x2, x3, x4, x5, x6, xl⟩ := X.out.seven
      obtain ⟨xf0, xf1, xf2, xf3, xf4, xf5, xf6⟩ := X.out.frozen7
      by_cases h4 : xk = 4
      · subst h4
        have HBR : Hid (∀ w' : World, Calls Tryz.prog 139 #[objV ⟨4, xn, xd, xp, xs, xt, xl'⟩ (.slice A2 n2 c2), .bool false, .bool false, .bool false] w' (RetBel (.bool (decide (xn = [] ∧ xd = [] ∧ xp = [] ∧ xs = [] ∧ xt = []))) w')) := fun w' => bareC_any ⟨4, xn, xd, xp, xs, xt, xl'⟩ A2 n2 c2 w'
        by_cases h2 : n2 = 2
        case neg =>
          obtain rfl : fb = false := by rw [← HF.out, Ob.formB_eq, if_pos rfl]; rw [Bool.eq_false_iff]; intro h; simp only [Bool.and_eq_true, decide_eq_true_eq] at h; exact h2 (by rw [← hlen]; simp [h])
          have hz : ((n2 : Int) != 2) = true := by rw [bne_iff_ne]; omega
          clear HF HBR hlen
          go_wp2
          go_ret
          exact ⟨rfl, hb⟩
        subst h2
        by_cases hbr : xn = [] ∧ xd = [] ∧ xp = [] ∧ xs = [] ∧ xt = []
        case neg =>
          rw [decide_eq_false hbr] at HBR
          obtain rfl : fb = false := by rw [← HF.out, Ob.formB_eq, if_pos rfl]; rw [Bool.eq_false_iff]; intro h; simp only [Bool.and_eq_true, decide_eq_true_eq] at h; exact hbr (by simp [h])
          clear HF hbr hlen
          go_wp2_with fail
          refine (HBR.out _).mono ?_
          rintro e w1 ⟨rfl, hb1⟩
          go_wp2
          go_ret
          exact ⟨rfl, then_ hb hb1⟩
        rw [decide_eq_true hbr] at HBR
        obtain ⟨rfl, rfl, rfl, rfl, rfl⟩ := hbr
        obtain ⟨a, d, rfl⟩ := Ob.two_of_length hlen
        have hsa := Ob.size_pair (o := ⟨4, [], [], [], [], [], [a, d]⟩) (x := a) (by simp)
        have hsd := Ob.size_pair (o := ⟨4, [], [], [], [], [], [a, d]⟩) (x := d) (by simp)
        have HWa := Lib.hid (HXW.out.kids (x := a) (by simp))
        have HWd := Lib.hid (HXW.out.kids (x := d) (by simp))
        have HSa := Lib.hid (HXS.out.kids (x := a) (by simp))
        have HSd := Lib.hid (HXS.out.kids (x := d) (by simp))
        have HF2 : Hid ((a.formB && d.formB) = fb) := by
          show _ = fb
          rw [← HF.out, Ob.formB_eq, if_pos rfl]
          simp [Ob.allB]
        clear hlen HF HXW HXS
        go_wp2_with fail
        refine (HBR.out _).mono ?_
        rintro e w1 ⟨rfl, hb1⟩
        have b1 := then_ hb hb1
        have X1 := Lib.hid (X.out.below hb1)
        clear x0 xf0 x1 xf1 x2 xf2 x3 xf3 x4 xf4 x5 xf5 x6 xf6
        obtain ⟨y0, y1, y2, y3, y4, y5, y6, yl⟩ := X1.out.seven
        obtain ⟨b, q, _, A3, n3, c3', rfl, hbl, _, a0, a1, a2, a3, a4, a5, a6, ha⟩ := hr.objs b1 (i := 0) (by omega)
        simp only [List.getElem_cons_zero, Nat.zero_mul, Nat.add_zero] at a0 a1 a2 a3 a4 a5 a6 ha
        have hbl' := Nat.lt_of_lt_of_le hbl b1.size
        have HC := Lib.hid (ih a (by omega) HWa.out HSa.out A3 n3 c3' w1 (ht.below b1) (ha.under b1))
        generalize a.formB = ba at *
        go_wp2_with fail
        refine HC.out.mono ?_
        rintro e w2 ⟨rfl, hb2⟩
        have b2 := then_ b1 hb2
        have X2 := Lib.hid (X1.out.below hb2)
        clear y0 y1 y2 y3 y4 y5 y6 a0 a1 a2 a3 a4 a5 a6
        cases ba with
        | false =>
          obtain rfl : fb = false := HF2.out.symm
          clear HF2
          go_wp2
          go_ret
          exact ⟨rfl, b2⟩
        | true =>
          obtain ⟨z0, z1, z2, z3, z4, z5, z6, zl⟩ := X2.out.seven
          obtain ⟨zf0, zf1, zf2, zf3, zf4, zf5, zf6⟩ := X2.out.frozen7
          obtain ⟨b', q', _, A4, n4, c4', eA, _, _, d0, d1, d2, d3, d4, d5, d6, hd⟩ := hr.objs b2 (i := 1) (by omega)
          injection eA with eA
          injection eA with eb eq
          subst eb eq
          simp only [List.getElem_cons_zero, List.getElem_cons_succ, Nat.one_mul] at d0 d1 d2 d3 d4 d5 d6 hd
          have hbl2 := Nat.lt_of_lt_of_le hbl b2.size
          go_wp2
          go_roundg d.size
          case measure => omega
          case rel => exact ⟨d, A4, n4, c4', rfl, Lib.hid X2.out.put7, hd, by omega, HWd, HSd, Lib.hid HF2.out, Nat.le_refl _, set7 b2 (Nat.le_refl _) _ _ _ _ _ _ _⟩
      have e4 : (xk == 4) = false := by rw [beq_eq_false_iff_ne]; exact h4
      have HT := Lib.hid (HXW.out)
      by_cases h1 : xk = 1
      · subst h1
        clear h4 e4
        have HBR : Hid (∀ w' : World, Calls Tryz.prog 139 #[objV ⟨1, xn, xd, xp, xs, xt, xl'⟩ (.slice A2 n2 c2), .bool true, .bool false, .bool false] w' (RetBel (.bool (decide (xp = [] ∧ xs = [] ∧ xt = []))) w')) := fun w' => bareN_any ⟨1, xn, xd, xp, xs, xt, xl'⟩ A2 n2 c2 w'
        by_cases hbr : xp = [] ∧ xs = [] ∧ xt = []
        case neg =>
          rw [decide_eq_false hbr] at HBR
          obtain rfl : fb = false := by rw [← HF.out, Ob.formB_eq]; simp only [show ¬ ((1 : Int) = 4) by decide, if_false, if_true]; rw [Bool.eq_false_iff]; intro h; simp only [Bool.and_eq_true, decide_eq_true_eq] at h; exact hbr (by simp [h])
          clear HF hbr hlen
          go_wp2_with fail
          refine (HBR.out _).mono ?_
          rintro e w1 ⟨rfl, hb1⟩
          go_wp2
          go_ret
          exact ⟨rfl, then_ hb hb1⟩
        rw [decide_eq_true hbr] at HBR
        by_cases hn0 : n2 = 0
        case neg =>
          obtain rfl : fb = false := by rw [← HF.out, Ob.formB_eq]; simp only [show ¬ ((1 : Int) = 4) by decide, if_false, if_true]; rw [Bool.eq_false_iff]; intro h; simp only [Bool.and_eq_true, decide_eq_true_eq] at h; exact hn0 (by rw [← hlen]; simp [h])
          have hz : ((n2 : Int) == 0) = false := by rw [beq_eq_false_iff_ne]; omega
          clear HF hbr hlen
          go_wp2_with fail
          refine (HBR.out _).mono ?_
          rintro e w1 ⟨rfl, hb1⟩
          have X1 := Lib.hid (X.out.below hb1)
          clear x0 xf0 x1 xf1 x2 xf2 x3 xf3 x4 xf4 x5 xf5 x6 xf6
          obtain ⟨y0, y1, y2, y3, y4, y5, y6, yl⟩ := X1.out.seven
          go_wp2
          go_ret
          exact ⟨rfl, then_ hb hb1⟩
        subst hn0
        obtain rfl : fb = lowB xn xd := by rw [← HF.out, Ob.formB_eq]; simp [hbr, hlen]
        have HLW : Hid (∀ w' : World, Below w.heap.size w w' → Calls Tryz.prog 140 #[str xn, str xd] w' (RetBel (.bool (lowB xn xd)) w')) := fun w' hb' => lowest_any xn xd w' (ht.below hb') hs1 hs2
        generalize lowB xn xd = bl at *
        clear HF hbr hlen
        go_wp2_with fail
        refine (HBR.out _).mono ?_
        rintro e w1 ⟨rfl, hb1⟩
        have X1 := Lib.hid (X.out.below hb1)
        clear x0 xf0 x1 xf1 x2 xf2 x3 xf3 x4 xf4 x5 xf5 x6 xf6
        obtain ⟨y0, y1, y2, y3, y4, y5, y6, yl⟩ := X1.out.seven
        go_wp2_with fail
        refine (HLW.out _ (then_ hb hb1)).mono ?_
        rintro e w2 ⟨rfl, hb2⟩
        cases bl
        · go_wp2
          go_ret
          exact ⟨rfl, then_ (then_ hb hb1) hb2⟩
        · go_wp2
          go_ret
          exact ⟨rfl, then_ (then_ hb hb1) hb2⟩
      have e1 : (xk == 1) = false := by rw [beq_eq_false_iff_ne]; exact h1
      by_cases h2 : xk = 2
      · subst h2
        clear h4 e4 h1 e1
        have HBR : Hid (∀ w' : World, Calls Tryz.prog 139 #[objV ⟨2, xn, xd, xp, xs, xt, xl'⟩ (.slice A2 n2 c2), .bool false, .bool true, .bool false] w' (RetBel (.bool (decide (xn = [] ∧ xd = [] ∧ xt = []))) w')) := fun w' => bareS_any ⟨2, xn, xd, xp, xs, xt, xl'⟩ A2 n2 c2 w'
        by_cases hbr : xn = [] ∧ xd = [] ∧ xt = []
        case neg =>
          rw [decide_eq_false hbr] at HBR
          obtain rfl : fb = false := by rw [← HF.out, Ob.formB_eq]; simp only [show ¬ ((2 : Int) = 4) by decide, if_false, if_true, show ¬ ((2 : Int) = 1) by decide]; rw [Bool.eq_false_iff]; intro h; simp only [Bool.and_eq_true, decide_eq_true_eq] at h; exact hbr (by simp [h])
          clear HF hbr hlen
          go_wp2_with fail
          refine (HBR.out _).mono ?_
          rintro e w1 ⟨rfl, hb1⟩
          go_wp2
          go_ret
          exact ⟨rfl, then_ hb hb1⟩
        rw [decide_eq_true hbr] at HBR
        by_cases hn0 : n2 = 0
        case neg =>
          obtain rfl : fb = false := by rw [← HF.out, Ob.formB_eq]; simp only [show ¬ ((2 : Int) = 4) by decide, if_false, if_true, show ¬ ((2 : Int) = 1) by decide]; rw [Bool.eq_false_iff]; intro h; simp only [Bool.and_eq_true, decide_eq_true_eq] at h; exact hn0 (by rw [← hlen]; simp [h])
          have hz : ((n2 : Int) == 0) = false := by rw [beq_eq_false_iff_ne]; omega
          clear HF hbr hlen
          go_wp2_with fail
          refine (HBR.out _).mono ?_
          rintro e w1 ⟨rfl, hb1⟩
          have X1 := Lib.hid (X.out.below hb1)
          clear x0 xf0 x1 xf1 x2 xf2 x3 xf3 x4 xf4 x5 xf5 x6 xf6
          obtain ⟨y0, y1, y2, y3, y4, y5, y6, yl⟩ := X1.out.seven
          go_wp2
          go_ret
          exact ⟨rfl, then_ hb hb1⟩
        subst hn0
        obtain rfl : fb = symOk ⟨xp, xs⟩ := by rw [← HF.out, Ob.formB_eq]; simp [hbr, hlen]
        have HLW : Hid (∀ w' : World, Calls Tryz.prog 141 #[.agg #[str xp, str xs]] w' (RetBel (.bool (symOk ⟨xp, xs⟩)) w')) := fun w' => objSymbol_any ⟨xp, xs⟩ w' (by cases HT.out; assumption) (by cases HT.out; assumption)
        generalize symOk ⟨xp, xs⟩ = bl at *
        clear HF hbr hlen
        go_wp2_with fail
        refine (HBR.out _).mono ?_
        rintro e w1 ⟨rfl, hb1⟩
        have X1 := Lib.hid (X.out.below hb1)
        clear x0 xf0 x1 xf1 x2 xf2 x3 xf3 x4 xf4 x5 xf5 x6 xf6
        obtain ⟨y0, y1, y2, y3, y4, y5, y6, yl⟩ := X1.out.seven
        go_wp2_with fail
        refine (HLW.out _).mono ?_
        rintro e w2 ⟨rfl, hb2⟩
        cases bl
        · go_wp2
          go_ret
          exact ⟨rfl, then_ (then_ hb hb1) hb2⟩
        · go_wp2
          go_ret
          exact ⟨rfl, then_ (then_ hb hb1) hb2⟩
      have e2 : (xk == 2) = false := by rw [beq_eq_false_iff_ne]; exact h2
      by_cases h3 : xk = 3
      · subst h3
        clear h4 e4 h1 e1 h2 e2
        have hxt : xt.length ≤ 9223372036854775807 := by cases HT.out; assumption
        have HBR : Hid (∀ w' : World, Calls Tryz.prog 139 #[objV ⟨3, xn, xd, xp, xs, xt, xl'⟩ (.slice A2 n2 c2), .bool false, .bool false, .bool true] w' (RetBel (.bool (decide (xn = [] ∧ xd = [] ∧ xp = [] ∧ xs = []))) w')) := fun w' => bareT_any ⟨3, xn, xd, xp, xs, xt, xl'⟩ A2 n2 c2 w'
        by_cases hbr : xn = [] ∧ xd = [] ∧ xp = [] ∧ xs = []
        case neg =>
          rw [decide_eq_false hbr] at HBR
          obtain rfl : fb = false := by rw [← HF.out, Ob.formB_eq]; simp only [show ¬ ((3 : Int) = 4) by decide, if_false, if_true, show ¬ ((3 : Int) = 1) by decide, show ¬ ((3 : Int) = 2) by decide]; rw [Bool.eq_false_iff]; intro h; simp only [decide_eq_true_eq] at h; exact hbr (by simp [h])
          clear HF hbr hlen
          go_wp2_with fail
          refine (HBR.out _).mono ?_
          rintro e w1 ⟨rfl, hb1⟩
          go_wp2
          go_ret
          exact ⟨rfl, then_ hb hb1⟩
        rw [decide_eq_true hbr] at HBR
        by_cases hn0 : n2 = 0
        case neg =>
          obtain rfl : fb = false := by rw [← HF.out, Ob.formB_eq]; simp only [show ¬ ((3 : Int) = 4) by decide, if_false, if_true, show ¬ ((3 : Int) = 1) by decide, show ¬ ((3 : Int) = 2) by decide]; rw [Bool.eq_false_iff]; intro h; simp only [decide_eq_true_eq] at h; exact hn0 (by rw [← hlen]; simp [h])
          have hz : ((n2 : Int) == 0) = false := by rw [beq_eq_false_iff_ne]; omega
          clear HF hbr hlen
          go_wp2_with fail
          refine (HBR.out _).mono ?_
          rintro e w1 ⟨rfl, hb1⟩
          have X1 := Lib.hid (X.out.below hb1)
          clear x0 xf0 x1 xf1 x2 xf2 x3 xf3 x4 xf4 x5 xf5 x6 xf6
          obtain ⟨y0, y1, y2, y3, y4, y5, y6, yl⟩ := X1.out.seven
          go_wp2
          go_ret
          exact ⟨rfl, then_ hb hb1⟩
        subst hn0
        by_cases h200 : xt.length ≤ 200
        · obtain rfl : fb = true := by rw [← HF.out, Ob.formB_eq]; simp [hbr, hlen, h200]
          have hd2 : decide ((xt.length : Int) ≤ 200) = true := decide_eq_true (by omega)
          clear HF hbr hlen HXW HXS HT
          go_wp2_with fail
          refine (HBR.out _).mono ?_
          rintro e w1 ⟨rfl, hb1⟩
          have X1 := Lib.hid (X.out.below hb1)
          clear x0 xf0 x1 xf1 x2 xf2 x3 xf3 x4 xf4 x5 xf5 x6 xf6
          obtain ⟨y0, y1, y2, y3, y4, y5, y6, yl⟩ := X1.out.seven
          go_wp2
          go_ret
          exact ⟨rfl, then_ hb hb1⟩
        · obtain rfl : fb = false := by rw [← HF.out, Ob.formB_eq]; simp [h200]
          have hd2 : decide ((xt.length : Int) ≤ 200) = false := decide_eq_false (by omega)
          clear HF hbr hlen HXW HXS HT
          go_wp2_with fail
          refine (HBR.out _).mono ?_
          rintro e w1 ⟨rfl, hb1⟩
          have X1 := Lib.hid (X.out.below hb1)
          clear x0 xf0 x1 xf1 x2 xf2 x3 xf3 x4 xf4 x5 xf5 x6 xf6
          obtain ⟨y0, y1, y2, y3, y4, y5, y6, yl⟩ := X1.out.seven
          go_wp2
          go_ret
          exact ⟨rfl, then_ hb hb1⟩
      have e3 : (xk == 3) = false := by rw [beq_eq_false_iff_ne]; exact h3
      obtain rfl : fb = false := by rw [← HF.out, Ob.formB_eq, if_neg h4, if_neg h1, if_neg h2, if_neg h3]
      clear HF h1 h2 h3 h4
      go_wp2
      go_ret
      exact ⟨rfl, hb⟩
/-- valid: not too many nodes, and formed -/
def Ob.validB (o : Ob) : Bool := decide (o.nodes ≤ 3000) && o.formB
set_option maxHeartbeats 1000000 in
theorem oValid_any (ok : Nat → Prop) (o : Ob) (hW : o.Wf) (hS : o.Sm) (A : Option Addr) (n c : Nat) (w : World) (ht : Tab w) (hP : Rd ok w (.slice A n c) (.row (o.pair.map Ob.enc))) :
    Calls Tryz.prog 56 #[objV o (.slice A n c)] w (RetBel (.bool o.validB) w) := by
  have HN : Hid (∀ w' : World, Below w.heap.size w w' → Calls Tryz.prog 99 #[objV o (.slice A n c)] w' (RetBel (.int .i64 (nodesP o)) w')) := fun w' hb => oNodes_any ok o A n c w' (hP.under hb)
  have HF : Hid (∀ w' : World, Below w.heap.size w w' → Calls Tryz.prog 100 #[objV o (.slice A n c)] w' (RetBel (.bool o.formB) w')) := fun w' hb => formed_any ok o.size o (Nat.le_refl _) hW hS A n c w' (ht.below hb) (hP.under hb)
  unfold Ob.validB
  by_cases hk : o.nodes ≤ 3000
  · have hk' : nodesP o ≤ 3000 := by unfold nodesP; split <;> omega
    rw [decide_eq_true hk, Bool.true_and]
    generalize o.formB = fb at *
    generalize nodesP o = z at *
    clear hk
    go_enter Tryz.func56, Tryz.ntmps56
    go_wp2_with fail
    refine (HN.out _ (box _ _)).mono ?_
    rintro e w1 ⟨rfl, hb1⟩
    have X1 := Lib.hid (BlkIs.via hb1)
    obtain ⟨y0, y1, y2, y3, y4, y5, y6, yl⟩ := X1.out.seven
    go_wp2_with fail
    refine (HF.out _ (via hb1)).mono ?_
    rintro e w2 ⟨rfl, hb2⟩
    go_wp2
    go_ret
    exact ⟨rfl, then_ (via hb1) hb2⟩
  · have hk' : ¬ nodesP o ≤ 3000 := by unfold nodesP; split <;> omega
    rw [decide_eq_false hk, Bool.false_and]
    generalize nodesP o = z at *
    clear hk
    go_enter Tryz.func56, Tryz.ntmps56
    go_wp2_with fail
    refine (HN.out _ (box _ _)).mono ?_
    rintro e w1 ⟨rfl, hb1⟩
    go_wp2
    go_ret
    exact ⟨rfl, via hb1⟩
end Go.Proofs.YtmkcnjfhdfanoaaGreatDoor
