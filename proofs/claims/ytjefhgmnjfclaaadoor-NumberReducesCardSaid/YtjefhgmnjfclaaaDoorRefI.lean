/- lispproverref1.Divide, Gcd, Reduce. -/
import Derived.Test.YtjefhgmnjfclaaaDoorRefH
import Derived.Test.YtjefhgmnjfclaaaDoorRefG
import Derived.Test.YtjefhgmnjfclaaaDoorNumI
namespace Go.Proofs.YtjefhgmnjfclaaaDoor
open Go.RowKit

theorem natAbs10 {x : Int} {n : Nat} (h : (Dec.limbs 10 x.natAbs).length = n) : n = 0 ↔ x = 0 := by
  subst h
  constructor
  · intro h
    have := (Dec.limbs_eq_nil (B := 10) (by omega)).1 (List.eq_nil_of_length_eq_zero h)
    omega
  · rintro rfl; rfl
theorem limbs10_pos {v n : Nat} (h : (Dec.limbs 10 v).length = n) (h0 : n ≠ 0) : 0 < v := by
  rcases Nat.eq_zero_or_pos v with e | e
  · subst e; rw [Dec.limbs_zero] at h; simp at h; omega
  · exact e
theorem length10_div {a b n : Nat} (h : (Dec.limbs 10 a).length = n) : (Dec.limbs 10 (a / b)).length ≤ n := by
  rw [← h]; exact Dec.limbs_length_mono (by omega) (Nat.div_le_self a b)
theorem length10_mod {a b n : Nat} (hb : 0 < b) (h : (Dec.limbs 10 b).length = n) : (Dec.limbs 10 (a % b)).length ≤ n := by
  rw [← h]; exact Dec.limbs_length_mono (by omega) (Nat.le_of_lt (Nat.mod_lt a hb))
theorem refTextN (ng : Bool) (A : Option Addr) (n c v : Nat) (l : List UInt8) (w : World) (hx : Sl w .i64 A n c (Dec.limbs 10 v)) (hn : n ≤ 100000000) (hv : numStr ng v = l) :
    Calls Tryd.prog 45 #[.bool ng, .slice A n c] w (RetStr l w) := by
  have := refText_any ng A n c _ w hx hn (Dec.limbs_small (by omega) v)
  rw [Dec.lval_limbs (by omega), hv] at this
  exact this

set_option maxHeartbeats 1000000 in
theorem refDiv_zero (a b : List UInt8) (w : World) (ha : a.length ≤ 900000) (hb : b.length ≤ 900000) (hy0 : Dec.dval b = 0) :
    Calls Tryd.prog 18 #[.string ⟨a.toArray⟩, .string ⟨b.toArray⟩] w (RetStr2 [48] (Lib.itoa (Dec.dval a)) w) := by
  have HP1 : Hid (∀ w' : World, Calls Tryd.prog 44 #[.string ⟨a.toArray⟩] w' (RetDig (a.length + 1) (Dec.dval a) w')) := fun w' => refDigW a (by omega) w'
  have HP2 : Hid (∀ w' : World, Calls Tryd.prog 44 #[.string ⟨b.toArray⟩] w' (RetDig (b.length + 1) 0 w')) := fun w' => by have := refDigW b (by omega) w'; rwa [hy0] at this
  clear hy0
  generalize Dec.dval a = x at *
  obtain ⟨s, hsd⟩ : ∃ s, s = decide (x < 0) := ⟨_, rfl⟩
  have HSD := Lib.hid hsd
  clear hsd
  go_enter Tryd.func18, Tryd.ntmps18
  go_wp2_with fail
  refine (HP1.out _).mono ?_
  rintro e w1 ⟨A1, n1, c1, rfl, hs1, hn1, hb1⟩
  rw [← HSD.out]
  go_wp2_with fail
  refine (HP2.out _).mono ?_
  rintro e w2 ⟨A2, n2, c2, rfl, hs2, hn2, hb2⟩
  have hbw2 := hb1.trans (hb2.mono hb1.size)
  obtain rfl : n2 = 0 := (natAbs10 (x := 0) hs2.len).2 rfl
  go_wp2_with fail
  refine (refTextV s A1 n1 c1 _ x _ (hs1.below hb2) (by omega) (by rw [HSD.out]; by_cases h : x < 0 <;> simp [h] <;> omega)).mono ?_
  rintro e w3 ⟨rfl, hb3⟩
  go_wp2
  go_ret2
  exact ⟨rfl, hbw2.trans (hb3.mono hbw2.size)⟩

set_option maxHeartbeats 2000000 in
theorem refDiv_easy (a b : List UInt8) (w : World) (ha : a.length ≤ 900000) (hb : b.length ≤ 900000) (x y : Int) (hxv : Dec.dval a = x) (hyv : Dec.dval b = y) (hy0 : y ≠ 0) (s s' z : Bool) (hsd : decide (x < 0) = s) (hsd' : decide (y < 0) = s')
    (hz : (!(s == s')) = z) (hcase : z = false ∨ x.natAbs % y.natAbs = 0) (q r : List UInt8) (HQ : Hid (numStr z (x.natAbs / y.natAbs) = q)) (HR : Hid (numStr s' (x.natAbs % y.natAbs) = r)) :
    Calls Tryd.prog 18 #[.string ⟨a.toArray⟩, .string ⟨b.toArray⟩] w (RetStr2 q r w) := by
  have HP1 : Hid (∀ w' : World, Calls Tryd.prog 44 #[.string ⟨a.toArray⟩] w' (RetDig (a.length + 1) x w')) := fun w' => by have := refDigW a (by omega) w'; rwa [hxv] at this
  have HP2 : Hid (∀ w' : World, Calls Tryd.prog 44 #[.string ⟨b.toArray⟩] w' (RetDig (b.length + 1) y w')) := fun w' => by have := refDigW b (by omega) w'; rwa [hyv] at this
  have HSD := Lib.hid hsd
  have HSD' := Lib.hid hsd'
  have hyp : 0 < y.natAbs := by omega
  have HCase := Lib.hid hcase
  clear hcase
  clear hsd hsd' hxv hyv
  go_enter Tryd.func18, Tryd.ntmps18
  go_wp2_with fail
  refine (HP1.out _).mono ?_
  rintro e w1 ⟨A1, n1, c1, rfl, hs1, hn1, hb1⟩
  rw [HSD.out]
  go_wp2_with fail
  refine (HP2.out _).mono ?_
  rintro e w2 ⟨A2, n2, c2, rfl, hs2, hn2, hb2⟩
  rw [HSD'.out]
  have hbw2 := hb1.trans (hb2.mono hb1.size)
  have hn20 : ((n2 : Int) == 0) = false := by rw [beq_eq_false_iff_ne]; intro e; exact hy0 ((natAbs10 hs2.len).1 (by omega))
  clear hy0
  have hsA := hs1.below hb2
  have hlq := length10_div (b := y.natAbs) hsA.len
  have hlr := length10_mod (a := x.natAbs) hyp hs2.len
  go_wp2_with fail
  refine (refOver_any A1 A2 n1 n2 c1 c2 _ _ w2 hsA hs2 (by omega) (by omega) hyp).mono ?_
  rintro e w3 ⟨A3, n3, c3, A4, n4, c4, rfl, hs3, hs4, hb3⟩
  have hbw3 := hbw2.trans (hb3.mono hbw2.size)
  have hn3 : n3 ≤ n1 := by rw [← hs3.len]; exact hlq
  have hn4 : n4 ≤ n2 := by rw [← hs4.len]; exact hlr
  have HN4 := Lib.hid hs4.len
  by_cases hzt : z = true
  · have hn40 : n4 = 0 := by
      rcases HCase.out with h | h
      · rw [h] at hzt; cases hzt
      · have := HN4.out; rw [h] at this; simpa [Dec.limbs_zero] using this.symm
    subst hn40
    subst hzt
    go_wp2_with fail
    refine (refTextN true A3 n3 c3 _ q _ hs3 (by omega) HQ.out).mono ?_
    rintro e w4 ⟨rfl, hb4⟩
    have hbw4 := hbw3.trans (hb4.mono hbw3.size)
    go_wp2_with fail
    refine (refTextN s' A4 0 c4 _ r _ (hs4.below hb4) (by omega) HR.out).mono ?_
    rintro e w5 ⟨rfl, hb5⟩
    go_wp2
    go_ret2
    exact ⟨rfl, hbw4.trans (hb5.mono hbw4.size)⟩
  · have hzf : z = false := by cases z <;> simp_all
    subst hzf
    go_wp2_with fail
    refine (refTextN false A3 n3 c3 _ q _ hs3 (by omega) HQ.out).mono ?_
    rintro e w4 ⟨rfl, hb4⟩
    have hbw4 := hbw3.trans (hb4.mono hbw3.size)
    go_wp2_with fail
    refine (refTextN s' A4 n4 c4 _ r _ (hs4.below hb4) (by omega) HR.out).mono ?_
    rintro e w5 ⟨rfl, hb5⟩
    go_wp2
    go_ret2
    exact ⟨rfl, hbw4.trans (hb5.mono hbw4.size)⟩

set_option maxHeartbeats 2000000 in
theorem refDiv_hard (a b : List UInt8) (w : World) (ha : a.length ≤ 900000) (hb : b.length ≤ 900000) (x y : Int) (hxv : Dec.dval a = x) (hyv : Dec.dval b = y) (hy0 : y ≠ 0) (s s' : Bool) (hsd : decide (x < 0) = s) (hsd' : decide (y < 0) = s')
    (hz : (!(s == s')) = true) (hcase : x.natAbs % y.natAbs ≠ 0) (q r : List UInt8) (HQ : Hid (numStr true (x.natAbs / y.natAbs + 1) = q)) (HR : Hid (numStr s' (y.natAbs - x.natAbs % y.natAbs) = r)) :
    Calls Tryd.prog 18 #[.string ⟨a.toArray⟩, .string ⟨b.toArray⟩] w (RetStr2 q r w) := by
  have HP1 : Hid (∀ w' : World, Calls Tryd.prog 44 #[.string ⟨a.toArray⟩] w' (RetDig (a.length + 1) x w')) := fun w' => by have := refDigW a (by omega) w'; rwa [hxv] at this
  have HP2 : Hid (∀ w' : World, Calls Tryd.prog 44 #[.string ⟨b.toArray⟩] w' (RetDig (b.length + 1) y w')) := fun w' => by have := refDigW b (by omega) w'; rwa [hyv] at this
  have HSD := Lib.hid hsd
  have HSD' := Lib.hid hsd'
  have hyp : 0 < y.natAbs := by omega
  have HCase := Lib.hid hcase
  clear hcase
  clear hsd hsd' hxv hyv
  go_enter Tryd.func18, Tryd.ntmps18
  go_wp2_with fail
  refine (HP1.out _).mono ?_
  rintro e w1 ⟨A1, n1, c1, rfl, hs1, hn1, hb1⟩
  rw [HSD.out]
  go_wp2_with fail
  refine (HP2.out _).mono ?_
  rintro e w2 ⟨A2, n2, c2, rfl, hs2, hn2, hb2⟩
  rw [HSD'.out]
  have hbw2 := hb1.trans (hb2.mono hb1.size)
  have hn20 : ((n2 : Int) == 0) = false := by rw [beq_eq_false_iff_ne]; intro e; exact hy0 ((natAbs10 hs2.len).1 (by omega))
  clear hy0
  have hsA := hs1.below hb2
  have hlq := length10_div (b := y.natAbs) hsA.len
  have hlr := length10_mod (a := x.natAbs) hyp hs2.len
  go_wp2_with fail
  refine (refOver_any A1 A2 n1 n2 c1 c2 _ _ w2 hsA hs2 (by omega) (by omega) hyp).mono ?_
  rintro e w3 ⟨A3, n3, c3, A4, n4, c4, rfl, hs3, hs4, hb3⟩
  have hbw3 := hbw2.trans (hb3.mono hbw2.size)
  have hn3 : n3 ≤ n1 := by rw [← hs3.len]; exact hlq
  have hn4 : n4 ≤ n2 := by rw [← hs4.len]; exact hlr
  have HN4 := Lib.hid hs4.len
  have hn4p : 0 < n4 := by
    rcases Nat.eq_zero_or_pos n4 with e | e
    · have := (Dec.limbs_eq_nil (B := 10) (by omega)).1 (List.eq_nil_of_length_eq_zero (HN4.out.trans e))
      exact absurd this HCase.out
    · exact e
  have hml := Nat.mod_lt x.natAbs hyp
  have hone := Sl.one w3 .i64 3 1
  have hbW : Below w3.heap.size w3 (w3.alloc (.cells #[.int .i64 ((1 : Nat) : Int)] 3)) := (Below.refl _ _).alloc (Nat.le_refl _) _
  have hP := refPlus_any A3 (some ⟨w3.heap.size, 0, none⟩) n3 1 c3 1 _ [1] (w3.alloc (.cells #[.int .i64 ((1 : Nat) : Int)] 3)) (hs3.below hbW) hone (by omega) (by omega) (Dec.limbs_small (by omega) _) (Dec.Small.cons (by omega) Dec.Small.nil)
  rw [Dec.lval_limbs (by omega), show Dec.lval 10 [1] = 1 from rfl] at hP
  have HP := Lib.hid hP
  clear hP hone
  go_wp2_with fail
  refine HP.out.mono ?_
  rintro e w4 ⟨A5, n5, c5, o5, rfl, hn5, hs5, hso5, hv5, hb5, _⟩
  have HV5 := Lib.hid hv5
  clear hv5
  have hb45 := hbW.trans (hb5.mono hbW.size)
  have hbw4 := hbw3.trans (hb45.mono hbw3.size)
  have hM := refMinus_any A2 A4 n2 n4 c2 c4 _ _ w4 ((hs2.below hb3).below hb45) (hs4.below hb45) (by omega) hn4 (Dec.limbs_small (by omega) _) (Dec.limbs_small (by omega) _) (by rw [Dec.lval_limbs (by omega), Dec.lval_limbs (by omega)]; omega)
  rw [Dec.lval_limbs (by omega), Dec.lval_limbs (by omega)] at hM
  have HM := Lib.hid hM
  clear hM
  have hll : (Dec.limbs 10 (y.natAbs - x.natAbs % y.natAbs)).length ≤ n2 := by rw [← hs2.len]; exact Dec.limbs_length_mono (by omega) (by omega)
  go_wp2_with fail
  refine HM.out.mono ?_
  rintro e w6 ⟨A6, n6, c6, rfl, hs6, hb6, _⟩
  have hn6 : n6 ≤ n2 := by rw [← hs6.len]; exact hll
  have hbw6 := hbw4.trans (hb6.mono hbw4.size)
  have hX := refText_any true A5 n5 c5 o5 w6 (hs5.below hb6) (by omega) hso5
  rw [HV5.out, HQ.out] at hX
  have HX := Lib.hid hX
  clear hX
  go_wp2_with fail
  refine HX.out.mono ?_
  rintro e w7 ⟨rfl, hb7⟩
  have hbw7 := hbw6.trans (hb7.mono hbw6.size)
  go_wp2_with fail
  refine (refTextN s' A6 n6 c6 _ r _ (hs6.below hb7) (by omega) HR.out).mono ?_
  rintro e w8 ⟨rfl, hb8⟩
  go_wp2
  go_ret2
  exact ⟨rfl, hbw7.trans (hb8.mono hbw7.size)⟩

theorem refDiv_any (a b : List UInt8) (w : World) (ha : a.length ≤ 900000) (hb : b.length ≤ 900000) :
    Calls Tryd.prog 18 #[.string ⟨a.toArray⟩, .string ⟨b.toArray⟩] w (RetStr2 (Lib.itoa (qd (Dec.dval a) (Dec.dval b))) (Lib.itoa (rm (Dec.dval a) (Dec.dval b))) w) := by
  by_cases hy : Dec.dval b = 0
  · have := refDiv_zero a b w ha hb hy
    rw [hy, qd_zero, rm_zero, Dec.itoa_zero]
    exact this
  · generalize hx : Dec.dval a = x
    generalize hyv : Dec.dval b = y at hy
    cases hs : decide (y < 0) with
    | _ =>
      by_cases hd : decide (x < 0) = decide (y < 0)
      · obtain ⟨h1, h2⟩ := qd_same hy (hd.trans hs) hs
        exact refDiv_easy a b w ha hb x y hx hyv hy _ _ false (hd.trans hs) hs (by simp) (.inl rfl) _ _ (Lib.hid (numStr_eq (by simpa using h1))) (Lib.hid (numStr_eq h2))
      · have hd' : decide (x < 0) = !(decide (y < 0)) := by cases h1 : decide (x < 0) <;> cases h2 : decide (y < 0) <;> simp_all
        rw [hs] at hd'
        by_cases h0 : x.natAbs % y.natAbs = 0
        · obtain ⟨h1, h2⟩ := qd_diff0 hy hd' hs h0
          exact refDiv_easy a b w ha hb x y hx hyv hy _ _ true hd' hs (by simp) (.inr h0) _ _ (Lib.hid (numStr_eq (by simpa using h1))) (Lib.hid (by rw [h0, numStr_zero, h2, Dec.itoa_zero]))
        · obtain ⟨h1, h2⟩ := qd_diff hy hd' hs h0
          exact refDiv_hard a b w ha hb x y hx hyv hy _ _ hd' hs (by simp) h0 _ _ (Lib.hid (numStr_eq (by simpa using h1))) (Lib.hid (numStr_eq h2))

set_option maxHeartbeats 1000000 in
theorem refGcd_any (a b : List UInt8) (w : World) (ha : a.length ≤ 900000) (hb : b.length ≤ 900000) :
    Calls Tryd.prog 20 #[.string ⟨a.toArray⟩, .string ⟨b.toArray⟩] w (RetStr (Lib.itoa (Nat.gcd (Dec.dval a).natAbs (Dec.dval b).natAbs : Nat)) w) := by
  have HP1 : Hid (∀ w' : World, Calls Tryd.prog 44 #[.string ⟨a.toArray⟩] w' (RetDig (a.length + 1) (Dec.dval a) w')) := fun w' => refDigW a (by omega) w'
  have HP2 : Hid (∀ w' : World, Calls Tryd.prog 44 #[.string ⟨b.toArray⟩] w' (RetDig (b.length + 1) (Dec.dval b) w')) := fun w' => refDigW b (by omega) w'
  generalize Dec.dval a = x at *
  generalize Dec.dval b = y at *
  generalize hG : Nat.gcd x.natAbs y.natAbs = G
  have HG := Lib.hid hG
  clear hG
  obtain ⟨s, hsd⟩ : ∃ s, s = decide (x < 0) := ⟨_, rfl⟩
  have HSD := Lib.hid hsd
  clear hsd
  obtain ⟨s', hsd'⟩ : ∃ s', s' = decide (y < 0) := ⟨_, rfl⟩
  have HSD' := Lib.hid hsd'
  clear hsd'
  go_enter Tryd.func20, Tryd.ntmps20
  go_wp2_with fail
  refine (HP1.out _).mono ?_
  rintro e w1 ⟨A1, n1, c1, rfl, hs1, hn1, hb1⟩
  rw [← HSD.out]
  go_wp2_with fail
  refine (HP2.out _).mono ?_
  rintro e w2 ⟨A2, n2, c2, rfl, hs2, hn2, hb2⟩
  rw [← HSD'.out]
  have hbw2 := hb1.trans (hb2.mono hb1.size)
  go_wp2_with fail
  go_loopg [6, 8] y.natAbs (fun kx s5 s6 wr => ∃ (A B : Option Addr) (n c m d u v : Nat), s5 = .slice A n c ∧ s6 = .slice B m d ∧ Sl wr .i64 A n c (Dec.limbs 10 u) ∧ Sl wr .i64 B m d (Dec.limbs 10 v) ∧ n ≤ 900001 ∧ m ≤ 900001 ∧ v ≤ kx ∧ Hid (Nat.gcd u v = G) ∧ Below w.heap.size w wr)
  case atStart => exact ⟨A1, A2, n1, c1, n2, c2, _, _, rfl, rfl, hs1.below hb2, hs2, by omega, by omega, Nat.le_refl _, HG, hbw2⟩
  case round =>
    obtain ⟨A, B, n, c, m, d, u, v, rfl, rfl, hu, hv, hn, hm, hk, HGu, hb⟩ := hrel
    by_cases hm0 : 0 < m
    · have hv0 : 0 < v := limbs10_pos hv.len (by omega)
      have hlr := length10_mod (a := u) hv0 hv.len
      have hml := Nat.mod_lt u hv0
      have HGn : Hid (Nat.gcd v (u % v) = G) := by show _ = _; rw [← HGu.out, Nat.gcd_comm v, ← Nat.gcd_rec, Nat.gcd_comm]
      have HDv := Lib.hid (refOver_any A B n m c d u v wr hu hv (by omega) (by omega) hv0)
      go_wp2_with (go_at_call 51; refine HDv.out.mono ?_; rintro e w3 ⟨A3, n3, c3, A4, n4, c4, rfl, hs3, hs4, hb3⟩; have hn4 : n4 ≤ m := (by rw [← hs4.len]; exact hlr))
      go_roundg (u % v)
      case measure => omega
      case rel => exact ⟨B, A4, m, d, n4, c4, v, u % v, rfl, rfl, hv.below hb3, hs4, hm, by omega, Nat.le_refl _, HGn, hb.trans (hb3.mono hb.size)⟩
    · have hv0 : v = 0 := (Dec.limbs_eq_nil (B := 10) (by omega)).1 (List.eq_nil_of_length_eq_zero (by rw [hv.len]; omega))
      subst hv0
      have HE : Hid (numStr false u = Lib.itoa (G : Int)) := by show _ = _; rw [← HGu.out, Nat.gcd_zero_right]; rfl
      go_wp2_with fail
      refine (refTextN false A n c u _ _ hu (by omega) HE.out).mono ?_
      rintro e w3 ⟨rfl, hb3⟩
      go_wp2
      go_ret
      exact ⟨rfl, hb.trans (hb3.mono hb.size)⟩

/-! ### Reduce -/
theorem rd_num {x y : Int} {z : Bool} (hy : y ≠ 0) (hz : (!(decide (x < 0) == decide (y < 0))) = z) : (if z then -((x.natAbs / Nat.gcd x.natAbs y.natAbs : Nat) : Int) else ((x.natAbs / Nat.gcd x.natAbs y.natAbs : Nat) : Int)) = rdN x y := by
  have hg : 0 < Nat.gcd x.natAbs y.natAbs := Nat.gcd_pos_of_pos_right _ (by omega)
  have hd := Nat.gcd_dvd_left x.natAbs y.natAbs
  unfold rdN
  rw [if_neg hy]
  generalize Nat.gcd x.natAbs y.natAbs = g at *
  obtain ⟨k, hk⟩ := hd
  rw [hk, Nat.mul_div_cancel_left _ hg]
  have hgk : ((g * k : Nat) : Int) = (g : Int) * k := Int.natCast_mul _ _
  by_cases h1 : x < 0 <;> by_cases h2 : y < 0
  · have e : rdX x y = k * g + 0 := by unfold rdX; rw [if_pos h2, Int.mul_comm, ← hgk]; omega
    rw [(qd_of_pos (by omega) e (by omega) (by omega)).1]
    subst hz; simp [h1, h2]
  · have e : rdX x y = (-(k : Int)) * g + 0 := by unfold rdX; rw [if_neg h2, Int.neg_mul, Int.mul_comm, ← hgk]; omega
    rw [(qd_of_pos (by omega) e (by omega) (by omega)).1]
    subst hz; simp [h1, h2]
  · have e : rdX x y = (-(k : Int)) * g + 0 := by unfold rdX; rw [if_pos h2, Int.neg_mul, Int.mul_comm, ← hgk]; omega
    rw [(qd_of_pos (by omega) e (by omega) (by omega)).1]
    subst hz; simp [h1, h2]
  · have e : rdX x y = k * g + 0 := by unfold rdX; rw [if_neg h2, Int.mul_comm, ← hgk]; omega
    rw [(qd_of_pos (by omega) e (by omega) (by omega)).1]
    subst hz; simp [h1, h2]
theorem rd_den {x y : Int} (hy : y ≠ 0) : (if false = true then -((y.natAbs / Nat.gcd x.natAbs y.natAbs : Nat) : Int) else ((y.natAbs / Nat.gcd x.natAbs y.natAbs : Nat) : Int)) = rdD x y := by
  have hg : 0 < Nat.gcd x.natAbs y.natAbs := Nat.gcd_pos_of_pos_right _ (by omega)
  have hd := Nat.gcd_dvd_right x.natAbs y.natAbs
  unfold rdD
  rw [if_neg hy]
  generalize Nat.gcd x.natAbs y.natAbs = g at *
  obtain ⟨k, hk⟩ := hd
  rw [hk, Nat.mul_div_cancel_left _ hg]
  have hgk : ((g * k : Nat) : Int) = (g : Int) * k := Int.natCast_mul _ _
  have e : rdY y = k * g + 0 := by unfold rdY; split <;> rw [Int.mul_comm, ← hgk] <;> omega
  rw [(qd_of_pos (by omega) e (by omega) (by omega)).1]
  simp

set_option maxHeartbeats 2000000 in
theorem refReduce_any (a b : List UInt8) (w : World) (ha : a.length ≤ 400000) (hb : b.length ≤ 400000) :
    Calls Tryd.prog 22 #[.string ⟨a.toArray⟩, .string ⟨b.toArray⟩] w (RetStr2 (Lib.itoa (rdN (Dec.dval a) (Dec.dval b))) (Lib.itoa (rdD (Dec.dval a) (Dec.dval b))) w) := by
  have HP1 : Hid (∀ w' : World, Calls Tryd.prog 44 #[.string ⟨a.toArray⟩] w' (RetDig (a.length + 1) (Dec.dval a) w')) := fun w' => refDigW a (by omega) w'
  have HP2 : Hid (∀ w' : World, Calls Tryd.prog 44 #[.string ⟨b.toArray⟩] w' (RetDig (b.length + 1) (Dec.dval b) w')) := fun w' => refDigW b (by omega) w'
  have HG : Hid (∀ w' : World, Calls Tryd.prog 20 #[.string ⟨a.toArray⟩, .string ⟨b.toArray⟩] w' (RetStr (Lib.itoa (Nat.gcd (Dec.dval a).natAbs (Dec.dval b).natAbs : Nat)) w')) := fun w' => refGcd_any a b w' (by omega) (by omega)
  have hgl : (Lib.itoa (Nat.gcd (Dec.dval a).natAbs (Dec.dval b).natAbs : Nat)).length ≤ 400002 := by
    obtain ⟨K, hK⟩ : ∃ K, K = 400001 := ⟨_, rfl⟩
    have := gcd_len (K := K) (x := Dec.dval a) (y := Dec.dval b) (by omega) (dval_lt18 (by omega)) (dval_lt18 (by omega))
    omega
  generalize Dec.dval a = x at *
  generalize Dec.dval b = y at *
  by_cases hy : y = 0
  · subst hy
    rw [show rdN x 0 = 0 from rfl, show rdD x 0 = 1 from rfl, Dec.itoa_zero, itoa_one]
    go_enter Tryd.func22, Tryd.ntmps22
    go_wp2_with fail
    refine (HP2.out _).mono ?_
    rintro e w2 ⟨A2, n2, c2, rfl, hs2, hn2, hb2⟩
    obtain rfl : n2 = 0 := (natAbs10 (x := 0) hs2.len).2 rfl
    go_wp2
    go_ret2
    exact ⟨rfl, hb2⟩
  · obtain ⟨z, hz⟩ : ∃ z, z = (!(decide (x < 0) == decide (y < 0))) := ⟨_, rfl⟩
    have HN := Lib.hid (rd_num (x := x) hy hz.symm)
    have HD := Lib.hid (rd_den (x := x) hy)
    have hg0 : 0 < Nat.gcd x.natAbs y.natAbs := Nat.gcd_pos_of_pos_right _ (by omega)
    generalize Nat.gcd x.natAbs y.natAbs = g at *
    have HPg : Hid (∀ w' : World, Calls Tryd.prog 44 #[.string ⟨(Lib.itoa (g : Int)).toArray⟩] w' (RetDig 400100 (g : Int) w')) := fun w' => by
      have := refDigW (Lib.itoa (g : Int)) (by omega) w'
      rw [Dec.dval_itoa] at this
      exact this.mono (by
        rintro e w'' ⟨A, n, c, h1, h2, h3, h4⟩
        exact ⟨A, n, c, h1, h2, by omega, h4⟩)
    obtain ⟨s, hsd⟩ : ∃ s, s = decide (x < 0) := ⟨_, rfl⟩
    obtain ⟨s', hsd'⟩ : ∃ s', s' = decide (y < 0) := ⟨_, rfl⟩
    rw [← hsd, ← hsd'] at hz
    have hz' : (!(s == s')) = z := hz.symm
    have HSD := Lib.hid hsd
    have HSD' := Lib.hid hsd'
    clear hsd hsd' hz hgl
    go_enter Tryd.func22, Tryd.ntmps22
    go_wp2_with fail
    refine (HP2.out _).mono ?_
    rintro e w2 ⟨A2, n2, c2, rfl, hs2, hn2, hb2⟩
    rw [← HSD'.out]
    have hn20 : ((n2 : Int) == 0) = false := by rw [beq_eq_false_iff_ne]; intro e; exact hy ((natAbs10 hs2.len).1 (by omega))
    clear hy
    go_wp2_with fail
    refine (HP1.out _).mono ?_
    rintro e w1 ⟨A1, n1, c1, rfl, hs1, hn1, hb1⟩
    rw [← HSD.out]
    have b1 := hb2.trans (hb1.mono hb2.size)
    have hsB1 := hs2.below hb1
    go_wp2_with fail
    refine (HG.out _).mono ?_
    rintro e w3 ⟨rfl, hb3⟩
    have b3 := b1.trans (hb3.mono b1.size)
    have hsA3 := hs1.below hb3
    have hsB3 := hsB1.below hb3
    go_wp2_with fail
    refine (HPg.out _).mono ?_
    rintro e w4 ⟨A4, n4, c4, rfl, hs4, hn4, hb4⟩
    have b4 := b3.trans (hb4.mono b3.size)
    have hsA4 := hsA3.below hb4
    have hsB4 := hsB3.below hb4
    rw [show decide ((g : Int) < 0) = false from decide_eq_false (by omega)]
    rw [Int.natAbs_natCast] at hs4
    have hlq := length10_div (b := g) hsA4.len
    have hld := length10_div (b := g) hsB4.len
    go_wp2_with fail
    refine (refOver_any A1 A4 n1 n4 c1 c4 _ _ w4 hsA4 hs4 (by omega) (by omega) hg0).mono ?_
    rintro e w5 ⟨A5, n5, c5, A6, n6, c6, rfl, hs5, hs6, hb5⟩
    have b5 := b4.trans (hb5.mono b4.size)
    have hn5 : n5 ≤ n1 := by rw [← hs5.len]; exact hlq
    go_wp2_with fail
    refine (refOver_any A2 A4 n2 n4 c2 c4 _ _ w5 (hsB4.below hb5) (hs4.below hb5) (by omega) (by omega) hg0).mono ?_
    rintro e w7 ⟨A7, n7, c7, A8, n8, c8, rfl, hs7, hs8, hb7⟩
    have b7 := b5.trans (hb7.mono b5.size)
    have hn7 : n7 ≤ n2 := by rw [← hs7.len]; exact hld
    go_wp2_with fail
    refine (refTextV z A5 n5 c5 _ _ _ (hs5.below hb7) (by omega) HN.out).mono ?_
    rintro e w9 ⟨rfl, hb9⟩
    have b9 := b7.trans (hb9.mono b7.size)
    go_wp2_with fail
    refine (refTextV false A7 n7 c7 _ _ _ (hs7.below hb9) (by omega) HD.out).mono ?_
    rintro e w10 ⟨rfl, hb10⟩
    go_wp2
    go_ret2
    exact ⟨rfl, b9.trans (hb10.mono b9.size)⟩
end Go.Proofs.YtjefhgmnjfclaaaDoor
