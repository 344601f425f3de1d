/- lispproverlaw1.NumberOrder returns true. -/
import Derived.Test.YtjefhgmnjfclaaaDoorDivides
import Derived.Test.YtjefhgmnjfclaaaDoorRing
namespace Go.Proofs.YtjefhgmnjfclaaaDoor
open Go.RowKit

theorem short3 (a b c : List UInt8) (ha : a.length ≤ 9223372036854775807) (hb : b.length ≤ 9223372036854775807) (hc : c.length ≤ 9223372036854775807) (z : Bool) (hz : ([a, b, c].all fun l => decide (l.length ≤ 60)) = z) (w' : World) :
    Calls Tryd.prog 14 #[.slice (some ⟨w'.heap.size, 0, none⟩) 3 3] (w'.alloc (.cells #[.string ⟨a.toArray⟩, .string ⟨b.toArray⟩, .string ⟨c.toArray⟩] 9)) (RetPure (.bool z) (w'.alloc (.cells #[.string ⟨a.toArray⟩, .string ⟨b.toArray⟩, .string ⟨c.toArray⟩] 9))) := by
  have := shortL_any w'.heap.size 3 [a, b, c] _ (strs3 w' 9 a b c) rfl (by omega) (by
      intro l hl
      simp only [List.mem_cons, List.not_mem_nil, or_false] at hl
      rcases hl with rfl | rfl | rfl <;> assumption)
  rwa [hz] at this
theorem cmpI_add (x y z : Int) : cmpI (x + z) (y + z) = cmpI x y := by
  unfold cmpI
  by_cases h1 : x < y
  · rw [if_pos h1, if_pos (by omega)]
  · rw [if_neg h1, if_neg (by omega)]
    by_cases h2 : y < x
    · rw [if_pos h2, if_pos (by omega)]
    · rw [if_neg h2, if_neg (by omega)]
theorem cmpI_swap (x y : Int) : cmpI y x = -cmpI x y := by
  rcases Int.lt_trichotomy x y with h | h | h
  · rw [cmpI_lt h, cmpI_gt h]; rfl
  · subst h; rw [cmpI_eq]; rfl
  · rw [cmpI_gt h, cmpI_lt h]
theorem cmpI_mul (x y z : Int) : cmpI (x * z) (y * z) = cmpI x y * cmpI z 0 := by
  rcases Int.lt_trichotomy z 0 with hz | hz | hz
  · rw [cmpI_lt hz]
    rcases Int.lt_trichotomy x y with h | h | h
    · rw [cmpI_lt h, cmpI_gt (Int.mul_lt_mul_of_neg_right h hz)]; rfl
    · subst h; rw [cmpI_eq, cmpI_eq]; rfl
    · rw [cmpI_gt h, cmpI_lt (Int.mul_lt_mul_of_neg_right h hz)]; rfl
  · subst hz; rw [Int.mul_zero, Int.mul_zero, cmpI_eq, Int.mul_zero]
  · rw [cmpI_gt hz]
    rcases Int.lt_trichotomy x y with h | h | h
    · rw [cmpI_lt h, cmpI_lt (Int.mul_lt_mul_of_pos_right h hz)]; rfl
    · subst h; rw [cmpI_eq, cmpI_eq]; rfl
    · rw [cmpI_gt h, cmpI_gt (Int.mul_lt_mul_of_pos_right h hz)]; rfl
theorem cmpI_cases (x y : Int) : cmpI x y = -1 ∨ cmpI x y = 0 ∨ cmpI x y = 1 := by
  rcases Int.lt_trichotomy x y with h | h | h
  · exact .inl (cmpI_lt h)
  · subst h; exact .inr (.inl (cmpI_eq x))
  · exact .inr (.inr (cmpI_gt h))
theorem beq_of_cmp {a b : List UInt8} (ha : Dec.isDec a = true) (hb : Dec.isDec b = true) : (a == b) = decide (cmpI (Dec.dval a) (Dec.dval b) = 0) := by
  rcases Int.lt_trichotomy (Dec.dval a) (Dec.dval b) with h | h | h
  · rw [cmpI_lt h, decide_eq_false (by omega), beq_eq_false_iff_ne]; rintro rfl; omega
  · rw [h, cmpI_eq, decide_eq_true rfl, beq_iff_eq, ← Dec.itoa_dval ha, ← Dec.itoa_dval hb, h]
  · rw [cmpI_gt h, decide_eq_false (by omega), beq_eq_false_iff_ne]; rintro rfl; omega

set_option maxHeartbeats 4000000 in
set_option maxRecDepth 100000 in
theorem order_main (a b c : List UInt8) (w : World) (ht : Tab w) (ha : a.length ≤ 9223372036854775807) (hb : b.length ≤ 9223372036854775807) (hc : c.length ≤ 9223372036854775807) (HZ : Hid (([a, b, c].all fun l => decide (l.length ≤ 60)) = true)) (HVa : Hid (Dec.isDec a = true)) (HVb : Hid (Dec.isDec b = true)) (HVc : Hid (Dec.isDec c = true))
    (k s : Int) (HK : Hid (cmpI (Dec.dval a) (Dec.dval b) = k)) (HS : Hid (cmpI (Dec.dval c) 0 = s)) (hk : k = -1 ∨ k = 0 ∨ k = 1) (hs : s = -1 ∨ s = 0 ∨ s = 1) :
    Calls Tryd.prog 9 #[.string ⟨a.toArray⟩, .string ⟨b.toArray⟩, .string ⟨c.toArray⟩] w (RetTrue w) := by
  have hsh := HZ.out
  simp only [List.all_cons, List.all_nil, Bool.and_true, Bool.and_eq_true, decide_eq_true_eq] at hsh
  obtain ⟨la, lb, lc⟩ := hsh
  have na := Num.of a la
  have nb := Num.of b lb
  have nc := Num.of c lc
  have hE := beq_of_cmp HVa.out HVb.out
  rw [HK.out] at hE
  generalize Dec.dval a = x at *
  generalize Dec.dval b = y at *
  generalize Dec.dval c = z at *
  have HK2 : Hid (cmpI y x = -k) := by show _ = _; rw [cmpI_swap, HK.out]
  have HA : Hid (cmpI (x + z) (y + z) = k) := by show _ = _; rw [cmpI_add, HK.out]
  have HM : Hid (cmpI (x * z) (y * z) = k * s) := by show _ = _; rw [cmpI_mul, HK.out, HS.out]
  rcases hk with rfl | rfl | rfl <;> rcases hs with rfl | rfl | rfl
  all_goals
    simp only [Int.reduceNeg, Int.reduceMul, Int.neg_neg, Int.mul_zero, Int.zero_mul, Int.neg_zero, decide_true, decide_false, Int.neg_eq_zero, Int.one_ne_zero] at hE HK2 HM
    go_enter Tryd.func9, Tryd.ntmps9
    go_wp2_with fail
    refine (first_any _ ht).mono ?_
    rintro e w1 ⟨rfl, hb1⟩
    go_wp2_with fail
    refine (short3 a b c ha hb hc _ HZ.out _).mono ?_
    rintro e w' ⟨rfl, rfl⟩
    go_wp2_with fail
    refine (refv a _ HVa.out ha _).mono ?_
    rintro e w' ⟨rfl, rfl⟩
    go_wp2_with fail
    refine (refv b _ HVb.out hb _).mono ?_
    rintro e w' ⟨rfl, rfl⟩
    go_wp2_with fail
    refine (refv c _ HVc.out hc _).mono ?_
    rintro e w' ⟨rfl, rfl⟩
    have hbw0 : Below w.heap.size w (w1.alloc (.cells #[.string ⟨a.toArray⟩, .string ⟨b.toArray⟩, .string ⟨c.toArray⟩] 9)) := hb1.alloc hb1.size _
    generalize w1.alloc (.cells #[.string ⟨a.toArray⟩, .string ⟨b.toArray⟩, .string ⟨c.toArray⟩] 9) = v0 at *
    go_wp2_with fail
    refine (compareZ na nb (by omega) (by omega) HK.out _).mono ?_
    rintro e v1 ⟨rfl, hbx⟩
    have hbw1 := hbw0.trans (hbx.mono hbw0.size)
    clear hbx
    go_wp2_with fail
    refine (compareZ nc zeroNum (by omega) (by omega) HS.out _).mono ?_
    rintro e v2 ⟨rfl, hbx⟩
    have hbw2 := hbw1.trans (hbx.mono hbw1.size)
    clear hbx
    go_wp2_with fail
    refine (compareZ nb na (by omega) (by omega) HK2.out _).mono ?_
    rintro e v3 ⟨rfl, hbx⟩
    have hbw3 := hbw2.trans (hbx.mono hbw2.size)
    clear hbx
    go_wp2_with fail
    refine (addZ na nc (by omega) (by omega) _ (ht.below hbw3)).mono ?_
    rintro e v4 ⟨rfl, hbx⟩
    have hbw4 := hbw3.trans (hbx.mono hbw3.size)
    clear hbx
    go_wp2_with fail
    refine (addZ nb nc (by omega) (by omega) _ (ht.below hbw4)).mono ?_
    rintro e v5 ⟨rfl, hbx⟩
    have hbw5 := hbw4.trans (hbx.mono hbw4.size)
    clear hbx
    go_wp2_with fail
    refine (compareZ (na.add nc) (nb.add nc) (by omega) (by omega) HA.out _).mono ?_
    rintro e v6 ⟨rfl, hbx⟩
    have hbw6 := hbw5.trans (hbx.mono hbw5.size)
    clear hbx
    go_wp2_with fail
    refine (mulZ na nc (by omega) (by omega) _ (ht.below hbw6)).mono ?_
    rintro e v7 ⟨rfl, hbx⟩
    have hbw7 := hbw6.trans (hbx.mono hbw6.size)
    clear hbx
    go_wp2_with fail
    refine (mulZ nb nc (by omega) (by omega) _ (ht.below hbw7)).mono ?_
    rintro e v8 ⟨rfl, hbx⟩
    have hbw8 := hbw7.trans (hbx.mono hbw7.size)
    clear hbx
    go_wp2_with fail
    refine (compareZ (na.mul nc) (nb.mul nc) (by omega) (by omega) HM.out _).mono ?_
    rintro e v9 ⟨rfl, hbx⟩
    have hbw9 := hbw8.trans (hbx.mono hbw8.size)
    clear hbx
    go_wp2
    go_ret
    exact ⟨rfl, hbw9⟩
set_option maxHeartbeats 2000000 in
set_option maxRecDepth 100000 in
theorem order_any (a b c : List UInt8) (w : World) (ht : Tab w) (ha : a.length ≤ 9223372036854775807) (hb : b.length ≤ 9223372036854775807) (hc : c.length ≤ 9223372036854775807) :
    Calls Tryd.prog 9 #[.string ⟨a.toArray⟩, .string ⟨b.toArray⟩, .string ⟨c.toArray⟩] w (RetTrue w) := by
  cases hz : ([a, b, c].all fun l => decide (l.length ≤ 60)) with
  | false =>
    have HZ := Lib.hid hz
    clear hz
    go_enter Tryd.func9, Tryd.ntmps9
    go_wp2_with fail
    refine (first_any _ ht).mono ?_
    rintro e w1 ⟨rfl, hb1⟩
    go_wp2_with fail
    refine (short3 a b c ha hb hc _ HZ.out _).mono ?_
    rintro e w' ⟨rfl, rfl⟩
    go_wp2
    go_ret
    exact ⟨rfl, hb1.alloc hb1.size _⟩
  | true =>
  have HZ := Lib.hid hz
  clear hz
  cases hva : Dec.isDec a with
  | false =>
    have HVa := Lib.hid hva
    clear hva
    go_enter Tryd.func9, Tryd.ntmps9
    go_wp2_with fail
    refine (first_any _ ht).mono ?_
    rintro e w1 ⟨rfl, hb1⟩
    go_wp2_with fail
    refine (short3 a b c ha hb hc _ HZ.out _).mono ?_
    rintro e w' ⟨rfl, rfl⟩
    go_wp2_with fail
    refine (refv a _ HVa.out ha _).mono ?_
    rintro e w' ⟨rfl, rfl⟩
    go_wp2
    go_ret
    exact ⟨rfl, hb1.alloc hb1.size _⟩
  | true =>
  have HVa := Lib.hid hva
  clear hva
  cases hvb : Dec.isDec b with
  | false =>
    have HVb := Lib.hid hvb
    clear hvb
    go_enter Tryd.func9, Tryd.ntmps9
    go_wp2_with fail
    refine (first_any _ ht).mono ?_
    rintro e w1 ⟨rfl, hb1⟩
    go_wp2_with fail
    refine (short3 a b c ha hb hc _ HZ.out _).mono ?_
    rintro e w' ⟨rfl, rfl⟩
    go_wp2_with fail
    refine (refv a _ HVa.out ha _).mono ?_
    rintro e w' ⟨rfl, rfl⟩
    go_wp2_with fail
    refine (refv b _ HVb.out hb _).mono ?_
    rintro e w' ⟨rfl, rfl⟩
    go_wp2
    go_ret
    exact ⟨rfl, hb1.alloc hb1.size _⟩
  | true =>
  have HVb := Lib.hid hvb
  clear hvb
  cases hvc : Dec.isDec c with
  | false =>
    have HVc := Lib.hid hvc
    clear hvc
    go_enter Tryd.func9, Tryd.ntmps9
    go_wp2_with fail
    refine (first_any _ ht).mono ?_
    rintro e w1 ⟨rfl, hb1⟩
    go_wp2_with fail
    refine (short3 a b c ha hb hc _ HZ.out _).mono ?_
    rintro e w' ⟨rfl, rfl⟩
    go_wp2_with fail
    refine (refv a _ HVa.out ha _).mono ?_
    rintro e w' ⟨rfl, rfl⟩
    go_wp2_with fail
    refine (refv b _ HVb.out hb _).mono ?_
    rintro e w' ⟨rfl, rfl⟩
    go_wp2_with fail
    refine (refv c _ HVc.out hc _).mono ?_
    rintro e w' ⟨rfl, rfl⟩
    go_wp2
    go_ret
    exact ⟨rfl, hb1.alloc hb1.size _⟩
  | true =>
    have HVc := Lib.hid hvc
    clear hvc
    exact order_main a b c w ht ha hb hc HZ HVa HVb HVc _ _ (Lib.hid rfl) (Lib.hid rfl) (cmpI_cases _ _) (cmpI_cases _ _)
end Go.Proofs.YtjefhgmnjfclaaaDoor
