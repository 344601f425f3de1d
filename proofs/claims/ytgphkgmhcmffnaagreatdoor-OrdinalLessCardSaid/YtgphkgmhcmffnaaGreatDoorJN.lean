/- lispproverref1.Compare, Negate, Add, Subtract, Multiply. -/
import Derived.Test.YtgphkgmhcmffnaaGreatDoorJM
import Derived.Test.YtgphkgmhcmffnaaGreatDoorJH
namespace Go.Proofs.YtgphkgmhcmffnaaGreatDoor
open Go.RowKit

theorem length10_add {a b n n' : Nat} (h : (Dec.limbs 10 a).length = n) (h' : (Dec.limbs 10 b).length = n') : (Dec.limbs 10 (a + b)).length ≤ n + n' + 1 := by
  apply Dec.limbs_lt_length (by omega)
  have h1 := Dec.lval_lt (B := 10) (by omega) (Dec.limbs_small (by omega) a)
  have h2 := Dec.lval_lt (B := 10) (by omega) (Dec.limbs_small (by omega) b)
  rw [Dec.lval_limbs (by omega), h] at h1
  rw [Dec.lval_limbs (by omega), h'] at h2
  have h3 : 10 ^ n ≤ 10 ^ (n + n') := Nat.pow_le_pow_right (by omega) (by omega)
  have h4 : 10 ^ n' ≤ 10 ^ (n + n') := Nat.pow_le_pow_right (by omega) (by omega)
  rw [Nat.pow_succ]
  omega
theorem length10_mul {a b n n' : Nat} (h : (Dec.limbs 10 a).length = n) (h' : (Dec.limbs 10 b).length = n') : (Dec.limbs 10 (a * b)).length ≤ n + n' := by
  apply Dec.limbs_lt_length (by omega)
  rw [Nat.pow_add]
  have h1 := Dec.lval_lt (B := 10) (by omega) (Dec.limbs_small (by omega) a)
  have h2 := Dec.lval_lt (B := 10) (by omega) (Dec.limbs_small (by omega) b)
  rw [Dec.lval_limbs (by omega), h] at h1
  rw [Dec.lval_limbs (by omega), h'] at h2
  rcases Nat.eq_zero_or_pos b with e | e
  · subst e; rw [Nat.mul_zero]; exact Nat.mul_pos (Nat.pow_pos (by omega)) (Nat.pow_pos (by omega))
  · exact Nat.mul_lt_mul'' h1 h2
theorem neg_sign (x : Int) : (if (!decide (x < 0)) = true then -(x.natAbs : Int) else x.natAbs) = -x := by
  by_cases h : x < 0
  · rw [if_neg (by simpa using h)]; omega
  · rw [if_pos (by simpa using h)]; omega
theorem refDigW (l : List UInt8) (hl : l.length ≤ 2500000) (w : World) : Calls Tryz.prog 106 #[.string ⟨l.toArray⟩] w (RetDig (l.length + 1) (Dec.dval l) w) := refDigits_any l w hl

/-- text of the digits of a number -/
theorem refTextV (ng : Bool) (A : Option Addr) (n c v : Nat) (r : Int) (w : World) (hx : Sl w .i64 A n c (Dec.limbs 10 v)) (hn : n ≤ 100000000) (hv : (if ng then -(v : Int) else v) = r) :
    Calls Tryz.prog 109 #[.bool ng, .slice A n c] w (RetStr (Lib.itoa r) w) := by
  have := refText_any ng A n c _ w hx hn (Dec.limbs_small (by omega) v)
  rw [Dec.lval_limbs (by omega), numStr_eq hv] at this
  exact this

set_option maxHeartbeats 1000000 in
theorem refCompare_any (a b : List UInt8) (w : World) (ha : a.length ≤ 2500000) (hb : b.length ≤ 2500000) :
    Calls Tryz.prog 136 #[.string ⟨a.toArray⟩, .string ⟨b.toArray⟩] w (RetI64 (cmpI (Dec.dval a) (Dec.dval b)) w) := by
  have HP1 : Hid (∀ w' : World, Calls Tryz.prog 106 #[.string ⟨a.toArray⟩] w' (RetDig (a.length + 1) (Dec.dval a) w')) := fun w' => refDigW a ha w'
  have HP2 : Hid (∀ w' : World, Calls Tryz.prog 106 #[.string ⟨b.toArray⟩] w' (RetDig (b.length + 1) (Dec.dval b) w')) := fun w' => refDigW b hb w'
  generalize Dec.dval a = x at HP1
  generalize Dec.dval b = y at HP2
  by_cases hx : x < 0 <;> by_cases hy : y < 0
  · have HF := Lib.hid (cmpI_neg hx hy)
    go_enter Tryz.func136, Tryz.ntmps136
    go_wp2_with fail
    refine (HP1.out _).mono ?_
    rintro e w1 ⟨A1, n1, c1, rfl, hs1, hn1, hb1⟩
    rw [decide_eq_true hx]
    go_wp2_with fail
    refine (HP2.out _).mono ?_
    rintro e w2 ⟨A2, n2, c2, rfl, hs2, hn2, hb2⟩
    rw [decide_eq_true hy]
    have hbw2 : Below w.heap.size w w2 := hb1.trans (hb2.mono hb1.size)
    have HC := Lib.hid (orderR_any 10 (by omega) A2 A1 n2 n1 c2 c1 _ _ w2 hs2 (hs1.below hb2) (by omega) (by omega))
    go_wp2_with (go_at_call 122; refine HC.out.mono ?_; rintro e w3 ⟨rfl, q, rfl⟩)
    go_ret
    exact ⟨by rw [← HF.out]; rfl, below_drewN hbw2 q⟩
  · have HF := Lib.hid (cmpI_lt (a := x) (b := y) (by omega))
    go_enter Tryz.func136, Tryz.ntmps136
    go_wp2_with fail
    refine (HP1.out _).mono ?_
    rintro e w1 ⟨A1, n1, c1, rfl, hs1, hn1, hb1⟩
    rw [decide_eq_true hx]
    go_wp2_with fail
    refine (HP2.out _).mono ?_
    rintro e w2 ⟨A2, n2, c2, rfl, hs2, hn2, hb2⟩
    rw [decide_eq_false (by omega)]
    have hbw2 : Below w.heap.size w w2 := hb1.trans (hb2.mono hb1.size)
    go_wp2
    go_ret
    exact ⟨by rw [HF.out]; rfl, hbw2⟩
  · have HF := Lib.hid (cmpI_gt (a := x) (b := y) (by omega))
    go_enter Tryz.func136, Tryz.ntmps136
    go_wp2_with fail
    refine (HP1.out _).mono ?_
    rintro e w1 ⟨A1, n1, c1, rfl, hs1, hn1, hb1⟩
    rw [decide_eq_false (by omega)]
    go_wp2_with fail
    refine (HP2.out _).mono ?_
    rintro e w2 ⟨A2, n2, c2, rfl, hs2, hn2, hb2⟩
    rw [decide_eq_true hy]
    have hbw2 : Below w.heap.size w w2 := hb1.trans (hb2.mono hb1.size)
    go_wp2
    go_ret
    exact ⟨by rw [HF.out]; rfl, hbw2⟩
  · have HF := Lib.hid (cmpI_pos hx hy)
    go_enter Tryz.func136, Tryz.ntmps136
    go_wp2_with fail
    refine (HP1.out _).mono ?_
    rintro e w1 ⟨A1, n1, c1, rfl, hs1, hn1, hb1⟩
    rw [decide_eq_false (by omega)]
    go_wp2_with fail
    refine (HP2.out _).mono ?_
    rintro e w2 ⟨A2, n2, c2, rfl, hs2, hn2, hb2⟩
    rw [decide_eq_false (by omega)]
    have hbw2 : Below w.heap.size w w2 := hb1.trans (hb2.mono hb1.size)
    have HC := Lib.hid (orderR_any 10 (by omega) A1 A2 n1 n2 c1 c2 _ _ w2 (hs1.below hb2) hs2 (by omega) (by omega))
    go_wp2_with (go_at_call 122; refine HC.out.mono ?_; rintro e w3 ⟨rfl, q, rfl⟩)
    go_ret
    exact ⟨by rw [← HF.out]; rfl, below_drewN hbw2 q⟩

set_option maxHeartbeats 2000000 in
theorem refAdd_any (a b : List UInt8) (w : World) (ha : a.length ≤ 2500000) (hb : b.length ≤ 2500000) :
    Calls Tryz.prog 97 #[.string ⟨a.toArray⟩, .string ⟨b.toArray⟩] w (RetStr (Lib.itoa (Dec.dval a + Dec.dval b)) w) := by
  have HP1 : Hid (∀ w' : World, Calls Tryz.prog 106 #[.string ⟨a.toArray⟩] w' (RetDig (a.length + 1) (Dec.dval a) w')) := fun w' => refDigW a ha w'
  have HP2 : Hid (∀ w' : World, Calls Tryz.prog 106 #[.string ⟨b.toArray⟩] w' (RetDig (b.length + 1) (Dec.dval b) w')) := fun w' => refDigW b hb w'
  generalize Dec.dval a = x at HP1
  generalize Dec.dval b = y at HP2
  by_cases hx : x < 0 <;> by_cases hy : y < 0
  · go_enter Tryz.func97, Tryz.ntmps97
    go_wp2_with fail
    refine (HP1.out _).mono ?_
    rintro e w1 ⟨A1, n1, c1, rfl, hs1, hn1, hb1⟩
    rw [decide_eq_true hx]
    go_wp2_with fail
    refine (HP2.out _).mono ?_
    rintro e w2 ⟨A2, n2, c2, rfl, hs2, hn2, hb2⟩
    rw [decide_eq_true hy]
    have hbw2 : Below w.heap.size w w2 := hb1.trans (hb2.mono hb1.size)
    have hP := refPlus_any A1 A2 n1 n2 c1 c2 _ _ w2 (hs1.below hb2) hs2 (by omega) (by omega) (Dec.limbs_small (by omega) _) (Dec.limbs_small (by omega) _)
    rw [Dec.lval_limbs (by omega), Dec.lval_limbs (by omega)] at hP
    have HP := Lib.hid hP
    clear hP
    go_wp2_with fail
    refine HP.out.mono ?_
    rintro e w3 ⟨A3, n3, c3, o3, rfl, hn3, hs3, hso3, hv3, hb3, _⟩
    have hbw3 := hbw2.trans (hb3.mono hbw2.size)
    have hX := refText_any true A3 n3 c3 o3 w3 hs3 (by omega) hso3
    rw [hv3, numStr_eq (v := x + y) (by simp; omega)] at hX
    have HX := Lib.hid hX
    clear hX hv3
    go_wp2_with fail
    refine HX.out.mono ?_
    rintro e w4 ⟨rfl, hb4⟩
    go_wp2
    go_ret
    exact ⟨rfl, hbw3.trans (hb4.mono hbw3.size)⟩
  · go_enter Tryz.func97, Tryz.ntmps97
    go_wp2_with fail
    refine (HP1.out _).mono ?_
    rintro e w1 ⟨A1, n1, c1, rfl, hs1, hn1, hb1⟩
    rw [decide_eq_true hx]
    go_wp2_with fail
    refine (HP2.out _).mono ?_
    rintro e w2 ⟨A2, n2, c2, rfl, hs2, hn2, hb2⟩
    rw [decide_eq_false (by omega)]
    have hbw2 : Below w.heap.size w w2 := hb1.trans (hb2.mono hb1.size)
    have HC := Lib.hid (orderR_any 10 (by omega) A1 A2 n1 n2 c1 c2 _ _ w2 (hs1.below hb2) hs2 (by omega) (by omega))
    rcases Nat.lt_or_ge x.natAbs y.natAbs with h | h
    · have HO := Lib.hid (ordI_lt h)
      have hln : n1 ≤ n2 := by rw [← hs1.len, ← hs2.len]; exact Dec.limbs_length_mono (by omega) (by omega)
      have hM : ∀ qq : Nat, Calls Tryz.prog 123 #[.slice A2 n2 c2, .slice A1 n1 c1] (w2.drewN qq) (RetSl .i64 (Dec.limbs 10 (y.natAbs - x.natAbs)) (w2.drewN qq)) := fun qq => by
        have := refMinus_any A2 A1 n2 n1 c2 c1 _ _ (w2.drewN qq) (hs2.drew qq) ((hs1.below hb2).drew qq) (by omega) hln (Dec.limbs_small (by omega) _) (Dec.limbs_small (by omega) _) (by rw [Dec.lval_limbs (by omega), Dec.lval_limbs (by omega)]; omega)
        rwa [Dec.lval_limbs (by omega), Dec.lval_limbs (by omega)] at this
      have HM := Lib.hid hM
      clear hM
      have hll : (Dec.limbs 10 (y.natAbs - x.natAbs)).length ≤ n2 := by rw [← hs2.len]; exact Dec.limbs_length_mono (by omega) (by omega)
      go_wp2_with (go_at_call 122; refine HC.out.mono ?_; rintro e w3 ⟨rfl, q, rfl⟩; rw [HO.out])
      refine (HM.out _).mono ?_
      rintro e w3 ⟨A3, n3, c3, rfl, hs3, hb3, _⟩
      have hbw3 := (below_drewN hbw2 q).trans (hb3.mono (below_drewN hbw2 q).size)
      have hn3 : n3 ≤ n2 := by rw [← hs3.len]; exact hll
      go_wp2_with fail
      refine (refTextV false A3 n3 c3 _ (x + y) _ hs3 (by omega) (by simp; omega)).mono ?_
      rintro e w4 ⟨rfl, hb4⟩
      go_wp2
      go_ret
      exact ⟨rfl, hbw3.trans (hb4.mono hbw3.size)⟩
    · rcases Nat.lt_or_eq_of_le h with h2 | h2
      · have HO := Lib.hid (ordI_gt h2)
        have hln : n2 ≤ n1 := by rw [← hs2.len, ← hs1.len]; exact Dec.limbs_length_mono (by omega) (by omega)
        have hM : ∀ qq : Nat, Calls Tryz.prog 123 #[.slice A1 n1 c1, .slice A2 n2 c2] (w2.drewN qq) (RetSl .i64 (Dec.limbs 10 (x.natAbs - y.natAbs)) (w2.drewN qq)) := fun qq => by
          have := refMinus_any A1 A2 n1 n2 c1 c2 _ _ (w2.drewN qq) ((hs1.below hb2).drew qq) (hs2.drew qq) (by omega) hln (Dec.limbs_small (by omega) _) (Dec.limbs_small (by omega) _) (by rw [Dec.lval_limbs (by omega), Dec.lval_limbs (by omega)]; omega)
          rwa [Dec.lval_limbs (by omega), Dec.lval_limbs (by omega)] at this
        have HM := Lib.hid hM
        clear hM
        have hll : (Dec.limbs 10 (x.natAbs - y.natAbs)).length ≤ n1 := by rw [← hs1.len]; exact Dec.limbs_length_mono (by omega) (by omega)
        go_wp2_with (go_at_call 122; refine HC.out.mono ?_; rintro e w3 ⟨rfl, q, rfl⟩; rw [HO.out])
        refine (HM.out _).mono ?_
        rintro e w3 ⟨A3, n3, c3, rfl, hs3, hb3, _⟩
        have hbw3 := (below_drewN hbw2 q).trans (hb3.mono (below_drewN hbw2 q).size)
        have hn3 : n3 ≤ n1 := by rw [← hs3.len]; exact hll
        go_wp2_with fail
        refine (refTextV true A3 n3 c3 _ (x + y) _ hs3 (by omega) (by simp; omega)).mono ?_
        rintro e w4 ⟨rfl, hb4⟩
        go_wp2
        go_ret
        exact ⟨rfl, hbw3.trans (hb4.mono hbw3.size)⟩
      · have HO : Hid (ordI x.natAbs y.natAbs = 0) := by rw [h2]; exact ordI_eq _
        have HH := Lib.hid h2
        clear h2
        have hln : n2 ≤ n1 := by rw [← hs2.len, ← hs1.len]; exact Dec.limbs_length_mono (by omega) (by omega)
        have hM : ∀ qq : Nat, Calls Tryz.prog 123 #[.slice A1 n1 c1, .slice A2 n2 c2] (w2.drewN qq) (RetSl .i64 (Dec.limbs 10 (x.natAbs - y.natAbs)) (w2.drewN qq)) := fun qq => by
          have := refMinus_any A1 A2 n1 n2 c1 c2 _ _ (w2.drewN qq) ((hs1.below hb2).drew qq) (hs2.drew qq) (by omega) hln (Dec.limbs_small (by omega) _) (Dec.limbs_small (by omega) _) (by rw [Dec.lval_limbs (by omega), Dec.lval_limbs (by omega)]; omega)
          rwa [Dec.lval_limbs (by omega), Dec.lval_limbs (by omega)] at this
        have HM := Lib.hid hM
        clear hM
        have hll : (Dec.limbs 10 (x.natAbs - y.natAbs)).length ≤ n1 := by rw [← hs1.len]; exact Dec.limbs_length_mono (by omega) (by omega)
        go_wp2_with (go_at_call 122; refine HC.out.mono ?_; rintro e w3 ⟨rfl, q, rfl⟩; rw [HO.out])
        refine (HM.out _).mono ?_
        rintro e w3 ⟨A3, n3, c3, rfl, hs3, hb3, _⟩
        have hbw3 := (below_drewN hbw2 q).trans (hb3.mono (below_drewN hbw2 q).size)
        have hn3 : n3 ≤ n1 := by rw [← hs3.len]; exact hll
        go_wp2_with fail
        refine (refTextV true A3 n3 c3 _ (x + y) _ hs3 (by omega) (by have := HH.out; simp; omega)).mono ?_
        rintro e w4 ⟨rfl, hb4⟩
        go_wp2
        go_ret
        exact ⟨rfl, hbw3.trans (hb4.mono hbw3.size)⟩
  · go_enter Tryz.func97, Tryz.ntmps97
    go_wp2_with fail
    refine (HP1.out _).mono ?_
    rintro e w1 ⟨A1, n1, c1, rfl, hs1, hn1, hb1⟩
    rw [decide_eq_false (by omega)]
    go_wp2_with fail
    refine (HP2.out _).mono ?_
    rintro e w2 ⟨A2, n2, c2, rfl, hs2, hn2, hb2⟩
    rw [decide_eq_true hy]
    have hbw2 : Below w.heap.size w w2 := hb1.trans (hb2.mono hb1.size)
    have HC := Lib.hid (orderR_any 10 (by omega) A1 A2 n1 n2 c1 c2 _ _ w2 (hs1.below hb2) hs2 (by omega) (by omega))
    rcases Nat.lt_or_ge x.natAbs y.natAbs with h | h
    · have HO := Lib.hid (ordI_lt h)
      have hln : n1 ≤ n2 := by rw [← hs1.len, ← hs2.len]; exact Dec.limbs_length_mono (by omega) (by omega)
      have hM : ∀ qq : Nat, Calls Tryz.prog 123 #[.slice A2 n2 c2, .slice A1 n1 c1] (w2.drewN qq) (RetSl .i64 (Dec.limbs 10 (y.natAbs - x.natAbs)) (w2.drewN qq)) := fun qq => by
        have := refMinus_any A2 A1 n2 n1 c2 c1 _ _ (w2.drewN qq) (hs2.drew qq) ((hs1.below hb2).drew qq) (by omega) hln (Dec.limbs_small (by omega) _) (Dec.limbs_small (by omega) _) (by rw [Dec.lval_limbs (by omega), Dec.lval_limbs (by omega)]; omega)
        rwa [Dec.lval_limbs (by omega), Dec.lval_limbs (by omega)] at this
      have HM := Lib.hid hM
      clear hM
      have hll : (Dec.limbs 10 (y.natAbs - x.natAbs)).length ≤ n2 := by rw [← hs2.len]; exact Dec.limbs_length_mono (by omega) (by omega)
      go_wp2_with (go_at_call 122; refine HC.out.mono ?_; rintro e w3 ⟨rfl, q, rfl⟩; rw [HO.out])
      refine (HM.out _).mono ?_
      rintro e w3 ⟨A3, n3, c3, rfl, hs3, hb3, _⟩
      have hbw3 := (below_drewN hbw2 q).trans (hb3.mono (below_drewN hbw2 q).size)
      have hn3 : n3 ≤ n2 := by rw [← hs3.len]; exact hll
      go_wp2_with fail
      refine (refTextV true A3 n3 c3 _ (x + y) _ hs3 (by omega) (by simp; omega)).mono ?_
      rintro e w4 ⟨rfl, hb4⟩
      go_wp2
      go_ret
      exact ⟨rfl, hbw3.trans (hb4.mono hbw3.size)⟩
    · rcases Nat.lt_or_eq_of_le h with h2 | h2
      · have HO := Lib.hid (ordI_gt h2)
        have hln : n2 ≤ n1 := by rw [← hs2.len, ← hs1.len]; exact Dec.limbs_length_mono (by omega) (by omega)
        have hM : ∀ qq : Nat, Calls Tryz.prog 123 #[.slice A1 n1 c1, .slice A2 n2 c2] (w2.drewN qq) (RetSl .i64 (Dec.limbs 10 (x.natAbs - y.natAbs)) (w2.drewN qq)) := fun qq => by
          have := refMinus_any A1 A2 n1 n2 c1 c2 _ _ (w2.drewN qq) ((hs1.below hb2).drew qq) (hs2.drew qq) (by omega) hln (Dec.limbs_small (by omega) _) (Dec.limbs_small (by omega) _) (by rw [Dec.lval_limbs (by omega), Dec.lval_limbs (by omega)]; omega)
          rwa [Dec.lval_limbs (by omega), Dec.lval_limbs (by omega)] at this
        have HM := Lib.hid hM
        clear hM
        have hll : (Dec.limbs 10 (x.natAbs - y.natAbs)).length ≤ n1 := by rw [← hs1.len]; exact Dec.limbs_length_mono (by omega) (by omega)
        go_wp2_with (go_at_call 122; refine HC.out.mono ?_; rintro e w3 ⟨rfl, q, rfl⟩; rw [HO.out])
        refine (HM.out _).mono ?_
        rintro e w3 ⟨A3, n3, c3, rfl, hs3, hb3, _⟩
        have hbw3 := (below_drewN hbw2 q).trans (hb3.mono (below_drewN hbw2 q).size)
        have hn3 : n3 ≤ n1 := by rw [← hs3.len]; exact hll
        go_wp2_with fail
        refine (refTextV false A3 n3 c3 _ (x + y) _ hs3 (by omega) (by simp; omega)).mono ?_
        rintro e w4 ⟨rfl, hb4⟩
        go_wp2
        go_ret
        exact ⟨rfl, hbw3.trans (hb4.mono hbw3.size)⟩
      · have HO : Hid (ordI x.natAbs y.natAbs = 0) := by rw [h2]; exact ordI_eq _
        have HH := Lib.hid h2
        clear h2
        have hln : n2 ≤ n1 := by rw [← hs2.len, ← hs1.len]; exact Dec.limbs_length_mono (by omega) (by omega)
        have hM : ∀ qq : Nat, Calls Tryz.prog 123 #[.slice A1 n1 c1, .slice A2 n2 c2] (w2.drewN qq) (RetSl .i64 (Dec.limbs 10 (x.natAbs - y.natAbs)) (w2.drewN qq)) := fun qq => by
          have := refMinus_any A1 A2 n1 n2 c1 c2 _ _ (w2.drewN qq) ((hs1.below hb2).drew qq) (hs2.drew qq) (by omega) hln (Dec.limbs_small (by omega) _) (Dec.limbs_small (by omega) _) (by rw [Dec.lval_limbs (by omega), Dec.lval_limbs (by omega)]; omega)
          rwa [Dec.lval_limbs (by omega), Dec.lval_limbs (by omega)] at this
        have HM := Lib.hid hM
        clear hM
        have hll : (Dec.limbs 10 (x.natAbs - y.natAbs)).length ≤ n1 := by rw [← hs1.len]; exact Dec.limbs_length_mono (by omega) (by omega)
        go_wp2_with (go_at_call 122; refine HC.out.mono ?_; rintro e w3 ⟨rfl, q, rfl⟩; rw [HO.out])
        refine (HM.out _).mono ?_
        rintro e w3 ⟨A3, n3, c3, rfl, hs3, hb3, _⟩
        have hbw3 := (below_drewN hbw2 q).trans (hb3.mono (below_drewN hbw2 q).size)
        have hn3 : n3 ≤ n1 := by rw [← hs3.len]; exact hll
        go_wp2_with fail
        refine (refTextV false A3 n3 c3 _ (x + y) _ hs3 (by omega) (by have := HH.out; simp; omega)).mono ?_
        rintro e w4 ⟨rfl, hb4⟩
        go_wp2
        go_ret
        exact ⟨rfl, hbw3.trans (hb4.mono hbw3.size)⟩
  · go_enter Tryz.func97, Tryz.ntmps97
    go_wp2_with fail
    refine (HP1.out _).mono ?_
    rintro e w1 ⟨A1, n1, c1, rfl, hs1, hn1, hb1⟩
    rw [decide_eq_false (by omega)]
    go_wp2_with fail
    refine (HP2.out _).mono ?_
    rintro e w2 ⟨A2, n2, c2, rfl, hs2, hn2, hb2⟩
    rw [decide_eq_false (by omega)]
    have hbw2 : Below w.heap.size w w2 := hb1.trans (hb2.mono hb1.size)
    have hP := refPlus_any A1 A2 n1 n2 c1 c2 _ _ w2 (hs1.below hb2) hs2 (by omega) (by omega) (Dec.limbs_small (by omega) _) (Dec.limbs_small (by omega) _)
    rw [Dec.lval_limbs (by omega), Dec.lval_limbs (by omega)] at hP
    have HP := Lib.hid hP
    clear hP
    go_wp2_with fail
    refine HP.out.mono ?_
    rintro e w3 ⟨A3, n3, c3, o3, rfl, hn3, hs3, hso3, hv3, hb3, _⟩
    have hbw3 := hbw2.trans (hb3.mono hbw2.size)
    have hX := refText_any false A3 n3 c3 o3 w3 hs3 (by omega) hso3
    rw [hv3, numStr_eq (v := x + y) (by simp; omega)] at hX
    have HX := Lib.hid hX
    clear hX hv3
    go_wp2_with fail
    refine HX.out.mono ?_
    rintro e w4 ⟨rfl, hb4⟩
    go_wp2
    go_ret
    exact ⟨rfl, hbw3.trans (hb4.mono hbw3.size)⟩

set_option maxHeartbeats 2000000 in
theorem refMul_any (a b : List UInt8) (w : World) (ha : a.length ≤ 2500000) (hb : b.length ≤ 2500000) :
    Calls Tryz.prog 98 #[.string ⟨a.toArray⟩, .string ⟨b.toArray⟩] w (RetStr (Lib.itoa (Dec.dval a * Dec.dval b)) w) := by
  have HP1 : Hid (∀ w' : World, Calls Tryz.prog 106 #[.string ⟨a.toArray⟩] w' (RetDig (a.length + 1) (Dec.dval a) w')) := fun w' => refDigW a ha w'
  have HP2 : Hid (∀ w' : World, Calls Tryz.prog 106 #[.string ⟨b.toArray⟩] w' (RetDig (b.length + 1) (Dec.dval b) w')) := fun w' => refDigW b hb w'
  generalize Dec.dval a = x at HP1
  generalize Dec.dval b = y at HP2
  have hms : (if (!(decide (x < 0) == decide (y < 0))) = true then -((x.natAbs * y.natAbs : Nat) : Int) else ((x.natAbs * y.natAbs : Nat) : Int)) = x * y := mul_sign x y
  obtain ⟨s, hsd⟩ : ∃ s, s = decide (x < 0) := ⟨_, rfl⟩
  obtain ⟨s', hsd'⟩ : ∃ s', s' = decide (y < 0) := ⟨_, rfl⟩
  rw [← hsd, ← hsd'] at hms
  have HSD := Lib.hid hsd
  have HSD' := Lib.hid hsd'
  clear hsd hsd'
  obtain ⟨z, hz⟩ : ∃ z, z = (!(s == s')) := ⟨_, rfl⟩
  rw [← hz] at hms
  have HMS := Lib.hid hms
  have hz' : (!(s == s')) = z := hz.symm
  clear hz hms
  go_enter Tryz.func98, Tryz.ntmps98
  go_wp2_with fail
  refine (HP1.out _).mono ?_
  rintro e w1 ⟨A1, n1, c1, rfl, hs1, hn1, hb1⟩
  rw [← HSD.out]
  go_wp2_with fail
  refine (HP2.out _).mono ?_
  rintro e w2 ⟨A2, n2, c2, rfl, hs2, hn2, hb2⟩
  rw [← HSD'.out]
  have hbw2 : Below w.heap.size w w2 := hb1.trans (hb2.mono hb1.size)
  have hl := length10_mul hs1.len hs2.len
  have hT := refTimes_any A1 A2 n1 n2 c1 c2 _ _ w2 (hs1.below hb2) hs2 (by omega) (by omega) (Dec.limbs_small (by omega) _) (Dec.limbs_small (by omega) _)
  rw [Dec.lval_limbs (by omega), Dec.lval_limbs (by omega)] at hT
  have HT := Lib.hid hT
  clear hT
  go_wp2_with fail
  refine HT.out.mono ?_
  rintro e w3 ⟨A3, n3, c3, rfl, hs3, hb3, _⟩
  have hbw3 := hbw2.trans (hb3.mono hbw2.size)
  have hn3 : n3 ≤ n1 + n2 := by rw [← hs3.len]; exact hl
  go_wp2_with fail
  refine (refTextV z A3 n3 c3 _ _ _ hs3 (by omega) HMS.out).mono ?_
  rintro e w4 ⟨rfl, hb4⟩
  go_wp2
  go_ret
  exact ⟨rfl, hbw3.trans (hb4.mono hbw3.size)⟩
end Go.Proofs.YtgphkgmhcmffnaaGreatDoor
