/- number.Add, Subtract, Multiply. -/
import Derived.Test.YtcdgckbdplkdbaaDoorNumC
namespace Go.Proofs.YtcdgckbdplkdbaaDoor
open Go.RowKit

theorem dval_lt (l : List UInt8) : (Dec.dval l).natAbs < 10 ^ (l.length) ∨ Dec.dval l = 0 := by
  unfold Dec.dval
  cases hd : Dec.isDec l with
  | false => right; simp
  | true =>
    by_cases h0 : l = [48]
    · right; subst h0; decide
    · left
      obtain ⟨h1, _⟩ := (Dec.isDec_iff h0).1 hd
      have h2 := Dec.nval_lt _ h1
      have h3 : 10 ^ (Dec.mag l).length ≤ 10 ^ l.length := Nat.pow_le_pow_right (by omega) (Dec.mag_length_le l)
      simp only [if_true]
      split <;> omega
theorem dval_lt18 {l : List UInt8} {k : Nat} (h : l.length ≤ k) : (Dec.dval l).natAbs < 10 ^ k := by
  have h3 : 10 ^ l.length ≤ 10 ^ k := Nat.pow_le_pow_right (by omega) h
  have h4 : 0 < 10 ^ k := Nat.pow_pos (by omega)
  rcases dval_lt l with h1 | h1
  · omega
  · rw [h1]; simpa using h4
theorem add_any (x y : Int) (A A' : Option Addr) (n n' c c' : Nat) (w : World) (hx : Sl w .u32 A n c (Dec.limbs 1000000000 x.natAbs)) (hy : Sl w .u32 A' n' c' (Dec.limbs 1000000000 y.natAbs)) (hn : n ≤ 10000000) (hn' : n' ≤ 10000000) :
    Calls Tryd.prog 46 #[.agg #[.bool (decide (x < 0)), .slice A n c], .agg #[.bool (decide (y < 0)), .slice A' n' c']] w (RetSg (n + n' + 1) (x + y) w) := by
  by_cases h1 : x < 0 <;> by_cases h2 : y < 0
  · rw [decide_eq_true h1, decide_eq_true h2]
    exact add_same true A A' n n' c c' _ _ _ w hx hy hn hn' (Lib.hid (by simp; omega))
  · rw [decide_eq_true h1, decide_eq_false h2]
    rcases Nat.lt_or_ge x.natAbs y.natAbs with h | h
    · exact add_lt true false A A' n n' c c' _ _ _ w hx hy hn hn' rfl h (Lib.hid (by simp; omega))
    · exact add_ge true false A A' n n' c c' _ _ _ w hx hy hn hn' rfl h (Lib.hid (by simp; omega))
  · rw [decide_eq_false h1, decide_eq_true h2]
    rcases Nat.lt_or_ge x.natAbs y.natAbs with h | h
    · exact add_lt false true A A' n n' c c' _ _ _ w hx hy hn hn' rfl h (Lib.hid (by simp; omega))
    · exact add_ge false true A A' n n' c c' _ _ _ w hx hy hn hn' rfl h (Lib.hid (by simp; omega))
  · rw [decide_eq_false h1, decide_eq_false h2]
    exact add_same false A A' n n' c c' _ _ _ w hx hy hn hn' (Lib.hid (by simp; omega))

set_option maxHeartbeats 1000000 in
theorem addN_any (a b : List UInt8) (w : World) (ha : a.length ≤ 1000000) (hb : b.length ≤ 1000000) (ht : Tab w) :
    Calls Tryd.prog 27 #[.string ⟨a.toArray⟩, .string ⟨b.toArray⟩] w (RetStr (Lib.itoa (Dec.dval a + Dec.dval b)) w) := by
  by_cases hs : (a.length : Int) ≤ 18 ∧ (b.length : Int) ≤ 18 ∧ Dec.isDec a = true ∧ Dec.isDec b = true
  · obtain ⟨h1, h2, h3, h4⟩ := hs
    have HS := Lib.hid (short_yes a b 18 w (by omega) h1 h2 h3 h4)
    have hba := dval_lt18 (l := a) (k := 18) (by omega)
    have hbb := dval_lt18 (l := b) (k := 18) (by omega)
    have HF : Hid (∀ w', Tab w' → Calls Tryd.prog 42 #[.int .i64 (Dec.dval a + Dec.dval b), .int .i64 10] w' fun e w'' => e = .returned (.string ⟨(Lib.itoa (Dec.dval a + Dec.dval b)).toArray⟩) ∧ Below w'.heap.size w' w'') := fun w' ht' => formatInt_any _ w' ht' (by omega) (by omega)
    clear h3 h4
    generalize Dec.dval a = x at *
    generalize Dec.dval b = y at *
    have b1 : x ≤ 1000000000000000000 := by omega
    have b2 : -1000000000000000000 ≤ x := by omega
    have b3 : y ≤ 1000000000000000000 := by omega
    have b4 : -1000000000000000000 ≤ y := by omega
    clear hba hbb
    go_enter Tryd.func27, Tryd.ntmps27
    go_wp2_with fail
    refine HS.out.mono ?_
    rintro e w1 ⟨rfl, hb1⟩
    go_wp2_with fail
    refine (HF.out _ (ht.below hb1)).mono ?_
    rintro e w2 ⟨rfl, hb2⟩
    go_wp2
    go_ret
    exact ⟨rfl, hb1.trans (hb2.mono hb1.size)⟩
  · have HS := Lib.hid (short_no a b 18 w ha hb hs)
    have HP1 : Hid (∀ w', Calls Tryd.prog 43 #[.string ⟨a.toArray⟩] w' (RetInt (a.length + 1) (Dec.dval a) w')) := fun w' => parse_any a w' ha
    have HP2 : Hid (∀ w', Calls Tryd.prog 43 #[.string ⟨b.toArray⟩] w' (RetInt (b.length + 1) (Dec.dval b) w')) := fun w' => parse_any b w' hb
    clear hs
    generalize Dec.dval a = x at *
    generalize Dec.dval b = y at *
    go_enter Tryd.func27, Tryd.ntmps27
    go_wp2_with fail
    refine HS.out.mono ?_
    rintro e w' ⟨rfl, rfl⟩
    go_wp2_with fail
    refine (HP1.out _).mono ?_
    rintro e w1 ⟨A1, n1, c1, rfl, hs1, hn1, hb1⟩
    go_wp2_with fail
    refine (HP2.out _).mono ?_
    rintro e w2 ⟨A2, n2, c2, rfl, hs2, hn2, hb2⟩
    have hbw2 := hb1.trans (hb2.mono hb1.size)
    go_wp2_with fail
    refine (add_any x y A1 A2 n1 n2 c1 c2 _ (hs1.below hb2) hs2 (by omega) (by omega)).mono ?_
    rintro e w3 ⟨s, m, A3, n3, c3, rfl, hs3, hn3, hv3, hb3⟩
    have hbw3 := hbw2.trans (hb3.mono hbw2.size)
    have HV := Lib.hid hv3
    clear hv3
    go_wp2_with fail
    refine (string_any s A3 n3 c3 m _ hs3 (by omega) (ht.below hbw3)).mono ?_
    rintro e w4 ⟨rfl, hb4⟩
    rw [numStr_eq HV.out]
    go_wp2
    go_ret
    exact ⟨rfl, hbw3.trans (hb4.mono hbw3.size)⟩
theorem itoa_length_any (v : Int) {k : Nat} (hk : 1 ≤ k) (h : v.natAbs < 10 ^ k) : (Lib.itoa v).length ≤ k + 1 := by
  have h1 := Dec.decDigits_length_le hk h
  by_cases hv : v < 0
  · rw [itoa_natNeg hv, List.length_cons]; omega
  · rw [itoa_natPos (by omega)]; omega
theorem itoa_neg_length (l : List UInt8) : (Lib.itoa (-(Dec.dval l))).length ≤ l.length + 2 := by
  have := itoa_length_any (-(Dec.dval l)) (k := l.length + 1) (by omega) (by rw [Int.natAbs_neg]; exact dval_lt18 (by omega))
  omega
theorem mul_sign (x y : Int) : (if (decide (x < 0)) != (decide (y < 0)) then -((x.natAbs * y.natAbs : Nat) : Int) else ((x.natAbs * y.natAbs : Nat) : Int)) = x * y := by
  rw [← Int.natAbs_mul]
  by_cases h1 : x < 0 <;> by_cases h2 : y < 0
  · have := Int.mul_pos_of_neg_of_neg h1 h2
    simp [h1, h2]; omega
  · have : x * y ≤ 0 := Int.mul_nonpos_of_nonpos_of_nonneg (by omega) (by omega)
    simp [h1, h2]; omega
  · have : x * y ≤ 0 := Int.mul_nonpos_of_nonneg_of_nonpos (by omega) (by omega)
    simp [h1, h2]; omega
  · have : 0 ≤ x * y := Int.mul_nonneg (by omega) (by omega)
    simp [h1, h2]; omega
theorem mul9 {x y : Int} (hx : x.natAbs < 10 ^ 9) (hy : y.natAbs < 10 ^ 9) : -1000000000000000000 ≤ x * y ∧ x * y ≤ 1000000000000000000 := by
  have h : (x * y).natAbs ≤ 10 ^ 9 * 10 ^ 9 := by rw [Int.natAbs_mul]; exact Nat.mul_le_mul (by omega) (by omega)
  omega
theorem length_limbs_mul {a b n n' : Nat} (h : (Dec.limbs 1000000000 a).length = n) (h' : (Dec.limbs 1000000000 b).length = n') : (Dec.limbs 1000000000 (a * b)).length ≤ n + n' := by
  apply Dec.limbs_lt_length (by omega)
  rw [Nat.pow_add]
  have h1 := limbs_lt h
  have h2 := limbs_lt h'
  rcases Nat.eq_zero_or_pos b with e | e
  · subst e; rw [Nat.mul_zero]; exact Nat.mul_pos (Nat.pow_pos (by omega)) (Nat.pow_pos (by omega))
  · exact Nat.mul_lt_mul'' h1 h2
end Go.Proofs.YtcdgckbdplkdbaaDoor
