/- Quotient rounded down, and remainder: plain arithmetic. -/
import Derived.Test.YtcdgckbdplkdbaaDoorLimb
namespace Go.Proofs.YtcdgckbdplkdbaaDoor

def qd (x y : Int) : Int := if y = 0 then 0 else if 0 < y then x / y else (-x) / (-y)
def rm (x y : Int) : Int := x - qd x y * y
theorem qd_zero (x : Int) : qd x 0 = 0 := rfl
theorem rm_zero (x : Int) : rm x 0 = x := by simp [rm]
theorem qr (x y : Int) : x = qd x y * y + rm x y := by unfold rm; omega
theorem ediv_of {x Y q r : Int} (hY : 0 < Y) (h : x = q * Y + r) (h0 : 0 ≤ r) (h1 : r < Y) : x / Y = q :=
  ((Int.ediv_emod_unique hY).2 ⟨by rw [h, Int.mul_comm]; omega, h0, h1⟩).1
theorem qd_of_pos {x y q r : Int} (hy : 0 < y) (h : x = q * y + r) (h0 : 0 ≤ r) (h1 : r < y) : qd x y = q ∧ rm x y = r := by
  have e : qd x y = q := by unfold qd; rw [if_neg (by omega), if_pos hy]; exact ediv_of hy h h0 h1
  exact ⟨e, by unfold rm; rw [e]; omega⟩
theorem qd_of_neg {x y q r : Int} (hy : y < 0) (h : x = q * y + r) (h0 : r ≤ 0) (h1 : y < r) : qd x y = q ∧ rm x y = r := by
  have e : qd x y = q := by
    unfold qd; rw [if_neg (by omega), if_neg (by omega)]
    exact ediv_of (by omega) (by rw [h, Int.mul_neg]; omega : -x = q * (-y) + (-r)) (by omega) (by omega)
  exact ⟨e, by unfold rm; rw [e]; omega⟩
theorem rm_bounds {x y : Int} (hy : y ≠ 0) : (0 < y → 0 ≤ rm x y ∧ rm x y < y) ∧ (y < 0 → rm x y ≤ 0 ∧ y < rm x y) := by
  refine ⟨fun h => ?_, fun h => ?_⟩
  · have h1 := Int.emod_nonneg x hy
    have h2 := Int.emod_lt_of_pos x h
    have h3 := Int.mul_ediv_add_emod x y
    have e : rm x y = x % y := by
      unfold rm qd; rw [if_neg hy, if_pos h, Int.mul_comm]; omega
    omega
  · have h1 := Int.emod_nonneg (-x) (b := -y) (by omega)
    have h2 := Int.emod_lt_of_pos (-x) (b := -y) (by omega)
    have h3 := Int.mul_ediv_add_emod (-x) (-y)
    have e : rm x y = -((-x) % (-y)) := by
      unfold rm qd; rw [if_neg hy, if_neg (by omega)]
      have : (-x) / (-y) * y = -((-y) * ((-x) / (-y))) := by rw [Int.neg_mul, Int.neg_neg, Int.mul_comm]
      omega
    omega
/-- signs that agree -/
theorem qd_same {x y : Int} {s : Bool} (hy : y ≠ 0) (hx : decide (x < 0) = s) (hs : decide (y < 0) = s) :
    ((x.natAbs / y.natAbs : Nat) : Int) = qd x y ∧ (if s then -((x.natAbs % y.natAbs : Nat) : Int) else ((x.natAbs % y.natAbs : Nat) : Int)) = rm x y := by
  have h1 := Nat.div_add_mod x.natAbs y.natAbs
  have h2 := Nat.mod_lt x.natAbs (show 0 < y.natAbs by omega)
  generalize x.natAbs / y.natAbs = Q at *
  generalize x.natAbs % y.natAbs = R at *
  have h3 : (y.natAbs : Int) * Q + R = x.natAbs := by rw [← h1]; simp
  cases s with
  | true =>
    have hx' : x < 0 := of_decide_eq_true hx
    have hy' : y < 0 := of_decide_eq_true hs
    have e : x = (Q : Int) * y + -(R : Int) := by
      have : (y.natAbs : Int) = -y := by omega
      rw [this, Int.neg_mul, Int.mul_comm] at h3
      omega
    obtain ⟨a, b⟩ := qd_of_neg hy' e (by omega) (by omega)
    exact ⟨a.symm, by simp; omega⟩
  | false =>
    have hx' : ¬ x < 0 := of_decide_eq_false hx
    have hy' : ¬ y < 0 := of_decide_eq_false hs
    have e : x = (Q : Int) * y + (R : Int) := by
      have : (y.natAbs : Int) = y := by omega
      rw [this, Int.mul_comm] at h3
      omega
    obtain ⟨a, b⟩ := qd_of_pos (by omega) e (by omega) (by omega)
    exact ⟨a.symm, by simp; omega⟩
/-- signs that differ, nothing left -/
theorem qd_diff0 {x y : Int} {s : Bool} (hy : y ≠ 0) (hx : decide (x < 0) = !s) (hs : decide (y < 0) = s) (h0 : x.natAbs % y.natAbs = 0) :
    -((x.natAbs / y.natAbs : Nat) : Int) = qd x y ∧ rm x y = 0 := by
  have h1 := Nat.div_add_mod x.natAbs y.natAbs
  rw [h0] at h1
  generalize x.natAbs / y.natAbs = Q at *
  have h3 : (y.natAbs : Int) * Q = x.natAbs := by rw [← h1]; simp
  cases s with
  | true =>
    have hx' : ¬ x < 0 := of_decide_eq_false hx
    have hy' : y < 0 := of_decide_eq_true hs
    have e : x = -(Q : Int) * y + 0 := by
      have : (y.natAbs : Int) = -y := by omega
      rw [this, Int.neg_mul, Int.mul_comm] at h3
      rw [Int.neg_mul]; omega
    obtain ⟨a, b⟩ := qd_of_neg hy' e (by omega) (by omega)
    exact ⟨a.symm, b⟩
  | false =>
    have hx' : x < 0 := of_decide_eq_true hx
    have hy' : ¬ y < 0 := of_decide_eq_false hs
    have e : x = -(Q : Int) * y + 0 := by
      have : (y.natAbs : Int) = y := by omega
      rw [this, Int.mul_comm] at h3
      rw [Int.neg_mul]; omega
    obtain ⟨a, b⟩ := qd_of_pos (by omega) e (by omega) (by omega)
    exact ⟨a.symm, b⟩
/-- signs that differ, something left -/
theorem qd_diff {x y : Int} {s : Bool} (hy : y ≠ 0) (hx : decide (x < 0) = !s) (hs : decide (y < 0) = s) (h0 : x.natAbs % y.natAbs ≠ 0) :
    -((x.natAbs / y.natAbs + 1 : Nat) : Int) = qd x y ∧ (if s then -((y.natAbs - x.natAbs % y.natAbs : Nat) : Int) else ((y.natAbs - x.natAbs % y.natAbs : Nat) : Int)) = rm x y := by
  have h1 := Nat.div_add_mod x.natAbs y.natAbs
  have h2 := Nat.mod_lt x.natAbs (show 0 < y.natAbs by omega)
  generalize x.natAbs / y.natAbs = Q at *
  generalize x.natAbs % y.natAbs = R at *
  have h3 : (y.natAbs : Int) * Q + R = x.natAbs := by rw [← h1]; simp
  cases s with
  | true =>
    have hx' : ¬ x < 0 := of_decide_eq_false hx
    have hy' : y < 0 := of_decide_eq_true hs
    have e : x = -((Q : Int) + 1) * y + (y + R) := by
      have : (y.natAbs : Int) = -y := by omega
      rw [this, Int.neg_mul, Int.mul_comm] at h3
      rw [Int.neg_mul, Int.add_mul]; omega
    obtain ⟨a, b⟩ := qd_of_neg hy' e (by omega) (by omega)
    exact ⟨by rw [a]; omega, by simp; omega⟩
  | false =>
    have hx' : x < 0 := of_decide_eq_true hx
    have hy' : ¬ y < 0 := of_decide_eq_false hs
    have e : x = -((Q : Int) + 1) * y + (y - R) := by
      have : (y.natAbs : Int) = y := by omega
      rw [this, Int.mul_comm] at h3
      rw [Int.neg_mul, Int.add_mul]; omega
    obtain ⟨a, b⟩ := qd_of_pos (by omega) e (by omega) (by omega)
    exact ⟨by rw [a]; omega, by simp; omega⟩
end Go.Proofs.YtcdgckbdplkdbaaDoor
