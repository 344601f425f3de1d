/- Rational numbers: what reducing a fraction gives, and how long its numerals are. -/
import Derived.Test.YtcdgckbdplkdbaaDoorNumZ
import Derived.Test.YtcdgckbdplkdbaaDoorObB
namespace Go.Proofs.YtcdgckbdplkdbaaDoor
open Go.RowKit

theorem qd_pos {x : Int} {g : Nat} (h : 0 < g) : qd x (g : Int) = x / g := by
  unfold qd
  rw [if_neg (by omega), if_pos (by omega)]
theorem rd_rat (x y : Int) : rdN x y = (Rat.divInt x y).num ∧ rdD x y = ((Rat.divInt x y).den : Int) := by
  rw [Rat.num_divInt, Rat.den_divInt]
  by_cases hy : y = 0
  · subst hy; simp [rdN, rdD]
  · have hg : 0 < Nat.gcd x.natAbs y.natAbs := Nat.gcd_pos_of_pos_right _ (by omega)
    have e : y.gcd x = Nat.gcd x.natAbs y.natAbs := Nat.gcd_comm _ _
    unfold rdN rdD
    rw [if_neg hy, if_neg hy, if_neg hy, qd_pos hg, qd_pos hg, e]
    refine ⟨?_, ?_⟩
    · congr 1
      unfold rdX
      split
      · rw [Int.sign_eq_neg_one_of_neg (by assumption)]; omega
      · rw [Int.sign_eq_one_of_pos (by omega)]; omega
    · unfold rdY
      rw [Int.natCast_ediv]
      congr 1
      split <;> omega
/-- numerator and denominator have at most k digits -/
structure Rb (k : Nat) (q : Rat) : Prop where
  num : q.num.natAbs < 10 ^ k
  den : q.den < 10 ^ k
  pos : 1 ≤ k
theorem Rb.mk' {k : Nat} {x y : Int} (hk : 1 ≤ k) (hx : x.natAbs < 10 ^ k) (hy : y.natAbs < 10 ^ k) : Rb k (Rat.divInt x y) := by
  refine ⟨?_, ?_, hk⟩
  · rw [Rat.num_divInt]
    refine Nat.lt_of_le_of_lt (Nat.le_trans (Int.natAbs_ediv_le_natAbs _ _) ?_) hx
    rw [Int.natAbs_mul]
    rcases Int.lt_trichotomy y 0 with h | h | h
    · rw [Int.sign_eq_neg_one_of_neg h]; simp
    · subst h; simp
    · rw [Int.sign_eq_one_of_pos h]; simp
  · rw [Rat.den_divInt]
    split
    · exact Nat.one_lt_pow (by omega) (by omega)
    · exact Nat.lt_of_le_of_lt (Nat.div_le_self _ _) hy
theorem Rb.mono {k m : Nat} {q : Rat} (h : Rb k q) (hm : k ≤ m) : Rb m q :=
  ⟨Nat.lt_of_lt_of_le h.num (Nat.pow_le_pow_right (by omega) hm), Nat.lt_of_lt_of_le h.den (Nat.pow_le_pow_right (by omega) hm), by have := h.pos; omega⟩
theorem Rat.add_div (p q : Rat) : p + q = Rat.divInt (p.num * q.den + q.num * p.den) (p.den * q.den) := by
  rw [Rat.add_def', ← Rat.divInt_ofNat, Int.natCast_mul]
theorem Rat.mul_div (p q : Rat) : p * q = Rat.divInt (p.num * q.num) (p.den * q.den) := by
  rw [Rat.mul_def', ← Rat.divInt_ofNat, Int.natCast_mul]
theorem mul_lt_pow {a b k m : Nat} (ha : a < 10 ^ k) (hb : b < 10 ^ m) : a * b < 10 ^ (k + m) := by
  rw [Nat.pow_add]
  exact Nat.mul_lt_mul'' ha hb
theorem Rb.add {k m : Nat} {p q : Rat} (h : Rb k p) (h' : Rb m q) : Rb (k + m + 1) (p + q) := by
  rw [Rat.add_div]
  have h1 := mul_lt_pow h.num h'.den
  have h2 := mul_lt_pow h.den h'.num
  have h3 := mul_lt_pow h.den h'.den
  have h4 : 10 ^ (k + m + 1) = 10 ^ (k + m) * 10 := Nat.pow_succ _ _
  refine Rb.mk' (by omega) ?_ ?_
  · have e1 : (p.num * (q.den : Int)).natAbs = p.num.natAbs * q.den := by rw [Int.natAbs_mul, Int.natAbs_natCast]
    have e2 : (q.num * (p.den : Int)).natAbs = p.den * q.num.natAbs := by rw [Int.natAbs_mul, Int.natAbs_natCast, Nat.mul_comm]
    omega
  · rw [Int.natAbs_mul, Int.natAbs_natCast, Int.natAbs_natCast]; omega
theorem Rb.mul {k m : Nat} {p q : Rat} (h : Rb k p) (h' : Rb m q) : Rb (k + m) (p * q) := by
  rw [Rat.mul_div]
  have := h.pos
  refine Rb.mk' (by omega) ?_ ?_
  · rw [Int.natAbs_mul]; exact mul_lt_pow h.num h'.num
  · rw [Int.natAbs_mul, Int.natAbs_natCast, Int.natAbs_natCast]; exact mul_lt_pow h.den h'.den
theorem Rb.neg {k : Nat} {p : Rat} (h : Rb k p) : Rb k (-p) := ⟨by rw [Rat.neg_num, Int.natAbs_neg]; exact h.num, by rw [Rat.neg_den]; exact h.den, h.pos⟩
theorem Rb.inv {k : Nat} {p : Rat} (h : Rb k p) : Rb k p⁻¹ := by
  rw [Rat.inv_def]
  exact Rb.mk' h.pos (by rw [Int.natAbs_natCast]; exact h.den) h.num
theorem Rb.zero : Rb 1 0 := ⟨by decide, by decide, by decide⟩
theorem Rb.one : Rb 1 1 := ⟨by decide, by decide, by decide⟩
theorem Rb.nlen {k : Nat} {q : Rat} (h : Rb k q) : (Lib.itoa q.num).length ≤ k + 1 := itoa_length_any _ h.pos h.num
theorem Rb.dlen {k : Nat} {q : Rat} (h : Rb k q) : (Lib.itoa (q.den : Int)).length ≤ k + 1 := itoa_length_any _ h.pos (by rw [Int.natAbs_natCast]; exact h.den)

/-- a number as an object -/
abbrev ratO (q : Rat) : Ob := numO (Lib.itoa q.num) (Lib.itoa (q.den : Int))
theorem ratO_inj {p q : Rat} : ratO p = ratO q ↔ p = q := by
  refine ⟨fun h => ?_, fun h => by rw [h]⟩
  injection h with _ h1 h2
  exact Rat.ext (Dec.itoa_inj h1) (by have := Dec.itoa_inj h2; omega)
theorem ratO_int (n : Int) : ratO (n : Rat) = numO (Lib.itoa n) [49] := by
  have : Lib.itoa 1 = [49] := itoa_one
  rw [ratO, Rat.num_intCast, Rat.den_intCast]
  show numO _ (Lib.itoa 1) = _
  rw [this]
theorem den_one {q : Rat} : Lib.itoa (q.den : Int) = [49] ↔ q.den = 1 := by
  rw [← itoa_one]
  exact ⟨fun h => by have := Dec.itoa_inj h; omega, fun h => by rw [h]; rfl⟩
theorem Rat.int_of_den {q : Rat} (h : q.den = 1) : q = (q.num : Rat) := Rat.ext (by rw [Rat.num_intCast]) (by rw [Rat.den_intCast, h])
/-- the value of an object in arithmetic: 0 unless it is a number -/
def Val (o : Ob) (q : Rat) : Prop := (o.kind = 1 ∧ o = ratO q) ∨ (o.kind ≠ 1 ∧ q = 0)
theorem Val.rat (q : Rat) : Val (ratO q) q := .inl ⟨rfl, rfl⟩
/-- a number is returned -/
def RetNL (n d : List UInt8) (w : World) (e : Ending) (w' : World) : Prop := ∃ (A : Option Addr) (c : Nat), e = .returned (objV (numO n d) (.slice A 0 c)) ∧ Below w.heap.size w w'
abbrev RetNum (q : Rat) (w : World) (e : Ending) (w' : World) : Prop := RetNL (Lib.itoa q.num) (Lib.itoa (q.den : Int)) w e w'
theorem RetLeaf.num {o : Ob} {q : Rat} {w w' : World} {e : Ending} (h : RetLeaf o w e w') (ho : o = ratO q) : RetNum q w e w' := ⟨none, 0, by subst ho; exact h.1, h.2⟩
def cmpQ (p q : Rat) : Int := if p < q then -1 else if q < p then 1 else 0
theorem cmpQ_cross (p q : Rat) : cmpI (p.num * q.den) (q.num * p.den) = cmpQ p q := by
  unfold cmpI cmpQ
  simp only [Rat.lt_iff]
theorem cmpQ_den {p q : Rat} (h : p.den = q.den) : cmpI p.num q.num = cmpQ p q := by
  rw [← cmpQ_cross, h]
  have hp : 0 < (q.den : Int) := by have := q.den_nz; omega
  unfold cmpI
  simp only [Int.mul_lt_mul_right hp]
end Go.Proofs.YtcdgckbdplkdbaaDoor
