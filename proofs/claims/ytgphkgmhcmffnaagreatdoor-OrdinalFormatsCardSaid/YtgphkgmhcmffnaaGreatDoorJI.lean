/- Quotient rounded down, and remainder: plain arithmetic. -/
import Derived.Test.YtgphkgmhcmffnaaGreatDoorJA
import Derived.Test.YtgphkgmhcmffnaaGreatDoorJH
namespace Go.Proofs.YtgphkgmhcmffnaaGreatDoor

def qd (x y : Int) : Int := if y = 0 then 0 else if 0 < y then x / y else (-x) / (-y)
def rm (x y : Int) : Int := x - qd x y * y
theorem qd_zero (x : Int) : qd x 0 = 0 := rfl
theorem rm_zero (x : Int) : rm x 0 = x := by simp [rm]
theorem qr (x y : Int) : x = qd x y * y + rm x y := by unfold rm; omega
theorem ediv_of {x Y q r : Int} (hY : 0 < Y) (h : x = q * Y + r) (h0 : 0 ≤ r) (h1 : r < Y) : x / Y = q :=
  ((Int.ediv_emod_unique hY).2 ⟨by rw [h, Int.mul_comm]; omega, h0, h1⟩).1
theorem qd_of_pos {x y q r : Int} (hy : 0 < y) (h : x = q * y + r) (h0 : 0 ≤ r) (h1 : r < y) : qd x y = q ∧ rm x y = r := by
  have e : qd x y = q := by unfold qd; rw [if_neg (by omega), if_pos hy]; exact ediv_of hy h h0 h1
  exact ⟨e, by unfold rm; rw [e]; omega⟩
theorem qd_of_neg {x y q r : Int} (hy : y < 0) (h : x = q * y + r) (h0 : r ≤ 0) (h1 : y < r) : qd x y = q ∧ rm x y = r := by
  have e : qd x y = q := by
    unfold qd; rw [if_neg (by omega), if_neg (by omega)]
    exact ediv_of (by omega) (by rw [h, Int.mul_neg]; omega : -x = q * (-y) + (-r)) (by omega) (by omega)
  exact ⟨e, by unfold rm; rw [e]; omega⟩
theorem rm_bounds {x y : Int} (hy : y ≠ 0) : (0 < y → 0 ≤ rm x y ∧ rm x y < y) ∧ (y < 0 → rm x y ≤ 0 ∧ y < rm x y) := by
  refine ⟨fun h => ?_, fun h => ?_⟩
  · have h1 := Int.emod_nonneg x hy
    have h2 := Int.emod_lt_of_pos x h
    have h3 := Int.mul_ediv_add_emod x y
    have e : rm x y = x % y := by
      unfold rm qd; rw [if_neg hy, if_pos h, Int.mul_comm]; omega
    omega
  · have h1 := Int.emod_nonneg (-x) (b := -y) (by omega)
    have h2 := Int.emod_lt_of_pos (-x) (b := -y) (by omega)
    have h3 := Int.mul_ediv_add_emod (-x) (-y)
    have e : rm x y = -((-x) % (-y)) := by
      unfold rm qd; rw [if_neg hy, if_neg (by omega)]
      have : (-x) / (-y) * y = -((-y) * ((-x) / (-y))) := by rw [Int.neg_mul, Int.neg_neg, Int.mul_comm]
      omega
    omega
/-- signs that agree -/
theorem qd_same {x y : Int} {s : Bool} (hy : y ≠ 0) (hx : decide (x < 0) = s) (hs : decide (y < 0) = s) :
    ((x.natAbs / y.natAbs : Nat) : Int) = qd x y ∧ (if s then -((x.natAbs % y.natAbs : Nat) : Int) else ((x.natAbs % y.natAbs : Nat) : Int)) = rm x y := by
  have h1 := Nat.div_add_mod x.natAbs y.natAbs
  have h2 := Nat.mod_lt x.natAbs (show 0 < y.natAbs by omega)
  generalize x.natAbs / y.natAbs = Q at *
  generalize x.natAbs % y.natAbs = R at *
  have h3 : (y.natAbs : Int) * Q + R = x.natAbs := by rw [← h1]; simp
  cases s with
  | true =>
    have hx' : x < 0 := of_decide_eq_true hx
    have hy' : y < 0 := of_decide_eq_true hs
    have e : x = (Q : Int) * y + -(R : Int) := by
      have : (y.natAbs : Int) = -y := by omega
      rw [this, Int.neg_mul, Int.mul_comm] at h3
      omega
    obtain ⟨a, b⟩ := qd_of_neg hy' e (by omega) (by omega)
    exact ⟨a.symm, by simp; omega⟩
  | false =>
    have hx' : ¬ x < 0 := of_decide_eq_false hx
    have hy' : ¬ y < 0 := of_decide_eq_false hs
    have e : x = (Q : Int) * y + (R : Int) := by
      have : (y.natAbs : Int) = y := by omega
      rw [this, Int.mul_comm] at h3
      omega
    obtain ⟨a, b⟩ := qd_of_pos (by omega) e (by omega) (by omega)
    exact ⟨a.symm, by simp; omega⟩
/-- signs that differ, nothing left -/
theorem qd_diff0 {x y : Int} {s : Bool} (hy : y ≠ 0) (hx : decide (x < 0) = !s) (hs : decide (y < 0) = s) (h0 : x.natAbs % y.natAbs = 0) :
    -((x.natAbs / y.natAbs : Nat) : Int) = qd x y ∧ rm x y = 0 := by
  have h1 := Nat.div_add_mod x.natAbs y.natAbs
  rw [h0] at h1
  generalize x.natAbs / y.natAbs = Q at *
  have h3 : (y.natAbs : Int) * Q = x.natAbs := by rw [← h1]; simp
  cases s with
  | true =>
    have hx' : ¬ x < 0 := of_decide_eq_false hx
    have hy' : y < 0 := of_decide_eq_true hs
    have e : x = -(Q : Int) * y + 0 := by
      have : (y.natAbs : Int) = -y := by omega
      rw [this, Int.neg_mul, Int.mul_comm] at h3
      rw [Int.neg_mul]; omega
    obtain ⟨a, b⟩ := qd_of_neg hy' e (by omega) (by omega)
    exact ⟨a.symm, b⟩
  | false =>
    have hx' : x < 0 := of_decide_eq_true hx
    have hy' : ¬ y < 0 := of_decide_eq_false hs
    have e : x = -(Q : Int) * y + 0 := by
      have : (y.natAbs : Int) = y := by omega
      rw [this, Int.mul_comm] at h3
      rw [Int.neg_mul]; omega
    obtain ⟨a, b⟩ := qd_of_pos (by omega) e (by omega) (by omega)
    exact ⟨a.symm, b⟩
/-- signs that differ, something left -/
theorem qd_diff {x y : Int} {s : Bool} (hy : y ≠ 0) (hx : decide (x < 0) = !s) (hs : decide (y < 0) = s) (h0 : x.natAbs % y.natAbs ≠ 0) :
    -((x.natAbs / y.natAbs + 1 : Nat) : Int) = qd x y ∧ (if s then -((y.natAbs - x.natAbs % y.natAbs : Nat) : Int) else ((y.natAbs - x.natAbs % y.natAbs : Nat) : Int)) = rm x y := by
  have h1 := Nat.div_add_mod x.natAbs y.natAbs
  have h2 := Nat.mod_lt x.natAbs (show 0 < y.natAbs by omega)
  generalize x.natAbs / y.natAbs = Q at *
  generalize x.natAbs % y.natAbs = R at *
  have h3 : (y.natAbs : Int) * Q + R = x.natAbs := by rw [← h1]; simp
  cases s with
  | true =>
    have hx' : ¬ x < 0 := of_decide_eq_false hx
    have hy' : y < 0 := of_decide_eq_true hs
    have e : x = -((Q : Int) + 1) * y + (y + R) := by
      have : (y.natAbs : Int) = -y := by omega
      rw [this, Int.neg_mul, Int.mul_comm] at h3
      rw [Int.neg_mul, Int.add_mul]; omega
    obtain ⟨a, b⟩ := qd_of_neg hy' e (by omega) (by omega)
    exact ⟨by rw [a]; omega, by simp; omega⟩
  | false =>
    have hx' : x < 0 := of_decide_eq_true hx
    have hy' : ¬ y < 0 := of_decide_eq_false hs
    have e : x = -((Q : Int) + 1) * y + (y - R) := by
      have : (y.natAbs : Int) = y := by omega
      rw [this, Int.mul_comm] at h3
      rw [Int.neg_mul, Int.add_mul]; omega
    obtain ⟨a, b⟩ := qd_of_pos (by omega) e (by omega) (by omega)
    exact ⟨by rw [a]; omega, by simp; omega⟩
end Go.Proofs.YtgphkgmhcmffnaaGreatDoor
/- number.Divide: quotient rounded down and remainder. -/
namespace Go.Proofs.YtgphkgmhcmffnaaGreatDoor
open Go.RowKit

def RetStr2 (a b : List UInt8) (w : World) (e : Ending) (w' : World) : Prop := e = .returned (.tuple #[.string ⟨a.toArray⟩, .string ⟨b.toArray⟩]) ∧ Below w.heap.size w w'
theorem natAbs_limbs {x : Int} {n : Nat} (h : (Dec.limbs 1000000000 x.natAbs).length = n) : n = 0 ↔ x = 0 := by
  subst h
  constructor
  · intro h
    have := (Dec.limbs_eq_nil (B := 1000000000) (by omega)).1 (List.eq_nil_of_length_eq_zero h)
    omega
  · rintro rfl; rfl
theorem length_limbs_div {a b n : Nat} (h : (Dec.limbs 1000000000 a).length = n) : (Dec.limbs 1000000000 (a / b)).length ≤ n := by
  rw [← h]; exact Dec.limbs_length_mono (by omega) (Nat.div_le_self a b)
theorem length_limbs_mod {a b n : Nat} (hb : 0 < b) (h : (Dec.limbs 1000000000 b).length = n) : (Dec.limbs 1000000000 (a % b)).length ≤ n := by
  rw [← h]; exact Dec.limbs_length_mono (by omega) (Nat.le_of_lt (Nat.mod_lt a hb))
theorem two_new (w : World) (T : TypeId) (u0 v0 u1 v1 : Value) : BlkIs ((w.alloc (.cells #[u0, v0] T)).alloc (.cells #[u1, v1] T)) w.heap.size T #[u0, v0] ∧ BlkIs ((w.alloc (.cells #[u0, v0] T)).alloc (.cells #[u1, v1] T)) (w.heap.size + 1) T #[u1, v1] := by
  obtain ⟨a, b, _⟩ := two_blocks w T u0 v0 u1 v1
  exact ⟨a.out, b.out⟩

theorem upd1 {w : World} {g : Nat} {t : TypeId} {u v v' : Value} (h : BlkIs w g t #[u, v]) : BlkIs (w.setCell ⟨g, 1, none⟩ v') g t #[u, v'] := by
  have := h.set_ 1 v'
  simpa using this
end Go.Proofs.YtgphkgmhcmffnaaGreatDoor
/- number.Divide, where nothing must be rounded. -/
namespace Go.Proofs.YtgphkgmhcmffnaaGreatDoor
open Go.RowKit

set_option maxHeartbeats 2000000 in
set_option maxRecDepth 100000 in
theorem divN_zero (a b : List UInt8) (w : World) (ha : a.length ≤ 2400000) (hb : b.length ≤ 2400000) (hy0 : Dec.dval b = 0) :
    Calls Tryz.prog 154 #[.string ⟨a.toArray⟩, .string ⟨b.toArray⟩] w (RetStr2 [48] (Lib.itoa (Dec.dval a)) w) := by
  have HP1 : Hid (∀ w', Calls Tryz.prog 142 #[.string ⟨a.toArray⟩] w' (RetInt (a.length + 1) (Dec.dval a) w')) := fun w' => parse_any a w' (by omega)
  have HP2 : Hid (∀ w', Calls Tryz.prog 142 #[.string ⟨b.toArray⟩] w' (RetInt (b.length + 1) 0 w')) := fun w' => by have := parse_any b w' (by omega); rwa [hy0] at this
  have HDc : Hid (∀ w', Calls Tryz.prog 151 #[.string ⟨a.toArray⟩] w' fun e w'' => e = .returned (.string ⟨(Lib.itoa (Dec.dval a)).toArray⟩) ∧ w' = w'') := fun w' => by have := decimal_any a w' (by omega); rwa [norm_eq] at this
  clear hy0
  go_enter Tryz.func154, Tryz.ntmps154
  go_wp2_with fail
  refine (HP1.out _).mono ?_
  rintro e w1 ⟨A1, n1, c1, rfl, hs1, hn1, hb1⟩
  go_wp2_with fail
  refine (HP2.out _).mono ?_
  rintro e w2 ⟨A2, n2, c2, rfl, hs2, hn2, hb2⟩
  have hbw2 := hb1.trans (hb2.mono hb1.size)
  obtain rfl : n2 = 0 := (natAbs_limbs (x := 0) hs2.len).2 rfl
  go_wp2_with fail
  refine (HDc.out _).mono ?_
  rintro e w' ⟨rfl, rfl⟩
  go_wp2
  go_ret2
  exact ⟨rfl, (hbw2.alloc hbw2.size _).alloc (by rw [World.size_alloc]; have := hbw2.size; omega) _⟩

set_option maxHeartbeats 4000000 in
set_option maxRecDepth 100000 in
theorem divN_easy (a b : List UInt8) (w : World) (ha : a.length ≤ 2400000) (hb : b.length ≤ 2400000) (ht : Tab w) (x y : Int) (hxv : Dec.dval a = x) (hyv : Dec.dval b = y) (hy0 : y ≠ 0) (s s' z : Bool) (hsd : decide (x < 0) = s) (hsd' : decide (y < 0) = s')
    (hz : (!(s == s')) = z) (hcase : z = false ∨ x.natAbs % y.natAbs = 0) (q r : List UInt8) (HQ : Hid (numStr z (x.natAbs / y.natAbs) = q)) (HR : Hid (numStr s' (x.natAbs % y.natAbs) = r)) :
    Calls Tryz.prog 154 #[.string ⟨a.toArray⟩, .string ⟨b.toArray⟩] w (RetStr2 q r w) := by
  have HP1 : Hid (∀ w', Calls Tryz.prog 142 #[.string ⟨a.toArray⟩] w' (RetInt (a.length + 1) x w')) := fun w' => by have := parse_any a w' (by omega); rwa [hxv] at this
  have HP2 : Hid (∀ w', Calls Tryz.prog 142 #[.string ⟨b.toArray⟩] w' (RetInt (b.length + 1) y w')) := fun w' => by have := parse_any b w' (by omega); rwa [hyv] at this
  have HSD := Lib.hid hsd
  have HSD' := Lib.hid hsd'
  have hyp : 0 < y.natAbs := by omega
  have HCase := Lib.hid hcase
  clear hcase
  clear hsd hsd' hxv hyv
  go_enter Tryz.func154, Tryz.ntmps154
  go_wp2_with fail
  refine (HP1.out _).mono ?_
  rintro e w1 ⟨A1, n1, c1, rfl, hs1, hn1, hb1⟩
  rw [HSD.out]
  go_wp2_with fail
  refine (HP2.out _).mono ?_
  rintro e w2 ⟨A2, n2, c2, rfl, hs2, hn2, hb2⟩
  rw [HSD'.out]
  have hbw2 := hb1.trans (hb2.mono hb1.size)
  have hn20 : ((n2 : Int) == 0) = false := by rw [beq_eq_false_iff_ne]; intro e; exact hy0 ((natAbs_limbs hs2.len).1 (by omega))
  clear hy0
  go_wp2_with fail
  obtain ⟨B0, B1, hbW⟩ := two_blocks w2 99 (.bool s) (.slice A1 n1 c1) (.bool s') (.slice A2 n2 c2)
  generalize ((w2.alloc (.cells #[.bool s, .slice A1 n1 c1] 99)).alloc (.cells #[.bool s', .slice A2 n2 c2] 99)) = W at *
  have hbwW := hbw2.trans (hbW.mono hbw2.size)
  have hsA := (hs1.below hb2).below hbW
  have hsB := hs2.below hbW
  have hl1 := hsA.len
  have hl2 := hsB.len
  have hlq := length_limbs_div (b := y.natAbs) hl1
  have hlr := length_limbs_mod (a := x.natAbs) hyp hl2
  clear hl1 hl2
  refine (divide_any A1 A2 n1 n2 c1 c2 _ _ W hsA hsB (by omega) (by omega) hyp).mono ?_
  rintro e w3 ⟨A3, n3, c3, A4, n4, c4, rfl, hs3, hs4, hb3⟩
  have hbw3 := hbwW.trans (hb3.mono hbwW.size)
  have hn3 : n3 ≤ n1 := by rw [← hs3.len]; exact hlq
  have hn4 : n4 ≤ n2 := by rw [← hs4.len]; exact hlr
  have HN4 := Lib.hid hs4.len
  have E0 := Lib.hid (B0.out.below hb3)
  have E1 := Lib.hid (B1.out.below hb3)
  obtain ⟨p00, p01, _, _, l0⟩ := E0.out.two
  obtain ⟨p10, p11, _, _, l1⟩ := E1.out.two
  have hsB3 := hsB.below hb3
  clear B0 B1
  go_upto_region 5 with (fail)
  go_cut [10, 11] (fun s10 s11 wx => ∃ g g' : Nat, s10 = .pointer (some ⟨g, 0, none⟩) ∧ s11 = .pointer (some ⟨g', 0, none⟩) ∧ g ≠ g' ∧ w3.heap.size ≤ g ∧ w3.heap.size ≤ g' ∧ Hid (BlkIs wx g 99 #[.bool z, .slice A3 n3 c3]) ∧ Hid (BlkIs wx g' 99 #[.bool s', .slice A4 n4 c4]) ∧ Below w3.heap.size w3 wx)
  case first =>
    go_region
    all_goals (go_wp2_with fail; go_meet)
    all_goals (go_wp2_with fail)
    all_goals (obtain ⟨t1, t2⟩ := two_new w3 99 (.bool z) (.slice A3 n3 c3) (.bool s') (.slice A4 n4 c4))
    all_goals (obtain ⟨t3, t4⟩ := two_new w3 99 (.bool s') (.slice A4 n4 c4) (.bool z) (.slice A3 n3 c3))
    all_goals first
      | exact ⟨w3.heap.size, w3.heap.size + 1, rfl, rfl, by omega, by omega, by omega, Lib.hid t1, Lib.hid t2, (((Below.refl _ _).alloc (Nat.le_refl _) _).alloc (by simp) _).drew⟩
      | exact ⟨w3.heap.size + 1, w3.heap.size, rfl, rfl, by omega, by omega, by omega, Lib.hid t4, Lib.hid t3, (((Below.refl _ _).alloc (Nat.le_refl _) _).alloc (by simp) _).drew⟩
  case rest =>
    obtain ⟨g, g', rfl, rfl, hgg, hg1, hg2, G0, G1, hbx⟩ := hcut
    have hbwx := hbw3.trans (hbx.mono hbw3.size)
    obtain ⟨q00, q01, f00, f01, m0⟩ := G0.out.two
    obtain ⟨q10, q11, f10, f11, m1⟩ := G1.out.two
    obtain ⟨_, v11, _, _, _⟩ := (E1.out.below hbx).two
    have hgd : z = true → ¬ 0 < n4 := fun e => by
      rcases HCase.out with h | h
      · rw [h] at e; cases e
      · have := HN4.out; rw [h] at this; simp [Dec.limbs_zero] at this; omega
    have K0 := G0
    have K1 := G1
    have hbwV := hbwx
    have HSq := Lib.hid (string_any z A3 n3 c3 _ wc.drew (hs3.below hbx).drew1 (by omega) (ht.below hbwV.drew))
    have HSr : Hid (∀ w7, Below wc.drew.heap.size wc.drew w7 → Calls Tryz.prog 143 #[.agg #[.bool s', .slice A4 n4 c4]] w7 (RetStr (numStr s' (x.natAbs % y.natAbs)) w7)) := fun w7 h7 => string_any s' A4 n4 c4 _ w7 ((hs4.below hbx).drew1.below h7) (by omega) (ht.below (hbwV.drew.trans (h7.mono hbwV.drew.size)))
    have HGD := Lib.hid hgd
    clear hgd
    by_cases hzt : z = true
    · have hn40 : n4 = 0 := by have := HGD.out hzt; omega
      subst hn40
      subst hzt
      go_upto_region 9 with (fail)
      go_region_held3 (fun w' => w'.cell? ⟨g, 0, none⟩ = some (.bool true) ∧ w'.cell? ⟨g, 1, none⟩ = some (.slice A3 n3 c3) ∧ w'.cell? ⟨g', 0, none⟩ = some (.bool s') ∧ w'.cell? ⟨g', 1, none⟩ = some (.slice A4 0 c4)) (go_keep)
        (first | (go_at_call 143; ((with_reducible refine HSq.out.mono ?_)); rintro e w7 ⟨rfl, hb7⟩; obtain ⟨t00, t01, _, _, _⟩ := (K0.out.drew.below hb7).two; obtain ⟨t10, t11, _, _, _⟩ := (K1.out.drew.below hb7).two; have HSr2 := Lib.hid (HSr.out w7 hb7)) | (go_at_call 143; ((with_reducible refine HSr2.out.mono ?_)); rintro e w8 ⟨rfl, hb8⟩; obtain ⟨u00, u01, _, _, _⟩ := ((K0.out.drew.below hb7).below hb8).two; obtain ⟨u10, u11, _, _, _⟩ := ((K1.out.drew.below hb7).below hb8).two))
      go_wp2
      go_ret2
      exact ⟨by rw [← HQ.out, ← HR.out]; rfl, (hbwV.drew.trans (hb7.mono hbwV.drew.size)).trans (hb8.mono (hbwV.drew.trans (hb7.mono hbwV.drew.size)).size)⟩
    · have hzf : z = false := by cases z <;> simp_all
      subst hzf
      go_upto_region 9 with (fail)
      go_region_held3 (fun w' => w'.cell? ⟨g, 0, none⟩ = some (.bool false) ∧ w'.cell? ⟨g, 1, none⟩ = some (.slice A3 n3 c3) ∧ w'.cell? ⟨g', 0, none⟩ = some (.bool s') ∧ w'.cell? ⟨g', 1, none⟩ = some (.slice A4 n4 c4)) (go_keep)
        (first | (go_at_call 143; ((with_reducible refine HSq.out.mono ?_)); rintro e w7 ⟨rfl, hb7⟩; obtain ⟨t00, t01, _, _, _⟩ := (K0.out.drew.below hb7).two; obtain ⟨t10, t11, _, _, _⟩ := (K1.out.drew.below hb7).two; have HSr2 := Lib.hid (HSr.out w7 hb7)) | (go_at_call 143; ((with_reducible refine HSr2.out.mono ?_)); rintro e w8 ⟨rfl, hb8⟩; obtain ⟨u00, u01, _, _, _⟩ := ((K0.out.drew.below hb7).below hb8).two; obtain ⟨u10, u11, _, _, _⟩ := ((K1.out.drew.below hb7).below hb8).two))
      go_wp2
      go_ret2
      exact ⟨by rw [← HQ.out, ← HR.out]; rfl, (hbwV.drew.trans (hb7.mono hbwV.drew.size)).trans (hb8.mono (hbwV.drew.trans (hb7.mono hbwV.drew.size)).size)⟩

end Go.Proofs.YtgphkgmhcmffnaaGreatDoor
/- number.Divide where the signs differ and something is left. -/
namespace Go.Proofs.YtgphkgmhcmffnaaGreatDoor
open Go.RowKit

set_option maxHeartbeats 4000000 in
set_option maxRecDepth 100000 in
theorem divN_hard (a b : List UInt8) (w : World) (ha : a.length ≤ 2400000) (hb : b.length ≤ 2400000) (ht : Tab w) (x y : Int) (hxv : Dec.dval a = x) (hyv : Dec.dval b = y) (hy0 : y ≠ 0) (s s' z : Bool) (hsd : decide (x < 0) = s) (hsd' : decide (y < 0) = s')
    (hz : (!(s == s')) = z) (hcase : z = true ∧ x.natAbs % y.natAbs ≠ 0) (q r : List UInt8) (HQ : Hid (numStr z (x.natAbs / y.natAbs + 1) = q)) (HR : Hid (numStr s' (y.natAbs - x.natAbs % y.natAbs) = r)) :
    Calls Tryz.prog 154 #[.string ⟨a.toArray⟩, .string ⟨b.toArray⟩] w (RetStr2 q r w) := by
  have HP1 : Hid (∀ w', Calls Tryz.prog 142 #[.string ⟨a.toArray⟩] w' (RetInt (a.length + 1) x w')) := fun w' => by have := parse_any a w' (by omega); rwa [hxv] at this
  have HP2 : Hid (∀ w', Calls Tryz.prog 142 #[.string ⟨b.toArray⟩] w' (RetInt (b.length + 1) y w')) := fun w' => by have := parse_any b w' (by omega); rwa [hyv] at this
  have HSD := Lib.hid hsd
  have HSD' := Lib.hid hsd'
  have hyp : 0 < y.natAbs := by omega
  obtain ⟨rfl, hrz⟩ := hcase
  have HRZ := Lib.hid hrz
  clear hrz
  clear hsd hsd' hxv hyv
  go_enter Tryz.func154, Tryz.ntmps154
  go_wp2_with fail
  refine (HP1.out _).mono ?_
  rintro e w1 ⟨A1, n1, c1, rfl, hs1, hn1, hb1⟩
  rw [HSD.out]
  go_wp2_with fail
  refine (HP2.out _).mono ?_
  rintro e w2 ⟨A2, n2, c2, rfl, hs2, hn2, hb2⟩
  rw [HSD'.out]
  have hbw2 := hb1.trans (hb2.mono hb1.size)
  have hn20 : ((n2 : Int) == 0) = false := by rw [beq_eq_false_iff_ne]; intro e; exact hy0 ((natAbs_limbs hs2.len).1 (by omega))
  clear hy0
  go_wp2_with fail
  obtain ⟨B0, B1, hbW⟩ := two_blocks w2 99 (.bool s) (.slice A1 n1 c1) (.bool s') (.slice A2 n2 c2)
  generalize ((w2.alloc (.cells #[.bool s, .slice A1 n1 c1] 99)).alloc (.cells #[.bool s', .slice A2 n2 c2] 99)) = W at *
  have hbwW := hbw2.trans (hbW.mono hbw2.size)
  have hsA := (hs1.below hb2).below hbW
  have hsB := hs2.below hbW
  have hl1 := hsA.len
  have hl2 := hsB.len
  have hlq := length_limbs_div (b := y.natAbs) hl1
  have hlr := length_limbs_mod (a := x.natAbs) hyp hl2
  clear hl1 hl2
  refine (divide_any A1 A2 n1 n2 c1 c2 _ _ W hsA hsB (by omega) (by omega) hyp).mono ?_
  rintro e w3 ⟨A3, n3, c3, A4, n4, c4, rfl, hs3, hs4, hb3⟩
  have hbw3 := hbwW.trans (hb3.mono hbwW.size)
  have hn3 : n3 ≤ n1 := by rw [← hs3.len]; exact hlq
  have hn4 : n4 ≤ n2 := by rw [← hs4.len]; exact hlr
  have HN4 := Lib.hid hs4.len
  have E0 := Lib.hid (B0.out.below hb3)
  have E1 := Lib.hid (B1.out.below hb3)
  obtain ⟨p00, p01, _, _, l0⟩ := E0.out.two
  obtain ⟨p10, p11, _, _, l1⟩ := E1.out.two
  have hsB3 := hsB.below hb3
  clear B0 B1
  go_upto_region 5 with (fail)
  go_cut [10, 11] (fun s10 s11 wx => ∃ g g' : Nat, s10 = .pointer (some ⟨g, 0, none⟩) ∧ s11 = .pointer (some ⟨g', 0, none⟩) ∧ g ≠ g' ∧ w3.heap.size ≤ g ∧ w3.heap.size ≤ g' ∧ Hid (BlkIs wx g 99 #[.bool true, .slice A3 n3 c3]) ∧ Hid (BlkIs wx g' 99 #[.bool s', .slice A4 n4 c4]) ∧ Below w3.heap.size w3 wx)
  case first =>
    go_region
    all_goals (go_wp2_with fail; go_meet)
    all_goals (go_wp2_with fail)
    all_goals (obtain ⟨t1, t2⟩ := two_new w3 99 (.bool true) (.slice A3 n3 c3) (.bool s') (.slice A4 n4 c4))
    all_goals (obtain ⟨t3, t4⟩ := two_new w3 99 (.bool s') (.slice A4 n4 c4) (.bool true) (.slice A3 n3 c3))
    all_goals first
      | exact ⟨w3.heap.size, w3.heap.size + 1, rfl, rfl, by omega, by omega, by omega, Lib.hid t1, Lib.hid t2, (((Below.refl _ _).alloc (Nat.le_refl _) _).alloc (by simp) _).drew⟩
      | exact ⟨w3.heap.size + 1, w3.heap.size, rfl, rfl, by omega, by omega, by omega, Lib.hid t4, Lib.hid t3, (((Below.refl _ _).alloc (Nat.le_refl _) _).alloc (by simp) _).drew⟩
  case rest =>
    obtain ⟨g, g', rfl, rfl, hgg, hg1, hg2, G0, G1, hbx⟩ := hcut
    have hbwx := hbw3.trans (hbx.mono hbw3.size)
    obtain ⟨q00, q01, f00, f01, m0⟩ := G0.out.two
    obtain ⟨q10, q11, f10, f11, m1⟩ := G1.out.two
    obtain ⟨_, v11, _, _, _⟩ := (E1.out.below hbx).two
    have hn40 : 0 < n4 := by
      rcases Nat.eq_zero_or_pos n4 with h | h
      · exfalso
        have := HN4.out
        rw [h] at this
        exact HRZ.out ((Dec.limbs_eq_nil (by omega)).1 (List.eq_nil_of_length_eq_zero this))
      · exact h
    have hPl := plus_any A3 (some ⟨wc.heap.size, 0, none⟩) n3 1 c3 1 _ [1] (wc.alloc (.cells #[.int .u32 1] 118)) ((hs3.below hbx).alloc _) (Sl.one wc .u32 118 1) (by omega) (by omega) (Dec.limbs_small (by omega) _) (Dec.Small.cons (by omega) Dec.Small.nil)
    rw [Dec.lval_limbs (by omega), show Dec.lval 1000000000 [1] = 1 by decide] at hPl
    have HPl := Lib.hid hPl
    clear hPl
    have hl3 := length_limbs_add (b := 1) (n' := 1) hs3.len (by decide)
    have hlen3 : n4 ≤ n2 := hn4
    have HMn : Hid (∀ V, Below w3.heap.size w3 V → Calls Tryz.prog 158 #[.slice A2 n2 c2, .slice A4 n4 c4] V (RetSl .u32 (Dec.limbs 1000000000 (y.natAbs - x.natAbs % y.natAbs)) V)) := fun V hV => by
      have := minus_any A2 A4 n2 n4 c2 c4 _ _ V (hsB3.below hV) (hs4.below hV) (by omega) hlen3 (Dec.limbs_small (by omega) _) (Dec.limbs_small (by omega) _) (by rw [Dec.lval_limbs (by omega), Dec.lval_limbs (by omega)]; exact Nat.le_of_lt (Nat.mod_lt _ hyp))
      rwa [Dec.lval_limbs (by omega), Dec.lval_limbs (by omega)] at this
    go_upto_region 7 with (fail)
    go_wp2_with fail
    refine HPl.out.mono ?_
    rintro e w5 ⟨A5, n5, c5, rfl, hs5, hb5, hf5⟩
    have hbc5 := ((Below.refl wc.heap.size wc).alloc (Nat.le_refl _) (.cells #[.int .u32 1] 118)).trans (hb5.mono (by simp))
    have G0' := Lib.hid (G0.out.below hbc5)
    have G1' := Lib.hid (G1.out.below hbc5)
    have E1' := Lib.hid ((E1.out.below hbx).below hbc5)
    obtain ⟨a00, a01, b00, b01, m2⟩ := G0'.out.two
    obtain ⟨a10, a11, b10, b11, m3⟩ := G1'.out.two
    obtain ⟨_, v51, _, _, m4⟩ := E1'.out.two
    have hw35 : Below w3.heap.size w3 (w5.setCell ⟨g, 1, none⟩ (.slice A5 n5 c5)) := (hbx.trans (hbc5.mono hbx.size)).setCell (p := ⟨g, 1, none⟩) hg1 _
    have H0 := Lib.hid (upd1 (v' := .slice A5 n5 c5) G0'.out)
    have H1 := Lib.hid (G1'.out.far (p := ⟨g, 1, none⟩) (Ne.symm hgg) (.slice A5 n5 c5))
    have HE := Lib.hid (E1'.out.far (p := ⟨g, 1, none⟩) (show w2.heap.size + 1 ≠ g by omega) (.slice A5 n5 c5))
    have hs5' := hs5.far (p := ⟨g, 1, none⟩) (fun b o e => by have := hf5 b o e; rw [World.size_alloc] at this; show b ≠ g; omega) (.slice A5 n5 c5)
    have hbw5 : Below w.heap.size w (w5.setCell ⟨g, 1, none⟩ (.slice A5 n5 c5)) := hbw3.trans (hw35.mono hbw3.size)
    have hn5 : n5 ≤ n3 + 2 := by rw [← hs5.len]; exact hl3
    clear q00 q01 f00 f01 q10 q11 f10 f11 G0 G1
    go_wp2_with fail
    generalize (w5.setCell ⟨g, 1, none⟩ (.slice A5 n5 c5)) = V at *
    obtain ⟨_, v61, _, _, m5⟩ := HE.out.two
    obtain ⟨_, _, _, _, m6⟩ := H0.out.two
    obtain ⟨_, _, _, _, m7⟩ := H1.out.two
    refine (HMn.out V hw35).mono ?_
    rintro e w6 ⟨A6, n6, c6, rfl, hs6, hb6, hf6⟩
    have J0 := Lib.hid (H0.out.below hb6)
    have J1 := Lib.hid (H1.out.below hb6)
    obtain ⟨_, _, _, _, _⟩ := J0.out.two
    obtain ⟨_, d11, _, e11, m8⟩ := J1.out.two
    have K0 := Lib.hid (J0.out.far (p := ⟨g', 1, none⟩) hgg (.slice A6 n6 c6))
    have K1 := Lib.hid (upd1 (v' := .slice A6 n6 c6) J1.out)
    have hs7 := hs6.far (p := ⟨g', 1, none⟩) (fun b o e => by have := hf6 b o e; show b ≠ g'; omega) (.slice A6 n6 c6)
    have hs8 := (hs5'.below hb6).far (p := ⟨g', 1, none⟩) (fun b o e => by have := hf5 b o e; rw [World.size_alloc] at this; show b ≠ g'; omega) (.slice A6 n6 c6)
    have hbwV : Below w.heap.size w (w6.setCell ⟨g', 1, none⟩ (.slice A6 n6 c6)) := (hbw5.trans (hb6.mono hbw5.size)).setCell (p := ⟨g', 1, none⟩) (by have := hbw3.size; show w.heap.size ≤ g'; omega) _
    have hn6 : n6 ≤ n2 := by
      rw [← hs6.len, ← hsB.len]; exact Dec.limbs_length_mono (by omega) (Nat.sub_le _ _)
    go_upto_region 9 with (fail)
    generalize (w6.setCell ⟨g', 1, none⟩ (.slice A6 n6 c6)) = U at *
    obtain ⟨r00, r01, _, _, _⟩ := K0.out.two
    obtain ⟨r10, r11, _, _, _⟩ := K1.out.two
    have HSq := Lib.hid (string_any true A5 n5 c5 _ U.drew hs8.drew1 (by omega) (ht.below hbwV.drew))
    have HSr : Hid (∀ w7, Below U.drew.heap.size U.drew w7 → Calls Tryz.prog 143 #[.agg #[.bool s', .slice A6 n6 c6]] w7 (RetStr (numStr s' (y.natAbs - x.natAbs % y.natAbs)) w7)) := fun w7 h7 => string_any s' A6 n6 c6 _ w7 (hs7.drew1.below h7) (by omega) (ht.below (hbwV.drew.trans (h7.mono hbwV.drew.size)))
    go_region_held3 (fun w' => w'.cell? ⟨g, 0, none⟩ = some (.bool true) ∧ w'.cell? ⟨g, 1, none⟩ = some (.slice A5 n5 c5) ∧ w'.cell? ⟨g', 0, none⟩ = some (.bool s') ∧ w'.cell? ⟨g', 1, none⟩ = some (.slice A6 n6 c6)) (go_keep)
      (first | (go_at_call 143; ((with_reducible refine HSq.out.mono ?_)); rintro e w7 ⟨rfl, hb7⟩; obtain ⟨t00, t01, _, _, _⟩ := (K0.out.drew.below hb7).two; obtain ⟨t10, t11, _, _, _⟩ := (K1.out.drew.below hb7).two; have HSr2 := Lib.hid (HSr.out w7 hb7)) | (go_at_call 143; ((with_reducible refine HSr2.out.mono ?_)); rintro e w8 ⟨rfl, hb8⟩; obtain ⟨u00, u01, _, _, _⟩ := ((K0.out.drew.below hb7).below hb8).two; obtain ⟨u10, u11, _, _, _⟩ := ((K1.out.drew.below hb7).below hb8).two))
    go_wp2
    go_ret2
    exact ⟨by rw [← HQ.out, ← HR.out]; rfl, (hbwV.drew.trans (hb7.mono hbwV.drew.size)).trans (hb8.mono (hbwV.drew.trans (hb7.mono hbwV.drew.size)).size)⟩

end Go.Proofs.YtgphkgmhcmffnaaGreatDoor
