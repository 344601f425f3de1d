/- lispproverlaw2.ObjectField returns true. -/
import Derived.Test.YtcdgckbdplkdbaaDoorObW
namespace Go.Proofs.YtcdgckbdplkdbaaDoor
open Go.RowKit

set_option maxHeartbeats 1000000 in
theorem field_long0 (a b c d e f : List UInt8) (w : World) (ht : Tab w) (la : a.length ≤ 9223372036854775807) (lb : b.length ≤ 9223372036854775807) (lc : c.length ≤ 9223372036854775807) (ld : d.length ≤ 9223372036854775807) (le : e.length ≤ 9223372036854775807) (lf : f.length ≤ 9223372036854775807)  (ha : ¬ a.length ≤ 15) : Calls Tryd.prog 3 #[.string ⟨a.toArray⟩, .string ⟨b.toArray⟩, .string ⟨c.toArray⟩, .string ⟨d.toArray⟩, .string ⟨e.toArray⟩, .string ⟨f.toArray⟩] w (RetTrue2 w) := by
  go_enter Tryd.func3, Tryd.ntmps3
  go_wp2_with fail
  refine (first2_any _ ht).mono ?_
  rintro e w1 ⟨rfl, hb1⟩
  go_wp2
  go_ret
  exact ⟨rfl, hb1⟩
set_option maxHeartbeats 1000000 in
theorem field_long1 (a b c d e f : List UInt8) (w : World) (ht : Tab w) (la : a.length ≤ 9223372036854775807) (lb : b.length ≤ 9223372036854775807) (lc : c.length ≤ 9223372036854775807) (ld : d.length ≤ 9223372036854775807) (le : e.length ≤ 9223372036854775807) (lf : f.length ≤ 9223372036854775807) (ha : a.length ≤ 15) (hb : ¬ b.length ≤ 15) : Calls Tryd.prog 3 #[.string ⟨a.toArray⟩, .string ⟨b.toArray⟩, .string ⟨c.toArray⟩, .string ⟨d.toArray⟩, .string ⟨e.toArray⟩, .string ⟨f.toArray⟩] w (RetTrue2 w) := by
  go_enter Tryd.func3, Tryd.ntmps3
  go_wp2_with fail
  refine (first2_any _ ht).mono ?_
  rintro e w1 ⟨rfl, hb1⟩
  go_wp2
  go_ret
  exact ⟨rfl, hb1⟩
set_option maxHeartbeats 1000000 in
theorem field_long2 (a b c d e f : List UInt8) (w : World) (ht : Tab w) (la : a.length ≤ 9223372036854775807) (lb : b.length ≤ 9223372036854775807) (lc : c.length ≤ 9223372036854775807) (ld : d.length ≤ 9223372036854775807) (le : e.length ≤ 9223372036854775807) (lf : f.length ≤ 9223372036854775807) (ha : a.length ≤ 15) (hb : b.length ≤ 15) (hc : ¬ c.length ≤ 15) : Calls Tryd.prog 3 #[.string ⟨a.toArray⟩, .string ⟨b.toArray⟩, .string ⟨c.toArray⟩, .string ⟨d.toArray⟩, .string ⟨e.toArray⟩, .string ⟨f.toArray⟩] w (RetTrue2 w) := by
  go_enter Tryd.func3, Tryd.ntmps3
  go_wp2_with fail
  refine (first2_any _ ht).mono ?_
  rintro e w1 ⟨rfl, hb1⟩
  go_wp2
  go_ret
  exact ⟨rfl, hb1⟩
set_option maxHeartbeats 1000000 in
theorem field_long3 (a b c d e f : List UInt8) (w : World) (ht : Tab w) (la : a.length ≤ 9223372036854775807) (lb : b.length ≤ 9223372036854775807) (lc : c.length ≤ 9223372036854775807) (ld : d.length ≤ 9223372036854775807) (le : e.length ≤ 9223372036854775807) (lf : f.length ≤ 9223372036854775807) (ha : a.length ≤ 15) (hb : b.length ≤ 15) (hc : c.length ≤ 15) (hd : ¬ d.length ≤ 15) : Calls Tryd.prog 3 #[.string ⟨a.toArray⟩, .string ⟨b.toArray⟩, .string ⟨c.toArray⟩, .string ⟨d.toArray⟩, .string ⟨e.toArray⟩, .string ⟨f.toArray⟩] w (RetTrue2 w) := by
  go_enter Tryd.func3, Tryd.ntmps3
  go_wp2_with fail
  refine (first2_any _ ht).mono ?_
  rintro e w1 ⟨rfl, hb1⟩
  go_wp2
  go_ret
  exact ⟨rfl, hb1⟩
set_option maxHeartbeats 1000000 in
theorem field_long4 (a b c d e f : List UInt8) (w : World) (ht : Tab w) (la : a.length ≤ 9223372036854775807) (lb : b.length ≤ 9223372036854775807) (lc : c.length ≤ 9223372036854775807) (ld : d.length ≤ 9223372036854775807) (le : e.length ≤ 9223372036854775807) (lf : f.length ≤ 9223372036854775807) (ha : a.length ≤ 15) (hb : b.length ≤ 15) (hc : c.length ≤ 15) (hd : d.length ≤ 15) (he : ¬ e.length ≤ 15) : Calls Tryd.prog 3 #[.string ⟨a.toArray⟩, .string ⟨b.toArray⟩, .string ⟨c.toArray⟩, .string ⟨d.toArray⟩, .string ⟨e.toArray⟩, .string ⟨f.toArray⟩] w (RetTrue2 w) := by
  go_enter Tryd.func3, Tryd.ntmps3
  go_wp2_with fail
  refine (first2_any _ ht).mono ?_
  rintro e w1 ⟨rfl, hb1⟩
  go_wp2
  go_ret
  exact ⟨rfl, hb1⟩
set_option maxHeartbeats 1000000 in
theorem field_long5 (a b c d e f : List UInt8) (w : World) (ht : Tab w) (la : a.length ≤ 9223372036854775807) (lb : b.length ≤ 9223372036854775807) (lc : c.length ≤ 9223372036854775807) (ld : d.length ≤ 9223372036854775807) (le : e.length ≤ 9223372036854775807) (lf : f.length ≤ 9223372036854775807) (ha : a.length ≤ 15) (hb : b.length ≤ 15) (hc : c.length ≤ 15) (hd : d.length ≤ 15) (he : e.length ≤ 15) (hf : ¬ f.length ≤ 15) : Calls Tryd.prog 3 #[.string ⟨a.toArray⟩, .string ⟨b.toArray⟩, .string ⟨c.toArray⟩, .string ⟨d.toArray⟩, .string ⟨e.toArray⟩, .string ⟨f.toArray⟩] w (RetTrue2 w) := by
  go_enter Tryd.func3, Tryd.ntmps3
  go_wp2_with fail
  refine (first2_any _ ht).mono ?_
  rintro e w1 ⟨rfl, hb1⟩
  go_wp2
  go_ret
  exact ⟨rfl, hb1⟩
set_option maxHeartbeats 8000000 in
set_option maxRecDepth 100000 in
theorem field_main (a b c d e f : List UInt8) (w : World) (ht : Tab w) (ha : a.length ≤ 15) (hb : b.length ≤ 15) (hc : c.length ≤ 15) (hd : d.length ≤ 15) (he : e.length ≤ 15) (hf : f.length ≤ 15) : Calls Tryd.prog 3 #[.string ⟨a.toArray⟩, .string ⟨b.toArray⟩, .string ⟨c.toArray⟩, .string ⟨d.toArray⟩, .string ⟨e.toArray⟩, .string ⟨f.toArray⟩] w (RetTrue2 w) := by
  have bX : Rb 15 (Rat.divInt (Dec.dval a) (Dec.dval b)) := Rb.mk' (by omega) (dval_lt18 ha) (dval_lt18 hb)
  have HRX : Hid (∀ w' : World, Below w.heap.size w w' → Calls Tryd.prog 5 #[.string ⟨a.toArray⟩, .string ⟨b.toArray⟩] w' (RetN (Rat.divInt (Dec.dval a) (Dec.dval b)) w')) := fun w' hb => rationalN a b w' (by omega) (by omega) (ht.below hb)
  have bY : Rb 15 (Rat.divInt (Dec.dval c) (Dec.dval d)) := Rb.mk' (by omega) (dval_lt18 hc) (dval_lt18 hd)
  have HRY : Hid (∀ w' : World, Below w.heap.size w w' → Calls Tryd.prog 5 #[.string ⟨c.toArray⟩, .string ⟨d.toArray⟩] w' (RetN (Rat.divInt (Dec.dval c) (Dec.dval d)) w')) := fun w' hb => rationalN c d w' (by omega) (by omega) (ht.below hb)
  have bZ : Rb 15 (Rat.divInt (Dec.dval e) (Dec.dval f)) := Rb.mk' (by omega) (dval_lt18 he) (dval_lt18 hf)
  have HRZ : Hid (∀ w' : World, Below w.heap.size w w' → Calls Tryd.prog 5 #[.string ⟨e.toArray⟩, .string ⟨f.toArray⟩] w' (RetN (Rat.divInt (Dec.dval e) (Dec.dval f)) w')) := fun w' hb => rationalN e f w' (by omega) (by omega) (ht.below hb)
  generalize Rat.divInt (Dec.dval a) (Dec.dval b) = X at *
  generalize Rat.divInt (Dec.dval c) (Dec.dval d) = Y at *
  generalize Rat.divInt (Dec.dval e) (Dec.dval f) = Z at *
  have HI0 : Hid (∀ w' : World, Below w.heap.size w w' → Calls Tryd.prog 6 #[.int .i64 0] w' (RetN 0 w')) := fun w' hb => intN 0 w' (ht.below hb) (by omega) (by omega)
  have HI1 : Hid (∀ w' : World, Below w.heap.size w w' → Calls Tryd.prog 6 #[.int .i64 1] w' (RetN 1 w')) := fun w' hb => intN 1 w' (ht.below hb) (by omega) (by omega)
  have HEz : X = 0 → Hid (∀ (A A' : Option Addr) (c c' : Nat) (w' : World), Below w.heap.size w w' → Calls Tryd.prog 7 #[nv (X) A c, nv (0) A' c'] w' (RetBel (.bool true) w')) := fun hX A A' c c' w' _ => by
    have := equalN (p := X) (q := 0) (bX) (by omega) A A' c c' w'
    rwa [decide_eq_true hX] at this
  have HEn : X ≠ 0 → Hid (∀ (A A' : Option Addr) (c c' : Nat) (w' : World), Below w.heap.size w w' → Calls Tryd.prog 7 #[nv (X) A c, nv (0) A' c'] w' (RetBel (.bool false) w')) := fun hX A A' c c' w' _ => by
    have := equalN (p := X) (q := 0) (bX) (by omega) A A' c c' w'
    rwa [decide_eq_false hX] at this
  have HV : Hid (∀ (A : Option Addr) (c : Nat) (w' : World), Below w.heap.size w w' → Calls Tryd.prog 9 #[nv (X) A c] w' (RetN X⁻¹ w')) := fun A c w' hb => reciprocalN (bX) (by omega) A c w' (ht.below hb)
  have HP : Hid (∀ (A A' : Option Addr) (c c' : Nat) (w' : World), Below w.heap.size w w' → Calls Tryd.prog 8 #[nv (X) A c, nv (X⁻¹) A' c'] w' (RetN (X * X⁻¹) w')) := fun A A' c c' w' hb => productN (bX) (bX.inv) (by omega) (by omega) A A' c c' w' (ht.below hb)
  have HE1 : X ≠ 0 → Hid (∀ (A A' : Option Addr) (c c' : Nat) (w' : World), Below w.heap.size w w' → Calls Tryd.prog 7 #[nv (X * X⁻¹) A c, nv (1) A' c'] w' (RetBel (.bool true) w')) := fun hX A A' c c' w' _ => by
    have := equalN (p := X * X⁻¹) (q := 1) (bX.mul bX.inv) (by omega) A A' c c' w'
    rwa [decide_eq_true (Rat.mul_inv_cancel X hX)] at this
  have K1 : Hid (∀ (A : Option Addr) (c : Nat) (w' : World), Below w.heap.size w w' → Calls Tryd.prog 11 #[nv (X) A c] w' (RetN (-X) w')) := fun A c w' hb => oppositeN (bX) (by omega) A c w' (ht.below hb)
  have K2 : Hid (∀ (A A' : Option Addr) (c c' : Nat) (w' : World), Below w.heap.size w w' → Calls Tryd.prog 10 #[nv (X) A c, nv (-X) A' c'] w' (RetN (X + -X) w')) := fun A A' c c' w' hb => sumN (bX) (bX.neg) (by omega) (by omega) A A' c c' w' (ht.below hb)
  have K3 : Hid (∀ (A A' : Option Addr) (c c' : Nat) (w' : World), Below w.heap.size w w' → Calls Tryd.prog 7 #[nv (X + -X) A c, nv (0) A' c'] w' (RetBel (.bool true) w')) := fun A A' c c' w' _ => by
    have := equalN (p := X + -X) (q := 0) (bX.add bX.neg) (by omega) A A' c c' w'
    rwa [decide_eq_true (Rat.add_neg_cancel X)] at this
  have K4 : Hid (∀ (A A' : Option Addr) (c c' : Nat) (w' : World), Below w.heap.size w w' → Calls Tryd.prog 10 #[nv (Y) A c, nv (Z) A' c'] w' (RetN (Y + Z) w')) := fun A A' c c' w' hb => sumN (bY) (bZ) (by omega) (by omega) A A' c c' w' (ht.below hb)
  have K5 : Hid (∀ (A A' : Option Addr) (c c' : Nat) (w' : World), Below w.heap.size w w' → Calls Tryd.prog 8 #[nv (X) A c, nv (Y + Z) A' c'] w' (RetN (X * (Y + Z)) w')) := fun A A' c c' w' hb => productN (bX) (bY.add bZ) (by omega) (by omega) A A' c c' w' (ht.below hb)
  have K6 : Hid (∀ (A A' : Option Addr) (c c' : Nat) (w' : World), Below w.heap.size w w' → Calls Tryd.prog 8 #[nv (X) A c, nv (Y) A' c'] w' (RetN (X * Y) w')) := fun A A' c c' w' hb => productN (bX) (bY) (by omega) (by omega) A A' c c' w' (ht.below hb)
  have K7 : Hid (∀ (A A' : Option Addr) (c c' : Nat) (w' : World), Below w.heap.size w w' → Calls Tryd.prog 8 #[nv (X) A c, nv (Z) A' c'] w' (RetN (X * Z) w')) := fun A A' c c' w' hb => productN (bX) (bZ) (by omega) (by omega) A A' c c' w' (ht.below hb)
  have K8 : Hid (∀ (A A' : Option Addr) (c c' : Nat) (w' : World), Below w.heap.size w w' → Calls Tryd.prog 10 #[nv (X * Y) A c, nv (X * Z) A' c'] w' (RetN (X * Y + X * Z) w')) := fun A A' c c' w' hb => sumN (bX.mul bY) (bX.mul bZ) (by omega) (by omega) A A' c c' w' (ht.below hb)
  have K9 : Hid (∀ (A A' : Option Addr) (c c' : Nat) (w' : World), Below w.heap.size w w' → Calls Tryd.prog 7 #[nv (X * (Y + Z)) A c, nv (X * Y + X * Z) A' c'] w' (RetBel (.bool true) w')) := fun A A' c c' w' _ => by
    have := equalN (p := X * (Y + Z)) (q := X * Y + X * Z) (bX.mul (bY.add bZ)) (by omega) A A' c c' w'
    rwa [decide_eq_true (Rat.mul_add X Y Z)] at this
  have K10 : Hid (∀ (A A' : Option Addr) (c c' : Nat) (w' : World), Below w.heap.size w w' → Calls Tryd.prog 10 #[nv (X) A c, nv (Y) A' c'] w' (RetN (X + Y) w')) := fun A A' c c' w' hb => sumN (bX) (bY) (by omega) (by omega) A A' c c' w' (ht.below hb)
  have K11 : Hid (∀ (A A' : Option Addr) (c c' : Nat) (w' : World), Below w.heap.size w w' → Calls Tryd.prog 10 #[nv (X + Y) A c, nv (Z) A' c'] w' (RetN (X + Y + Z) w')) := fun A A' c c' w' hb => sumN (bX.add bY) (bZ) (by omega) (by omega) A A' c c' w' (ht.below hb)
  have K13 : Hid (∀ (A A' : Option Addr) (c c' : Nat) (w' : World), Below w.heap.size w w' → Calls Tryd.prog 10 #[nv (X) A c, nv (Y + Z) A' c'] w' (RetN (X + (Y + Z)) w')) := fun A A' c c' w' hb => sumN (bX) (bY.add bZ) (by omega) (by omega) A A' c c' w' (ht.below hb)
  have K14 : Hid (∀ (A A' : Option Addr) (c c' : Nat) (w' : World), Below w.heap.size w w' → Calls Tryd.prog 7 #[nv (X + Y + Z) A c, nv (X + (Y + Z)) A' c'] w' (RetBel (.bool true) w')) := fun A A' c c' w' _ => by
    have := equalN (p := X + Y + Z) (q := X + (Y + Z)) ((bX.add bY).add bZ) (by omega) A A' c c' w'
    rwa [decide_eq_true (Rat.add_assoc X Y Z)] at this
  have K15 : Hid (∀ (A A' : Option Addr) (c c' : Nat) (w' : World), Below w.heap.size w w' → Calls Tryd.prog 12 #[nv (X) A c, nv (Y) A' c'] w' (RetBel (.bool (decide (X < Y))) w')) := fun A A' c c' w' hb => lessN (bX) (bY) (by omega) (by omega) A A' c c' w' (ht.below hb)
  have K16 : Hid (∀ (A A' : Option Addr) (c c' : Nat) (w' : World), Below w.heap.size w w' → Calls Tryd.prog 10 #[nv (X) A c, nv (Z) A' c'] w' (RetN (X + Z) w')) := fun A A' c c' w' hb => sumN (bX) (bZ) (by omega) (by omega) A A' c c' w' (ht.below hb)
  have K18 : Hid (∀ (A A' : Option Addr) (c c' : Nat) (w' : World), Below w.heap.size w w' → Calls Tryd.prog 12 #[nv (X + Z) A c, nv (Y + Z) A' c'] w' (RetBel (.bool (decide (X < Y))) w')) := fun A A' c c' w' hb => by
    have := lessN (bX.add bZ) (bY.add bZ) (by omega) (by omega) A A' c c' w' (ht.below hb)
    rwa [show decide (X + Z < Y + Z) = decide (X < Y) from decide_eq_decide.2 (by grind)] at this
  clear bX bY bZ
  generalize X⁻¹ = xi at *
  generalize X * xi = xxi at *
  generalize -X = nx at *
  generalize X + nx = s0 at *
  generalize Y + Z = yz at *
  generalize X * yz = p1 at *
  generalize X * Y = xy at *
  generalize X * Z = xz at *
  generalize xy + xz = s2 at *
  generalize X + Y = sxy at *
  generalize sxy + Z = t1 at *
  generalize X + yz = t2 at *
  generalize X + Z = sxz at *
  generalize (0 : Rat) = zz at *
  generalize (1 : Rat) = oo at *
  generalize decide (X < Y) = bl at *
  go_enter Tryd.func3, Tryd.ntmps3
  go_wp2_with fail
  refine (first2_any _ ht).mono ?_
  rintro e w1 ⟨rfl, b1⟩
  go_wp2_with fail
  refine (HRX.out _ b1).mono ?_
  rintro e w2 ⟨AX, cX, rfl, hb2⟩
  have b2 := then_ b1 hb2
  go_wp2_with fail
  refine (HRY.out _ b2).mono ?_
  rintro e w3 ⟨AY, cY, rfl, hb3⟩
  have b3 := then_ b2 hb3
  go_wp2_with fail
  refine (HRZ.out _ b3).mono ?_
  rintro e w4 ⟨AZ, cZ, rfl, hb4⟩
  have b4 := then_ b3 hb4
  go_wp2_with fail
  have X5 := Lib.hid (((BlkIs.new w4 27 (obCells (numO (sn X) (sd X)) (.slice AX 0 cX))).alloc (.cells (obCells (numO (sn Y) (sd Y)) (.slice AY 0 cY)) 27)).alloc (.cells (obCells (numO (sn Z) (sd Z)) (.slice AZ 0 cZ)) 27))
  have Y5 := Lib.hid ((BlkIs.new1 w4 (.cells (obCells (numO (sn X) (sd X)) (.slice AX 0 cX)) 27) 27 (obCells (numO (sn Y) (sd Y)) (.slice AY 0 cY))).alloc (.cells (obCells (numO (sn Z) (sd Z)) (.slice AZ 0 cZ)) 27))
  have Z5 := Lib.hid (BlkIs.new2 w4 (.cells (obCells (numO (sn X) (sd X)) (.slice AX 0 cX)) 27) (.cells (obCells (numO (sn Y) (sd Y)) (.slice AY 0 cY)) 27) 27 (obCells (numO (sn Z) (sd Z)) (.slice AZ 0 cZ)))
  have b5 := box2 (box2 (box2 b4 (.cells (obCells (numO (sn X) (sd X)) (.slice AX 0 cX)) 27)) (.cells (obCells (numO (sn Y) (sd Y)) (.slice AY 0 cY)) 27)) (.cells (obCells (numO (sn Z) (sd Z)) (.slice AZ 0 cZ)) 27)
  generalize ((w4.alloc (.cells (obCells (numO (sn X) (sd X)) (.slice AX 0 cX)) 27)).alloc (.cells (obCells (numO (sn Y) (sd Y)) (.slice AY 0 cY)) 27)).alloc (.cells (obCells (numO (sn Z) (sd Z)) (.slice AZ 0 cZ)) 27) = w5 at *
  refine (HI0.out _ b5).mono ?_
  rintro e w6 ⟨A0, c0, rfl, hb6⟩
  have b6 := then_ b5 hb6
  go_wp2_with fail
  refine (HI1.out _ b6).mono ?_
  rintro e w7 ⟨A1, c1, rfl, hb7⟩
  have b7 := then_ b6 hb7
  go_upto_region 7 with (fail)
  have X8' := Lib.hid ((((X5.out.below hb6).below hb7).alloc (.cells (obCells (numO (sn zz) (sd zz)) (.slice A0 0 c0)) 27)).alloc (.cells (obCells (numO (sn oo) (sd oo)) (.slice A1 0 c1)) 27))
  have Y8' := Lib.hid ((((Y5.out.below hb6).below hb7).alloc (.cells (obCells (numO (sn zz) (sd zz)) (.slice A0 0 c0)) 27)).alloc (.cells (obCells (numO (sn oo) (sd oo)) (.slice A1 0 c1)) 27))
  have Z8' := Lib.hid ((((Z5.out.below hb6).below hb7).alloc (.cells (obCells (numO (sn zz) (sd zz)) (.slice A0 0 c0)) 27)).alloc (.cells (obCells (numO (sn oo) (sd oo)) (.slice A1 0 c1)) 27))
  have O8' := Lib.hid ((BlkIs.new w7 27 (obCells (numO (sn zz) (sd zz)) (.slice A0 0 c0))).alloc (.cells (obCells (numO (sn oo) (sd oo)) (.slice A1 0 c1)) 27))
  have N8' := Lib.hid (BlkIs.new1 w7 (.cells (obCells (numO (sn zz) (sd zz)) (.slice A0 0 c0)) 27) 27 (obCells (numO (sn oo) (sd oo)) (.slice A1 0 c1)))
  have b0' := box2 (box2 b7 (.cells (obCells (numO (sn zz) (sd zz)) (.slice A0 0 c0)) 27)) (.cells (obCells (numO (sn oo) (sd oo)) (.slice A1 0 c1)) 27)
  generalize (w7.alloc (.cells (obCells (numO (sn zz) (sd zz)) (.slice A0 0 c0)) 27)).alloc (.cells (obCells (numO (sn oo) (sd oo)) (.slice A1 0 c1)) 27) = w8 at *
  have X0 := Lib.hid X8'.out.drew
  have Y0 := Lib.hid Y8'.out.drew
  have Z0 := Lib.hid Z8'.out.drew
  have O0 := Lib.hid O8'.out.drew
  have N0 := Lib.hid N8'.out.drew
  have b0 := b0'.drew
  clear b0' X5 Y5 Z5 hb6 hb7
  obtain ⟨xs0, xs1, xs2, xs3, xs4, xs5, xs6, xsl⟩ := X8'.out.seven
  obtain ⟨os0, os1, os2, os3, os4, os5, os6, osl⟩ := O8'.out.seven
  obtain ⟨ns0, ns1, ns2, ns3, ns4, ns5, ns6, nsl⟩ := N8'.out.seven
  go_cut [71] (fun s71 wx => s71 = .bool false ∧ Hid (BlkIs wx (w4.heap.size) 27 (obCells (numO (sn X) (sd X)) (.slice AX 0 cX))) ∧ Hid (BlkIs wx (w4.heap.size + 1) 27 (obCells (numO (sn Y) (sd Y)) (.slice AY 0 cY))) ∧ Hid (BlkIs wx (w4.heap.size + 1 + 1) 27 (obCells (numO (sn Z) (sd Z)) (.slice AZ 0 cZ))) ∧ Hid (BlkIs wx (w7.heap.size) 27 (obCells (numO (sn zz) (sd zz)) (.slice A0 0 c0))) ∧ Below w.heap.size w wx)
  case first =>
    by_cases hX : X = zz
    · have HE := HEz hX
      clear hX HEn HE1
      go_region_law
        (first | (go_simp; go_at_call 7; ((with_reducible refine (HE.out AX A0 cX c0 _ b0).mono ?_)); rintro e v1 ⟨rfl, hb1⟩; have b1 := then_ b0 hb1; have X1 := Lib.hid (X0.out.below hb1); have Y1 := Lib.hid (Y0.out.below hb1); have Z1 := Lib.hid (Z0.out.below hb1); have O1 := Lib.hid (O0.out.below hb1); have N1 := Lib.hid (N0.out.below hb1); obtain ⟨xc1_0, xc1_1, xc1_2, xc1_3, xc1_4, xc1_5, xc1_6, xc1_l⟩ := X1.out.seven; obtain ⟨oc1_0, oc1_1, oc1_2, oc1_3, oc1_4, oc1_5, oc1_6, oc1_l⟩ := O1.out.seven; obtain ⟨nc1_0, nc1_1, nc1_2, nc1_3, nc1_4, nc1_5, nc1_6, nc1_l⟩ := N1.out.seven))
      all_goals (go_wp2_with fail; go_meet)
      all_goals exact ⟨rfl, X1, Y1, Z1, O1, b1⟩
    · have HE := HEn hX
      have HE1' := HE1 hX
      clear hX HEz
      go_region_held3 (fun w' => w'.cell? ⟨w4.heap.size, 0, none⟩ = some (.int .i64 1) ∧ w'.cell? ⟨w4.heap.size, 1, none⟩ = some (str (sn X)) ∧ w'.cell? ⟨w4.heap.size, 2, none⟩ = some (str (sd X)) ∧ w'.cell? ⟨w4.heap.size, 3, none⟩ = some (str []) ∧ w'.cell? ⟨w4.heap.size, 4, none⟩ = some (str []) ∧ w'.cell? ⟨w4.heap.size, 5, none⟩ = some (str []) ∧ w'.cell? ⟨w4.heap.size, 6, none⟩ = some (.slice AX 0 cX) ∧ w'.cell? ⟨w7.heap.size, 0, none⟩ = some (.int .i64 1) ∧ w'.cell? ⟨w7.heap.size, 1, none⟩ = some (str (sn zz)) ∧ w'.cell? ⟨w7.heap.size, 2, none⟩ = some (str (sd zz)) ∧ w'.cell? ⟨w7.heap.size, 3, none⟩ = some (str []) ∧ w'.cell? ⟨w7.heap.size, 4, none⟩ = some (str []) ∧ w'.cell? ⟨w7.heap.size, 5, none⟩ = some (str []) ∧ w'.cell? ⟨w7.heap.size, 6, none⟩ = some (.slice A0 0 c0) ∧ w'.cell? ⟨w7.heap.size + 1, 0, none⟩ = some (.int .i64 1) ∧ w'.cell? ⟨w7.heap.size + 1, 1, none⟩ = some (str (sn oo)) ∧ w'.cell? ⟨w7.heap.size + 1, 2, none⟩ = some (str (sd oo)) ∧ w'.cell? ⟨w7.heap.size + 1, 3, none⟩ = some (str []) ∧ w'.cell? ⟨w7.heap.size + 1, 4, none⟩ = some (str []) ∧ w'.cell? ⟨w7.heap.size + 1, 5, none⟩ = some (str []) ∧ w'.cell? ⟨w7.heap.size + 1, 6, none⟩ = some (.slice A1 0 c1)) (go_keep)
        (first | (go_at_call 7; ((with_reducible refine (HE.out AX A0 cX c0 _ b0).mono ?_)); rintro e v1 ⟨rfl, hb1⟩; have b1 := then_ b0 hb1; have X1 := Lib.hid (X0.out.below hb1); have Y1 := Lib.hid (Y0.out.below hb1); have Z1 := Lib.hid (Z0.out.below hb1); have O1 := Lib.hid (O0.out.below hb1); have N1 := Lib.hid (N0.out.below hb1); obtain ⟨xc1_0, xc1_1, xc1_2, xc1_3, xc1_4, xc1_5, xc1_6, xc1_l⟩ := X1.out.seven; obtain ⟨oc1_0, oc1_1, oc1_2, oc1_3, oc1_4, oc1_5, oc1_6, oc1_l⟩ := O1.out.seven; obtain ⟨nc1_0, nc1_1, nc1_2, nc1_3, nc1_4, nc1_5, nc1_6, nc1_l⟩ := N1.out.seven) | (go_at_call 9; ((with_reducible refine (HV.out AX cX _ b1).mono ?_)); rintro e v2 ⟨A2, c2, rfl, hb2⟩; have b2 := then_ b1 hb2; have X2 := Lib.hid (X1.out.below hb2); have Y2 := Lib.hid (Y1.out.below hb2); have Z2 := Lib.hid (Z1.out.below hb2); have O2 := Lib.hid (O1.out.below hb2); have N2 := Lib.hid (N1.out.below hb2); obtain ⟨xc2_0, xc2_1, xc2_2, xc2_3, xc2_4, xc2_5, xc2_6, xc2_l⟩ := X2.out.seven; obtain ⟨oc2_0, oc2_1, oc2_2, oc2_3, oc2_4, oc2_5, oc2_6, oc2_l⟩ := O2.out.seven; obtain ⟨nc2_0, nc2_1, nc2_2, nc2_3, nc2_4, nc2_5, nc2_6, nc2_l⟩ := N2.out.seven) | (go_at_call 8; ((with_reducible refine (HP.out AX A2 cX c2 _ b2).mono ?_)); rintro e v3 ⟨A3, c3, rfl, hb3⟩; have b3 := then_ b2 hb3; have X3 := Lib.hid (X2.out.below hb3); have Y3 := Lib.hid (Y2.out.below hb3); have Z3 := Lib.hid (Z2.out.below hb3); have O3 := Lib.hid (O2.out.below hb3); have N3 := Lib.hid (N2.out.below hb3); obtain ⟨xc3_0, xc3_1, xc3_2, xc3_3, xc3_4, xc3_5, xc3_6, xc3_l⟩ := X3.out.seven; obtain ⟨oc3_0, oc3_1, oc3_2, oc3_3, oc3_4, oc3_5, oc3_6, oc3_l⟩ := O3.out.seven; obtain ⟨nc3_0, nc3_1, nc3_2, nc3_3, nc3_4, nc3_5, nc3_6, nc3_l⟩ := N3.out.seven) | (go_at_call 7; ((with_reducible refine (HE1'.out A3 A1 c3 c1 _ b3).mono ?_)); rintro e v4 ⟨rfl, hb4⟩; have b4 := then_ b3 hb4; have X4 := Lib.hid (X3.out.below hb4); have Y4 := Lib.hid (Y3.out.below hb4); have Z4 := Lib.hid (Z3.out.below hb4); have O4 := Lib.hid (O3.out.below hb4); have N4 := Lib.hid (N3.out.below hb4); obtain ⟨xc4_0, xc4_1, xc4_2, xc4_3, xc4_4, xc4_5, xc4_6, xc4_l⟩ := X4.out.seven; obtain ⟨oc4_0, oc4_1, oc4_2, oc4_3, oc4_4, oc4_5, oc4_6, oc4_l⟩ := O4.out.seven; obtain ⟨nc4_0, nc4_1, nc4_2, nc4_3, nc4_4, nc4_5, nc4_6, nc4_l⟩ := N4.out.seven))
      all_goals (go_wp2_with fail; go_meet)
      all_goals exact ⟨rfl, X4, Y4, Z4, O4, b4⟩
  case rest =>
    obtain ⟨rfl, X9, Y9, Z9, O9, b9⟩ := hcut
    clear X0 X8' Y0 Y8' Z0 Z8' O0 O8' N0 N8' b0 xs0 xs1 xs2 xs3 xs4 xs5 xs6 os0 os1 os2 os3 os4 os5 os6 ns0 ns1 ns2 ns3 ns4 ns5 ns6 HEz HEn HE1 HV HP b1 b2 b3 b4 b5 b6 b7
    go_upto_region 9 with (fail)
    obtain ⟨xc0_0, xc0_1, xc0_2, xc0_3, xc0_4, xc0_5, xc0_6, xc0_l⟩ := X9.out.seven
    obtain ⟨yc0_0, yc0_1, yc0_2, yc0_3, yc0_4, yc0_5, yc0_6, yc0_l⟩ := Y9.out.seven
    obtain ⟨zc0_0, zc0_1, zc0_2, zc0_3, zc0_4, zc0_5, zc0_6, zc0_l⟩ := Z9.out.seven
    obtain ⟨oc0_0, oc0_1, oc0_2, oc0_3, oc0_4, oc0_5, oc0_6, oc0_l⟩ := O9.out.seven
    have X0 := Lib.hid X9.out.drew
    have Y0 := Lib.hid Y9.out.drew
    have Z0 := Lib.hid Z9.out.drew
    have O0 := Lib.hid O9.out.drew
    have b0 := b9.drew
    clear X9 Y9 Z9 O9 b9
    go_region_held3 (fun w' => w'.cell? ⟨w4.heap.size, 0, none⟩ = some (.int .i64 1) ∧ w'.cell? ⟨w4.heap.size, 1, none⟩ = some (str (sn X)) ∧ w'.cell? ⟨w4.heap.size, 2, none⟩ = some (str (sd X)) ∧ w'.cell? ⟨w4.heap.size, 3, none⟩ = some (str []) ∧ w'.cell? ⟨w4.heap.size, 4, none⟩ = some (str []) ∧ w'.cell? ⟨w4.heap.size, 5, none⟩ = some (str []) ∧ w'.cell? ⟨w4.heap.size, 6, none⟩ = some (.slice AX 0 cX) ∧ w'.cell? ⟨w4.heap.size + 1, 0, none⟩ = some (.int .i64 1) ∧ w'.cell? ⟨w4.heap.size + 1, 1, none⟩ = some (str (sn Y)) ∧ w'.cell? ⟨w4.heap.size + 1, 2, none⟩ = some (str (sd Y)) ∧ w'.cell? ⟨w4.heap.size + 1, 3, none⟩ = some (str []) ∧ w'.cell? ⟨w4.heap.size + 1, 4, none⟩ = some (str []) ∧ w'.cell? ⟨w4.heap.size + 1, 5, none⟩ = some (str []) ∧ w'.cell? ⟨w4.heap.size + 1, 6, none⟩ = some (.slice AY 0 cY) ∧ w'.cell? ⟨w4.heap.size + 1 + 1, 0, none⟩ = some (.int .i64 1) ∧ w'.cell? ⟨w4.heap.size + 1 + 1, 1, none⟩ = some (str (sn Z)) ∧ w'.cell? ⟨w4.heap.size + 1 + 1, 2, none⟩ = some (str (sd Z)) ∧ w'.cell? ⟨w4.heap.size + 1 + 1, 3, none⟩ = some (str []) ∧ w'.cell? ⟨w4.heap.size + 1 + 1, 4, none⟩ = some (str []) ∧ w'.cell? ⟨w4.heap.size + 1 + 1, 5, none⟩ = some (str []) ∧ w'.cell? ⟨w4.heap.size + 1 + 1, 6, none⟩ = some (.slice AZ 0 cZ) ∧ w'.cell? ⟨w7.heap.size, 0, none⟩ = some (.int .i64 1) ∧ w'.cell? ⟨w7.heap.size, 1, none⟩ = some (str (sn zz)) ∧ w'.cell? ⟨w7.heap.size, 2, none⟩ = some (str (sd zz)) ∧ w'.cell? ⟨w7.heap.size, 3, none⟩ = some (str []) ∧ w'.cell? ⟨w7.heap.size, 4, none⟩ = some (str []) ∧ w'.cell? ⟨w7.heap.size, 5, none⟩ = some (str []) ∧ w'.cell? ⟨w7.heap.size, 6, none⟩ = some (.slice A0 0 c0)) (first | ((refine ⟨?_, ?_, ?_, ?_, ?_, ?_, ?_, ?_, ?_, ?_, ?_, ?_, ?_, ?_, ?_, ?_, ?_, ?_, ?_, ?_, ?_, ?_, ?_, ?_, ?_, ?_, ?_, ?_⟩) <;> assumption) | go_keep)
      (first | (go_at_call 11; ((with_reducible refine (K1.out AX cX _ b0).mono ?_)); rintro e v1 ⟨P1, r1, rfl, hb1⟩; have b1 := then_ b0 hb1; have X1 := Lib.hid (X0.out.below hb1); have Y1 := Lib.hid (Y0.out.below hb1); have Z1 := Lib.hid (Z0.out.below hb1); have O1 := Lib.hid (O0.out.below hb1); obtain ⟨xc1_0, xc1_1, xc1_2, xc1_3, xc1_4, xc1_5, xc1_6, xc1_l⟩ := X1.out.seven; obtain ⟨yc1_0, yc1_1, yc1_2, yc1_3, yc1_4, yc1_5, yc1_6, yc1_l⟩ := Y1.out.seven; obtain ⟨zc1_0, zc1_1, zc1_2, zc1_3, zc1_4, zc1_5, zc1_6, zc1_l⟩ := Z1.out.seven; obtain ⟨oc1_0, oc1_1, oc1_2, oc1_3, oc1_4, oc1_5, oc1_6, oc1_l⟩ := O1.out.seven; clear xc0_0 xc0_1 xc0_2 xc0_3 xc0_4 xc0_5 xc0_6 yc0_0 yc0_1 yc0_2 yc0_3 yc0_4 yc0_5 yc0_6 zc0_0 zc0_1 zc0_2 zc0_3 zc0_4 zc0_5 zc0_6 oc0_0 oc0_1 oc0_2 oc0_3 oc0_4 oc0_5 oc0_6) | (go_at_call 10; ((with_reducible refine (K2.out AX P1 cX r1 _ b1).mono ?_)); rintro e v2 ⟨P2, r2, rfl, hb2⟩; have b2 := then_ b1 hb2; have X2 := Lib.hid (X1.out.below hb2); have Y2 := Lib.hid (Y1.out.below hb2); have Z2 := Lib.hid (Z1.out.below hb2); have O2 := Lib.hid (O1.out.below hb2); obtain ⟨xc2_0, xc2_1, xc2_2, xc2_3, xc2_4, xc2_5, xc2_6, xc2_l⟩ := X2.out.seven; obtain ⟨yc2_0, yc2_1, yc2_2, yc2_3, yc2_4, yc2_5, yc2_6, yc2_l⟩ := Y2.out.seven; obtain ⟨zc2_0, zc2_1, zc2_2, zc2_3, zc2_4, zc2_5, zc2_6, zc2_l⟩ := Z2.out.seven; obtain ⟨oc2_0, oc2_1, oc2_2, oc2_3, oc2_4, oc2_5, oc2_6, oc2_l⟩ := O2.out.seven; clear xc1_0 xc1_1 xc1_2 xc1_3 xc1_4 xc1_5 xc1_6 yc1_0 yc1_1 yc1_2 yc1_3 yc1_4 yc1_5 yc1_6 zc1_0 zc1_1 zc1_2 zc1_3 zc1_4 zc1_5 zc1_6 oc1_0 oc1_1 oc1_2 oc1_3 oc1_4 oc1_5 oc1_6) | (go_at_call 7; ((with_reducible refine (K3.out P2 A0 r2 c0 _ b2).mono ?_)); rintro e v3 ⟨rfl, hb3⟩; have b3 := then_ b2 hb3; have X3 := Lib.hid (X2.out.below hb3); have Y3 := Lib.hid (Y2.out.below hb3); have Z3 := Lib.hid (Z2.out.below hb3); have O3 := Lib.hid (O2.out.below hb3); obtain ⟨xc3_0, xc3_1, xc3_2, xc3_3, xc3_4, xc3_5, xc3_6, xc3_l⟩ := X3.out.seven; obtain ⟨yc3_0, yc3_1, yc3_2, yc3_3, yc3_4, yc3_5, yc3_6, yc3_l⟩ := Y3.out.seven; obtain ⟨zc3_0, zc3_1, zc3_2, zc3_3, zc3_4, zc3_5, zc3_6, zc3_l⟩ := Z3.out.seven; obtain ⟨oc3_0, oc3_1, oc3_2, oc3_3, oc3_4, oc3_5, oc3_6, oc3_l⟩ := O3.out.seven; clear xc2_0 xc2_1 xc2_2 xc2_3 xc2_4 xc2_5 xc2_6 yc2_0 yc2_1 yc2_2 yc2_3 yc2_4 yc2_5 yc2_6 zc2_0 zc2_1 zc2_2 zc2_3 zc2_4 zc2_5 zc2_6 oc2_0 oc2_1 oc2_2 oc2_3 oc2_4 oc2_5 oc2_6) | (go_at_call 10; ((with_reducible refine (K4.out AY AZ cY cZ _ b3).mono ?_)); rintro e v4 ⟨P4, r4, rfl, hb4⟩; have b4 := then_ b3 hb4; have X4 := Lib.hid (X3.out.below hb4); have Y4 := Lib.hid (Y3.out.below hb4); have Z4 := Lib.hid (Z3.out.below hb4); have O4 := Lib.hid (O3.out.below hb4); obtain ⟨xc4_0, xc4_1, xc4_2, xc4_3, xc4_4, xc4_5, xc4_6, xc4_l⟩ := X4.out.seven; obtain ⟨yc4_0, yc4_1, yc4_2, yc4_3, yc4_4, yc4_5, yc4_6, yc4_l⟩ := Y4.out.seven; obtain ⟨zc4_0, zc4_1, zc4_2, zc4_3, zc4_4, zc4_5, zc4_6, zc4_l⟩ := Z4.out.seven; obtain ⟨oc4_0, oc4_1, oc4_2, oc4_3, oc4_4, oc4_5, oc4_6, oc4_l⟩ := O4.out.seven; clear xc3_0 xc3_1 xc3_2 xc3_3 xc3_4 xc3_5 xc3_6 yc3_0 yc3_1 yc3_2 yc3_3 yc3_4 yc3_5 yc3_6 zc3_0 zc3_1 zc3_2 zc3_3 zc3_4 zc3_5 zc3_6 oc3_0 oc3_1 oc3_2 oc3_3 oc3_4 oc3_5 oc3_6) | (go_at_call 8; ((with_reducible refine (K5.out AX P4 cX r4 _ b4).mono ?_)); rintro e v5 ⟨P5, r5, rfl, hb5⟩; have b5 := then_ b4 hb5; have X5 := Lib.hid (X4.out.below hb5); have Y5 := Lib.hid (Y4.out.below hb5); have Z5 := Lib.hid (Z4.out.below hb5); have O5 := Lib.hid (O4.out.below hb5); obtain ⟨xc5_0, xc5_1, xc5_2, xc5_3, xc5_4, xc5_5, xc5_6, xc5_l⟩ := X5.out.seven; obtain ⟨yc5_0, yc5_1, yc5_2, yc5_3, yc5_4, yc5_5, yc5_6, yc5_l⟩ := Y5.out.seven; obtain ⟨zc5_0, zc5_1, zc5_2, zc5_3, zc5_4, zc5_5, zc5_6, zc5_l⟩ := Z5.out.seven; obtain ⟨oc5_0, oc5_1, oc5_2, oc5_3, oc5_4, oc5_5, oc5_6, oc5_l⟩ := O5.out.seven; clear xc4_0 xc4_1 xc4_2 xc4_3 xc4_4 xc4_5 xc4_6 yc4_0 yc4_1 yc4_2 yc4_3 yc4_4 yc4_5 yc4_6 zc4_0 zc4_1 zc4_2 zc4_3 zc4_4 zc4_5 zc4_6 oc4_0 oc4_1 oc4_2 oc4_3 oc4_4 oc4_5 oc4_6) | (go_at_call 8; ((with_reducible refine (K6.out AX AY cX cY _ b5).mono ?_)); rintro e v6 ⟨P6, r6, rfl, hb6⟩; have b6 := then_ b5 hb6; have X6 := Lib.hid (X5.out.below hb6); have Y6 := Lib.hid (Y5.out.below hb6); have Z6 := Lib.hid (Z5.out.below hb6); have O6 := Lib.hid (O5.out.below hb6); obtain ⟨xc6_0, xc6_1, xc6_2, xc6_3, xc6_4, xc6_5, xc6_6, xc6_l⟩ := X6.out.seven; obtain ⟨yc6_0, yc6_1, yc6_2, yc6_3, yc6_4, yc6_5, yc6_6, yc6_l⟩ := Y6.out.seven; obtain ⟨zc6_0, zc6_1, zc6_2, zc6_3, zc6_4, zc6_5, zc6_6, zc6_l⟩ := Z6.out.seven; obtain ⟨oc6_0, oc6_1, oc6_2, oc6_3, oc6_4, oc6_5, oc6_6, oc6_l⟩ := O6.out.seven; clear xc5_0 xc5_1 xc5_2 xc5_3 xc5_4 xc5_5 xc5_6 yc5_0 yc5_1 yc5_2 yc5_3 yc5_4 yc5_5 yc5_6 zc5_0 zc5_1 zc5_2 zc5_3 zc5_4 zc5_5 zc5_6 oc5_0 oc5_1 oc5_2 oc5_3 oc5_4 oc5_5 oc5_6) | (go_at_call 8; ((with_reducible refine (K7.out AX AZ cX cZ _ b6).mono ?_)); rintro e v7 ⟨P7, r7, rfl, hb7⟩; have b7 := then_ b6 hb7; have X7 := Lib.hid (X6.out.below hb7); have Y7 := Lib.hid (Y6.out.below hb7); have Z7 := Lib.hid (Z6.out.below hb7); have O7 := Lib.hid (O6.out.below hb7); obtain ⟨xc7_0, xc7_1, xc7_2, xc7_3, xc7_4, xc7_5, xc7_6, xc7_l⟩ := X7.out.seven; obtain ⟨yc7_0, yc7_1, yc7_2, yc7_3, yc7_4, yc7_5, yc7_6, yc7_l⟩ := Y7.out.seven; obtain ⟨zc7_0, zc7_1, zc7_2, zc7_3, zc7_4, zc7_5, zc7_6, zc7_l⟩ := Z7.out.seven; obtain ⟨oc7_0, oc7_1, oc7_2, oc7_3, oc7_4, oc7_5, oc7_6, oc7_l⟩ := O7.out.seven; clear xc6_0 xc6_1 xc6_2 xc6_3 xc6_4 xc6_5 xc6_6 yc6_0 yc6_1 yc6_2 yc6_3 yc6_4 yc6_5 yc6_6 zc6_0 zc6_1 zc6_2 zc6_3 zc6_4 zc6_5 zc6_6 oc6_0 oc6_1 oc6_2 oc6_3 oc6_4 oc6_5 oc6_6) | (go_at_call 10; ((with_reducible refine (K8.out P6 P7 r6 r7 _ b7).mono ?_)); rintro e v8 ⟨P8, r8, rfl, hb8⟩; have b8 := then_ b7 hb8; have X8 := Lib.hid (X7.out.below hb8); have Y8 := Lib.hid (Y7.out.below hb8); have Z8 := Lib.hid (Z7.out.below hb8); have O8 := Lib.hid (O7.out.below hb8); obtain ⟨xc8_0, xc8_1, xc8_2, xc8_3, xc8_4, xc8_5, xc8_6, xc8_l⟩ := X8.out.seven; obtain ⟨yc8_0, yc8_1, yc8_2, yc8_3, yc8_4, yc8_5, yc8_6, yc8_l⟩ := Y8.out.seven; obtain ⟨zc8_0, zc8_1, zc8_2, zc8_3, zc8_4, zc8_5, zc8_6, zc8_l⟩ := Z8.out.seven; obtain ⟨oc8_0, oc8_1, oc8_2, oc8_3, oc8_4, oc8_5, oc8_6, oc8_l⟩ := O8.out.seven; clear xc7_0 xc7_1 xc7_2 xc7_3 xc7_4 xc7_5 xc7_6 yc7_0 yc7_1 yc7_2 yc7_3 yc7_4 yc7_5 yc7_6 zc7_0 zc7_1 zc7_2 zc7_3 zc7_4 zc7_5 zc7_6 oc7_0 oc7_1 oc7_2 oc7_3 oc7_4 oc7_5 oc7_6) | (go_at_call 7; ((with_reducible refine (K9.out P5 P8 r5 r8 _ b8).mono ?_)); rintro e v9 ⟨rfl, hb9⟩; have b9 := then_ b8 hb9; have X9 := Lib.hid (X8.out.below hb9); have Y9 := Lib.hid (Y8.out.below hb9); have Z9 := Lib.hid (Z8.out.below hb9); have O9 := Lib.hid (O8.out.below hb9); obtain ⟨xc9_0, xc9_1, xc9_2, xc9_3, xc9_4, xc9_5, xc9_6, xc9_l⟩ := X9.out.seven; obtain ⟨yc9_0, yc9_1, yc9_2, yc9_3, yc9_4, yc9_5, yc9_6, yc9_l⟩ := Y9.out.seven; obtain ⟨zc9_0, zc9_1, zc9_2, zc9_3, zc9_4, zc9_5, zc9_6, zc9_l⟩ := Z9.out.seven; obtain ⟨oc9_0, oc9_1, oc9_2, oc9_3, oc9_4, oc9_5, oc9_6, oc9_l⟩ := O9.out.seven; clear xc8_0 xc8_1 xc8_2 xc8_3 xc8_4 xc8_5 xc8_6 yc8_0 yc8_1 yc8_2 yc8_3 yc8_4 yc8_5 yc8_6 zc8_0 zc8_1 zc8_2 zc8_3 zc8_4 zc8_5 zc8_6 oc8_0 oc8_1 oc8_2 oc8_3 oc8_4 oc8_5 oc8_6) | (go_at_call 10; ((with_reducible refine (K10.out AX AY cX cY _ b9).mono ?_)); rintro e v10 ⟨P10, r10, rfl, hb10⟩; have b10 := then_ b9 hb10; have X10 := Lib.hid (X9.out.below hb10); have Y10 := Lib.hid (Y9.out.below hb10); have Z10 := Lib.hid (Z9.out.below hb10); have O10 := Lib.hid (O9.out.below hb10); obtain ⟨xc10_0, xc10_1, xc10_2, xc10_3, xc10_4, xc10_5, xc10_6, xc10_l⟩ := X10.out.seven; obtain ⟨yc10_0, yc10_1, yc10_2, yc10_3, yc10_4, yc10_5, yc10_6, yc10_l⟩ := Y10.out.seven; obtain ⟨zc10_0, zc10_1, zc10_2, zc10_3, zc10_4, zc10_5, zc10_6, zc10_l⟩ := Z10.out.seven; obtain ⟨oc10_0, oc10_1, oc10_2, oc10_3, oc10_4, oc10_5, oc10_6, oc10_l⟩ := O10.out.seven; clear xc9_0 xc9_1 xc9_2 xc9_3 xc9_4 xc9_5 xc9_6 yc9_0 yc9_1 yc9_2 yc9_3 yc9_4 yc9_5 yc9_6 zc9_0 zc9_1 zc9_2 zc9_3 zc9_4 zc9_5 zc9_6 oc9_0 oc9_1 oc9_2 oc9_3 oc9_4 oc9_5 oc9_6) | (go_at_call 10; ((with_reducible refine (K11.out P10 AZ r10 cZ _ b10).mono ?_)); rintro e v11 ⟨P11, r11, rfl, hb11⟩; have b11 := then_ b10 hb11; have X11 := Lib.hid (X10.out.below hb11); have Y11 := Lib.hid (Y10.out.below hb11); have Z11 := Lib.hid (Z10.out.below hb11); have O11 := Lib.hid (O10.out.below hb11); obtain ⟨xc11_0, xc11_1, xc11_2, xc11_3, xc11_4, xc11_5, xc11_6, xc11_l⟩ := X11.out.seven; obtain ⟨yc11_0, yc11_1, yc11_2, yc11_3, yc11_4, yc11_5, yc11_6, yc11_l⟩ := Y11.out.seven; obtain ⟨zc11_0, zc11_1, zc11_2, zc11_3, zc11_4, zc11_5, zc11_6, zc11_l⟩ := Z11.out.seven; obtain ⟨oc11_0, oc11_1, oc11_2, oc11_3, oc11_4, oc11_5, oc11_6, oc11_l⟩ := O11.out.seven; clear xc10_0 xc10_1 xc10_2 xc10_3 xc10_4 xc10_5 xc10_6 yc10_0 yc10_1 yc10_2 yc10_3 yc10_4 yc10_5 yc10_6 zc10_0 zc10_1 zc10_2 zc10_3 zc10_4 zc10_5 zc10_6 oc10_0 oc10_1 oc10_2 oc10_3 oc10_4 oc10_5 oc10_6) | (go_at_call 10; ((with_reducible refine (K4.out AY AZ cY cZ _ b11).mono ?_)); rintro e v12 ⟨P12, r12, rfl, hb12⟩; have b12 := then_ b11 hb12; have X12 := Lib.hid (X11.out.below hb12); have Y12 := Lib.hid (Y11.out.below hb12); have Z12 := Lib.hid (Z11.out.below hb12); have O12 := Lib.hid (O11.out.below hb12); obtain ⟨xc12_0, xc12_1, xc12_2, xc12_3, xc12_4, xc12_5, xc12_6, xc12_l⟩ := X12.out.seven; obtain ⟨yc12_0, yc12_1, yc12_2, yc12_3, yc12_4, yc12_5, yc12_6, yc12_l⟩ := Y12.out.seven; obtain ⟨zc12_0, zc12_1, zc12_2, zc12_3, zc12_4, zc12_5, zc12_6, zc12_l⟩ := Z12.out.seven; obtain ⟨oc12_0, oc12_1, oc12_2, oc12_3, oc12_4, oc12_5, oc12_6, oc12_l⟩ := O12.out.seven; clear xc11_0 xc11_1 xc11_2 xc11_3 xc11_4 xc11_5 xc11_6 yc11_0 yc11_1 yc11_2 yc11_3 yc11_4 yc11_5 yc11_6 zc11_0 zc11_1 zc11_2 zc11_3 zc11_4 zc11_5 zc11_6 oc11_0 oc11_1 oc11_2 oc11_3 oc11_4 oc11_5 oc11_6) | (go_at_call 10; ((with_reducible refine (K13.out AX P12 cX r12 _ b12).mono ?_)); rintro e v13 ⟨P13, r13, rfl, hb13⟩; have b13 := then_ b12 hb13; have X13 := Lib.hid (X12.out.below hb13); have Y13 := Lib.hid (Y12.out.below hb13); have Z13 := Lib.hid (Z12.out.below hb13); have O13 := Lib.hid (O12.out.below hb13); obtain ⟨xc13_0, xc13_1, xc13_2, xc13_3, xc13_4, xc13_5, xc13_6, xc13_l⟩ := X13.out.seven; obtain ⟨yc13_0, yc13_1, yc13_2, yc13_3, yc13_4, yc13_5, yc13_6, yc13_l⟩ := Y13.out.seven; obtain ⟨zc13_0, zc13_1, zc13_2, zc13_3, zc13_4, zc13_5, zc13_6, zc13_l⟩ := Z13.out.seven; obtain ⟨oc13_0, oc13_1, oc13_2, oc13_3, oc13_4, oc13_5, oc13_6, oc13_l⟩ := O13.out.seven; clear xc12_0 xc12_1 xc12_2 xc12_3 xc12_4 xc12_5 xc12_6 yc12_0 yc12_1 yc12_2 yc12_3 yc12_4 yc12_5 yc12_6 zc12_0 zc12_1 zc12_2 zc12_3 zc12_4 zc12_5 zc12_6 oc12_0 oc12_1 oc12_2 oc12_3 oc12_4 oc12_5 oc12_6) | (go_at_call 7; ((with_reducible refine (K14.out P11 P13 r11 r13 _ b13).mono ?_)); rintro e v14 ⟨rfl, hb14⟩; have b14 := then_ b13 hb14; have X14 := Lib.hid (X13.out.below hb14); have Y14 := Lib.hid (Y13.out.below hb14); have Z14 := Lib.hid (Z13.out.below hb14); have O14 := Lib.hid (O13.out.below hb14); obtain ⟨xc14_0, xc14_1, xc14_2, xc14_3, xc14_4, xc14_5, xc14_6, xc14_l⟩ := X14.out.seven; obtain ⟨yc14_0, yc14_1, yc14_2, yc14_3, yc14_4, yc14_5, yc14_6, yc14_l⟩ := Y14.out.seven; obtain ⟨zc14_0, zc14_1, zc14_2, zc14_3, zc14_4, zc14_5, zc14_6, zc14_l⟩ := Z14.out.seven; obtain ⟨oc14_0, oc14_1, oc14_2, oc14_3, oc14_4, oc14_5, oc14_6, oc14_l⟩ := O14.out.seven; clear xc13_0 xc13_1 xc13_2 xc13_3 xc13_4 xc13_5 xc13_6 yc13_0 yc13_1 yc13_2 yc13_3 yc13_4 yc13_5 yc13_6 zc13_0 zc13_1 zc13_2 zc13_3 zc13_4 zc13_5 zc13_6 oc13_0 oc13_1 oc13_2 oc13_3 oc13_4 oc13_5 oc13_6) | (go_at_call 12; ((with_reducible refine (K15.out AX AY cX cY _ b14).mono ?_)); rintro e v15 ⟨rfl, hb15⟩; have b15 := then_ b14 hb15; have X15 := Lib.hid (X14.out.below hb15); have Y15 := Lib.hid (Y14.out.below hb15); have Z15 := Lib.hid (Z14.out.below hb15); have O15 := Lib.hid (O14.out.below hb15); obtain ⟨xc15_0, xc15_1, xc15_2, xc15_3, xc15_4, xc15_5, xc15_6, xc15_l⟩ := X15.out.seven; obtain ⟨yc15_0, yc15_1, yc15_2, yc15_3, yc15_4, yc15_5, yc15_6, yc15_l⟩ := Y15.out.seven; obtain ⟨zc15_0, zc15_1, zc15_2, zc15_3, zc15_4, zc15_5, zc15_6, zc15_l⟩ := Z15.out.seven; obtain ⟨oc15_0, oc15_1, oc15_2, oc15_3, oc15_4, oc15_5, oc15_6, oc15_l⟩ := O15.out.seven; clear xc14_0 xc14_1 xc14_2 xc14_3 xc14_4 xc14_5 xc14_6 yc14_0 yc14_1 yc14_2 yc14_3 yc14_4 yc14_5 yc14_6 zc14_0 zc14_1 zc14_2 zc14_3 zc14_4 zc14_5 zc14_6 oc14_0 oc14_1 oc14_2 oc14_3 oc14_4 oc14_5 oc14_6) | (go_at_call 10; ((with_reducible refine (K16.out AX AZ cX cZ _ b15).mono ?_)); rintro e v16 ⟨P16, r16, rfl, hb16⟩; have b16 := then_ b15 hb16; have X16 := Lib.hid (X15.out.below hb16); have Y16 := Lib.hid (Y15.out.below hb16); have Z16 := Lib.hid (Z15.out.below hb16); have O16 := Lib.hid (O15.out.below hb16); obtain ⟨xc16_0, xc16_1, xc16_2, xc16_3, xc16_4, xc16_5, xc16_6, xc16_l⟩ := X16.out.seven; obtain ⟨yc16_0, yc16_1, yc16_2, yc16_3, yc16_4, yc16_5, yc16_6, yc16_l⟩ := Y16.out.seven; obtain ⟨zc16_0, zc16_1, zc16_2, zc16_3, zc16_4, zc16_5, zc16_6, zc16_l⟩ := Z16.out.seven; obtain ⟨oc16_0, oc16_1, oc16_2, oc16_3, oc16_4, oc16_5, oc16_6, oc16_l⟩ := O16.out.seven; clear xc15_0 xc15_1 xc15_2 xc15_3 xc15_4 xc15_5 xc15_6 yc15_0 yc15_1 yc15_2 yc15_3 yc15_4 yc15_5 yc15_6 zc15_0 zc15_1 zc15_2 zc15_3 zc15_4 zc15_5 zc15_6 oc15_0 oc15_1 oc15_2 oc15_3 oc15_4 oc15_5 oc15_6) | (go_at_call 10; ((with_reducible refine (K4.out AY AZ cY cZ _ b16).mono ?_)); rintro e v17 ⟨P17, r17, rfl, hb17⟩; have b17 := then_ b16 hb17; have X17 := Lib.hid (X16.out.below hb17); have Y17 := Lib.hid (Y16.out.below hb17); have Z17 := Lib.hid (Z16.out.below hb17); have O17 := Lib.hid (O16.out.below hb17); obtain ⟨xc17_0, xc17_1, xc17_2, xc17_3, xc17_4, xc17_5, xc17_6, xc17_l⟩ := X17.out.seven; obtain ⟨yc17_0, yc17_1, yc17_2, yc17_3, yc17_4, yc17_5, yc17_6, yc17_l⟩ := Y17.out.seven; obtain ⟨zc17_0, zc17_1, zc17_2, zc17_3, zc17_4, zc17_5, zc17_6, zc17_l⟩ := Z17.out.seven; obtain ⟨oc17_0, oc17_1, oc17_2, oc17_3, oc17_4, oc17_5, oc17_6, oc17_l⟩ := O17.out.seven; clear xc16_0 xc16_1 xc16_2 xc16_3 xc16_4 xc16_5 xc16_6 yc16_0 yc16_1 yc16_2 yc16_3 yc16_4 yc16_5 yc16_6 zc16_0 zc16_1 zc16_2 zc16_3 zc16_4 zc16_5 zc16_6 oc16_0 oc16_1 oc16_2 oc16_3 oc16_4 oc16_5 oc16_6) | (go_at_call 12; ((with_reducible refine (K18.out P16 P17 r16 r17 _ b17).mono ?_)); rintro e v18 ⟨rfl, hb18⟩; have b18 := then_ b17 hb18; have X18 := Lib.hid (X17.out.below hb18); have Y18 := Lib.hid (Y17.out.below hb18); have Z18 := Lib.hid (Z17.out.below hb18); have O18 := Lib.hid (O17.out.below hb18); obtain ⟨xc18_0, xc18_1, xc18_2, xc18_3, xc18_4, xc18_5, xc18_6, xc18_l⟩ := X18.out.seven; obtain ⟨yc18_0, yc18_1, yc18_2, yc18_3, yc18_4, yc18_5, yc18_6, yc18_l⟩ := Y18.out.seven; obtain ⟨zc18_0, zc18_1, zc18_2, zc18_3, zc18_4, zc18_5, zc18_6, zc18_l⟩ := Z18.out.seven; obtain ⟨oc18_0, oc18_1, oc18_2, oc18_3, oc18_4, oc18_5, oc18_6, oc18_l⟩ := O18.out.seven; clear xc17_0 xc17_1 xc17_2 xc17_3 xc17_4 xc17_5 xc17_6 yc17_0 yc17_1 yc17_2 yc17_3 yc17_4 yc17_5 yc17_6 zc17_0 zc17_1 zc17_2 zc17_3 zc17_4 zc17_5 zc17_6 oc17_0 oc17_1 oc17_2 oc17_3 oc17_4 oc17_5 oc17_6))
    go_wp2
    go_ret
    exact ⟨by first | rfl | (simp; done) | (cases bl <;> rfl), b18⟩
theorem field_any (a b c d e f : List UInt8) (w : World) (ht : Tab w) (la : a.length ≤ 9223372036854775807) (lb : b.length ≤ 9223372036854775807) (lc : c.length ≤ 9223372036854775807) (ld : d.length ≤ 9223372036854775807) (le : e.length ≤ 9223372036854775807) (lf : f.length ≤ 9223372036854775807) : Calls Tryd.prog 3 #[.string ⟨a.toArray⟩, .string ⟨b.toArray⟩, .string ⟨c.toArray⟩, .string ⟨d.toArray⟩, .string ⟨e.toArray⟩, .string ⟨f.toArray⟩] w (RetTrue2 w) := by
  by_cases ha : a.length ≤ 15
  case neg => exact field_long0 a b c d e f w ht la lb lc ld le lf  ha
  by_cases hb : b.length ≤ 15
  case neg => exact field_long1 a b c d e f w ht la lb lc ld le lf ha hb
  by_cases hc : c.length ≤ 15
  case neg => exact field_long2 a b c d e f w ht la lb lc ld le lf ha hb hc
  by_cases hd : d.length ≤ 15
  case neg => exact field_long3 a b c d e f w ht la lb lc ld le lf ha hb hc hd
  by_cases he : e.length ≤ 15
  case neg => exact field_long4 a b c d e f w ht la lb lc ld le lf ha hb hc hd he
  by_cases hf : f.length ≤ 15
  case neg => exact field_long5 a b c d e f w ht la lb lc ld le lf ha hb hc hd he hf
  exact field_main a b c d e f w ht ha hb hc hd he hf
end Go.Proofs.YtcdgckbdplkdbaaDoor
