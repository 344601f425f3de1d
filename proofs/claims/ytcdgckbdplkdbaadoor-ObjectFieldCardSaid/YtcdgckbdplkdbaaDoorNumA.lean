/- number.short, Compare, Negate. -/
import Derived.Test.YtcdgckbdplkdbaaDoorDiv2
namespace Go.Proofs.YtcdgckbdplkdbaaDoor
open Go.RowKit

def cmpI (a b : Int) : Int := if a < b then -1 else if b < a then 1 else 0
theorem cmpI_lt {a b : Int} (h : a < b) : cmpI a b = -1 := by simp [cmpI, h]
theorem cmpI_gt {a b : Int} (h : b < a) : cmpI a b = 1 := by simp [cmpI, h]; omega
theorem cmpI_eq (a : Int) : cmpI a a = 0 := by simp [cmpI]
theorem cmpI_pos {a b : Int} (ha : ¬ a < 0) (hb : ¬ b < 0) : ordI a.natAbs b.natAbs = cmpI a b := by
  unfold ordI cmpI
  by_cases h1 : a < b
  · rw [if_pos (by omega), if_pos h1]
  · rw [if_neg (by omega), if_neg h1]
    by_cases h2 : b < a
    · rw [if_pos (by omega), if_pos h2]
    · rw [if_neg (by omega), if_neg h2]
theorem cmpI_neg {a b : Int} (ha : a < 0) (hb : b < 0) : ordI b.natAbs a.natAbs = cmpI a b := by
  unfold ordI cmpI
  by_cases h1 : a < b
  · rw [if_pos (by omega), if_pos h1]
  · rw [if_neg (by omega), if_neg h1]
    by_cases h2 : b < a
    · rw [if_pos (by omega), if_pos h2]
    · rw [if_neg (by omega), if_neg h2]
def RetI64 (v : Int) (w : World) (e : Ending) (w' : World) : Prop := e = .returned (.int .i64 v) ∧ Below w.heap.size w w'

set_option maxHeartbeats 1000000 in
set_option maxRecDepth 100000 in
theorem compareN_any (a b : List UInt8) (w : World) (ha : a.length ≤ 1000000) (hb : b.length ≤ 1000000) :
    Calls Tryd.prog 47 #[.string ⟨a.toArray⟩, .string ⟨b.toArray⟩] w (RetI64 (cmpI (Dec.dval a) (Dec.dval b)) w) := by
  have HP1 := Lib.hid (parse_any a w ha)
  have HP2 : Hid (∀ w', Calls Tryd.prog 43 #[.string ⟨b.toArray⟩] w' (RetInt (b.length + 1) (Dec.dval b) w')) := fun w' => parse_any b w' hb
  generalize Dec.dval a = x at HP1
  generalize Dec.dval b = y at HP2
  by_cases hx : x < 0 <;> by_cases hy : y < 0
  · have HF := Lib.hid (cmpI_neg hx hy)
    go_enter Tryd.func47, Tryd.ntmps47
    go_wp2_with fail
    refine HP1.out.mono ?_
    rintro e w1 ⟨A1, n1, c1, rfl, hs1, hn1, hb1⟩
    rw [decide_eq_true hx]
    go_wp2_with fail
    refine (HP2.out _).mono ?_
    rintro e w2 ⟨A2, n2, c2, rfl, hs2, hn2, hb2⟩
    rw [decide_eq_true hy]
    have hbw2 : Below w.heap.size w w2 := hb1.trans (hb2.mono hb1.size)
    have HC : Hid (∀ o1 o2, Calls Tryd.prog 65 #[.slice A2 n2 c2, .slice A1 n1 c1] ((w2.alloc o1).alloc o2) (Cmp y.natAbs x.natAbs ((w2.alloc o1).alloc o2))) :=
      fun o1 o2 => compare_any 1000000000 (by omega) A2 A1 n2 n1 c2 c1 _ _ _ ((hs2.alloc o1).alloc o2) (((hs1.below hb2).alloc o1).alloc o2) (by omega) (by omega)
    go_wp2_with (go_at_call 65; refine (HC.out _ _).mono ?_; rintro e w3 ⟨rfl, q, rfl⟩)
    go_ret
    refine ⟨?_, below_drewN ((hbw2.alloc hbw2.size _).alloc (by rw [World.size_alloc]; have := hbw2.size; omega) _) q⟩
    rw [← HF.out]; rfl
  · have HF := Lib.hid (cmpI_lt (a := x) (b := y) (by omega))
    go_enter Tryd.func47, Tryd.ntmps47
    go_wp2_with fail
    refine HP1.out.mono ?_
    rintro e w1 ⟨A1, n1, c1, rfl, hs1, hn1, hb1⟩
    rw [decide_eq_true hx]
    go_wp2_with fail
    refine (HP2.out _).mono ?_
    rintro e w2 ⟨A2, n2, c2, rfl, hs2, hn2, hb2⟩
    rw [decide_eq_false (by omega)]
    have hbw2 : Below w.heap.size w w2 := hb1.trans (hb2.mono hb1.size)
    go_wp2
    go_ret
    refine ⟨?_, (hbw2.alloc hbw2.size _).alloc (by rw [World.size_alloc]; have := hbw2.size; omega) _⟩
    rw [HF.out]; rfl
  · have HF := Lib.hid (cmpI_gt (a := x) (b := y) (by omega))
    go_enter Tryd.func47, Tryd.ntmps47
    go_wp2_with fail
    refine HP1.out.mono ?_
    rintro e w1 ⟨A1, n1, c1, rfl, hs1, hn1, hb1⟩
    rw [decide_eq_false (by omega)]
    go_wp2_with fail
    refine (HP2.out _).mono ?_
    rintro e w2 ⟨A2, n2, c2, rfl, hs2, hn2, hb2⟩
    rw [decide_eq_true hy]
    have hbw2 : Below w.heap.size w w2 := hb1.trans (hb2.mono hb1.size)
    go_wp2
    go_ret
    refine ⟨?_, (hbw2.alloc hbw2.size _).alloc (by rw [World.size_alloc]; have := hbw2.size; omega) _⟩
    rw [HF.out]; rfl
  · have HF := Lib.hid (cmpI_pos hx hy)
    go_enter Tryd.func47, Tryd.ntmps47
    go_wp2_with fail
    refine HP1.out.mono ?_
    rintro e w1 ⟨A1, n1, c1, rfl, hs1, hn1, hb1⟩
    rw [decide_eq_false (by omega)]
    go_wp2_with fail
    refine (HP2.out _).mono ?_
    rintro e w2 ⟨A2, n2, c2, rfl, hs2, hn2, hb2⟩
    rw [decide_eq_false (by omega)]
    have hbw2 : Below w.heap.size w w2 := hb1.trans (hb2.mono hb1.size)
    have HC : Hid (∀ o1 o2, Calls Tryd.prog 65 #[.slice A1 n1 c1, .slice A2 n2 c2] ((w2.alloc o1).alloc o2) (Cmp x.natAbs y.natAbs ((w2.alloc o1).alloc o2))) :=
      fun o1 o2 => compare_any 1000000000 (by omega) A1 A2 n1 n2 c1 c2 _ _ _ (((hs1.below hb2).alloc o1).alloc o2) ((hs2.alloc o1).alloc o2) (by omega) (by omega)
    go_wp2_with (go_at_call 65; refine (HC.out _ _).mono ?_; rintro e w3 ⟨rfl, q, rfl⟩)
    go_ret
    refine ⟨?_, below_drewN ((hbw2.alloc hbw2.size _).alloc (by rw [World.size_alloc]; have := hbw2.size; omega) _) q⟩
    rw [← HF.out]; rfl

/-! ### short -/
def ShortYes (x y : Int) (w : World) (e : Ending) (w' : World) : Prop := e = .returned (.tuple #[.int .i64 x, .int .i64 y, .bool true]) ∧ Below w.heap.size w w'
def ShortNo (w : World) (e : Ending) (w' : World) : Prop := e = .returned (.tuple #[.int .i64 0, .int .i64 0, .bool false]) ∧ w = w'
set_option maxHeartbeats 1000000 in
theorem short_yes (a b : List UInt8) (m : Int) (w : World) (hm : m ≤ 18) (ha : (a.length : Int) ≤ m) (hb : (b.length : Int) ≤ m) (hva : Dec.isDec a = true) (hvb : Dec.isDec b = true) :
    Calls Tryd.prog 41 #[.string ⟨a.toArray⟩, .string ⟨b.toArray⟩, .int .i64 m] w (ShortYes (Dec.dval a) (Dec.dval b) w) := by
  have HV1 : Hid (∀ w', Calls Tryd.prog 52 #[.string ⟨a.toArray⟩] w' fun e w'' => e = .returned (.bool true) ∧ w' = w'') := fun w' => by
    have := valid_any a w' (by omega); rwa [hva] at this
  have HV2 : Hid (∀ w', Calls Tryd.prog 52 #[.string ⟨b.toArray⟩] w' fun e w'' => e = .returned (.bool true) ∧ w' = w'') := fun w' => by
    have := valid_any b w' (by omega); rwa [hvb] at this
  have HP1 := Lib.hid (parseInt_any a w hva (by omega))
  have HP2 : Hid (∀ w', Calls Tryd.prog 57 #[.string ⟨b.toArray⟩, .int .i64 10, .int .i64 64] w' fun e w'' => e = .returned (.tuple #[.int .i64 (Dec.dval b), .nilIface]) ∧ Below w'.heap.size w' w'') := fun w' => parseInt_any b w' hvb (by omega)
  clear hva hvb
  go_enter Tryd.func41, Tryd.ntmps41
  go_wp2_with fail
  refine (HV1.out _).mono ?_
  rintro e w' ⟨rfl, rfl⟩
  go_wp2_with fail
  refine (HV2.out _).mono ?_
  rintro e w' ⟨rfl, rfl⟩
  go_wp2_with fail
  refine HP1.out.mono ?_
  rintro e w1 ⟨rfl, hb1⟩
  go_wp2_with fail
  refine (HP2.out _).mono ?_
  rintro e w2 ⟨rfl, hb2⟩
  go_wp2
  go_ret3
  exact ⟨rfl, hb1.trans (hb2.mono hb1.size)⟩
set_option maxHeartbeats 1000000 in
theorem short_no (a b : List UInt8) (m : Int) (w : World) (hla : a.length ≤ 1000000) (hlb : b.length ≤ 1000000) (h : ¬ ((a.length : Int) ≤ m ∧ (b.length : Int) ≤ m ∧ Dec.isDec a = true ∧ Dec.isDec b = true)) :
    Calls Tryd.prog 41 #[.string ⟨a.toArray⟩, .string ⟨b.toArray⟩, .int .i64 m] w (ShortNo w) := by
  by_cases h1 : (a.length : Int) ≤ m
  · by_cases h2 : (b.length : Int) ≤ m
    · cases h3 : Dec.isDec a with
      | true =>
        have h4 : Dec.isDec b = false := by
          cases h4 : Dec.isDec b with
          | false => rfl
          | true => exact absurd ⟨h1, h2, h3, h4⟩ h
        have HV1 : Hid (∀ w', Calls Tryd.prog 52 #[.string ⟨a.toArray⟩] w' fun e w'' => e = .returned (.bool true) ∧ w' = w'') := fun w' => by
          have := valid_any a w' (by omega); rwa [h3] at this
        have HV2 : Hid (∀ w', Calls Tryd.prog 52 #[.string ⟨b.toArray⟩] w' fun e w'' => e = .returned (.bool false) ∧ w' = w'') := fun w' => by
          have := valid_any b w' (by omega); rwa [h4] at this
        clear h h3 h4
        go_enter Tryd.func41, Tryd.ntmps41
        go_wp2_with fail
        refine (HV1.out _).mono ?_
        rintro e w' ⟨rfl, rfl⟩
        go_wp2_with fail
        refine (HV2.out _).mono ?_
        rintro e w' ⟨rfl, rfl⟩
        go_wp2
        go_ret3
        exact ⟨rfl, rfl⟩
      | false =>
        have HV1 : Hid (∀ w', Calls Tryd.prog 52 #[.string ⟨a.toArray⟩] w' fun e w'' => e = .returned (.bool false) ∧ w' = w'') := fun w' => by
          have := valid_any a w' (by omega); rwa [h3] at this
        clear h h3
        go_enter Tryd.func41, Tryd.ntmps41
        go_wp2_with fail
        refine (HV1.out _).mono ?_
        rintro e w' ⟨rfl, rfl⟩
        go_wp2
        go_ret3
        exact ⟨rfl, rfl⟩
    · clear h
      have d1 : decide (m < (b.length : Int)) = true := by simp; omega
      go_enter Tryd.func41, Tryd.ntmps41
      go_wp2
      go_ret3
      exact ⟨rfl, rfl⟩
  · clear h
    have d1 : decide (m < (a.length : Int)) = true := by simp; omega
    go_enter Tryd.func41, Tryd.ntmps41
    go_wp2
    go_ret3
    exact ⟨rfl, rfl⟩
end Go.Proofs.YtcdgckbdplkdbaaDoor
