/- lispproverlaw1.NumberValid returns true. -/
import Derived.Test.YtjefhgmnjfclaaaDoorDivides
import Derived.Test.YtjefhgmnjfclaaaDoorRefJ
namespace Go.Proofs.YtjefhgmnjfclaaaDoor
open Go.RowKit

theorem strs1 (w : World) (t : TypeId) (a : List UInt8) : Strs (w.alloc (.cells #[.string ⟨a.toArray⟩] t)) w.heap.size [a] :=
  ⟨by simp, fun i h => by
    have hk := BlkIs.new w t #[.string ⟨a.toArray⟩]
    have h3 : i < 1 := h
    obtain rfl : i = 0 := by omega
    exact hk.cell 0⟩
theorem short1 (a : List UInt8) (ha : a.length ≤ 9223372036854775807) (z : Bool) (hz : ([a].all fun l => decide (l.length ≤ 60)) = z) (w' : World) :
    Calls Tryd.prog 14 #[.slice (some ⟨w'.heap.size, 0, none⟩) 1 1] (w'.alloc (.cells #[.string ⟨a.toArray⟩] 9)) (RetPure (.bool z) (w'.alloc (.cells #[.string ⟨a.toArray⟩] 9))) := by
  have := shortL_any w'.heap.size 1 [a] _ (strs1 w' 9 a) rfl (by omega) (by
      intro l hl
      simp only [List.mem_cons, List.not_mem_nil, or_false] at hl
      subst hl; assumption)
  rwa [hz] at this

set_option maxHeartbeats 2000000 in
set_option maxRecDepth 100000 in
theorem valids_any (a : List UInt8) (w : World) (ht : Tab w) (ha : a.length ≤ 9223372036854775807) :
    Calls Tryd.prog 11 #[.string ⟨a.toArray⟩] w (RetTrue w) := by
  cases hz : ([a].all fun l => decide (l.length ≤ 60)) with
  | false =>
    have HZ := Lib.hid hz
    clear hz
    go_enter Tryd.func11, Tryd.ntmps11
    go_wp2_with fail
    refine (first_any _ ht).mono ?_
    rintro e w1 ⟨rfl, hb1⟩
    go_wp2_with fail
    refine (short1 a ha _ HZ.out _).mono ?_
    rintro e w' ⟨rfl, rfl⟩
    go_wp2
    go_ret
    exact ⟨rfl, hb1.alloc hb1.size _⟩
  | true =>
    have HZ := Lib.hid hz
    simp only [List.all_cons, List.all_nil, Bool.and_true, decide_eq_true_eq] at hz
    have la : a.length ≤ 60 := hz
    clear hz
    have hp : 0 ≤ (Dec.mag (norm a)).length := Nat.zero_le _
    by_cases h9 : (Dec.mag (norm a)).length ≤ 9
    · have HA : Hid (∀ w' : World, Calls Tryd.prog 32 #[.string ⟨a.toArray⟩] w' (RetSmall (Dec.dval a) true w')) := fun w' => small_yes a w' (by omega) h9
      have HB : Hid (∀ w' : World, Calls Tryd.prog 33 #[.string ⟨a.toArray⟩] w' (RetSmall (Dec.dval a) true w')) := fun w' => refSmall_yes a w' (by omega) h9
      have HC : Hid (∀ w' : World, Calls Tryd.prog 34 #[.string ⟨a.toArray⟩] w' (RetPure (.bool (Dec.isDec a)) w')) := fun w' => valid_any a w' (by omega)
      have HD : Hid (∀ w' : World, Calls Tryd.prog 35 #[.string ⟨a.toArray⟩] w' (RetPure (.int .i64 ((Dec.mag (norm a)).length : Nat)) w')) := fun w' => digits_any a w' (by omega)
      have HE : Hid (∀ w' : World, Calls Tryd.prog 36 #[.string ⟨a.toArray⟩] w' (RetI64 ((Dec.mag (norm a)).length : Nat) w')) := fun w' => refDigitsN_any a w' (by omega)
      have HG : Hid (∀ w' : World, Calls Tryd.prog 23 #[.string ⟨a.toArray⟩] w' (RetPure (.bool (Dec.isDec a)) w')) := fun w' => refValid_any a w' (by omega)
      clear h9 hp
      generalize (Dec.mag (norm a)).length = K at *
      generalize Dec.isDec a = V at *
      generalize Dec.dval a = x at *
      go_enter Tryd.func11, Tryd.ntmps11
      go_wp2_with fail
      refine (first_any _ ht).mono ?_
      rintro e w1 ⟨rfl, hb1⟩
      go_wp2_with fail
      refine (short1 a ha _ HZ.out _).mono ?_
      rintro e w' ⟨rfl, rfl⟩
      have b0 : Below w.heap.size w (w1.alloc (.cells #[.string ⟨a.toArray⟩] 9)) := hb1.alloc hb1.size _
      generalize w1.alloc (.cells #[.string ⟨a.toArray⟩] 9) = v0 at *
      go_wp2_with fail
      refine (HA.out _).mono ?_
      rintro e v1 ⟨rfl, hb⟩
      have b1 := b0.trans (hb.mono b0.size)
      clear hb
      go_wp2_with fail
      refine (HB.out _).mono ?_
      rintro e v2 ⟨rfl, hb⟩
      have b2 := b1.trans (hb.mono b1.size)
      clear hb
      go_wp2_with fail
      refine (HC.out _).mono ?_
      rintro e w' ⟨rfl, rfl⟩
      go_wp2_with fail
      refine (HG.out _).mono ?_
      rintro e w' ⟨rfl, rfl⟩
      go_wp2_with fail
      refine (HD.out _).mono ?_
      rintro e w' ⟨rfl, rfl⟩
      go_wp2_with fail
      refine (HE.out _).mono ?_
      rintro e v3 ⟨rfl, hb⟩
      have b3 := b2.trans (hb.mono b2.size)
      clear hb
      go_wp2
      go_ret
      exact ⟨rfl, b3⟩
    · have HA : Hid (∀ w' : World, Calls Tryd.prog 32 #[.string ⟨a.toArray⟩] w' (RetSmall 0 false w')) := fun w' => small_no a w' (by omega) (by omega)
      have HB : Hid (∀ w' : World, Calls Tryd.prog 33 #[.string ⟨a.toArray⟩] w' (RetSmall 0 false w')) := fun w' => refSmall_no a w' (by omega) (by omega)
      have HC : Hid (∀ w' : World, Calls Tryd.prog 34 #[.string ⟨a.toArray⟩] w' (RetPure (.bool (Dec.isDec a)) w')) := fun w' => valid_any a w' (by omega)
      have HD : Hid (∀ w' : World, Calls Tryd.prog 35 #[.string ⟨a.toArray⟩] w' (RetPure (.int .i64 ((Dec.mag (norm a)).length : Nat)) w')) := fun w' => digits_any a w' (by omega)
      have HE : Hid (∀ w' : World, Calls Tryd.prog 36 #[.string ⟨a.toArray⟩] w' (RetI64 ((Dec.mag (norm a)).length : Nat) w')) := fun w' => refDigitsN_any a w' (by omega)
      have HG : Hid (∀ w' : World, Calls Tryd.prog 23 #[.string ⟨a.toArray⟩] w' (RetPure (.bool (Dec.isDec a)) w')) := fun w' => refValid_any a w' (by omega)
      clear h9 hp
      generalize (Dec.mag (norm a)).length = K at *
      generalize Dec.isDec a = V at *
      generalize Dec.dval a = x at *
      go_enter Tryd.func11, Tryd.ntmps11
      go_wp2_with fail
      refine (first_any _ ht).mono ?_
      rintro e w1 ⟨rfl, hb1⟩
      go_wp2_with fail
      refine (short1 a ha _ HZ.out _).mono ?_
      rintro e w' ⟨rfl, rfl⟩
      have b0 : Below w.heap.size w (w1.alloc (.cells #[.string ⟨a.toArray⟩] 9)) := hb1.alloc hb1.size _
      generalize w1.alloc (.cells #[.string ⟨a.toArray⟩] 9) = v0 at *
      go_wp2_with fail
      refine (HA.out _).mono ?_
      rintro e v1 ⟨rfl, hb⟩
      have b1 := b0.trans (hb.mono b0.size)
      clear hb
      go_wp2_with fail
      refine (HB.out _).mono ?_
      rintro e v2 ⟨rfl, hb⟩
      have b2 := b1.trans (hb.mono b1.size)
      clear hb
      go_wp2_with fail
      refine (HC.out _).mono ?_
      rintro e w' ⟨rfl, rfl⟩
      go_wp2_with fail
      refine (HG.out _).mono ?_
      rintro e w' ⟨rfl, rfl⟩
      go_wp2_with fail
      refine (HD.out _).mono ?_
      rintro e w' ⟨rfl, rfl⟩
      go_wp2_with fail
      refine (HE.out _).mono ?_
      rintro e v3 ⟨rfl, hb⟩
      have b3 := b2.trans (hb.mono b2.size)
      clear hb
      go_wp2
      go_ret
      exact ⟨rfl, b3⟩
end Go.Proofs.YtjefhgmnjfclaaaDoor
