/- lispproverlaw1.NumberSums returns true. -/
import Derived.Test.YtjefhgmnjfclaaaDoorDivides
import Derived.Test.YtjefhgmnjfclaaaDoorRefH
namespace Go.Proofs.YtjefhgmnjfclaaaDoor
open Go.RowKit

set_option maxHeartbeats 2000000 in
set_option maxRecDepth 100000 in
theorem sums_any (a b : List UInt8) (w : World) (ht : Tab w) (ha : a.length ≤ 9223372036854775807) (hb : b.length ≤ 9223372036854775807) :
    Calls Tryd.prog 10 #[.string ⟨a.toArray⟩, .string ⟨b.toArray⟩] w (RetTrue w) := by
  cases hz : ([a, b].all fun l => decide (l.length ≤ 60)) with
  | false =>
    have HZ := Lib.hid hz
    clear hz
    go_enter Tryd.func10, Tryd.ntmps10
    go_wp2_with fail
    refine (first_any _ ht).mono ?_
    rintro e w1 ⟨rfl, hb1⟩
    go_wp2_with fail
    refine (short2 a b ha hb _ HZ.out _).mono ?_
    rintro e w' ⟨rfl, rfl⟩
    go_wp2
    go_ret
    exact ⟨rfl, hb1.alloc hb1.size _⟩
  | true =>
    have HZ := Lib.hid hz
    simp only [List.all_cons, List.all_nil, Bool.and_true, Bool.and_eq_true, decide_eq_true_eq] at hz
    obtain ⟨la, lb⟩ := hz
    go_enter Tryd.func10, Tryd.ntmps10
    go_wp2_with fail
    refine (first_any _ ht).mono ?_
    rintro e w1 ⟨rfl, hb1⟩
    go_wp2_with fail
    refine (short2 a b ha hb _ HZ.out _).mono ?_
    rintro e w' ⟨rfl, rfl⟩
    have b0 : Below w.heap.size w (w1.alloc (.cells #[.string ⟨a.toArray⟩, .string ⟨b.toArray⟩] 9)) := hb1.alloc hb1.size _
    generalize w1.alloc (.cells #[.string ⟨a.toArray⟩, .string ⟨b.toArray⟩] 9) = v0 at *
    go_wp2_with fail
    refine (compareN_any a b v0 (by omega) (by omega)).mono ?_
    rintro e v1 ⟨rfl, hb⟩
    have b1 := b0.trans (hb.mono b0.size)
    clear hb
    go_wp2_with fail
    refine (refCompare_any a b v1 (by omega) (by omega)).mono ?_
    rintro e v2 ⟨rfl, hb⟩
    have b2 := b1.trans (hb.mono b1.size)
    clear hb
    go_wp2_with fail
    refine (negate_any a v2 (by omega)).mono ?_
    rintro e w' ⟨rfl, rfl⟩
    go_wp2_with fail
    refine (refNegate_any a v2 (by omega)).mono ?_
    rintro e v3 ⟨rfl, hb⟩
    have b3 := b2.trans (hb.mono b2.size)
    clear hb
    go_wp2_with fail
    refine (addN_any a b v3 (by omega) (by omega) (ht.below b3)).mono ?_
    rintro e v4 ⟨rfl, hb⟩
    have b4 := b3.trans (hb.mono b3.size)
    clear hb
    go_wp2_with fail
    refine (refAdd_any a b v4 (by omega) (by omega)).mono ?_
    rintro e v5 ⟨rfl, hb⟩
    have b5 := b4.trans (hb.mono b4.size)
    clear hb
    go_wp2_with fail
    refine (subN_any a b v5 (by omega) (by omega) (ht.below b5)).mono ?_
    rintro e v6 ⟨rfl, hb⟩
    have b6 := b5.trans (hb.mono b5.size)
    clear hb
    go_wp2_with fail
    refine (refSub_any a b v6 (by omega) (by omega)).mono ?_
    rintro e v7 ⟨rfl, hb⟩
    have b7 := b6.trans (hb.mono b6.size)
    clear hb
    go_wp2
    go_ret
    exact ⟨rfl, b7⟩
end Go.Proofs.YtjefhgmnjfclaaaDoor
