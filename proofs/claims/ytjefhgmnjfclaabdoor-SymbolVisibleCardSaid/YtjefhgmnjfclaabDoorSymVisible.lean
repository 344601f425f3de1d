/- lispproverlaw4.SymbolVisible returns true. -/
import Derived.Test.YtjefhgmnjfclaabDoorSymJ
import Derived.Deep.RegionHeld3
namespace Go.Proofs.YtjefhgmnjfclaabDoor
open Go.RowKit

set_option maxHeartbeats 2000000 in
set_option maxRecDepth 100000 in
theorem visible_any (ok : Nat → Prop) (l : List Pk) (cur : List UInt8) (s : Sy) (A : Option Addr) (n c : Nat) (w : World) (ha : PksIn ok w A n c l) (hn : n ≤ 9223372036854775807) (hs : SyOk s) :
    Calls Tryd.prog 7 #[.slice A n c, str cur, symAgg s] w (RetTrue4 w) := by
  have HL := Lib.hid ha.rd.len
  rw [List.length_map] at HL
  have HF : Hid (∀ (w' : World) (z : Bool), Below w.heap.size w w' → fewP l = z → Calls Tryd.prog 17 #[.slice A n c] w' (RetBel (.bool z) w')) := fun w' z hb hz => by have := few_any ok l A n c w' (ha.rd.under hb) hn; rwa [hz] at this
  have hsn := hs.name
  cases hz : fewP l with
  | false =>
    have HZ := Lib.hid hz
    clear hz
    go_enter Tryd.func7, Tryd.ntmps7
    go_wp2_with fail
    refine (first4_any _).mono ?_
    rintro e v1 ⟨rfl, hb⟩
    have b1 := via hb
    have HB1 := Lib.hid (BlkIs.via hb)
    obtain ⟨c0, c1, f0, f1, hlt⟩ := HB1.out.two
    clear hb
    go_wp2_with fail
    refine (HF.out _ _ b1 HZ.out).mono ?_
    rintro e v2 ⟨rfl, hb⟩
    have b2 := then_ b1 hb
    have HB2 := Lib.hid (HB1.out.below hb)
    obtain ⟨x2, y2, _, _, z2⟩ := HB2.out.two
    clear hb
    go_wp2
    go_ret
    exact ⟨rfl, b2⟩
  | true =>
    have HZ := Lib.hid hz
    unfold fewP at hz
    simp only [Bool.and_eq_true, decide_eq_true_eq, List.all_eq_true] at hz
    obtain ⟨hz1, hz2⟩ := hz
    rw [HL.out] at hz1
    have HM : Hid (∀ w' : World, Below w.heap.size w w' → Calls Tryd.prog 18 #[.slice A n c] w' (RetPks ok (madeP l) w')) := fun w' hb => made_any ok l A n c w' ⟨ha.rd.under hb, ha.names⟩ hz1 hz2
    by_cases h60 : 60 < s.name.length
    · go_enter Tryd.func7, Tryd.ntmps7
      go_wp2_with fail
      refine (first4_any _).mono ?_
      rintro e v1 ⟨rfl, hb⟩
      have b1 := via hb
      have HB1 := Lib.hid (BlkIs.via hb)
      obtain ⟨c0, c1, f0, f1, hlt⟩ := HB1.out.two
      clear hb
      go_wp2_with fail
      refine (HF.out _ _ b1 HZ.out).mono ?_
      rintro e v2 ⟨rfl, hb⟩
      have b2 := then_ b1 hb
      have HB2 := Lib.hid (HB1.out.below hb)
      obtain ⟨x2, y2, _, _, z2⟩ := HB2.out.two
      clear hb
      go_wp2
      go_ret
      exact ⟨rfl, b2⟩
    · go_enter Tryd.func7, Tryd.ntmps7
      go_wp2_with fail
      refine (first4_any _).mono ?_
      rintro e v1 ⟨rfl, hb⟩
      have b1 := via hb
      have HB1 := Lib.hid (BlkIs.via hb)
      obtain ⟨c0, c1, f0, f1, hlt⟩ := HB1.out.two
      clear hb
      go_wp2_with fail
      refine (HF.out _ _ b1 HZ.out).mono ?_
      rintro e v2 ⟨rfl, hb⟩
      have b2 := then_ b1 hb
      have HB2 := Lib.hid (HB1.out.below hb)
      obtain ⟨x2, y2, _, _, z2⟩ := HB2.out.two
      clear hb
      go_wp2_with fail
      refine (HM.out _ b2).mono ?_
      rintro e v3 ⟨A3, n3, c3, rfl, h3, hb⟩
      have b3 := then_ b2 hb
      have HB3 := Lib.hid (HB2.out.below hb)
      obtain ⟨x3, y3, _, _, z3⟩ := HB3.out.two
      clear hb
      have HH1 : Hid (∀ w' : World, Below v3.heap.size v3 w' → Calls Tryd.prog 27 #[.slice A3 n3 c3, symAgg s] w' (RetBel (.bool (visP (madeP l) s.pkg s)) w')) := fun w' hb => symHome_any _ (madeP l) s A3 n3 c3 w' (h3.under hb) hsn
      have HH2 : Hid (∀ w' : World, Below v3.heap.size v3 w' → Calls Tryd.prog 28 #[.slice A3 n3 c3, symAgg s] w' (RetBel (.bool (visP (madeP l) s.pkg s)) w')) := fun w' hb => refHome_any _ (madeP l) s A3 n3 c3 w' (h3.under hb) hsn
      have HV1 : Hid (∀ w' : World, Below v3.heap.size v3 w' → Calls Tryd.prog 29 #[.slice A3 n3 c3, str cur, symAgg s] w' (RetBel (.bool (visP (madeP l) cur s)) w')) := fun w' hb => symVisible_any _ (madeP l) cur s A3 n3 c3 w' (h3.under hb) hsn
      have HV2 : Hid (∀ w' : World, Below v3.heap.size v3 w' → Calls Tryd.prog 30 #[.slice A3 n3 c3, str cur, symAgg s] w' (RetBel (.bool (visP (madeP l) cur s)) w')) := fun w' hb => refVisible_any _ (madeP l) cur s A3 n3 c3 w' (h3.under hb) hsn
      generalize visP (madeP l) s.pkg s = p1 at *
      generalize visP (madeP l) cur s = p2 at *
      have d3 : Below v3.heap.size v3 v3.drew := (Below.refl _ _).drew
      go_upto_region 6 with (fail)
      go_region_held3 (fun w' => w'.cell? ⟨w.heap.size, 0, none⟩ = some (str s.pkg) ∧ w'.cell? ⟨w.heap.size, 1, none⟩ = some (str s.name)) (go_keep)
        (first | (go_at_call 27; ((refine (HH1.out _ d3).mono ?_)); rintro e v4 ⟨rfl, hb4⟩; have d4 := then_ d3 hb4; obtain ⟨x4, y4, _, _, z4⟩ := (HB3.out.below d4).two) | (go_at_call 28; ((refine (HH2.out _ d4).mono ?_)); rintro e v5 ⟨rfl, hb5⟩; have d5 := then_ d4 hb5; obtain ⟨x5, y5, _, _, z5⟩ := (HB3.out.below d5).two) | (go_at_call 29; ((refine (HV1.out _ d5).mono ?_)); rintro e v6 ⟨rfl, hb6⟩; have d6 := then_ d5 hb6; obtain ⟨x6, y6, _, _, z6⟩ := (HB3.out.below d6).two) | (go_at_call 30; ((refine (HV2.out _ d6).mono ?_)); rintro e v7 ⟨rfl, hb7⟩; have d7 := then_ d6 hb7; obtain ⟨x7, y7, _, _, z7⟩ := (HB3.out.below d7).two))
      go_wp2
      go_ret
      exact ⟨rfl, then_ b3 d7⟩
theorem visible_card (w : World) (l : List Pk) (A : Option Addr) (n c : Nat) (h : PksIn (fun _ => True) w A n c l ∧ n ≤ maxLen) (cur : List UInt8) (_hc : cur.length ≤ 9223372036854775807) (s : Sy) (hs : SyOk s) :
    Calls Tryd.prog 7 #[.slice A n c, .string ⟨cur.toArray⟩, symAgg s] w (RetTrue4 w) := visible_any _ l cur s A n c w h.1 h.2 hs
end Go.Proofs.YtjefhgmnjfclaabDoor
