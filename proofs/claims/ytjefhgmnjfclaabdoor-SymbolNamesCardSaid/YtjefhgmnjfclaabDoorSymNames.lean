/- lispproverlaw4.SymbolNames returns true. -/
import Derived.Test.YtjefhgmnjfclaabDoorSymJ
import Derived.Deep.RegionHeld3
namespace Go.Proofs.YtjefhgmnjfclaabDoor
open Go.RowKit

set_option maxHeartbeats 2000000 in
set_option maxRecDepth 100000 in
theorem names_any (l : List UInt8) (s : Sy) (w : World) (hl : l.length ≤ 9223372036854775807) (hs : SyOk s) :
    Calls Tryd.prog 3 #[str l, symAgg s] w (RetTrue4 w) := by
  have hp := hs.pkg
  have hn := hs.name
  by_cases h1 : 60 < l.length
  · go_enter Tryd.func3, Tryd.ntmps3
    go_wp2_with fail
    refine (first4_any _).mono ?_
    rintro e v1 ⟨rfl, hb⟩
    have b1 := via hb
    obtain ⟨c0, c1, f0, f1, hlt⟩ := (BlkIs.via hb).two
    have HB := Lib.hid (BlkIs.via hb)
    clear hb
    go_wp2
    go_ret
    exact ⟨rfl, b1⟩
  by_cases h2 : 60 < s.pkg.length
  · go_enter Tryd.func3, Tryd.ntmps3
    go_wp2_with fail
    refine (first4_any _).mono ?_
    rintro e v1 ⟨rfl, hb⟩
    have b1 := via hb
    obtain ⟨c0, c1, f0, f1, hlt⟩ := (BlkIs.via hb).two
    have HB := Lib.hid (BlkIs.via hb)
    clear hb
    go_wp2
    go_ret
    exact ⟨rfl, b1⟩
  by_cases h3 : 60 < s.name.length
  · go_enter Tryd.func3, Tryd.ntmps3
    go_wp2_with fail
    refine (first4_any _).mono ?_
    rintro e v1 ⟨rfl, hb⟩
    have b1 := via hb
    obtain ⟨c0, c1, f0, f1, hlt⟩ := (BlkIs.via hb).two
    have HB := Lib.hid (BlkIs.via hb)
    clear hb
    go_wp2
    go_ret
    exact ⟨rfl, b1⟩
  have HA : Hid (∀ w' : World, Calls Tryd.prog 10 #[str l] w' (RetBel (.bool (pkgOk l)) w')) := fun w' => symValidPackage_any l w' hl
  have HB' : Hid (∀ w' : World, Calls Tryd.prog 11 #[str l] w' (RetPureV (.bool (pkgOk l)) w')) := fun w' => ref4ValidPackage_any l w' hl
  have HC : Hid (∀ w' : World, Calls Tryd.prog 12 #[symAgg s] w' (RetBel (.bool (symOk s)) w')) := fun w' => symValid_any s w' hp hn
  have HD : Hid (∀ w' : World, Calls Tryd.prog 13 #[symAgg s] w' (RetBel (.bool (symOk s)) w')) := fun w' => ref4Valid_any s w' hp hn
  generalize pkgOk l = pb at *
  generalize symOk s = sb at *
  go_enter Tryd.func3, Tryd.ntmps3
  go_wp2_with fail
  refine (first4_any _).mono ?_
  rintro e v1 ⟨rfl, hb⟩
  have b1 := via hb
  obtain ⟨c0, c1, f0, f1, hlt⟩ := (BlkIs.via hb).two
  have HB := Lib.hid (BlkIs.via hb)
  clear hb
  go_upto_region 5 with (fail)
  have b1d := b1.drew
  go_region_held3 (fun w' => w'.cell? ⟨w.heap.size, 0, none⟩ = some (str s.pkg) ∧ w'.cell? ⟨w.heap.size, 1, none⟩ = some (str s.name)) (go_keep)
    (first | (go_at_call 10; ((refine (HA.out _).mono ?_)); rintro e v2 ⟨rfl, hb2⟩; have HB2 := Lib.hid (HB.out.drew.below hb2); have b2 := then_ b1d hb2; obtain ⟨x2, y2, _, _, z2⟩ := HB2.out.two) | (go_at_call 11; ((refine (HB'.out _).mono ?_)); rintro e w' ⟨rfl, rfl⟩) | (go_at_call 12; ((refine (HC.out _).mono ?_)); rintro e v3 ⟨rfl, hb3⟩; have HB3 := Lib.hid (HB2.out.below hb3); have b3 := then_ b2 hb3; obtain ⟨x3, y3, _, _, z3⟩ := HB3.out.two) | (go_at_call 13; ((refine (HD.out _).mono ?_)); rintro e v4 ⟨rfl, hb4⟩; have HB4 := Lib.hid (HB3.out.below hb4); have b4 := then_ b3 hb4; obtain ⟨x4, y4, _, _, z4⟩ := HB4.out.two) | (go_at_call 15; ((refine (symInitial_any _).mono ?_)); rintro e v5 ⟨A5, n5, c5, rfl, h5, hb5⟩; have HB5 := Lib.hid (HB4.out.below hb5); have b5 := then_ b4 hb5; obtain ⟨x5, y5, _, _, z5⟩ := HB5.out.two) | (go_at_call 16; ((refine (refInitial_any _).mono ?_)); rintro e v6 ⟨A6, n6, c6, rfl, h6, hb6⟩; have HB6 := Lib.hid (HB5.out.below hb6); have b6 := then_ b5 hb6; obtain ⟨x6, y6, _, _, z6⟩ := HB6.out.two; have h5b := h5.under hb6) | (go_at_call 14; ((refine (same_packages _ _ [lispPk] A5 A6 n5 n6 c5 c6 _ h5b h6).mono ?_)); rintro e v7 ⟨rfl, hb7⟩; have HB7 := Lib.hid (HB6.out.below hb7); have b7 := then_ b6 hb7; obtain ⟨x7, y7, _, _, z7⟩ := HB7.out.two))
  go_wp2
  go_ret
  exact ⟨rfl, b7⟩
theorem names_card (w : World) (l : List UInt8) (hl : l.length ≤ 9223372036854775807) (s : Sy) (hs : SyOk s) :
    Calls Tryd.prog 3 #[.string ⟨l.toArray⟩, symAgg s] w (RetTrue4 w) := names_any l s w hl hs
end Go.Proofs.YtjefhgmnjfclaabDoor
