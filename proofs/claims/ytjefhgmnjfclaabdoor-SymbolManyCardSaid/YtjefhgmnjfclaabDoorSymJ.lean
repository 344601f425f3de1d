/- lispproverlaw4.first returns true. -/
import Derived.Test.YtjefhgmnjfclaabDoorSymI
namespace Go.Proofs.YtjefhgmnjfclaabDoor
open Go.RowKit

abbrev carSy : Sy := ⟨[108, 105, 115, 112], [99, 97, 114]⟩
abbrev pkA : Pk := ⟨[97], [carSy]⟩
theorem def_first : defineP [lispPk] pkA = ([lispPk, pkA], 0) := rfl
theorem int_car : internP [lispPk, pkA] [97] [99, 97, 114] = (carSy, 0) := rfl
theorem int_cdr : internP [lispPk, pkA] [97] [99, 100, 114] = (⟨[97], [99, 100, 114]⟩, 0) := rfl
theorem vis_car : visP [lispPk, pkA] [108, 105, 115, 112] carSy = true := rfl
theorem vis_acar : visP [lispPk, pkA] [97] ⟨[97], [99, 97, 114]⟩ = false := rfl
theorem one_sym {W : World} {g : Nat} (h : BlkIs W g 23 #[str carSy.pkg, str carSy.name]) : Rd (fun _ => True) W (.slice (some ⟨g, 0, none⟩) 1 1) (.row (pkA.imps.map Sy.enc)) := by
  obtain ⟨h0, h1, _, _, hlt⟩ := h.two
  refine Rd.mk (k := 2) rfl (Nat.le_refl _) hlt trivial (fun i hi => ?_) (fun i j hi hj => ?_)
  · obtain rfl : i = 0 := by simpa [pkA] using hi
    rfl
  · obtain rfl : i = 0 := by simpa [pkA] using hi
    rcases j with _ | _ | j
    · exact ⟨_, h0, .val _⟩
    · exact ⟨_, h1, .val _⟩
    · exact absurd hj (by simp [Sy.enc])
def RetTrue4 (w : World) (e : Ending) (w' : World) : Prop := e = .returned (.bool true) ∧ Below w.heap.size w w'
theorem def_call {A : Option Addr} {n c g : Nat} {W : World} (h : PkOk (fun _ => True) W A n c [lispPk]) (hg : BlkIs W g 23 #[str carSy.pkg, str carSy.name]) :
    Calls Tryd.prog 19 #[.slice A n c, .agg #[str [97], .slice (some ⟨g, 0, none⟩) 1 1]] W (RetPksE (fun _ => True) ([lispPk, pkA], 0) W) := by
  have hn := h.len
  have := symDefine_any (fun _ => True) [lispPk] pkA A (some ⟨g, 0, none⟩) n c 1 1 W h (one_sym hg) (by omega) (by rw [← hn]; decide) (Nat.le_of_ble_eq_true rfl) (fun s hs => by obtain rfl := List.mem_singleton.1 hs; exact ⟨Nat.le_of_ble_eq_true rfl, Nat.le_of_ble_eq_true rfl⟩)
  rwa [def_first] at this

set_option maxHeartbeats 2000000 in
set_option maxRecDepth 100000 in
theorem first4_any (w : World) : Calls Tryd.prog 9 #[] w (RetTrue4 w) := by
  go_enter Tryd.func9, Tryd.ntmps9
  go_upto_region 2 with (fail)
  have HB := Lib.hid (BlkIs.new w 23 #[str carSy.pkg, str carSy.name])
  have hb := box w (.cells #[str carSy.pkg, str carSy.name] 23)
  generalize hW0 : w.alloc (.cells #[.string ⟨#[108, 105, 115, 112]⟩, .string ⟨#[99, 97, 114]⟩] 23) = W0
  rw [show w.alloc (.cells #[str carSy.pkg, str carSy.name] 23) = W0 from hW0] at HB hb
  have HW0 : Hid (W0.heap.size = w.heap.size + 1) := by rw [← hW0]; exact World.size_alloc _ _
  clear hW0
  obtain ⟨c0, c1, _, _, hlt⟩ := HB.out.two
  have c0' : W0.cell? ⟨w.heap.size, 0, none⟩ = some (.string ⟨#[108, 105, 115, 112]⟩) := c0
  have c1' : W0.cell? ⟨w.heap.size, 1, none⟩ = some (.string ⟨#[99, 97, 114]⟩) := c1
  clear c0 c1
  have hd1 : Below W0.heap.size W0 W0.drew := (Below.refl _ _).drew
  have hd2 : Below W0.heap.size W0 (W0.alloc (.cells #[str carSy.pkg, str carSy.name] 23)).drew := (box _ _).drew
  have HN := Lib.hid ((BlkIs.new W0 23 #[str carSy.pkg, str carSy.name]).drew)
  have HI1 := Lib.hid (symInitial_any W0.drew)
  have HI2 := Lib.hid (symInitial_any (W0.alloc (.cells #[str carSy.pkg, str carSy.name] 23)).drew)
  go_cut [1, 2, 3] (fun s1 s2 s3 wx => s1 = .pointer (some ⟨w.heap.size, 0, none⟩) ∧ s3 = .int .i64 0 ∧ ∃ (A : Option Addr) (n c : Nat), s2 = .slice A n c ∧ PkOk (fun _ => True) wx A n c [lispPk, pkA] ∧ Hid (BlkIs wx w.heap.size 23 #[str carSy.pkg, str carSy.name]) ∧ Below w.heap.size w wx)
  case first =>
    go_region_law
      (first | (go_simp; go_at_call 15; ((with_reducible refine HI1.out.mono ?_)); rintro e w1 ⟨A1, n1, c1, rfl, h1, hb1⟩; have hb01 := then_ hd1 hb1; obtain ⟨k0, k1, _, _, k2⟩ := (HB.out.below hb01).two; have k0' : w1.cell? ⟨w.heap.size, 0, none⟩ = some (.string ⟨#[108, 105, 115, 112]⟩) := k0; have k1' : w1.cell? ⟨w.heap.size, 1, none⟩ = some (.string ⟨#[99, 97, 114]⟩) := k1; have HD := Lib.hid (def_call ((h1.mono (ok' := fun _ => True) fun _ _ _ => trivial).under (box w1 (.cells #[str carSy.pkg, str carSy.name] 23))) (BlkIs.new w1 23 #[str carSy.pkg, str carSy.name])); have hbD := box2 hb01 (.cells #[str carSy.pkg, str carSy.name] 23); have HBD := Lib.hid ((HB.out.below hb01).alloc (.cells #[str carSy.pkg, str carSy.name] 23)); clear k0 k1) | (go_simp; go_at_call 15; ((with_reducible refine HI2.out.mono ?_)); rintro e w1 ⟨A1, n1, c1, rfl, h1, hb1⟩; have hb01 := then_ hd2 hb1; have HD := Lib.hid (def_call (h1.mono (ok' := fun _ => True) fun _ _ _ => trivial) (HN.out.below hb1)); have hbD := hb01; have HBD := Lib.hid (HB.out.below hb01)) | (go_simp; go_at_call 19; refine HD.out.mono ?_; rintro e w5 ⟨A5, n5, c5, rfl, h5, hb5⟩))
    all_goals (go_wp2_with fail; go_meet)
    all_goals exact ⟨rfl, rfl, A5, n5, c5, rfl, h5.mono fun _ _ _ => trivial, Lib.hid (HBD.out.below hb5), then_ hb (then_ hbD hb5)⟩
  case rest =>
    obtain ⟨rfl, rfl, A, n, c, rfl, hp, HX, hbx⟩ := hcut
    clear HB HN HI1 HI2 hd1 hd2 c0' c1' hlt HW0 hb
    have HI1 : Hid (∀ W : World, Below wc.heap.size wc W → Calls Tryd.prog 25 #[.slice A n c, str [97], str [99, 97, 114]] W (RetSym (carSy, 0) W)) := fun W h => by
      have := symIntern_any (fun _ => True) [lispPk, pkA] [97] [99, 97, 114] A n c W (hp.rd.under h) hp.n hp.imps (Nat.le_of_ble_eq_true rfl)
      rwa [int_car] at this
    have HI2 : Hid (∀ W : World, Below wc.heap.size wc W → Calls Tryd.prog 25 #[.slice A n c, str [97], str [99, 100, 114]] W (RetSym (⟨[97], [99, 100, 114]⟩, 0) W)) := fun W h => by
      have := symIntern_any (fun _ => True) [lispPk, pkA] [97] [99, 100, 114] A n c W (hp.rd.under h) hp.n hp.imps (Nat.le_of_ble_eq_true rfl)
      rwa [int_cdr] at this
    have HH1 : Hid (∀ W : World, Below wc.heap.size wc W → Calls Tryd.prog 27 #[.slice A n c, symAgg carSy] W (RetBel (.bool true) W)) := fun W h => by
      have := symHome_any (fun _ => True) [lispPk, pkA] carSy A n c W (hp.under h) (Nat.le_of_ble_eq_true rfl)
      rwa [vis_car] at this
    have HH2 : Hid (∀ W : World, Below wc.heap.size wc W → Calls Tryd.prog 27 #[.slice A n c, symAgg ⟨[97], [99, 97, 114]⟩] W (RetBel (.bool false) W)) := fun W h => by
      have := symHome_any (fun _ => True) [lispPk, pkA] ⟨[97], [99, 97, 114]⟩ A n c W (hp.under h) (Nat.le_of_ble_eq_true rfl)
      rwa [vis_acar] at this
    clear hp
    go_wp2_with fail
    refine (HI1.out _ (Below.refl _ _)).mono ?_
    rintro e w2 ⟨rfl, hb2⟩
    go_wp2_with fail
    refine (HI2.out _ (box2 hb2 _)).mono ?_
    rintro e w3 ⟨rfl, hb3⟩
    have hb03 := via2 hb2 hb3
    obtain ⟨s0, s1, _, _, hs⟩ := (BlkIs.via hb3).two
    obtain ⟨x0, x1, _, _, hx⟩ := (HX.out.below hb03).two
    have HX3 := Lib.hid (HX.out.below hb03)
    go_wp2_with fail
    refine (HH1.out _ (box2 hb03 _)).mono ?_
    rintro e w4 ⟨rfl, hb4⟩
    have hb04 := via2 hb03 hb4
    go_wp2_with fail
    refine (HH2.out _ hb04).mono ?_
    rintro e w5 ⟨rfl, hb5⟩
    go_wp2
    go_ret
    exact ⟨rfl, then_ hbx (then_ hb04 hb5)⟩
end Go.Proofs.YtjefhgmnjfclaabDoor
