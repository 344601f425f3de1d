/- lispproverlaw2.ObjectCompares and ObjectOrder return true. -/
import Derived.Test.YtcdgckbdplkdbaaGreatDoorAsgO
import Derived.Test.YtcdgckbdplkdbaaGreatDoorRit
import Derived.Deep.RegionHeld3
import Derived.Deep.DeepCutAuto
namespace Go.Proofs.YtcdgckbdplkdbaaGreatDoor
open Go.RowKit

theorem oLessT {k : Nat} (hk : k ≤ 10000) (h1 : 1 ≤ k) (a b : Tr) (ha : a.Ok k) (hb : b.Ok k) (A A' : Option Addr) (n n' c c' : Nat) (hn : a.ob.pair.length = n) (hn' : b.ob.pair.length = n') (w : World) (ht : Tab w) :
    Calls Tryz.prog 44 #[objV a.ob (.slice A n c), objV b.ob (.slice A' n' c')] w (RetBel (.bool (decide (a.val < b.val))) w) := oLess_any a.ob b.ob a.val b.val a.val_ob b.val_ob (ha.val h1) (hb.val h1) hk hk A A' n n' c c' hn hn' w ht
theorem rLessT {k : Nat} (hk : k ≤ 10000) (h1 : 1 ≤ k) (a b : Tr) (ha : a.Ok k) (hb : b.Ok k) (A A' : Option Addr) (n n' c c' : Nat) (hn : a.ob.pair.length = n) (hn' : b.ob.pair.length = n') (w : World) (ht : Tab w) :
    Calls Tryz.prog 45 #[objV a.ob (.slice A n c), objV b.ob (.slice A' n' c')] w (RetBel (.bool (decide (a.val < b.val))) w) := rLess_any a.ob b.ob a.val b.val a.val_ob b.val_ob (ha.val h1) (hb.val h1) hk hk A A' n n' c c' hn hn' w ht
theorem callMk (args : Array Value) (w : World) : (callFunc 17 args).run Tryz.prog w = .ok (.enter 17 args) w := by go_simp
set_option maxHeartbeats 4000000 in
set_option maxRecDepth 100000 in
theorem compares_any (w : World) (ht : Tab w) (r : Raw) (hw0 : r.Wf) (A0 : Option Addr) (n0 c0 : Nat) (hP0 : Rd (fun _ => True) w (.slice A0 n0 c0) (.row (r.l.map Raw.enc))) (s : Raw) (hw1 : s.Wf) (A1 : Option Addr) (n1 c1 : Nat) (hP1 : Rd (fun _ => True) w (.slice A1 n1 c1) (.row (s.l.map Raw.enc))) :
    Calls Tryz.prog 7 #[(rawV r (.slice A0 n0 c0)), (rawV s (.slice A1 n1 c1))] w (RetTrue2 w) := by
  go_enter Tryz.func7, Tryz.ntmps7
  go_wp2_with fail
  have X0 := Lib.hid ((BlkIs.new w 33 (rawCells r (.slice A0 n0 c0))).alloc (.cells (rawCells s (.slice A1 n1 c1)) 33))
  have Y0 := Lib.hid (BlkIs.new1 w (.cells (rawCells r (.slice A0 n0 c0)) 33) 33 (rawCells s (.slice A1 n1 c1)))
  have b0 := (box2 (box w (.cells (rawCells r (.slice A0 n0 c0)) 33)) (.cells (rawCells s (.slice A1 n1 c1)) 33))
  generalize ((w.alloc (.cells (rawCells r (.slice A0 n0 c0)) 33)).alloc (.cells (rawCells s (.slice A1 n1 c1)) 33)) = w0 at *
  refine (first2_any _ (ht.below b0)).mono ?_
  rintro e w1 ⟨rfl, hb1⟩
  have b1 := then_ b0 hb1
  have X1 := Lib.hid (X0.out.below hb1)
  have Y1 := Lib.hid (Y0.out.below hb1)
  obtain ⟨x0, x1, x2, x3, xl⟩ := X1.out.four
  go_wp2_with fail
  refine (few_any (fun _ => True) r hw0 A0 n0 c0 40 _ (hP0.under b1) (by omega)).mono ?_
  rintro e w2 ⟨bb, rfl, hbb, hb2⟩
  have b2 := then_ b1 hb2
  clear x0 x1 x2 x3 xl
  cases bb with
  | false =>
    clear hbb
    go_wp2
    go_ret
    exact ⟨rfl, b2⟩
  | true =>
    have HF0 := Lib.hid (hbb rfl)
    clear hbb
    have X2 := Lib.hid (X1.out.below hb2)
    have Y2 := Lib.hid (Y1.out.below hb2)
    obtain ⟨x0, x1, x2, x3, xl⟩ := Y2.out.four
    go_wp2_with fail
    refine (few_any (fun _ => True) s hw1 A1 n1 c1 40 _ (hP1.under b2) (by omega)).mono ?_
    rintro e w3 ⟨bb, rfl, hbb, hb3⟩
    have b3 := then_ b2 hb3
    clear x0 x1 x2 x3 xl
    cases bb with
    | false =>
      clear hbb
      go_wp2
      go_ret
      exact ⟨rfl, b3⟩
    | true =>
      have HF1 := Lib.hid (hbb rfl)
      clear hbb
      have X3 := Lib.hid (X2.out.below hb3)
      have Y3 := Lib.hid (Y2.out.below hb3)
      go_upto_region 5 with (fail)
      go_cut [5, 6] (fun q0 q1 wx => ∃ (g0 : Nat) (P0 : Option Addr) (m0 d0 : Nat) (g1 : Nat) (P1 : Option Addr) (m1 d1 : Nat), q0 = ptr g0 ∧ q1 = ptr g1 ∧ Hid (BlkIs wx g0 26 (obCells (mkT r).ob (.slice P0 m0 d0))) ∧ Hid (BlkIs wx g1 26 (obCells (mkT s).ob (.slice P1 m1 d1))) ∧ Rd (fun _ => True) wx (.slice P0 m0 d0) (.row ((mkT r).ob.pair.map Ob.enc)) ∧ Rd (fun _ => True) wx (.slice P1 m1 d1) (.row ((mkT s).ob.pair.map Ob.enc)) ∧ Below w.heap.size w wx)
      case first =>
        have bd := b3.drew
        refine wp_region_any (by kernel_rfl) ?_
        refine asg_objs 2 17 5 33 (fun j => 2 + j) (fun _ => 17) (fun j => if j = 0 then (rawV r (.slice A0 n0 c0)) else (rawV s (.slice A1 n1 c1))) (fun j => if j = 0 then (mkT r).ob else (mkT s).ob) (by kernel_rfl) (by omega) (Nat.le_of_ble_eq_true rfl) (fun j hj => by omega) ?_ (fun _ _ => callMk) ?_ ?_
        · intro j hj o ρ w' ho hρ hb'
          have hc : j = 0 ∨ j = 1 := by omega
          rcases hc with rfl | rfl
          · exact run_load_raw ho hρ ((X3.out.drew).below hb')
          · exact run_load_raw ho hρ ((Y3.out.drew).below hb')
        · intro j hj w' hb'
          have hc : j = 0 ∨ j = 1 := by omega
          rcases hc with rfl | rfl
          · exact mkO_any (fun _ => True) r.size r (Nat.le_refl _) HF0.out.1 hw0 A0 n0 c0 w' (ht.below (then_ bd hb')) ((hP0.under bd).under hb')
          · exact mkO_any (fun _ => True) s.size s (Nat.le_refl _) HF1.out.1 hw1 A1 n1 c1 w' (ht.below (then_ bd hb')) ((hP1.under bd).under hb')
        · intro u w' hb' hall hne
          obtain ⟨g0, P0, m0, d0, e0, _, _, B0, R0⟩ := hall 0 (by omega)
          obtain ⟨g1, P1, m1, d1, e1, _, _, B1, R1⟩ := hall 1 (by omega)
          replace e0 : u 5 = ptr g0 := e0
          replace e1 : u 6 = ptr g1 := e1
          simp only [asgD, List.range, List.range.loop, Nat.reduceAdd, List.map_cons, List.map_nil, List.cons_append, List.nil_append, List.foldl_cons, List.foldl_nil, e0, e1]
          clear hall hne
          go_wp2_with fail
          go_meet
          exact ⟨g0, P0, m0, d0, g1, P1, m1, d1, rfl, rfl, Lib.hid B0, Lib.hid B1, R0.mono fun _ _ _ => trivial, R1.mono fun _ _ _ => trivial, then_ bd hb'⟩
      case rest =>
        obtain ⟨g0, P0, m0, d0, g1, P1, m1, d1, rfl, rfl, B0, B1, R0, R1, bw⟩ := hcut
        have HC1 : Hid (∀ w' : World, Below wc.heap.size wc w' → Calls Tryz.prog 32 #[objV (mkT r).ob (.slice P0 m0 d0), objV (mkT s).ob (.slice P1 m1 d1)] w' (RetBel (.int .i64 (Tr.cmp (mkT r) (mkT s))) w')) := fun w' hb' => oCompare_any (fun _ => True) (fun _ => True) (k := 4) (by omega) _ (mkT r) (mkT s) (Nat.le_refl _) (mkT_ok r HF0.out.1) (mkT_ok s HF1.out.1) P0 P1 m0 m1 d0 d1 w' (ht.below (then_ bw hb')) (R0.under hb') (R1.under hb')
        have HC2 : Hid (∀ w' : World, Below wc.heap.size wc w' → Calls Tryz.prog 43 #[objV (mkT r).ob (.slice P0 m0 d0), objV (mkT s).ob (.slice P1 m1 d1)] w' (RetBel (.int .i64 (Tr.cmp (mkT r) (mkT s))) w')) := fun w' hb' => rCompare_any (fun _ => True) (fun _ => True) (k := 4) (by omega) (mkT r) (mkT s) (mkT_ok r HF0.out.1) (mkT_ok s HF1.out.1) P0 P1 m0 m1 d0 d1 w' (R0.under hb') (R1.under hb')
        have HL1 : Hid (∀ w' : World, Below wc.heap.size wc w' → Calls Tryz.prog 44 #[objV (mkT r).ob (.slice P0 m0 d0), objV (mkT s).ob (.slice P1 m1 d1)] w' (RetBel (.bool (decide ((mkT r).val < (mkT s).val))) w')) := fun w' hb' => oLessT (k := 4) (by omega) (by omega) (mkT r) (mkT s) (mkT_ok r HF0.out.1) (mkT_ok s HF1.out.1) P0 P1 m0 m1 d0 d1 (by have := R0.len; rw [List.length_map] at this; exact this) (by have := R1.len; rw [List.length_map] at this; exact this) w' (ht.below (then_ bw hb'))
        have HL2 : Hid (∀ w' : World, Below wc.heap.size wc w' → Calls Tryz.prog 45 #[objV (mkT r).ob (.slice P0 m0 d0), objV (mkT s).ob (.slice P1 m1 d1)] w' (RetBel (.bool (decide ((mkT r).val < (mkT s).val))) w')) := fun w' hb' => rLessT (k := 4) (by omega) (by omega) (mkT r) (mkT s) (mkT_ok r HF0.out.1) (mkT_ok s HF1.out.1) P0 P1 m0 m1 d0 d1 (by have := R0.len; rw [List.length_map] at this; exact this) (by have := R1.len; rw [List.length_map] at this; exact this) w' (ht.below (then_ bw hb'))
        have b0' : Below wc.heap.size wc wc.drew := (Below.refl _ _).drew
        clear R0 R1
        generalize Tr.cmp (mkT r) (mkT s) = z at *
        generalize decide ((mkT r).val < (mkT s).val) = bl at *
        generalize (mkT r).ob = oa at *
        generalize (mkT s).ob = ob at *
        clear b0 b1 b2 b3 X0 X1 X2 X3 Y0 Y1 Y2 Y3
        have b0 := b0'
        clear b0'
        obtain ⟨xs0, xs1, xs2, xs3, xs4, xs5, xs6, xsl⟩ := B0.out.seven
        obtain ⟨ys0, ys1, ys2, ys3, ys4, ys5, ys6, ysl⟩ := B1.out.seven
        have X0 := Lib.hid B0.out.drew
        have Y0 := Lib.hid B1.out.drew
        go_upto_region 6 with (fail)
        go_region_held3 (fun w' => w'.cell? ⟨g0, 0, none⟩ = some (.int .i64 oa.kind) ∧ w'.cell? ⟨g0, 1, none⟩ = some (str oa.num) ∧ w'.cell? ⟨g0, 2, none⟩ = some (str oa.den) ∧ w'.cell? ⟨g0, 3, none⟩ = some (str oa.sp) ∧ w'.cell? ⟨g0, 4, none⟩ = some (str oa.sn) ∧ w'.cell? ⟨g0, 5, none⟩ = some (str oa.text) ∧ w'.cell? ⟨g0, 6, none⟩ = some (.slice P0 m0 d0) ∧ w'.cell? ⟨g1, 0, none⟩ = some (.int .i64 ob.kind) ∧ w'.cell? ⟨g1, 1, none⟩ = some (str ob.num) ∧ w'.cell? ⟨g1, 2, none⟩ = some (str ob.den) ∧ w'.cell? ⟨g1, 3, none⟩ = some (str ob.sp) ∧ w'.cell? ⟨g1, 4, none⟩ = some (str ob.sn) ∧ w'.cell? ⟨g1, 5, none⟩ = some (str ob.text) ∧ w'.cell? ⟨g1, 6, none⟩ = some (.slice P1 m1 d1)) (go_keep)
          (first | (go_at_call 32; ((with_reducible refine (HC1.out _ b0).mono ?_)); rintro e v1 ⟨rfl, hb1⟩; have b1 := then_ b0 hb1; have X1 := Lib.hid (X0.out.below hb1); have Y1 := Lib.hid (Y0.out.below hb1); obtain ⟨xc1_0, xc1_1, xc1_2, xc1_3, xc1_4, xc1_5, xc1_6, xc1_l⟩ := X1.out.seven; obtain ⟨yc1_0, yc1_1, yc1_2, yc1_3, yc1_4, yc1_5, yc1_6, yc1_l⟩ := Y1.out.seven) | (go_at_call 43; ((with_reducible refine (HC2.out _ b1).mono ?_)); rintro e v2 ⟨rfl, hb2⟩; have b2 := then_ b1 hb2; have X2 := Lib.hid (X1.out.below hb2); have Y2 := Lib.hid (Y1.out.below hb2); obtain ⟨xc2_0, xc2_1, xc2_2, xc2_3, xc2_4, xc2_5, xc2_6, xc2_l⟩ := X2.out.seven; obtain ⟨yc2_0, yc2_1, yc2_2, yc2_3, yc2_4, yc2_5, yc2_6, yc2_l⟩ := Y2.out.seven) | (go_at_call 44; ((with_reducible refine (HL1.out _ b2).mono ?_)); rintro e v3 ⟨rfl, hb3⟩; have b3 := then_ b2 hb3; have X3 := Lib.hid (X2.out.below hb3); have Y3 := Lib.hid (Y2.out.below hb3); obtain ⟨xc3_0, xc3_1, xc3_2, xc3_3, xc3_4, xc3_5, xc3_6, xc3_l⟩ := X3.out.seven; obtain ⟨yc3_0, yc3_1, yc3_2, yc3_3, yc3_4, yc3_5, yc3_6, yc3_l⟩ := Y3.out.seven) | (go_at_call 45; ((with_reducible refine (HL2.out _ b3).mono ?_)); rintro e v4 ⟨rfl, hb4⟩; have b4 := then_ b3 hb4; have X4 := Lib.hid (X3.out.below hb4); have Y4 := Lib.hid (Y3.out.below hb4); obtain ⟨xc4_0, xc4_1, xc4_2, xc4_3, xc4_4, xc4_5, xc4_6, xc4_l⟩ := X4.out.seven; obtain ⟨yc4_0, yc4_1, yc4_2, yc4_3, yc4_4, yc4_5, yc4_6, yc4_l⟩ := Y4.out.seven))
        go_wp2
        go_ret
        exact ⟨rfl, then_ bw b4⟩
set_option maxHeartbeats 4000000 in
set_option maxRecDepth 100000 in
theorem order_any (w : World) (ht : Tab w) (r : Raw) (hw0 : r.Wf) (A0 : Option Addr) (n0 c0 : Nat) (hP0 : Rd (fun _ => True) w (.slice A0 n0 c0) (.row (r.l.map Raw.enc))) (s : Raw) (hw1 : s.Wf) (A1 : Option Addr) (n1 c1 : Nat) (hP1 : Rd (fun _ => True) w (.slice A1 n1 c1) (.row (s.l.map Raw.enc))) (t : Raw) (hw2 : t.Wf) (A2 : Option Addr) (n2 c2 : Nat) (hP2 : Rd (fun _ => True) w (.slice A2 n2 c2) (.row (t.l.map Raw.enc))) :
    Calls Tryz.prog 5 #[(rawV r (.slice A0 n0 c0)), (rawV s (.slice A1 n1 c1)), (rawV t (.slice A2 n2 c2))] w (RetTrue2 w) := by
  go_enter Tryz.func5, Tryz.ntmps5
  go_wp2_with fail
  have X0 := Lib.hid (((BlkIs.new w 33 (rawCells r (.slice A0 n0 c0))).alloc (.cells (rawCells s (.slice A1 n1 c1)) 33)).alloc (.cells (rawCells t (.slice A2 n2 c2)) 33))
  have Y0 := Lib.hid ((BlkIs.new1 w (.cells (rawCells r (.slice A0 n0 c0)) 33) 33 (rawCells s (.slice A1 n1 c1))).alloc (.cells (rawCells t (.slice A2 n2 c2)) 33))
  have V0 := Lib.hid (BlkIs.new2 w (.cells (rawCells r (.slice A0 n0 c0)) 33) (.cells (rawCells s (.slice A1 n1 c1)) 33) 33 (rawCells t (.slice A2 n2 c2)))
  have b0 := (box2 (box2 (box w (.cells (rawCells r (.slice A0 n0 c0)) 33)) (.cells (rawCells s (.slice A1 n1 c1)) 33)) (.cells (rawCells t (.slice A2 n2 c2)) 33))
  generalize (((w.alloc (.cells (rawCells r (.slice A0 n0 c0)) 33)).alloc (.cells (rawCells s (.slice A1 n1 c1)) 33)).alloc (.cells (rawCells t (.slice A2 n2 c2)) 33)) = w0 at *
  refine (first2_any _ (ht.below b0)).mono ?_
  rintro e w1 ⟨rfl, hb1⟩
  have b1 := then_ b0 hb1
  have X1 := Lib.hid (X0.out.below hb1)
  have Y1 := Lib.hid (Y0.out.below hb1)
  have V1 := Lib.hid (V0.out.below hb1)
  obtain ⟨x0, x1, x2, x3, xl⟩ := X1.out.four
  go_wp2_with fail
  refine (few_any (fun _ => True) r hw0 A0 n0 c0 30 _ (hP0.under b1) (by omega)).mono ?_
  rintro e w2 ⟨bb, rfl, hbb, hb2⟩
  have b2 := then_ b1 hb2
  clear x0 x1 x2 x3 xl
  cases bb with
  | false =>
    clear hbb
    go_wp2
    go_ret
    exact ⟨rfl, b2⟩
  | true =>
    have HF0 := Lib.hid (hbb rfl)
    clear hbb
    have X2 := Lib.hid (X1.out.below hb2)
    have Y2 := Lib.hid (Y1.out.below hb2)
    have V2 := Lib.hid (V1.out.below hb2)
    obtain ⟨x0, x1, x2, x3, xl⟩ := Y2.out.four
    go_wp2_with fail
    refine (few_any (fun _ => True) s hw1 A1 n1 c1 30 _ (hP1.under b2) (by omega)).mono ?_
    rintro e w3 ⟨bb, rfl, hbb, hb3⟩
    have b3 := then_ b2 hb3
    clear x0 x1 x2 x3 xl
    cases bb with
    | false =>
      clear hbb
      go_wp2
      go_ret
      exact ⟨rfl, b3⟩
    | true =>
      have HF1 := Lib.hid (hbb rfl)
      clear hbb
      have X3 := Lib.hid (X2.out.below hb3)
      have Y3 := Lib.hid (Y2.out.below hb3)
      have V3 := Lib.hid (V2.out.below hb3)
      obtain ⟨x0, x1, x2, x3, xl⟩ := V3.out.four
      go_wp2_with fail
      refine (few_any (fun _ => True) t hw2 A2 n2 c2 30 _ (hP2.under b3) (by omega)).mono ?_
      rintro e w4 ⟨bb, rfl, hbb, hb4⟩
      have b4 := then_ b3 hb4
      clear x0 x1 x2 x3 xl
      cases bb with
      | false =>
        clear hbb
        go_wp2
        go_ret
        exact ⟨rfl, b4⟩
      | true =>
        have HF2 := Lib.hid (hbb rfl)
        clear hbb
        have X4 := Lib.hid (X3.out.below hb4)
        have Y4 := Lib.hid (Y3.out.below hb4)
        have V4 := Lib.hid (V3.out.below hb4)
        go_upto_region 5 with (fail)
        go_cut [7, 8, 9] (fun q0 q1 q2 wx => ∃ (g0 : Nat) (P0 : Option Addr) (m0 d0 : Nat) (g1 : Nat) (P1 : Option Addr) (m1 d1 : Nat) (g2 : Nat) (P2 : Option Addr) (m2 d2 : Nat), q0 = ptr g0 ∧ q1 = ptr g1 ∧ q2 = ptr g2 ∧ Hid (BlkIs wx g0 26 (obCells (mkT r).ob (.slice P0 m0 d0))) ∧ Hid (BlkIs wx g1 26 (obCells (mkT s).ob (.slice P1 m1 d1))) ∧ Hid (BlkIs wx g2 26 (obCells (mkT t).ob (.slice P2 m2 d2))) ∧ Rd (fun _ => True) wx (.slice P0 m0 d0) (.row ((mkT r).ob.pair.map Ob.enc)) ∧ Rd (fun _ => True) wx (.slice P1 m1 d1) (.row ((mkT s).ob.pair.map Ob.enc)) ∧ Rd (fun _ => True) wx (.slice P2 m2 d2) (.row ((mkT t).ob.pair.map Ob.enc)) ∧ Below w.heap.size w wx)
        case first =>
          have bd := b4.drew
          refine wp_region_any (by kernel_rfl) ?_
          refine asg_objs 3 26 7 33 (fun j => 3 + j) (fun _ => 17) (fun j => if j = 0 then (rawV r (.slice A0 n0 c0)) else if j = 1 then (rawV s (.slice A1 n1 c1)) else (rawV t (.slice A2 n2 c2))) (fun j => if j = 0 then (mkT r).ob else if j = 1 then (mkT s).ob else (mkT t).ob) (by kernel_rfl) (by omega) (Nat.le_of_ble_eq_true rfl) (fun j hj => by omega) ?_ (fun _ _ => callMk) ?_ ?_
          · intro j hj o ρ w' ho hρ hb'
            have hc : j = 0 ∨ j = 1 ∨ j = 2 := by omega
            rcases hc with rfl | rfl | rfl
            · exact run_load_raw ho hρ ((X4.out.drew).below hb')
            · exact run_load_raw ho hρ ((Y4.out.drew).below hb')
            · exact run_load_raw ho hρ ((V4.out.drew).below hb')
          · intro j hj w' hb'
            have hc : j = 0 ∨ j = 1 ∨ j = 2 := by omega
            rcases hc with rfl | rfl | rfl
            · exact mkO_any (fun _ => True) r.size r (Nat.le_refl _) HF0.out.1 hw0 A0 n0 c0 w' (ht.below (then_ bd hb')) ((hP0.under bd).under hb')
            · exact mkO_any (fun _ => True) s.size s (Nat.le_refl _) HF1.out.1 hw1 A1 n1 c1 w' (ht.below (then_ bd hb')) ((hP1.under bd).under hb')
            · exact mkO_any (fun _ => True) t.size t (Nat.le_refl _) HF2.out.1 hw2 A2 n2 c2 w' (ht.below (then_ bd hb')) ((hP2.under bd).under hb')
          · intro u w' hb' hall hne
            obtain ⟨g0, P0, m0, d0, e0, _, _, B0, R0⟩ := hall 0 (by omega)
            obtain ⟨g1, P1, m1, d1, e1, _, _, B1, R1⟩ := hall 1 (by omega)
            obtain ⟨g2, P2, m2, d2, e2, _, _, B2, R2⟩ := hall 2 (by omega)
            replace e0 : u 7 = ptr g0 := e0
            replace e1 : u 8 = ptr g1 := e1
            replace e2 : u 9 = ptr g2 := e2
            simp only [asgD, List.range, List.range.loop, Nat.reduceAdd, List.map_cons, List.map_nil, List.cons_append, List.nil_append, List.foldl_cons, List.foldl_nil, e0, e1, e2]
            clear hall hne
            go_wp2_with fail
            go_meet
            exact ⟨g0, P0, m0, d0, g1, P1, m1, d1, g2, P2, m2, d2, rfl, rfl, rfl, Lib.hid B0, Lib.hid B1, Lib.hid B2, R0.mono fun _ _ _ => trivial, R1.mono fun _ _ _ => trivial, R2.mono fun _ _ _ => trivial, then_ bd hb'⟩
        case rest =>
          obtain ⟨g0, P0, m0, d0, g1, P1, m1, d1, g2, P2, m2, d2, rfl, rfl, rfl, B0, B1, B2, R0, R1, R2, bw⟩ := hcut
          have HC1 : Hid (∀ w' : World, Below wc.heap.size wc w' → Calls Tryz.prog 32 #[objV (mkT r).ob (.slice P0 m0 d0), objV (mkT s).ob (.slice P1 m1 d1)] w' (RetBel (.int .i64 (Tr.cmp (mkT r) (mkT s))) w')) := fun w' hb' => oCompare_any (fun _ => True) (fun _ => True) (k := 4) (by omega) _ (mkT r) (mkT s) (Nat.le_refl _) (mkT_ok r HF0.out.1) (mkT_ok s HF1.out.1) P0 P1 m0 m1 d0 d1 w' (ht.below (then_ bw hb')) (R0.under hb') (R1.under hb')
          have HC2 : Hid (∀ w' : World, Below wc.heap.size wc w' → Calls Tryz.prog 32 #[objV (mkT s).ob (.slice P1 m1 d1), objV (mkT r).ob (.slice P0 m0 d0)] w' (RetBel (.int .i64 (-(Tr.cmp (mkT r) (mkT s)))) w')) := fun w' hb' => by rw [← Tr.cmp_swap]; exact oCompare_any (fun _ => True) (fun _ => True) (k := 4) (by omega) _ (mkT s) (mkT r) (Nat.le_refl _) (mkT_ok s HF1.out.1) (mkT_ok r HF0.out.1) P1 P0 m1 m0 d1 d0 w' (ht.below (then_ bw hb')) (R1.under hb') (R0.under hb')
          have HC3 : Hid (∀ w' : World, Below wc.heap.size wc w' → Calls Tryz.prog 32 #[objV (mkT s).ob (.slice P1 m1 d1), objV (mkT t).ob (.slice P2 m2 d2)] w' (RetBel (.int .i64 (Tr.cmp (mkT s) (mkT t))) w')) := fun w' hb' => oCompare_any (fun _ => True) (fun _ => True) (k := 4) (by omega) _ (mkT s) (mkT t) (Nat.le_refl _) (mkT_ok s HF1.out.1) (mkT_ok t HF2.out.1) P1 P2 m1 m2 d1 d2 w' (ht.below (then_ bw hb')) (R1.under hb') (R2.under hb')
          have HC4 : Hid (∀ w' : World, Below wc.heap.size wc w' → Calls Tryz.prog 32 #[objV (mkT r).ob (.slice P0 m0 d0), objV (mkT t).ob (.slice P2 m2 d2)] w' (RetBel (.int .i64 (Tr.cmp (mkT r) (mkT t))) w')) := fun w' hb' => oCompare_any (fun _ => True) (fun _ => True) (k := 4) (by omega) _ (mkT r) (mkT t) (Nat.le_refl _) (mkT_ok r HF0.out.1) (mkT_ok t HF2.out.1) P0 P2 m0 m2 d0 d2 w' (ht.below (then_ bw hb')) (R0.under hb') (R2.under hb')
          have HE : Hid (∀ w' : World, Below wc.heap.size wc w' → Calls Tryz.prog 14 #[objV (mkT r).ob (.slice P0 m0 d0), objV (mkT s).ob (.slice P1 m1 d1)] w' (RetBel (.bool (Tr.cmp (mkT r) (mkT s) == 0)) w')) := fun w' hb' => by
            refine (oEqual_any (fun _ => True) (fun _ => True) _ (mkT r).ob (mkT s).ob (Nat.le_refl _) ((mkT_ok r HF0.out.1).wf (by omega)) P0 P1 m0 m1 d0 d1 w' (R0.under hb') (R1.under hb')).mono ?_
            rintro e w1 ⟨b, rfl, hb, h⟩
            refine ⟨?_, h⟩
            rw [Tr.ob_iff, ← Tr.cmp_zero] at hb
            congr 2
            cases b with
            | true => exact (beq_iff_eq.2 (hb.1 rfl)).symm
            | false => exact (beq_eq_false_iff_ne.2 (fun e => by have := hb.2 e; cases this)).symm
          have hz1 := Tr.cmp_rng (mkT r) (mkT s)
          have HT := Lib.hid (Tr.cmp_trans (mkT r) (mkT s) (mkT t))
          clear R0 R1 R2
          generalize Tr.cmp (mkT r) (mkT s) = z1 at *
          generalize Tr.cmp (mkT s) (mkT t) = z2 at *
          generalize Tr.cmp (mkT r) (mkT t) = z3 at *
          generalize (mkT r).ob = oa at *
          generalize (mkT s).ob = ob at *
          generalize (mkT t).ob = oc at *
          clear b0 b1 b2 b3 b4 X0 X1 X2 X3 X4 Y0 Y1 Y2 Y3 Y4 V0 V1 V2 V3 V4
          have b0 : Below wc.heap.size wc wc := Below.refl _ _
          have X0 := B0
          have Y0 := B1
          have V0 := B2
          obtain ⟨xc0_0, xc0_1, xc0_2, xc0_3, xc0_4, xc0_5, xc0_6, xc0_l⟩ := X0.out.seven
          obtain ⟨yc0_0, yc0_1, yc0_2, yc0_3, yc0_4, yc0_5, yc0_6, yc0_l⟩ := Y0.out.seven
          obtain ⟨vc0_0, vc0_1, vc0_2, vc0_3, vc0_4, vc0_5, vc0_6, vc0_l⟩ := V0.out.seven
          have hn1 : -1 ≤ z1 := by omega
          have hn2 : z1 ≤ 1 := by omega
          clear hz1
          by_cases h1 : 0 < z1
          · clear HT HC3 HC4
            go_wp2_with fail
            refine (HC1.out _ b0).mono ?_
            rintro e w101 ⟨rfl, hb101⟩
            have b1 := then_ b0 hb101
            have X1 := Lib.hid (X0.out.below hb101)
            have Y1 := Lib.hid (Y0.out.below hb101)
            have V1 := Lib.hid (V0.out.below hb101)
            obtain ⟨xc1_0, xc1_1, xc1_2, xc1_3, xc1_4, xc1_5, xc1_6, xc1_l⟩ := X1.out.seven
            obtain ⟨yc1_0, yc1_1, yc1_2, yc1_3, yc1_4, yc1_5, yc1_6, yc1_l⟩ := Y1.out.seven
            obtain ⟨vc1_0, vc1_1, vc1_2, vc1_3, vc1_4, vc1_5, vc1_6, vc1_l⟩ := V1.out.seven
            go_wp2_with fail
            clear xc1_0 xc1_1 xc1_2 xc1_3 xc1_4 xc1_5 xc1_6 yc1_0 yc1_1 yc1_2 yc1_3 yc1_4 yc1_5 yc1_6 vc1_0 vc1_1 vc1_2 vc1_3 vc1_4 vc1_5 vc1_6
            refine (HC2.out _ b1).mono ?_
            rintro e w102 ⟨rfl, hb102⟩
            have b2 := then_ b1 hb102
            have X2 := Lib.hid (X1.out.below hb102)
            have Y2 := Lib.hid (Y1.out.below hb102)
            have V2 := Lib.hid (V1.out.below hb102)
            obtain ⟨xc2_0, xc2_1, xc2_2, xc2_3, xc2_4, xc2_5, xc2_6, xc2_l⟩ := X2.out.seven
            obtain ⟨yc2_0, yc2_1, yc2_2, yc2_3, yc2_4, yc2_5, yc2_6, yc2_l⟩ := Y2.out.seven
            obtain ⟨vc2_0, vc2_1, vc2_2, vc2_3, vc2_4, vc2_5, vc2_6, vc2_l⟩ := V2.out.seven
            go_wp2_with fail
            clear xc2_0 xc2_1 xc2_2 xc2_3 xc2_4 xc2_5 xc2_6 yc2_0 yc2_1 yc2_2 yc2_3 yc2_4 yc2_5 yc2_6 vc2_0 vc2_1 vc2_2 vc2_3 vc2_4 vc2_5 vc2_6
            refine (HE.out _ b2).mono ?_
            rintro e w103 ⟨rfl, hb103⟩
            have b3 := then_ b2 hb103
            have X3 := Lib.hid (X2.out.below hb103)
            have Y3 := Lib.hid (Y2.out.below hb103)
            have V3 := Lib.hid (V2.out.below hb103)
            obtain ⟨xc3_0, xc3_1, xc3_2, xc3_3, xc3_4, xc3_5, xc3_6, xc3_l⟩ := X3.out.seven
            obtain ⟨yc3_0, yc3_1, yc3_2, yc3_3, yc3_4, yc3_5, yc3_6, yc3_l⟩ := Y3.out.seven
            obtain ⟨vc3_0, vc3_1, vc3_2, vc3_3, vc3_4, vc3_5, vc3_6, vc3_l⟩ := V3.out.seven
            go_wp2
            go_ret
            exact ⟨rfl, then_ bw b3⟩
          · by_cases h2 : 0 < z2
            · clear HT HC4
              go_wp2_with fail
              refine (HC1.out _ b0).mono ?_
              rintro e w101 ⟨rfl, hb101⟩
              have b1 := then_ b0 hb101
              have X1 := Lib.hid (X0.out.below hb101)
              have Y1 := Lib.hid (Y0.out.below hb101)
              have V1 := Lib.hid (V0.out.below hb101)
              obtain ⟨xc1_0, xc1_1, xc1_2, xc1_3, xc1_4, xc1_5, xc1_6, xc1_l⟩ := X1.out.seven
              obtain ⟨yc1_0, yc1_1, yc1_2, yc1_3, yc1_4, yc1_5, yc1_6, yc1_l⟩ := Y1.out.seven
              obtain ⟨vc1_0, vc1_1, vc1_2, vc1_3, vc1_4, vc1_5, vc1_6, vc1_l⟩ := V1.out.seven
              go_wp2_with fail
              clear xc1_0 xc1_1 xc1_2 xc1_3 xc1_4 xc1_5 xc1_6 yc1_0 yc1_1 yc1_2 yc1_3 yc1_4 yc1_5 yc1_6 vc1_0 vc1_1 vc1_2 vc1_3 vc1_4 vc1_5 vc1_6
              refine (HC2.out _ b1).mono ?_
              rintro e w102 ⟨rfl, hb102⟩
              have b2 := then_ b1 hb102
              have X2 := Lib.hid (X1.out.below hb102)
              have Y2 := Lib.hid (Y1.out.below hb102)
              have V2 := Lib.hid (V1.out.below hb102)
              obtain ⟨xc2_0, xc2_1, xc2_2, xc2_3, xc2_4, xc2_5, xc2_6, xc2_l⟩ := X2.out.seven
              obtain ⟨yc2_0, yc2_1, yc2_2, yc2_3, yc2_4, yc2_5, yc2_6, yc2_l⟩ := Y2.out.seven
              obtain ⟨vc2_0, vc2_1, vc2_2, vc2_3, vc2_4, vc2_5, vc2_6, vc2_l⟩ := V2.out.seven
              go_wp2_with fail
              clear xc2_0 xc2_1 xc2_2 xc2_3 xc2_4 xc2_5 xc2_6 yc2_0 yc2_1 yc2_2 yc2_3 yc2_4 yc2_5 yc2_6 vc2_0 vc2_1 vc2_2 vc2_3 vc2_4 vc2_5 vc2_6
              refine (HE.out _ b2).mono ?_
              rintro e w103 ⟨rfl, hb103⟩
              have b3 := then_ b2 hb103
              have X3 := Lib.hid (X2.out.below hb103)
              have Y3 := Lib.hid (Y2.out.below hb103)
              have V3 := Lib.hid (V2.out.below hb103)
              obtain ⟨xc3_0, xc3_1, xc3_2, xc3_3, xc3_4, xc3_5, xc3_6, xc3_l⟩ := X3.out.seven
              obtain ⟨yc3_0, yc3_1, yc3_2, yc3_3, yc3_4, yc3_5, yc3_6, yc3_l⟩ := Y3.out.seven
              obtain ⟨vc3_0, vc3_1, vc3_2, vc3_3, vc3_4, vc3_5, vc3_6, vc3_l⟩ := V3.out.seven
              go_wp2_with fail
              clear xc3_0 xc3_1 xc3_2 xc3_3 xc3_4 xc3_5 xc3_6 yc3_0 yc3_1 yc3_2 yc3_3 yc3_4 yc3_5 yc3_6 vc3_0 vc3_1 vc3_2 vc3_3 vc3_4 vc3_5 vc3_6
              refine (HC3.out _ b3).mono ?_
              rintro e w104 ⟨rfl, hb104⟩
              have b4 := then_ b3 hb104
              have X4 := Lib.hid (X3.out.below hb104)
              have Y4 := Lib.hid (Y3.out.below hb104)
              have V4 := Lib.hid (V3.out.below hb104)
              obtain ⟨xc4_0, xc4_1, xc4_2, xc4_3, xc4_4, xc4_5, xc4_6, xc4_l⟩ := X4.out.seven
              obtain ⟨yc4_0, yc4_1, yc4_2, yc4_3, yc4_4, yc4_5, yc4_6, yc4_l⟩ := Y4.out.seven
              obtain ⟨vc4_0, vc4_1, vc4_2, vc4_3, vc4_4, vc4_5, vc4_6, vc4_l⟩ := V4.out.seven
              go_wp2
              go_ret
              exact ⟨rfl, then_ bw b4⟩
            · have h3 : z3 ≤ 0 := HT.out (by omega) (by omega)
              clear HT
              go_wp2_with fail
              refine (HC1.out _ b0).mono ?_
              rintro e w101 ⟨rfl, hb101⟩
              have b1 := then_ b0 hb101
              have X1 := Lib.hid (X0.out.below hb101)
              have Y1 := Lib.hid (Y0.out.below hb101)
              have V1 := Lib.hid (V0.out.below hb101)
              obtain ⟨xc1_0, xc1_1, xc1_2, xc1_3, xc1_4, xc1_5, xc1_6, xc1_l⟩ := X1.out.seven
              obtain ⟨yc1_0, yc1_1, yc1_2, yc1_3, yc1_4, yc1_5, yc1_6, yc1_l⟩ := Y1.out.seven
              obtain ⟨vc1_0, vc1_1, vc1_2, vc1_3, vc1_4, vc1_5, vc1_6, vc1_l⟩ := V1.out.seven
              go_wp2_with fail
              clear xc1_0 xc1_1 xc1_2 xc1_3 xc1_4 xc1_5 xc1_6 yc1_0 yc1_1 yc1_2 yc1_3 yc1_4 yc1_5 yc1_6 vc1_0 vc1_1 vc1_2 vc1_3 vc1_4 vc1_5 vc1_6
              refine (HC2.out _ b1).mono ?_
              rintro e w102 ⟨rfl, hb102⟩
              have b2 := then_ b1 hb102
              have X2 := Lib.hid (X1.out.below hb102)
              have Y2 := Lib.hid (Y1.out.below hb102)
              have V2 := Lib.hid (V1.out.below hb102)
              obtain ⟨xc2_0, xc2_1, xc2_2, xc2_3, xc2_4, xc2_5, xc2_6, xc2_l⟩ := X2.out.seven
              obtain ⟨yc2_0, yc2_1, yc2_2, yc2_3, yc2_4, yc2_5, yc2_6, yc2_l⟩ := Y2.out.seven
              obtain ⟨vc2_0, vc2_1, vc2_2, vc2_3, vc2_4, vc2_5, vc2_6, vc2_l⟩ := V2.out.seven
              go_wp2_with fail
              clear xc2_0 xc2_1 xc2_2 xc2_3 xc2_4 xc2_5 xc2_6 yc2_0 yc2_1 yc2_2 yc2_3 yc2_4 yc2_5 yc2_6 vc2_0 vc2_1 vc2_2 vc2_3 vc2_4 vc2_5 vc2_6
              refine (HE.out _ b2).mono ?_
              rintro e w103 ⟨rfl, hb103⟩
              have b3 := then_ b2 hb103
              have X3 := Lib.hid (X2.out.below hb103)
              have Y3 := Lib.hid (Y2.out.below hb103)
              have V3 := Lib.hid (V2.out.below hb103)
              obtain ⟨xc3_0, xc3_1, xc3_2, xc3_3, xc3_4, xc3_5, xc3_6, xc3_l⟩ := X3.out.seven
              obtain ⟨yc3_0, yc3_1, yc3_2, yc3_3, yc3_4, yc3_5, yc3_6, yc3_l⟩ := Y3.out.seven
              obtain ⟨vc3_0, vc3_1, vc3_2, vc3_3, vc3_4, vc3_5, vc3_6, vc3_l⟩ := V3.out.seven
              go_wp2_with fail
              clear xc3_0 xc3_1 xc3_2 xc3_3 xc3_4 xc3_5 xc3_6 yc3_0 yc3_1 yc3_2 yc3_3 yc3_4 yc3_5 yc3_6 vc3_0 vc3_1 vc3_2 vc3_3 vc3_4 vc3_5 vc3_6
              refine (HC3.out _ b3).mono ?_
              rintro e w104 ⟨rfl, hb104⟩
              have b4 := then_ b3 hb104
              have X4 := Lib.hid (X3.out.below hb104)
              have Y4 := Lib.hid (Y3.out.below hb104)
              have V4 := Lib.hid (V3.out.below hb104)
              obtain ⟨xc4_0, xc4_1, xc4_2, xc4_3, xc4_4, xc4_5, xc4_6, xc4_l⟩ := X4.out.seven
              obtain ⟨yc4_0, yc4_1, yc4_2, yc4_3, yc4_4, yc4_5, yc4_6, yc4_l⟩ := Y4.out.seven
              obtain ⟨vc4_0, vc4_1, vc4_2, vc4_3, vc4_4, vc4_5, vc4_6, vc4_l⟩ := V4.out.seven
              go_wp2_with fail
              clear xc4_0 xc4_1 xc4_2 xc4_3 xc4_4 xc4_5 xc4_6 yc4_0 yc4_1 yc4_2 yc4_3 yc4_4 yc4_5 yc4_6 vc4_0 vc4_1 vc4_2 vc4_3 vc4_4 vc4_5 vc4_6
              refine (HC4.out _ b4).mono ?_
              rintro e w105 ⟨rfl, hb105⟩
              have b5 := then_ b4 hb105
              have X5 := Lib.hid (X4.out.below hb105)
              have Y5 := Lib.hid (Y4.out.below hb105)
              have V5 := Lib.hid (V4.out.below hb105)
              obtain ⟨xc5_0, xc5_1, xc5_2, xc5_3, xc5_4, xc5_5, xc5_6, xc5_l⟩ := X5.out.seven
              obtain ⟨yc5_0, yc5_1, yc5_2, yc5_3, yc5_4, yc5_5, yc5_6, yc5_l⟩ := Y5.out.seven
              obtain ⟨vc5_0, vc5_1, vc5_2, vc5_3, vc5_4, vc5_5, vc5_6, vc5_l⟩ := V5.out.seven
              go_wp2
              go_ret
              exact ⟨rfl, then_ bw b5⟩
end Go.Proofs.YtcdgckbdplkdbaaGreatDoor
