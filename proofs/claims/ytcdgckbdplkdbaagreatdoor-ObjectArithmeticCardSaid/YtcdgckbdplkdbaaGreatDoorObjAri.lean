/- lispproverlaw2.ObjectArithmetic returns true. -/
import Derived.Test.YtcdgckbdplkdbaaGreatDoorObjCmp
import Derived.Test.YtcdgckbdplkdbaaGreatDoorRar
namespace Go.Proofs.YtcdgckbdplkdbaaGreatDoor
open Go.RowKit

theorem equalNL {q : Rat} {k : Nat} (bq : Rb k q) (hk : k ≤ 10000) (A A' : Option Addr) (c c' : Nat) (w : World) : Calls Tryz.prog 15 #[objV (ratO q) (.slice A 0 c), objV (ratO q) (.slice A' 0 c')] w (RetBel (.bool true) w) :=
  rEqual_yes (ok := fun _ => True) (ok' := fun _ => True) (wfN bq hk) (.nil _ _) (.nil _ _)
set_option maxHeartbeats 8000000 in
set_option maxRecDepth 100000 in
theorem arithmetic_any (w : World) (ht : Tab w) (r : Raw) (hw0 : r.Wf) (A0 : Option Addr) (n0 c0 : Nat) (hP0 : Rd (fun _ => True) w (.slice A0 n0 c0) (.row (r.l.map Raw.enc))) (s : Raw) (hw1 : s.Wf) (A1 : Option Addr) (n1 c1 : Nat) (hP1 : Rd (fun _ => True) w (.slice A1 n1 c1) (.row (s.l.map Raw.enc))) :
    Calls Tryz.prog 8 #[(rawV r (.slice A0 n0 c0)), (rawV s (.slice A1 n1 c1))] w (RetTrue2 w) := by
  go_enter Tryz.func8, Tryz.ntmps8
  go_wp2_with fail
  have X0 := Lib.hid ((BlkIs.new w 33 (rawCells r (.slice A0 n0 c0))).alloc (.cells (rawCells s (.slice A1 n1 c1)) 33))
  have Y0 := Lib.hid (BlkIs.new1 w (.cells (rawCells r (.slice A0 n0 c0)) 33) 33 (rawCells s (.slice A1 n1 c1)))
  have b0 := (box2 (box w (.cells (rawCells r (.slice A0 n0 c0)) 33)) (.cells (rawCells s (.slice A1 n1 c1)) 33))
  generalize ((w.alloc (.cells (rawCells r (.slice A0 n0 c0)) 33)).alloc (.cells (rawCells s (.slice A1 n1 c1)) 33)) = w0 at *
  refine (first2_any _ (ht.below b0)).mono ?_
  rintro e w1 ⟨rfl, hb1⟩
  have b1 := then_ b0 hb1
  have X1 := Lib.hid (X0.out.below hb1)
  have Y1 := Lib.hid (Y0.out.below hb1)
  obtain ⟨x0, x1, x2, x3, xl⟩ := X1.out.four
  go_wp2_with fail
  refine (few_any (fun _ => True) r hw0 A0 n0 c0 20 _ (hP0.under b1) (by omega)).mono ?_
  rintro e w2 ⟨bb, rfl, hbb, hb2⟩
  have b2 := then_ b1 hb2
  clear x0 x1 x2 x3 xl
  cases bb with
  | false =>
    clear hbb
    go_wp2
    go_ret
    exact ⟨rfl, b2⟩
  | true =>
    have HF0 := Lib.hid (hbb rfl)
    clear hbb
    have X2 := Lib.hid (X1.out.below hb2)
    have Y2 := Lib.hid (Y1.out.below hb2)
    obtain ⟨x0, x1, x2, x3, xl⟩ := Y2.out.four
    go_wp2_with fail
    refine (few_any (fun _ => True) s hw1 A1 n1 c1 20 _ (hP1.under b2) (by omega)).mono ?_
    rintro e w3 ⟨bb, rfl, hbb, hb3⟩
    have b3 := then_ b2 hb3
    clear x0 x1 x2 x3 xl
    cases bb with
    | false =>
      clear hbb
      go_wp2
      go_ret
      exact ⟨rfl, b3⟩
    | true =>
      have HF1 := Lib.hid (hbb rfl)
      clear hbb
      have X3 := Lib.hid (X2.out.below hb3)
      have Y3 := Lib.hid (Y2.out.below hb3)
      go_upto_region 5 with (fail)
      go_cut [5, 6] (fun q0 q1 wx => ∃ (g0 : Nat) (P0 : Option Addr) (m0 d0 : Nat) (g1 : Nat) (P1 : Option Addr) (m1 d1 : Nat), q0 = ptr g0 ∧ q1 = ptr g1 ∧ Hid (BlkIs wx g0 26 (obCells (mkT r).ob (.slice P0 m0 d0))) ∧ Hid (BlkIs wx g1 26 (obCells (mkT s).ob (.slice P1 m1 d1))) ∧ Rd (fun _ => True) wx (.slice P0 m0 d0) (.row ((mkT r).ob.pair.map Ob.enc)) ∧ Rd (fun _ => True) wx (.slice P1 m1 d1) (.row ((mkT s).ob.pair.map Ob.enc)) ∧ Below w.heap.size w wx)
      case first =>
        have bd := b3.drew
        refine wp_region_any (by kernel_rfl) ?_
        refine asg_objs 2 17 5 33 (fun j => 2 + j) (fun _ => 17) (fun j => if j = 0 then (rawV r (.slice A0 n0 c0)) else (rawV s (.slice A1 n1 c1))) (fun j => if j = 0 then (mkT r).ob else (mkT s).ob) (by kernel_rfl) (by omega) (Nat.le_of_ble_eq_true rfl) (fun j hj => by omega) ?_ (fun _ _ => callMk) ?_ ?_
        · intro j hj o ρ w' ho hρ hb'
          have hc : j = 0 ∨ j = 1 := by omega
          rcases hc with rfl | rfl
          · exact run_load_raw ho hρ ((X3.out.drew).below hb')
          · exact run_load_raw ho hρ ((Y3.out.drew).below hb')
        · intro j hj w' hb'
          have hc : j = 0 ∨ j = 1 := by omega
          rcases hc with rfl | rfl
          · exact mkO_any (fun _ => True) r.size r (Nat.le_refl _) HF0.out.1 hw0 A0 n0 c0 w' (ht.below (then_ bd hb')) ((hP0.under bd).under hb')
          · exact mkO_any (fun _ => True) s.size s (Nat.le_refl _) HF1.out.1 hw1 A1 n1 c1 w' (ht.below (then_ bd hb')) ((hP1.under bd).under hb')
        · intro u w' hb' hall hne
          obtain ⟨g0, P0, m0, d0, e0, _, _, B0, R0⟩ := hall 0 (by omega)
          obtain ⟨g1, P1, m1, d1, e1, _, _, B1, R1⟩ := hall 1 (by omega)
          replace e0 : u 5 = ptr g0 := e0
          replace e1 : u 6 = ptr g1 := e1
          simp only [asgD, List.range, List.range.loop, Nat.reduceAdd, List.map_cons, List.map_nil, List.cons_append, List.nil_append, List.foldl_cons, List.foldl_nil, e0, e1]
          clear hall hne
          go_wp2_with fail
          go_meet
          exact ⟨g0, P0, m0, d0, g1, P1, m1, d1, rfl, rfl, Lib.hid B0, Lib.hid B1, R0.mono fun _ _ _ => trivial, R1.mono fun _ _ _ => trivial, then_ bd hb'⟩
      case rest =>
        obtain ⟨g0, P0, m0, d0, g1, P1, m1, d1, rfl, rfl, B0, B1, R0, R1, bw⟩ := hcut
        have h1 := (mkT_ok r HF0.out.1).val (by omega)
        have h2 := (mkT_ok s HF1.out.1).val (by omega)
        have v1 := (mkT r).val_ob
        have v2 := (mkT s).val_ob
        have l1 : (mkT r).ob.pair.length = m0 := by have := R0.len; rw [List.length_map] at this; exact this
        have l2 : (mkT s).ob.pair.length = m1 := by have := R1.len; rw [List.length_map] at this; exact this
        generalize (mkT r).val = p at *
        generalize (mkT s).val = q at *
        have HS1 : Hid (∀ w' : World, Below wc.heap.size wc w' → Calls Tryz.prog 46 #[objV (mkT r).ob (.slice P0 m0 d0), objV (mkT s).ob (.slice P1 m1 d1)] w' (RetNL (Lib.itoa (p + q).num) (Lib.itoa ((p + q).den : Int)) w')) := fun w' hb' => oSum_any (mkT r).ob (mkT s).ob p q v1 v2 h1 h2 (by omega) (by omega) P0 P1 m0 m1 d0 d1 l1 l2 w' (ht.below (then_ bw hb'))
        have HS2 : Hid (∀ w' : World, Below wc.heap.size wc w' → Calls Tryz.prog 47 #[objV (mkT r).ob (.slice P0 m0 d0), objV (mkT s).ob (.slice P1 m1 d1)] w' (RetNL (Lib.itoa (p + q).num) (Lib.itoa ((p + q).den : Int)) w')) := fun w' hb' => rSum_any (mkT r).ob (mkT s).ob p q v1 v2 h1 h2 (by omega) (by omega) P0 P1 m0 m1 d0 d1 l1 l2 w' (ht.below (then_ bw hb'))
        have HS3 : Hid (∀ (A A' : Option Addr) (c c' : Nat) (w' : World), Calls Tryz.prog 15 #[objV (numO (Lib.itoa (p + q).num) (Lib.itoa ((p + q).den : Int))) (.slice A 0 c), objV (numO (Lib.itoa (p + q).num) (Lib.itoa ((p + q).den : Int))) (.slice A' 0 c')] w' (RetBel (.bool true) w')) := fun A A' c c' w' => equalNL (h1.add h2) (by omega) A A' c c' w'
        have HP1 : Hid (∀ w' : World, Below wc.heap.size wc w' → Calls Tryz.prog 48 #[objV (mkT r).ob (.slice P0 m0 d0), objV (mkT s).ob (.slice P1 m1 d1)] w' (RetNL (Lib.itoa (p * q).num) (Lib.itoa ((p * q).den : Int)) w')) := fun w' hb' => oProduct_any (mkT r).ob (mkT s).ob p q v1 v2 h1 h2 (by omega) (by omega) P0 P1 m0 m1 d0 d1 l1 l2 w' (ht.below (then_ bw hb'))
        have HP2 : Hid (∀ w' : World, Below wc.heap.size wc w' → Calls Tryz.prog 49 #[objV (mkT r).ob (.slice P0 m0 d0), objV (mkT s).ob (.slice P1 m1 d1)] w' (RetNL (Lib.itoa (p * q).num) (Lib.itoa ((p * q).den : Int)) w')) := fun w' hb' => rProduct_any (mkT r).ob (mkT s).ob p q v1 v2 h1 h2 (by omega) (by omega) P0 P1 m0 m1 d0 d1 l1 l2 w' (ht.below (then_ bw hb'))
        have HP3 : Hid (∀ (A A' : Option Addr) (c c' : Nat) (w' : World), Calls Tryz.prog 15 #[objV (numO (Lib.itoa (p * q).num) (Lib.itoa ((p * q).den : Int))) (.slice A 0 c), objV (numO (Lib.itoa (p * q).num) (Lib.itoa ((p * q).den : Int))) (.slice A' 0 c')] w' (RetBel (.bool true) w')) := fun A A' c c' w' => equalNL (h1.mul h2) (by omega) A A' c c' w'
        have HO1 : Hid (∀ w' : World, Below wc.heap.size wc w' → Calls Tryz.prog 50 #[objV (mkT r).ob (.slice P0 m0 d0)] w' (RetNL (Lib.itoa (-p).num) (Lib.itoa ((-p).den : Int)) w')) := fun w' hb' => oOpposite_any (mkT r).ob p v1 h1 (by omega) P0 m0 d0 l1 w' (ht.below (then_ bw hb'))
        have HO2 : Hid (∀ w' : World, Below wc.heap.size wc w' → Calls Tryz.prog 51 #[objV (mkT r).ob (.slice P0 m0 d0)] w' (RetNL (Lib.itoa (-p).num) (Lib.itoa ((-p).den : Int)) w')) := fun w' hb' => rOpposite_any (mkT r).ob p v1 h1 (by omega) P0 m0 d0 l1 w' (ht.below (then_ bw hb'))
        have HO3 : Hid (∀ (A A' : Option Addr) (c c' : Nat) (w' : World), Calls Tryz.prog 15 #[objV (numO (Lib.itoa (-p).num) (Lib.itoa ((-p).den : Int))) (.slice A 0 c), objV (numO (Lib.itoa (-p).num) (Lib.itoa ((-p).den : Int))) (.slice A' 0 c')] w' (RetBel (.bool true) w')) := fun A A' c c' w' => equalNL (h1.neg) (by omega) A A' c c' w'
        have HV1 : Hid (∀ w' : World, Below wc.heap.size wc w' → Calls Tryz.prog 52 #[objV (mkT r).ob (.slice P0 m0 d0)] w' (RetNL (Lib.itoa (p⁻¹).num) (Lib.itoa ((p⁻¹).den : Int)) w')) := fun w' hb' => oReciprocal_any (mkT r).ob p v1 h1 (by omega) P0 m0 d0 l1 w' (ht.below (then_ bw hb'))
        have HV2 : Hid (∀ w' : World, Below wc.heap.size wc w' → Calls Tryz.prog 53 #[objV (mkT r).ob (.slice P0 m0 d0)] w' (RetNL (Lib.itoa (p⁻¹).num) (Lib.itoa ((p⁻¹).den : Int)) w')) := fun w' hb' => rReciprocal_any (mkT r).ob p v1 h1 (by omega) P0 m0 d0 l1 w' (ht.below (then_ bw hb'))
        have HV3 : Hid (∀ (A A' : Option Addr) (c c' : Nat) (w' : World), Calls Tryz.prog 15 #[objV (numO (Lib.itoa (p⁻¹).num) (Lib.itoa ((p⁻¹).den : Int))) (.slice A 0 c), objV (numO (Lib.itoa (p⁻¹).num) (Lib.itoa ((p⁻¹).den : Int))) (.slice A' 0 c')] w' (RetBel (.bool true) w')) := fun A A' c c' w' => equalNL (h1.inv) (by omega) A A' c c' w'
        clear h1 h2 v1 v2 l1 l2 R0 R1
        generalize Lib.itoa (p + q).num = a0 at *
        generalize Lib.itoa ((p + q).den : Int) = e0 at *
        generalize Lib.itoa (p * q).num = a1 at *
        generalize Lib.itoa ((p * q).den : Int) = e1 at *
        generalize Lib.itoa (-p).num = a2 at *
        generalize Lib.itoa ((-p).den : Int) = e2 at *
        generalize Lib.itoa (p⁻¹).num = a3 at *
        generalize Lib.itoa ((p⁻¹).den : Int) = e3 at *
        generalize (mkT r).ob = oa at *
        generalize (mkT s).ob = ob at *
        clear b0 b1 b2 b3 X0 X1 X2 X3 Y0 Y1 Y2 Y3
        have b0 : Below wc.heap.size wc wc.drew := (Below.refl _ _).drew
        obtain ⟨xs0, xs1, xs2, xs3, xs4, xs5, xs6, xsl⟩ := B0.out.seven
        obtain ⟨ys0, ys1, ys2, ys3, ys4, ys5, ys6, ysl⟩ := B1.out.seven
        have X0 := Lib.hid B0.out.drew
        have Y0 := Lib.hid B1.out.drew
        go_upto_region 6 with (fail)
        go_region_held3 (fun w' => w'.cell? ⟨g0, 0, none⟩ = some (.int .i64 oa.kind) ∧ w'.cell? ⟨g0, 1, none⟩ = some (str oa.num) ∧ w'.cell? ⟨g0, 2, none⟩ = some (str oa.den) ∧ w'.cell? ⟨g0, 3, none⟩ = some (str oa.sp) ∧ w'.cell? ⟨g0, 4, none⟩ = some (str oa.sn) ∧ w'.cell? ⟨g0, 5, none⟩ = some (str oa.text) ∧ w'.cell? ⟨g0, 6, none⟩ = some (.slice P0 m0 d0) ∧ w'.cell? ⟨g1, 0, none⟩ = some (.int .i64 ob.kind) ∧ w'.cell? ⟨g1, 1, none⟩ = some (str ob.num) ∧ w'.cell? ⟨g1, 2, none⟩ = some (str ob.den) ∧ w'.cell? ⟨g1, 3, none⟩ = some (str ob.sp) ∧ w'.cell? ⟨g1, 4, none⟩ = some (str ob.sn) ∧ w'.cell? ⟨g1, 5, none⟩ = some (str ob.text) ∧ w'.cell? ⟨g1, 6, none⟩ = some (.slice P1 m1 d1)) (first | ((refine ⟨?_, ?_, ?_, ?_, ?_, ?_, ?_, ?_, ?_, ?_, ?_, ?_, ?_, ?_⟩) <;> assumption) | go_keep)
          (first | (go_at_call 46; ((with_reducible refine (HS1.out _ b0).mono ?_)); rintro e v1 ⟨Q1, f1, rfl, hb1⟩; have b1 := then_ b0 hb1; have X1 := Lib.hid (X0.out.below hb1); have Y1 := Lib.hid (Y0.out.below hb1); obtain ⟨xc1_0, xc1_1, xc1_2, xc1_3, xc1_4, xc1_5, xc1_6, xc1_l⟩ := X1.out.seven; obtain ⟨yc1_0, yc1_1, yc1_2, yc1_3, yc1_4, yc1_5, yc1_6, yc1_l⟩ := Y1.out.seven) | (go_at_call 47; ((with_reducible refine (HS2.out _ b1).mono ?_)); rintro e v2 ⟨Q2, f2, rfl, hb2⟩; have b2 := then_ b1 hb2; have X2 := Lib.hid (X1.out.below hb2); have Y2 := Lib.hid (Y1.out.below hb2); obtain ⟨xc2_0, xc2_1, xc2_2, xc2_3, xc2_4, xc2_5, xc2_6, xc2_l⟩ := X2.out.seven; obtain ⟨yc2_0, yc2_1, yc2_2, yc2_3, yc2_4, yc2_5, yc2_6, yc2_l⟩ := Y2.out.seven; clear xc1_0 xc1_1 xc1_2 xc1_3 xc1_4 xc1_5 xc1_6 yc1_0 yc1_1 yc1_2 yc1_3 yc1_4 yc1_5 yc1_6) | (go_at_call 15; ((with_reducible refine (HS3.out Q1 Q2 f1 f2 _).mono ?_)); rintro e v3 ⟨rfl, hb3⟩; have b3 := then_ b2 hb3; have X3 := Lib.hid (X2.out.below hb3); have Y3 := Lib.hid (Y2.out.below hb3); obtain ⟨xc3_0, xc3_1, xc3_2, xc3_3, xc3_4, xc3_5, xc3_6, xc3_l⟩ := X3.out.seven; obtain ⟨yc3_0, yc3_1, yc3_2, yc3_3, yc3_4, yc3_5, yc3_6, yc3_l⟩ := Y3.out.seven; clear xc2_0 xc2_1 xc2_2 xc2_3 xc2_4 xc2_5 xc2_6 yc2_0 yc2_1 yc2_2 yc2_3 yc2_4 yc2_5 yc2_6) | (go_at_call 48; ((with_reducible refine (HP1.out _ b3).mono ?_)); rintro e v4 ⟨Q4, f4, rfl, hb4⟩; have b4 := then_ b3 hb4; have X4 := Lib.hid (X3.out.below hb4); have Y4 := Lib.hid (Y3.out.below hb4); obtain ⟨xc4_0, xc4_1, xc4_2, xc4_3, xc4_4, xc4_5, xc4_6, xc4_l⟩ := X4.out.seven; obtain ⟨yc4_0, yc4_1, yc4_2, yc4_3, yc4_4, yc4_5, yc4_6, yc4_l⟩ := Y4.out.seven; clear xc3_0 xc3_1 xc3_2 xc3_3 xc3_4 xc3_5 xc3_6 yc3_0 yc3_1 yc3_2 yc3_3 yc3_4 yc3_5 yc3_6) | (go_at_call 49; ((with_reducible refine (HP2.out _ b4).mono ?_)); rintro e v5 ⟨Q5, f5, rfl, hb5⟩; have b5 := then_ b4 hb5; have X5 := Lib.hid (X4.out.below hb5); have Y5 := Lib.hid (Y4.out.below hb5); obtain ⟨xc5_0, xc5_1, xc5_2, xc5_3, xc5_4, xc5_5, xc5_6, xc5_l⟩ := X5.out.seven; obtain ⟨yc5_0, yc5_1, yc5_2, yc5_3, yc5_4, yc5_5, yc5_6, yc5_l⟩ := Y5.out.seven; clear xc4_0 xc4_1 xc4_2 xc4_3 xc4_4 xc4_5 xc4_6 yc4_0 yc4_1 yc4_2 yc4_3 yc4_4 yc4_5 yc4_6) | (go_at_call 15; ((with_reducible refine (HP3.out Q4 Q5 f4 f5 _).mono ?_)); rintro e v6 ⟨rfl, hb6⟩; have b6 := then_ b5 hb6; have X6 := Lib.hid (X5.out.below hb6); have Y6 := Lib.hid (Y5.out.below hb6); obtain ⟨xc6_0, xc6_1, xc6_2, xc6_3, xc6_4, xc6_5, xc6_6, xc6_l⟩ := X6.out.seven; obtain ⟨yc6_0, yc6_1, yc6_2, yc6_3, yc6_4, yc6_5, yc6_6, yc6_l⟩ := Y6.out.seven; clear xc5_0 xc5_1 xc5_2 xc5_3 xc5_4 xc5_5 xc5_6 yc5_0 yc5_1 yc5_2 yc5_3 yc5_4 yc5_5 yc5_6) | (go_at_call 50; ((with_reducible refine (HO1.out _ b6).mono ?_)); rintro e v7 ⟨Q7, f7, rfl, hb7⟩; have b7 := then_ b6 hb7; have X7 := Lib.hid (X6.out.below hb7); have Y7 := Lib.hid (Y6.out.below hb7); obtain ⟨xc7_0, xc7_1, xc7_2, xc7_3, xc7_4, xc7_5, xc7_6, xc7_l⟩ := X7.out.seven; obtain ⟨yc7_0, yc7_1, yc7_2, yc7_3, yc7_4, yc7_5, yc7_6, yc7_l⟩ := Y7.out.seven; clear xc6_0 xc6_1 xc6_2 xc6_3 xc6_4 xc6_5 xc6_6 yc6_0 yc6_1 yc6_2 yc6_3 yc6_4 yc6_5 yc6_6) | (go_at_call 51; ((with_reducible refine (HO2.out _ b7).mono ?_)); rintro e v8 ⟨Q8, f8, rfl, hb8⟩; have b8 := then_ b7 hb8; have X8 := Lib.hid (X7.out.below hb8); have Y8 := Lib.hid (Y7.out.below hb8); obtain ⟨xc8_0, xc8_1, xc8_2, xc8_3, xc8_4, xc8_5, xc8_6, xc8_l⟩ := X8.out.seven; obtain ⟨yc8_0, yc8_1, yc8_2, yc8_3, yc8_4, yc8_5, yc8_6, yc8_l⟩ := Y8.out.seven; clear xc7_0 xc7_1 xc7_2 xc7_3 xc7_4 xc7_5 xc7_6 yc7_0 yc7_1 yc7_2 yc7_3 yc7_4 yc7_5 yc7_6) | (go_at_call 15; ((with_reducible refine (HO3.out Q7 Q8 f7 f8 _).mono ?_)); rintro e v9 ⟨rfl, hb9⟩; have b9 := then_ b8 hb9; have X9 := Lib.hid (X8.out.below hb9); have Y9 := Lib.hid (Y8.out.below hb9); obtain ⟨xc9_0, xc9_1, xc9_2, xc9_3, xc9_4, xc9_5, xc9_6, xc9_l⟩ := X9.out.seven; obtain ⟨yc9_0, yc9_1, yc9_2, yc9_3, yc9_4, yc9_5, yc9_6, yc9_l⟩ := Y9.out.seven; clear xc8_0 xc8_1 xc8_2 xc8_3 xc8_4 xc8_5 xc8_6 yc8_0 yc8_1 yc8_2 yc8_3 yc8_4 yc8_5 yc8_6) | (go_at_call 52; ((with_reducible refine (HV1.out _ b9).mono ?_)); rintro e v10 ⟨Q10, f10, rfl, hb10⟩; have b10 := then_ b9 hb10; have X10 := Lib.hid (X9.out.below hb10); have Y10 := Lib.hid (Y9.out.below hb10); obtain ⟨xc10_0, xc10_1, xc10_2, xc10_3, xc10_4, xc10_5, xc10_6, xc10_l⟩ := X10.out.seven; obtain ⟨yc10_0, yc10_1, yc10_2, yc10_3, yc10_4, yc10_5, yc10_6, yc10_l⟩ := Y10.out.seven; clear xc9_0 xc9_1 xc9_2 xc9_3 xc9_4 xc9_5 xc9_6 yc9_0 yc9_1 yc9_2 yc9_3 yc9_4 yc9_5 yc9_6) | (go_at_call 53; ((with_reducible refine (HV2.out _ b10).mono ?_)); rintro e v11 ⟨Q11, f11, rfl, hb11⟩; have b11 := then_ b10 hb11; have X11 := Lib.hid (X10.out.below hb11); have Y11 := Lib.hid (Y10.out.below hb11); obtain ⟨xc11_0, xc11_1, xc11_2, xc11_3, xc11_4, xc11_5, xc11_6, xc11_l⟩ := X11.out.seven; obtain ⟨yc11_0, yc11_1, yc11_2, yc11_3, yc11_4, yc11_5, yc11_6, yc11_l⟩ := Y11.out.seven; clear xc10_0 xc10_1 xc10_2 xc10_3 xc10_4 xc10_5 xc10_6 yc10_0 yc10_1 yc10_2 yc10_3 yc10_4 yc10_5 yc10_6) | (go_at_call 15; ((with_reducible refine (HV3.out Q10 Q11 f10 f11 _).mono ?_)); rintro e v12 ⟨rfl, hb12⟩; have b12 := then_ b11 hb12; have X12 := Lib.hid (X11.out.below hb12); have Y12 := Lib.hid (Y11.out.below hb12); obtain ⟨xc12_0, xc12_1, xc12_2, xc12_3, xc12_4, xc12_5, xc12_6, xc12_l⟩ := X12.out.seven; obtain ⟨yc12_0, yc12_1, yc12_2, yc12_3, yc12_4, yc12_5, yc12_6, yc12_l⟩ := Y12.out.seven; clear xc11_0 xc11_1 xc11_2 xc11_3 xc11_4 xc11_5 xc11_6 yc11_0 yc11_1 yc11_2 yc11_3 yc11_4 yc11_5 yc11_6))
        go_wp2
        go_ret
        exact ⟨rfl, then_ bw b12⟩
end Go.Proofs.YtcdgckbdplkdbaaGreatDoor
