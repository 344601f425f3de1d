/- lispproverlaw2.ObjectValid returns true, for objects whose numerals have at most 1100000 letters. -/
import Derived.Test.YtcdgckbdplkdbaaGreatDoorFmr
import Derived.Test.YtcdgckbdplkdbaaGreatDoorJV
import Derived.Deep.RegionHeld3
namespace Go.Proofs.YtcdgckbdplkdbaaGreatDoor
open Go.RowKit

set_option maxHeartbeats 8000000 in
set_option maxRecDepth 100000 in
theorem validLaw_any (w : World) (ht : Tab w) (a : Ob) (hwa : a.Wf) (hsa : a.Sm) (A : Option Addr) (n c : Nat) (hA : Rd (fun _ => True) w (.slice A n c) (.row (a.pair.map Ob.enc))) (b : Ob) (hwb : b.Wf) (_ : b.Sm) (A' : Option Addr) (n' c' : Nat) (hB : Rd (fun _ => True) w (.slice A' n' c') (.row (b.pair.map Ob.enc))) :
    Calls Tryz.prog 3 #[objV a (.slice A n c), objV b (.slice A' n' c')] w (RetTrue2 w) := by
  have K1 : Hid (∀ w' : World, Below w.heap.size w w' → Calls Tryz.prog 10 #[objV a (.slice A n c)] w' (RetBel (.int .i64 (nodesP a)) w')) := fun w' hb => rNodes_any (fun _ => True) a hwa A n c w' (hA.under hb)
  have K2 : Hid (∀ w' : World, Below w.heap.size w w' → Calls Tryz.prog 10 #[objV b (.slice A' n' c')] w' (RetBel (.int .i64 (nodesP b)) w')) := fun w' hb => rNodes_any (fun _ => True) b hwb A' n' c' w' (hB.under hb)
  have K3 : Hid (∀ w' : World, Below w.heap.size w w' → Calls Tryz.prog 13 #[objV a (.slice A n c)] w' (RetBel (.int .i64 (nodesP a)) w')) := fun w' hb => oNodes_any (fun _ => True) a A n c w' (hA.under hb)
  have K4 : Hid (∀ w' : World, Below w.heap.size w w' → Calls Tryz.prog 11 #[objV a (.slice A n c)] w' (RetBel (.bool a.validB) w')) := fun w' hb => oValid_any (fun _ => True) a hwa hsa A n c w' (ht.below hb) (hA.under hb)
  have K5 : Hid (∀ w' : World, Below w.heap.size w w' → Calls Tryz.prog 12 #[objV a (.slice A n c)] w' (RetBel (.bool a.validB) w')) := fun w' hb => rValid_any (fun _ => True) a hwa hsa A n c w' (hA.under hb)
  obtain ⟨be, hbe⟩ : ∃ be : Bool, (be = true ↔ a = b) := by classical exact ⟨decide (a = b), by simp⟩
  have hcv : ∀ (p : Prop) (x : Bool), (x = true ↔ p) → ∀ (w w' : World) (e : Ending), RetEq p w e w' → RetBel (.bool x) w e w' := by
    rintro p x hx w w' e ⟨y, h1, h2, h3⟩
    refine ⟨?_, h3⟩
    have hxy : y = x := by
      rw [Bool.eq_iff_iff]
      exact h2.trans hx.symm
    rw [h1, hxy]
  have K6 : Hid (∀ w' : World, Below w.heap.size w w' → Calls Tryz.prog 14 #[objV a (.slice A n c), objV b (.slice A' n' c')] w' (RetBel (.bool be) w')) := fun w' hb => (oEqual_any (fun _ => True) (fun _ => True) a.size a b (Nat.le_refl _) hwa A A' n n' c c' w' (hA.under hb) (hB.under hb)).mono fun e w2 h => hcv _ be hbe _ _ _ h
  have K7 : Hid (∀ w' : World, Below w.heap.size w w' → Calls Tryz.prog 15 #[objV a (.slice A n c), objV b (.slice A' n' c')] w' (RetBel (.bool be) w')) := fun w' hb => (rEqual_any (fun _ => True) (fun _ => True) a.size a b (Nat.le_refl _) hwa A A' n n' c c' w' (hA.under hb) (hB.under hb)).mono fun e w2 h => hcv _ be hbe _ _ _ h
  have K8 : Hid (∀ w' : World, Below w.heap.size w w' → Calls Tryz.prog 14 #[objV a (.slice A n c), objV a (.slice A n c)] w' (RetBel (.bool true) w')) := fun w' hb => (oEqual_any (fun _ => True) (fun _ => True) a.size a a (Nat.le_refl _) hwa A A n n c c w' (hA.under hb) (hA.under hb)).mono fun e w2 h => hcv _ true (by simp) _ _ _ h
  have l1 : a.num.length ≤ 9223372036854775807 := by cases hwa; assumption
  have l2 : a.den.length ≤ 9223372036854775807 := by cases hwa; assumption
  have hz1 : 1 ≤ nodesP a := by have := a.nodes_pos; unfold nodesP; split <;> omega
  clear hbe hcv hwa hwb hsa hA hB
  generalize nodesP a = na at *
  generalize nodesP b = nb at *
  generalize a.validB = bv at *
  go_enter Tryz.func3, Tryz.ntmps3
  go_wp2_with fail
  have X0 := Lib.hid ((BlkIs.new w 26 (obCells a (.slice A n c))).alloc (.cells (obCells b (.slice A' n' c')) 26))
  have Y0 := Lib.hid (BlkIs.new1 w (.cells (obCells a (.slice A n c)) 26) 26 (obCells b (.slice A' n' c')))
  have b0 := box2 (box w (.cells (obCells a (.slice A n c)) 26)) (.cells (obCells b (.slice A' n' c')) 26)
  generalize (w.alloc (.cells (obCells a (.slice A n c)) 26)).alloc (.cells (obCells b (.slice A' n' c')) 26) = w0 at *
  refine (first2_any _ (ht.below b0)).mono ?_
  rintro e w1 ⟨rfl, hb1⟩
  have b1 := then_ b0 hb1
  have X1 := Lib.hid (X0.out.below hb1)
  have Y1 := Lib.hid (Y0.out.below hb1)
  obtain ⟨x0, x1, x2, x3, x4, x5, x6, xl⟩ := X1.out.seven
  go_wp2_with fail
  refine (K1.out _ b1).mono ?_
  rintro e w2 ⟨rfl, hb2⟩
  have b2 := then_ b1 hb2
  have X2 := Lib.hid (X1.out.below hb2)
  have Y2 := Lib.hid (Y1.out.below hb2)
  clear x0 x1 x2 x3 x4 x5 x6
  by_cases h1 : na ≤ 60
  case neg =>
    go_wp2
    go_ret
    exact ⟨rfl, b2⟩
  obtain ⟨y0, y1, y2, y3, y4, y5, y6, yl⟩ := Y2.out.seven
  go_wp2_with fail
  refine (K2.out _ b2).mono ?_
  rintro e w3 ⟨rfl, hb3⟩
  have b3 := then_ b2 hb3
  have X3 := Lib.hid (X2.out.below hb3)
  have Y3 := Lib.hid (Y2.out.below hb3)
  clear y0 y1 y2 y3 y4 y5 y6 X0 X1 X2 Y0 Y1 Y2 b0 b1 b2 hb1 hb2 hb3
  obtain ⟨x0, x1, x2, x3, x4, x5, x6, xl⟩ := X3.out.seven
  obtain ⟨y0, y1, y2, y3, y4, y5, y6, yl⟩ := Y3.out.seven
  by_cases h2 : nb ≤ 60
  case neg =>
    go_wp2
    go_ret
    exact ⟨rfl, b3⟩
  by_cases h3 : a.num.length ≤ 60
  case neg =>
    go_wp2
    go_ret
    exact ⟨rfl, b3⟩
  by_cases h4 : a.den.length ≤ 60
  case neg =>
    go_wp2
    go_ret
    exact ⟨rfl, b3⟩
  go_upto_region 5 with (fail)
  have b0 := b3.drew
  have X0 := Lib.hid X3.out.drew
  have Y0 := Lib.hid Y3.out.drew
  go_region_held3 (fun w' => w'.cell? ⟨w.heap.size, 0, none⟩ = some (.int .i64 a.kind) ∧ w'.cell? ⟨w.heap.size, 1, none⟩ = some (str a.num) ∧ w'.cell? ⟨w.heap.size, 2, none⟩ = some (str a.den) ∧ w'.cell? ⟨w.heap.size, 3, none⟩ = some (str a.sp) ∧ w'.cell? ⟨w.heap.size, 4, none⟩ = some (str a.sn) ∧ w'.cell? ⟨w.heap.size, 5, none⟩ = some (str a.text) ∧ w'.cell? ⟨w.heap.size, 6, none⟩ = some (.slice A n c) ∧ w'.cell? ⟨w.heap.size + 1, 0, none⟩ = some (.int .i64 b.kind) ∧ w'.cell? ⟨w.heap.size + 1, 1, none⟩ = some (str b.num) ∧ w'.cell? ⟨w.heap.size + 1, 2, none⟩ = some (str b.den) ∧ w'.cell? ⟨w.heap.size + 1, 3, none⟩ = some (str b.sp) ∧ w'.cell? ⟨w.heap.size + 1, 4, none⟩ = some (str b.sn) ∧ w'.cell? ⟨w.heap.size + 1, 5, none⟩ = some (str b.text) ∧ w'.cell? ⟨w.heap.size + 1, 6, none⟩ = some (.slice A' n' c')) (first | ((refine ⟨?_, ?_, ?_, ?_, ?_, ?_, ?_, ?_, ?_, ?_, ?_, ?_, ?_, ?_⟩) <;> assumption) | go_keep)
    (first | (go_at_call 11; ((with_reducible refine (K4.out _ b0).mono ?_)); rintro e v1 ⟨rfl, hb1⟩; have b1 := then_ b0 hb1; have X1 := Lib.hid (X0.out.below hb1); have Y1 := Lib.hid (Y0.out.below hb1); obtain ⟨xc1_0, xc1_1, xc1_2, xc1_3, xc1_4, xc1_5, xc1_6, xc1_l⟩ := X1.out.seven; obtain ⟨yc1_0, yc1_1, yc1_2, yc1_3, yc1_4, yc1_5, yc1_6, yc1_l⟩ := Y1.out.seven) | (go_at_call 12; ((with_reducible refine (K5.out _ b1).mono ?_)); rintro e v2 ⟨rfl, hb2⟩; have b2 := then_ b1 hb2; have X2 := Lib.hid (X1.out.below hb2); have Y2 := Lib.hid (Y1.out.below hb2); obtain ⟨xc2_0, xc2_1, xc2_2, xc2_3, xc2_4, xc2_5, xc2_6, xc2_l⟩ := X2.out.seven; obtain ⟨yc2_0, yc2_1, yc2_2, yc2_3, yc2_4, yc2_5, yc2_6, yc2_l⟩ := Y2.out.seven; clear xc1_0 xc1_1 xc1_2 xc1_3 xc1_4 xc1_5 xc1_6 yc1_0 yc1_1 yc1_2 yc1_3 yc1_4 yc1_5 yc1_6) | (go_at_call 13; ((with_reducible refine (K3.out _ b2).mono ?_)); rintro e v3 ⟨rfl, hb3⟩; have b3 := then_ b2 hb3; have X3 := Lib.hid (X2.out.below hb3); have Y3 := Lib.hid (Y2.out.below hb3); obtain ⟨xc3_0, xc3_1, xc3_2, xc3_3, xc3_4, xc3_5, xc3_6, xc3_l⟩ := X3.out.seven; obtain ⟨yc3_0, yc3_1, yc3_2, yc3_3, yc3_4, yc3_5, yc3_6, yc3_l⟩ := Y3.out.seven; clear xc2_0 xc2_1 xc2_2 xc2_3 xc2_4 xc2_5 xc2_6 yc2_0 yc2_1 yc2_2 yc2_3 yc2_4 yc2_5 yc2_6) | (go_at_call 10; ((with_reducible refine (K1.out _ b3).mono ?_)); rintro e v4 ⟨rfl, hb4⟩; have b4 := then_ b3 hb4; have X4 := Lib.hid (X3.out.below hb4); have Y4 := Lib.hid (Y3.out.below hb4); obtain ⟨xc4_0, xc4_1, xc4_2, xc4_3, xc4_4, xc4_5, xc4_6, xc4_l⟩ := X4.out.seven; obtain ⟨yc4_0, yc4_1, yc4_2, yc4_3, yc4_4, yc4_5, yc4_6, yc4_l⟩ := Y4.out.seven; clear xc3_0 xc3_1 xc3_2 xc3_3 xc3_4 xc3_5 xc3_6 yc3_0 yc3_1 yc3_2 yc3_3 yc3_4 yc3_5 yc3_6) | (go_at_call 14; ((with_reducible refine (K6.out _ b4).mono ?_)); rintro e v5 ⟨rfl, hb5⟩; have b5 := then_ b4 hb5; have X5 := Lib.hid (X4.out.below hb5); have Y5 := Lib.hid (Y4.out.below hb5); obtain ⟨xc5_0, xc5_1, xc5_2, xc5_3, xc5_4, xc5_5, xc5_6, xc5_l⟩ := X5.out.seven; obtain ⟨yc5_0, yc5_1, yc5_2, yc5_3, yc5_4, yc5_5, yc5_6, yc5_l⟩ := Y5.out.seven; clear xc4_0 xc4_1 xc4_2 xc4_3 xc4_4 xc4_5 xc4_6 yc4_0 yc4_1 yc4_2 yc4_3 yc4_4 yc4_5 yc4_6) | (go_at_call 15; ((with_reducible refine (K7.out _ b5).mono ?_)); rintro e v6 ⟨rfl, hb6⟩; have b6 := then_ b5 hb6; have X6 := Lib.hid (X5.out.below hb6); have Y6 := Lib.hid (Y5.out.below hb6); obtain ⟨xc6_0, xc6_1, xc6_2, xc6_3, xc6_4, xc6_5, xc6_6, xc6_l⟩ := X6.out.seven; obtain ⟨yc6_0, yc6_1, yc6_2, yc6_3, yc6_4, yc6_5, yc6_6, yc6_l⟩ := Y6.out.seven; clear xc5_0 xc5_1 xc5_2 xc5_3 xc5_4 xc5_5 xc5_6 yc5_0 yc5_1 yc5_2 yc5_3 yc5_4 yc5_5 yc5_6) | (go_at_call 14; ((with_reducible refine (K8.out _ b6).mono ?_)); rintro e v7 ⟨rfl, hb7⟩; have b7 := then_ b6 hb7; have X7 := Lib.hid (X6.out.below hb7); have Y7 := Lib.hid (Y6.out.below hb7); obtain ⟨xc7_0, xc7_1, xc7_2, xc7_3, xc7_4, xc7_5, xc7_6, xc7_l⟩ := X7.out.seven; obtain ⟨yc7_0, yc7_1, yc7_2, yc7_3, yc7_4, yc7_5, yc7_6, yc7_l⟩ := Y7.out.seven; clear xc6_0 xc6_1 xc6_2 xc6_3 xc6_4 xc6_5 xc6_6 yc6_0 yc6_1 yc6_2 yc6_3 yc6_4 yc6_5 yc6_6))
  go_wp2
  go_ret
  exact ⟨rfl, b7⟩
end Go.Proofs.YtcdgckbdplkdbaaGreatDoor
