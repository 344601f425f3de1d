/- Arithmetic of objects: Opposite, Reciprocal, Less of package object; IsNil, IsInteger. -/
import Derived.Test.YtcdgckbdplkdbaaDoorObG
namespace Go.Proofs.YtcdgckbdplkdbaaDoor
open Go.RowKit

set_option maxHeartbeats 1000000 in
set_option maxRecDepth 100000 in
theorem oOpposite_any (a : Ob) (p : Rat) (hp : Val a p) {k : Nat} (bp : Rb k p) (hk : k ≤ 10000) (A : Option Addr) (n c : Nat) (hn : a.pair.length = n) (w : World) (ht : Tab w) :
    Calls Tryd.prog 11 #[objV a (.slice A n c)] w (RetNum (-p) w) := by
  have HF1 : Hid (∀ w' : World, Below w.heap.size w w' → Calls Tryd.prog 25 #[objV a (.slice A n c)] w' (RetNL (Lib.itoa p.num) (Lib.itoa (p.den : Int)) w')) := fun w' hb => oFix_any a p hp A n c hn w' (ht.below hb)
  have HN : Hid (∀ w' : World, Calls Tryd.prog 28 #[str (Lib.itoa p.num)] w' (RetPure (str (Lib.itoa (-p.num))) w')) := fun w' => by
    have := negate_any (Lib.itoa p.num) w' (by have := bp.nlen; omega)
    rwa [Dec.dval_itoa] at this
  unfold RetNum
  rw [Rat.neg_num, Rat.neg_den]
  clear hp bp hk hn
  generalize Lib.itoa (-p.num) = l1 at *
  generalize Lib.itoa p.num = ln at *
  generalize Lib.itoa (p.den : Int) = ld at *
  go_enter Tryd.func11, Tryd.ntmps11
  go_wp2_with fail
  refine (HF1.out _ (box2 (box _ _) _)).mono ?_
  rintro e v1 ⟨A1, c1, rfl, hb1⟩
  have b1 : Below w.heap.size w v1 := via (via hb1)
  have X1 := Lib.hid (((BlkIs.new w _ _).alloc _).below hb1)
  have Z1 := Lib.hid ((BlkIs.new1 w _ _ _).below hb1)
  obtain ⟨x0, x1, x2, x3, x4, x5, x6, xl⟩ := X1.out.seven
  obtain ⟨xf0, xf1, xf2, xf3, xf4, xf5, xf6⟩ := X1.out.frozen7
  obtain ⟨z0, z1, z2, z3, z4, z5, z6, zl⟩ := Z1.out.seven
  obtain ⟨zf0, zf1, zf2, zf3, zf4, zf5, zf6⟩ := Z1.out.frozen7
  go_wp2_with fail
  have b2 := set7 b1 (Nat.le_refl _) (.int .i64 1) (str ln) (str ld) (str []) (str []) (str []) (.slice A1 0 c1)
  have Z2 := Lib.hid (Z1.out.far7 (g' := w.heap.size) (by omega) (.int .i64 1) (str ln) (str ld) (str []) (str []) (str []) (.slice A1 0 c1))
  have X2 := Lib.hid (X1.out.put7 (v0 := .int .i64 1) (v1 := str ln) (v2 := str ld) (v3 := str []) (v4 := str []) (v5 := str []) (v6 := .slice A1 0 c1))
  generalize (((((((v1.setCell ⟨w.heap.size, 0, none⟩ (.int .i64 1)).setCell ⟨w.heap.size, 1, none⟩ (str ln)).setCell ⟨w.heap.size, 2, none⟩ (str ld)).setCell ⟨w.heap.size, 3, none⟩ (str [])).setCell ⟨w.heap.size, 4, none⟩ (str [])).setCell ⟨w.heap.size, 5, none⟩ (str [])).setCell ⟨w.heap.size, 6, none⟩ (.slice A1 0 c1)) = v2 at *
  clear x0 z0 xf0 zf0 x1 z1 xf1 zf1 x2 z2 xf2 zf2 x3 z3 xf3 zf3 x4 z4 xf4 zf4 x5 z5 xf5 zf5 x6 z6 xf6 zf6 X1 Z1 b1 hb1
  obtain ⟨x0, x1, x2, x3, x4, x5, x6, xl⟩ := X2.out.seven
  obtain ⟨xf0, xf1, xf2, xf3, xf4, xf5, xf6⟩ := X2.out.frozen7
  obtain ⟨z0, z1, z2, z3, z4, z5, z6, zl⟩ := Z2.out.seven
  obtain ⟨zf0, zf1, zf2, zf3, zf4, zf5, zf6⟩ := Z2.out.frozen7
  refine (HN.out _).mono ?_
  rintro e v3 ⟨rfl, rfl⟩
  go_wp2
  exact ret_obj Tryd.results11 rfl (Z2.out.far (p := ⟨w.heap.size, 1, none⟩) (by simp) _).put7 rfl ⟨A1, c1, rfl, set7 (set2 b2 (Nat.le_refl _) _) (Nat.le_succ _) _ _ _ _ _ _ _⟩
set_option maxHeartbeats 1000000 in
set_option maxRecDepth 100000 in
theorem oReciprocal_any (a : Ob) (p : Rat) (hp : Val a p) {k : Nat} (bp : Rb k p) (hk : k ≤ 10000) (A : Option Addr) (n c : Nat) (hn : a.pair.length = n) (w : World) (ht : Tab w) :
    Calls Tryd.prog 9 #[objV a (.slice A n c)] w (RetNum p⁻¹ w) := by
  have HF1 : Hid (∀ w' : World, Below w.heap.size w w' → Calls Tryd.prog 25 #[objV a (.slice A n c)] w' (RetNL (Lib.itoa p.num) (Lib.itoa (p.den : Int)) w')) := fun w' hb => oFix_any a p hp A n c hn w' (ht.below hb)
  have HR : Hid (∀ w' : World, Below w.heap.size w w' → Calls Tryd.prog 5 #[str (Lib.itoa (p.den : Int)), str (Lib.itoa p.num)] w' (RetLeaf (ratO p⁻¹) w')) := fun w' hb => by
    have := oRationalQ (Lib.itoa (p.den : Int)) (Lib.itoa p.num) w' (by have := bp.dlen; omega) (by have := bp.nlen; omega) (ht.below hb)
    rwa [Dec.dval_itoa, Dec.dval_itoa, ← Rat.inv_def] at this
  unfold ratO at HR
  unfold RetNum
  clear hp bp hk hn
  generalize Lib.itoa (p⁻¹).num = l1 at *
  generalize Lib.itoa ((p⁻¹).den : Int) = l2 at *
  generalize Lib.itoa p.num = ln at *
  generalize Lib.itoa (p.den : Int) = ld at *
  go_enter Tryd.func9, Tryd.ntmps9
  go_wp2_with fail
  refine (HF1.out _ (box2 (box _ _) _)).mono ?_
  rintro e v1 ⟨A1, c1, rfl, hb1⟩
  have b1 : Below w.heap.size w v1 := via (via hb1)
  have X1 := Lib.hid (((BlkIs.new w _ _).alloc _).below hb1)
  have Z1 := Lib.hid ((BlkIs.new1 w _ _ _).below hb1)
  obtain ⟨x0, x1, x2, x3, x4, x5, x6, xl⟩ := X1.out.seven
  obtain ⟨xf0, xf1, xf2, xf3, xf4, xf5, xf6⟩ := X1.out.frozen7
  obtain ⟨z0, z1, z2, z3, z4, z5, z6, zl⟩ := Z1.out.seven
  obtain ⟨zf0, zf1, zf2, zf3, zf4, zf5, zf6⟩ := Z1.out.frozen7
  go_wp2_with fail
  have b2 := set7 b1 (Nat.le_refl _) (.int .i64 1) (str ln) (str ld) (str []) (str []) (str []) (.slice A1 0 c1)
  have Z2 := Lib.hid (Z1.out.far7 (g' := w.heap.size) (by omega) (.int .i64 1) (str ln) (str ld) (str []) (str []) (str []) (.slice A1 0 c1))
  refine (HR.out _ b2).mono ?_
  rintro e v3 ⟨rfl, hb3⟩
  have Z3 := Lib.hid (Z2.out.below hb3)
  clear x0 z0 xf0 zf0 x1 z1 xf1 zf1 x2 z2 xf2 zf2 x3 z3 xf3 zf3 x4 z4 xf4 zf4 x5 z5 xf5 zf5 x6 z6 xf6 zf6
  obtain ⟨y0, y1, y2, y3, y4, y5, y6, yl⟩ := Z3.out.seven
  obtain ⟨yf0, yf1, yf2, yf3, yf4, yf5, yf6⟩ := Z3.out.frozen7
  go_wp2
  exact ret_obj Tryd.results9 rfl Z3.out.put7 rfl ⟨none, 0, rfl, set7 (then_ b2 hb3) (Nat.le_succ _) _ _ _ _ _ _ _⟩
theorem cmpQ_neg (p q : Rat) : decide (cmpQ p q < 0) = decide (p < q) := by
  unfold cmpQ
  split
  · simp [*]
  · split <;> simp [*]
set_option maxHeartbeats 1000000 in
set_option maxRecDepth 100000 in
theorem oLess_any (a b : Ob) (p q : Rat) (hp : Val a p) (hq : Val b q) {k m : Nat} (bp : Rb k p) (bq : Rb m q) (hk : k ≤ 10000) (hm : m ≤ 10000) (A A' : Option Addr) (n n' c c' : Nat) (hn : a.pair.length = n) (hn' : b.pair.length = n') (w : World) (ht : Tab w) :
    Calls Tryd.prog 12 #[objV a (.slice A n c), objV b (.slice A' n' c')] w (RetBel (.bool (decide (p < q))) w) := by
  have HF1 : Hid (∀ w' : World, Below w.heap.size w w' → Calls Tryd.prog 25 #[objV a (.slice A n c)] w' (RetNL (Lib.itoa p.num) (Lib.itoa (p.den : Int)) w')) := fun w' hb => oFix_any a p hp A n c hn w' (ht.below hb)
  have HF2 : Hid (∀ w' : World, Below w.heap.size w w' → Calls Tryd.prog 25 #[objV b (.slice A' n' c')] w' (RetNL (Lib.itoa q.num) (Lib.itoa (q.den : Int)) w')) := fun w' hb => oFix_any b q hq A' n' c' hn' w' (ht.below hb)
  have HV : Hid (∀ (w' : World) (A1 A2 : Option Addr) (c1 c2 : Nat), Below w.heap.size w w' → Calls Tryd.prog 29 #[objV (ratO p) (.slice A1 0 c1), objV (ratO q) (.slice A2 0 c2)] w' (RetI64 (cmpQ p q) w')) := fun w' A1 A2 c1 c2 hb => oValue_any p q bp bq hk hm A1 A2 0 0 c1 c2 w' (ht.below hb)
  unfold ratO at HV
  rw [← cmpQ_neg]
  clear hp hq bp bq hk hm hn hn'
  generalize cmpQ p q = z at *
  generalize Lib.itoa p.num = ln at *
  generalize Lib.itoa (p.den : Int) = ld at *
  generalize Lib.itoa q.num = rn at *
  generalize Lib.itoa (q.den : Int) = rd at *
  go_enter Tryd.func12, Tryd.ntmps12
  go_upto_region 1 with (fail)
  have X0' := Lib.hid ((BlkIs.new w 27 (obCells a (.slice A n c))).alloc (.cells (obCells b (.slice A' n' c')) 27))
  have Y0' := Lib.hid (BlkIs.new1 w (.cells (obCells a (.slice A n c)) 27) 27 (obCells b (.slice A' n' c')))
  have b0 := (box2 (box w (.cells (obCells a (.slice A n c)) 27)) (.cells (obCells b (.slice A' n' c')) 27)).drew
  generalize (w.alloc (.cells (obCells a (.slice A n c)) 27)).alloc (.cells (obCells b (.slice A' n' c')) 27) = W at *
  have X0 := Lib.hid X0'.out.drew
  have Y0 := Lib.hid Y0'.out.drew
  obtain ⟨xs0, xs1, xs2, xs3, xs4, xs5, xs6, xsl⟩ := X0'.out.seven
  obtain ⟨ys0, ys1, ys2, ys3, ys4, ys5, ys6, ysl⟩ := Y0'.out.seven
  go_region_held3 (fun w' => w'.cell? ⟨w.heap.size, 0, none⟩ = some (.int .i64 a.kind) ∧ w'.cell? ⟨w.heap.size, 1, none⟩ = some (str a.num) ∧ w'.cell? ⟨w.heap.size, 2, none⟩ = some (str a.den) ∧ w'.cell? ⟨w.heap.size, 3, none⟩ = some (str a.sp) ∧ w'.cell? ⟨w.heap.size, 4, none⟩ = some (str a.sn) ∧ w'.cell? ⟨w.heap.size, 5, none⟩ = some (str a.text) ∧ w'.cell? ⟨w.heap.size, 6, none⟩ = some (.slice A n c) ∧ w'.cell? ⟨w.heap.size + 1, 0, none⟩ = some (.int .i64 b.kind) ∧ w'.cell? ⟨w.heap.size + 1, 1, none⟩ = some (str b.num) ∧ w'.cell? ⟨w.heap.size + 1, 2, none⟩ = some (str b.den) ∧ w'.cell? ⟨w.heap.size + 1, 3, none⟩ = some (str b.sp) ∧ w'.cell? ⟨w.heap.size + 1, 4, none⟩ = some (str b.sn) ∧ w'.cell? ⟨w.heap.size + 1, 5, none⟩ = some (str b.text) ∧ w'.cell? ⟨w.heap.size + 1, 6, none⟩ = some (.slice A' n' c')) (go_keep)
    (first | (go_at_call 25; ((with_reducible refine (HF1.out _ b0).mono ?_)); rintro e v1 ⟨A1, c1, rfl, hb1⟩; have b1 := then_ b0 hb1; have X1 := Lib.hid (X0.out.below hb1); have Y1 := Lib.hid (Y0.out.below hb1); obtain ⟨xc1_0, xc1_1, xc1_2, xc1_3, xc1_4, xc1_5, xc1_6, xc1_l⟩ := X1.out.seven; obtain ⟨yc1_0, yc1_1, yc1_2, yc1_3, yc1_4, yc1_5, yc1_6, yc1_l⟩ := Y1.out.seven) | (go_at_call 25; ((with_reducible refine (HF2.out _ b1).mono ?_)); rintro e v2 ⟨A2, c2, rfl, hb2⟩; have b2 := then_ b1 hb2; have X2 := Lib.hid (X1.out.below hb2); have Y2 := Lib.hid (Y1.out.below hb2); obtain ⟨xc2_0, xc2_1, xc2_2, xc2_3, xc2_4, xc2_5, xc2_6, xc2_l⟩ := X2.out.seven; obtain ⟨yc2_0, yc2_1, yc2_2, yc2_3, yc2_4, yc2_5, yc2_6, yc2_l⟩ := Y2.out.seven) | (go_at_call 29; ((with_reducible refine (HV.out _ A1 A2 c1 c2 b2).mono ?_)); rintro e v3 ⟨rfl, hb3⟩; have b3 := then_ b2 hb3; have X3 := Lib.hid (X2.out.below hb3); have Y3 := Lib.hid (Y2.out.below hb3); obtain ⟨xc3_0, xc3_1, xc3_2, xc3_3, xc3_4, xc3_5, xc3_6, xc3_l⟩ := X3.out.seven; obtain ⟨yc3_0, yc3_1, yc3_2, yc3_3, yc3_4, yc3_5, yc3_6, yc3_l⟩ := Y3.out.seven))
  go_wp2
  go_ret
  exact ⟨rfl, b3⟩
set_option maxHeartbeats 400000 in
theorem oIsNil_any (o : Ob) (A : Option Addr) (n c : Nat) (w : World) : Calls Tryd.prog 20 #[objV o (.slice A n c)] w (RetBel (.bool (decide (o.kind = 2 ∧ o.sp = lispB ∧ o.sn = nilB))) w) := by
  obtain ⟨k, nm, d, p, s, t, l⟩ := o
  dsimp only
  by_cases hk : k = 2
  · subst hk
    by_cases h1 : p = lispB
    · subst h1
      by_cases h2 : s = nilB
      · subst h2
        rw [decide_eq_true ⟨rfl, rfl, rfl⟩]
        go_enter Tryd.func20, Tryd.ntmps20
        go_wp2
        go_ret
        exact ⟨rfl, box _ _⟩
      · rw [decide_eq_false (fun h => h2 h.2.2)]
        have hz : (s == nilB) = false := by rw [beq_eq_false_iff_ne]; exact h2
        clear h2
        go_enter Tryd.func20, Tryd.ntmps20
        go_wp2
        go_ret
        exact ⟨rfl, box _ _⟩
    · rw [decide_eq_false (fun h => h1 h.2.1)]
      have hz : (p == lispB) = false := by rw [beq_eq_false_iff_ne]; exact h1
      clear h1
      go_enter Tryd.func20, Tryd.ntmps20
      go_wp2
      go_ret
      exact ⟨rfl, box _ _⟩
  · rw [decide_eq_false (fun h => hk h.1)]
    have hz : (k == 2) = false := by rw [beq_eq_false_iff_ne]; exact hk
    clear hk
    go_enter Tryd.func20, Tryd.ntmps20
    go_wp2
    go_ret
    exact ⟨rfl, box _ _⟩
end Go.Proofs.YtcdgckbdplkdbaaDoor
