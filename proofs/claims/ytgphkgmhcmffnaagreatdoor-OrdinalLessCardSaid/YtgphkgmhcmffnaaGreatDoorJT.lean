/- Arithmetic of objects: Sum, Product, Opposite, Reciprocal, Less of package object. -/
import Derived.Test.YtgphkgmhcmffnaaGreatDoorJS
import Derived.Deep.RegionHeld3
import Derived.Deep.RegionLaw
import Derived.Deep.DeepCutAuto
namespace Go.Proofs.YtgphkgmhcmffnaaGreatDoor
open Go.RowKit

theorem far7 (w : World) {g g' : Nat} (hg : g ≠ g') (i : Nat) (v0 v1 v2 v3 v4 v5 v6 : Value) :
    (((((((w.setCell ⟨g', 0, none⟩ v0).setCell ⟨g', 1, none⟩ v1).setCell ⟨g', 2, none⟩ v2).setCell ⟨g', 3, none⟩ v3).setCell ⟨g', 4, none⟩ v4).setCell ⟨g', 5, none⟩ v5).setCell ⟨g', 6, none⟩ v6).cell? ⟨g, i, none⟩ = w.cell? ⟨g, i, none⟩ := by
  have e : ∀ (w : World) (j : Nat) (v : Value), (w.setCell ⟨g', j, none⟩ v).cell? ⟨g, i, none⟩ = w.cell? ⟨g, i, none⟩ := fun w j v => World.cell?_of_block (Below.heap_setCell w ⟨g', j, none⟩ v g hg)
  rw [e, e, e, e, e, e, e]
theorem far7a (w : World) (g i : Nat) (v0 v1 v2 v3 v4 v5 v6 : Value) :
    (((((((w.setCell ⟨g + 1 + 1, 0, none⟩ v0).setCell ⟨g + 1 + 1, 1, none⟩ v1).setCell ⟨g + 1 + 1, 2, none⟩ v2).setCell ⟨g + 1 + 1, 3, none⟩ v3).setCell ⟨g + 1 + 1, 4, none⟩ v4).setCell ⟨g + 1 + 1, 5, none⟩ v5).setCell ⟨g + 1 + 1, 6, none⟩ v6).cell? ⟨g, i, none⟩ = w.cell? ⟨g, i, none⟩ := far7 w (by omega) i _ _ _ _ _ _ _
theorem far7b (w : World) (g i : Nat) (v0 v1 v2 v3 v4 v5 v6 : Value) :
    (((((((w.setCell ⟨g + 1 + 1, 0, none⟩ v0).setCell ⟨g + 1 + 1, 1, none⟩ v1).setCell ⟨g + 1 + 1, 2, none⟩ v2).setCell ⟨g + 1 + 1, 3, none⟩ v3).setCell ⟨g + 1 + 1, 4, none⟩ v4).setCell ⟨g + 1 + 1, 5, none⟩ v5).setCell ⟨g + 1 + 1, 6, none⟩ v6).cell? ⟨g + 1, i, none⟩ = w.cell? ⟨g + 1, i, none⟩ := far7 w (by omega) i _ _ _ _ _ _ _
set_option maxHeartbeats 600000 in
set_option maxRecDepth 100000 in
theorem oProduct_any (a b : Ob) (p q : Rat) (hp : Val a p) (hq : Val b q) {k m : Nat} (bp : Rb k p) (bq : Rb m q) (hk : k ≤ 10000) (hm : m ≤ 10000) (A A' : Option Addr) (n n' c c' : Nat) (hn : a.pair.length = n) (hn' : b.pair.length = n') (w : World) (ht : Tab w) :
    Calls Tryz.prog 99 #[objV a (.slice A n c), objV b (.slice A' n' c')] w (RetNum (p * q) w) := by
  have n1 : Num (k + 1) (Lib.itoa p.num) p.num := ⟨Dec.dval_itoa _, bp.nlen⟩
  have d1 : Num (k + 1) (Lib.itoa (p.den : Int)) p.den := ⟨Dec.dval_itoa _, bp.dlen⟩
  have n2 : Num (m + 1) (Lib.itoa q.num) q.num := ⟨Dec.dval_itoa _, bq.nlen⟩
  have d2 : Num (m + 1) (Lib.itoa (q.den : Int)) q.den := ⟨Dec.dval_itoa _, bq.dlen⟩
  have HF1 : Hid (∀ w' : World, Below w.heap.size w w' → Calls Tryz.prog 116 #[objV a (.slice A n c)] w' (RetNL (Lib.itoa p.num) (Lib.itoa (p.den : Int)) w')) := fun w' hb => oFix_any a p hp A n c hn w' (ht.below hb)
  have HF2 : Hid (∀ w' : World, Below w.heap.size w w' → Calls Tryz.prog 116 #[objV b (.slice A' n' c')] w' (RetNL (Lib.itoa q.num) (Lib.itoa (q.den : Int)) w')) := fun w' hb => oFix_any b q hq A' n' c' hn' w' (ht.below hb)
  have HM1 : Hid (∀ w' : World, Below w.heap.size w w' → Calls Tryz.prog 120 #[str (Lib.itoa (p.num : Int)), str (Lib.itoa (q.num : Int))] w' (RetStr (Lib.itoa (p.num * q.num : Int)) w')) := fun w' hb => mulZ n1 n2 (by omega) (by omega) w' (ht.below hb)
  have HM2 : Hid (∀ w' : World, Below w.heap.size w w' → Calls Tryz.prog 120 #[str (Lib.itoa (p.den : Int)), str (Lib.itoa (q.den : Int))] w' (RetStr (Lib.itoa (p.den * q.den : Int)) w')) := fun w' hb => mulZ d1 d2 (by omega) (by omega) w' (ht.below hb)
  have HR : Hid (∀ w' : World, Below w.heap.size w w' → Calls Tryz.prog 119 #[str (Lib.itoa (p.num * q.num : Int)), str (Lib.itoa (p.den * q.den : Int))] w' (RetLeaf (ratO (p * q)) w')) := fun w' hb => by
    have := oRationalQ (Lib.itoa (p.num * q.num : Int)) (Lib.itoa (p.den * q.den : Int)) w' (by have := (n1.mul n2).len; omega) (by have := (d1.mul d2).len; omega) (ht.below hb)
    rwa [Dec.dval_itoa, Dec.dval_itoa, ← Rat.mul_div] at this
  clear n1 n2 d1 d2 hp hq bp bq hk hm hn hn'
  generalize Lib.itoa (p.num * q.num : Int) = l1 at *
  generalize Lib.itoa (p.den * q.den : Int) = l2 at *
  generalize Lib.itoa (p.num : Int) = ln at *
  generalize Lib.itoa (q.num : Int) = rn at *
  generalize Lib.itoa (p.den : Int) = ld at *
  generalize Lib.itoa (q.den : Int) = rd at *
  generalize Lib.itoa (p * q).num = qn at *
  generalize Lib.itoa ((p * q).den : Int) = qd at *
  go_enter Tryz.func99, Tryz.ntmps99
  go_upto_region 1 with (fail)
  have X0 := Lib.hid (((BlkIs.new w 31 (obCells a (.slice A n c))).alloc (.cells (obCells b (.slice A' n' c')) 31)).alloc (.cells zeroCells 31)).drew
  have Y0 := Lib.hid ((BlkIs.new1 w (.cells (obCells a (.slice A n c)) 31) 31 (obCells b (.slice A' n' c'))).alloc (.cells zeroCells 31)).drew
  have Z0 := Lib.hid (BlkIs.new2 w (.cells (obCells a (.slice A n c)) 31) (.cells (obCells b (.slice A' n' c')) 31) 31 zeroCells).drew
  have b0 := (box2 (box2 (box w (.cells (obCells a (.slice A n c)) 31)) (.cells (obCells b (.slice A' n' c')) 31)) (.cells zeroCells 31)).drew
  have X0' := Lib.hid (((BlkIs.new w 31 (obCells a (.slice A n c))).alloc (.cells (obCells b (.slice A' n' c')) 31)).alloc (.cells zeroCells 31))
  have Y0' := Lib.hid ((BlkIs.new1 w (.cells (obCells a (.slice A n c)) 31) 31 (obCells b (.slice A' n' c'))).alloc (.cells zeroCells 31))
  generalize ((w.alloc (.cells (obCells a (.slice A n c)) 31)).alloc (.cells (obCells b (.slice A' n' c')) 31)).alloc (.cells zeroCells 31) = W at *
  obtain ⟨xs0, xs1, xs2, xs3, xs4, xs5, xs6, xsl⟩ := X0'.out.seven
  obtain ⟨ys0, ys1, ys2, ys3, ys4, ys5, ys6, ysl⟩ := Y0'.out.seven
  clear X0' Y0'
  go_cut [2] (fun s2 wx => s2 = .pointer (some ⟨w.heap.size, 0, none⟩) ∧ ∃ (A1 A2 : Option Addr) (c1 c2 : Nat), Hid (BlkIs wx w.heap.size 31 (obCells (numO ln ld) (.slice A1 0 c1))) ∧ Hid (BlkIs wx (w.heap.size + 1) 31 (obCells (numO rn rd) (.slice A2 0 c2))) ∧ Hid (BlkIs wx (w.heap.size + 1 + 1) 31 zeroCells) ∧ Below w.heap.size w wx)
  case first =>
    go_region_law
      (first | (go_simp; go_at_call 116; ((with_reducible refine (HF1.out _ b0).mono ?_)); rintro e v1 ⟨A1, c1, rfl, hb1⟩; have b1 := then_ b0 hb1; have X1 := Lib.hid (X0.out.below hb1); have Y1 := Lib.hid (Y0.out.below hb1); have Z1 := Lib.hid (Z0.out.below hb1); obtain ⟨xc1_0, xc1_1, xc1_2, xc1_3, xc1_4, xc1_5, xc1_6, xc1_l⟩ := X1.out.seven; obtain ⟨yc1_0, yc1_1, yc1_2, yc1_3, yc1_4, yc1_5, yc1_6, yc1_l⟩ := Y1.out.seven; obtain ⟨xg1_f0, xg1_f1, xg1_f2, xg1_f3, xg1_f4, xg1_f5, xg1_f6⟩ := X1.out.frozen7; obtain ⟨yg1_f0, yg1_f1, yg1_f2, yg1_f3, yg1_f4, yg1_f5, yg1_f6⟩ := Y1.out.frozen7) | (go_simp; go_at_call 116; ((with_reducible refine (HF2.out _ b1).mono ?_)); rintro e v2 ⟨A2, c2, rfl, hb2⟩; have b2 := then_ b1 hb2; have X2 := Lib.hid (X1.out.below hb2); have Y2 := Lib.hid (Y1.out.below hb2); have Z2 := Lib.hid (Z1.out.below hb2); obtain ⟨xc2_0, xc2_1, xc2_2, xc2_3, xc2_4, xc2_5, xc2_6, xc2_l⟩ := X2.out.seven; obtain ⟨yc2_0, yc2_1, yc2_2, yc2_3, yc2_4, yc2_5, yc2_6, yc2_l⟩ := Y2.out.seven; obtain ⟨xg2_f0, xg2_f1, xg2_f2, xg2_f3, xg2_f4, xg2_f5, xg2_f6⟩ := X2.out.frozen7; obtain ⟨yg2_f0, yg2_f1, yg2_f2, yg2_f3, yg2_f4, yg2_f5, yg2_f6⟩ := Y2.out.frozen7))
    all_goals (go_wp2_with fail; go_meet)
    all_goals exact ⟨rfl, A1, A2, c1, c2, Lib.hid (X2.out.put7.far7 (by omega) _ _ _ _ _ _ _), Lib.hid ((Y2.out.far7 (by omega) _ _ _ _ _ _ _).put7), Lib.hid ((Z2.out.far7 (by omega) _ _ _ _ _ _ _).far7 (by omega) _ _ _ _ _ _ _), set7 (set7 b2 (Nat.le_refl _) _ _ _ _ _ _ _) (Nat.le_succ _) _ _ _ _ _ _ _⟩
  case rest =>
    obtain ⟨rfl, A1, A2, c1, c2, X0, Y0, Z0, b0⟩ := hcut
    clear HF1 HF2
    go_upto_region 2 with (fail)
    obtain ⟨xs0, xs1, xs2, xs3, xs4, xs5, xs6, xsl⟩ := X0.out.seven
    obtain ⟨ys0, ys1, ys2, ys3, ys4, ys5, ys6, ysl⟩ := Y0.out.seven
    have b0 := b0.drew
    have X0 := Lib.hid X0.out.drew
    have Y0 := Lib.hid Y0.out.drew
    have Z0 := Lib.hid Z0.out.drew
    go_region_held3 (fun w' => w'.cell? ⟨w.heap.size, 1, none⟩ = some (str ln) ∧ w'.cell? ⟨w.heap.size, 2, none⟩ = some (str ld) ∧ w'.cell? ⟨w.heap.size + 1, 1, none⟩ = some (str rn) ∧ w'.cell? ⟨w.heap.size + 1, 2, none⟩ = some (str rd)) (first | (refine ⟨?_, ?_, ?_, ?_⟩ <;> first | (rw [far7a]; assumption) | (rw [far7b]; assumption)) | go_keep)
      (first | (go_at_call 120; ((with_reducible refine (HM1.out _ b0).mono ?_)); rintro e v1 ⟨rfl, hb1⟩; have b1 := then_ b0 hb1; have X1 := Lib.hid (X0.out.below hb1); have Y1 := Lib.hid (Y0.out.below hb1); have Z1 := Lib.hid (Z0.out.below hb1); obtain ⟨xc1_0, xc1_1, xc1_2, xc1_3, xc1_4, xc1_5, xc1_6, xc1_l⟩ := X1.out.seven; obtain ⟨yc1_0, yc1_1, yc1_2, yc1_3, yc1_4, yc1_5, yc1_6, yc1_l⟩ := Y1.out.seven) | (go_at_call 120; ((with_reducible refine (HM2.out _ b1).mono ?_)); rintro e v2 ⟨rfl, hb2⟩; have b2 := then_ b1 hb2; have X2 := Lib.hid (X1.out.below hb2); have Y2 := Lib.hid (Y1.out.below hb2); have Z2 := Lib.hid (Z1.out.below hb2); obtain ⟨xc2_0, xc2_1, xc2_2, xc2_3, xc2_4, xc2_5, xc2_6, xc2_l⟩ := X2.out.seven; obtain ⟨yc2_0, yc2_1, yc2_2, yc2_3, yc2_4, yc2_5, yc2_6, yc2_l⟩ := Y2.out.seven) | (go_at_call 119; ((with_reducible refine (HR.out _ b2).mono ?_)); rintro e v3 ⟨rfl, hb3⟩; have b3 := then_ b2 hb3; have X3 := Lib.hid (X2.out.below hb3); have Y3 := Lib.hid (Y2.out.below hb3); have Z3 := Lib.hid (Z2.out.below hb3); obtain ⟨xc3_0, xc3_1, xc3_2, xc3_3, xc3_4, xc3_5, xc3_6, xc3_l⟩ := X3.out.seven; obtain ⟨yc3_0, yc3_1, yc3_2, yc3_3, yc3_4, yc3_5, yc3_6, yc3_l⟩ := Y3.out.seven; obtain ⟨zc3_0, zc3_1, zc3_2, zc3_3, zc3_4, zc3_5, zc3_6, zc3_l⟩ := Z3.out.seven; obtain ⟨zg3_f0, zg3_f1, zg3_f2, zg3_f3, zg3_f4, zg3_f5, zg3_f6⟩ := Z3.out.frozen7))
    go_wp2
    exact ret_obj Tryz.results99 rfl Z3.out.put7 rfl ⟨none, 0, rfl, set7 b3 (by omega) _ _ _ _ _ _ _⟩
set_option maxHeartbeats 600000 in
set_option maxRecDepth 100000 in
theorem oSum_int (a b : Ob) (p q : Rat) (hp : Val a p) (hq : Val b q) {k m : Nat} (bp : Rb k p) (bq : Rb m q) (hk : k ≤ 10000) (hm : m ≤ 10000) (A A' : Option Addr) (n n' c c' : Nat) (hn : a.pair.length = n) (hn' : b.pair.length = n') (w : World) (ht : Tab w) (h1 : p.den = 1) (h2 : q.den = 1) :
    Calls Tryz.prog 94 #[objV a (.slice A n c), objV b (.slice A' n' c')] w (RetNum (p + q) w) := by
  have n1 : Num (k + 1) (Lib.itoa p.num) p.num := ⟨Dec.dval_itoa _, bp.nlen⟩
  have d1 : Num (k + 1) (Lib.itoa (p.den : Int)) p.den := ⟨Dec.dval_itoa _, bp.dlen⟩
  have n2 : Num (m + 1) (Lib.itoa q.num) q.num := ⟨Dec.dval_itoa _, bq.nlen⟩
  have d2 : Num (m + 1) (Lib.itoa (q.den : Int)) q.den := ⟨Dec.dval_itoa _, bq.dlen⟩
  have HF1 : Hid (∀ w' : World, Below w.heap.size w w' → Calls Tryz.prog 116 #[objV a (.slice A n c)] w' (RetNL (Lib.itoa p.num) (Lib.itoa (p.den : Int)) w')) := fun w' hb => oFix_any a p hp A n c hn w' (ht.below hb)
  have HF2 : Hid (∀ w' : World, Below w.heap.size w w' → Calls Tryz.prog 116 #[objV b (.slice A' n' c')] w' (RetNL (Lib.itoa q.num) (Lib.itoa (q.den : Int)) w')) := fun w' hb => oFix_any b q hq A' n' c' hn' w' (ht.below hb)
  have HA : Hid (∀ w' : World, Below w.heap.size w w' → Calls Tryz.prog 118 #[str (Lib.itoa (p.num : Int)), str (Lib.itoa (q.num : Int))] w' (RetStr (Lib.itoa (p.num + q.num : Int)) w')) := fun w' hb => addZ n1 n2 (by omega) (by omega) w' (ht.below hb)
  have e : Lib.itoa (p + q).num = Lib.itoa (p.num + q.num) ∧ Lib.itoa ((p + q).den : Int) = [49] := by
    have e1 := Rat.int_of_den h1
    have e2 := Rat.int_of_den h2
    have e3 : p + q = ((p.num + q.num : Int) : Rat) := by rw [Rat.intCast_add, ← e1, ← e2]
    refine ⟨?_, ?_⟩
    · rw [e3, Rat.num_intCast]
    · rw [den_one, e3, Rat.den_intCast]
  unfold RetNum
  rw [e.1, e.2]
  rw [den_one.2 h1] at HF1
  rw [den_one.2 h2] at HF2
  clear n1 n2 d1 d2 hp hq bp bq hk hm hn hn' e h1 h2
  generalize Lib.itoa (p.num + q.num : Int) = l1 at *
  generalize Lib.itoa (p.num : Int) = ln at *
  generalize Lib.itoa (q.num : Int) = rn at *
  obtain ⟨ld, hld⟩ : ∃ ld : List UInt8, Hid (ld = [49]) := ⟨_, Lib.hid rfl⟩
  obtain ⟨rd, hrd⟩ : ∃ rd : List UInt8, Hid (rd = [49]) := ⟨_, Lib.hid rfl⟩
  rw [← hld.out] at HF1
  rw [← hrd.out] at HF2
  go_enter Tryz.func94, Tryz.ntmps94
  go_upto_region 1 with (fail)
  have X0 := Lib.hid (((BlkIs.new w 31 (obCells a (.slice A n c))).alloc (.cells (obCells b (.slice A' n' c')) 31)).alloc (.cells zeroCells 31)).drew
  have Y0 := Lib.hid ((BlkIs.new1 w (.cells (obCells a (.slice A n c)) 31) 31 (obCells b (.slice A' n' c'))).alloc (.cells zeroCells 31)).drew
  have Z0 := Lib.hid (BlkIs.new2 w (.cells (obCells a (.slice A n c)) 31) (.cells (obCells b (.slice A' n' c')) 31) 31 zeroCells).drew
  have b0 := (box2 (box2 (box w (.cells (obCells a (.slice A n c)) 31)) (.cells (obCells b (.slice A' n' c')) 31)) (.cells zeroCells 31)).drew
  have X0' := Lib.hid (((BlkIs.new w 31 (obCells a (.slice A n c))).alloc (.cells (obCells b (.slice A' n' c')) 31)).alloc (.cells zeroCells 31))
  have Y0' := Lib.hid ((BlkIs.new1 w (.cells (obCells a (.slice A n c)) 31) 31 (obCells b (.slice A' n' c'))).alloc (.cells zeroCells 31))
  generalize ((w.alloc (.cells (obCells a (.slice A n c)) 31)).alloc (.cells (obCells b (.slice A' n' c')) 31)).alloc (.cells zeroCells 31) = W at *
  obtain ⟨xs0, xs1, xs2, xs3, xs4, xs5, xs6, xsl⟩ := X0'.out.seven
  obtain ⟨ys0, ys1, ys2, ys3, ys4, ys5, ys6, ysl⟩ := Y0'.out.seven
  clear X0' Y0'
  go_cut [2] (fun s2 wx => s2 = .pointer (some ⟨w.heap.size, 0, none⟩) ∧ ∃ (A1 A2 : Option Addr) (c1 c2 : Nat), Hid (BlkIs wx w.heap.size 31 (obCells (numO ln ld) (.slice A1 0 c1))) ∧ Hid (BlkIs wx (w.heap.size + 1) 31 (obCells (numO rn rd) (.slice A2 0 c2))) ∧ Hid (BlkIs wx (w.heap.size + 1 + 1) 31 zeroCells) ∧ Below w.heap.size w wx)
  case first =>
    go_region_law
      (first | (go_simp; go_at_call 116; ((with_reducible refine (HF1.out _ b0).mono ?_)); rintro e v1 ⟨A1, c1, rfl, hb1⟩; have b1 := then_ b0 hb1; have X1 := Lib.hid (X0.out.below hb1); have Y1 := Lib.hid (Y0.out.below hb1); have Z1 := Lib.hid (Z0.out.below hb1); obtain ⟨xc1_0, xc1_1, xc1_2, xc1_3, xc1_4, xc1_5, xc1_6, xc1_l⟩ := X1.out.seven; obtain ⟨yc1_0, yc1_1, yc1_2, yc1_3, yc1_4, yc1_5, yc1_6, yc1_l⟩ := Y1.out.seven; obtain ⟨xg1_f0, xg1_f1, xg1_f2, xg1_f3, xg1_f4, xg1_f5, xg1_f6⟩ := X1.out.frozen7; obtain ⟨yg1_f0, yg1_f1, yg1_f2, yg1_f3, yg1_f4, yg1_f5, yg1_f6⟩ := Y1.out.frozen7) | (go_simp; go_at_call 116; ((with_reducible refine (HF2.out _ b1).mono ?_)); rintro e v2 ⟨A2, c2, rfl, hb2⟩; have b2 := then_ b1 hb2; have X2 := Lib.hid (X1.out.below hb2); have Y2 := Lib.hid (Y1.out.below hb2); have Z2 := Lib.hid (Z1.out.below hb2); obtain ⟨xc2_0, xc2_1, xc2_2, xc2_3, xc2_4, xc2_5, xc2_6, xc2_l⟩ := X2.out.seven; obtain ⟨yc2_0, yc2_1, yc2_2, yc2_3, yc2_4, yc2_5, yc2_6, yc2_l⟩ := Y2.out.seven; obtain ⟨xg2_f0, xg2_f1, xg2_f2, xg2_f3, xg2_f4, xg2_f5, xg2_f6⟩ := X2.out.frozen7; obtain ⟨yg2_f0, yg2_f1, yg2_f2, yg2_f3, yg2_f4, yg2_f5, yg2_f6⟩ := Y2.out.frozen7))
    all_goals (go_wp2_with fail; go_meet)
    all_goals exact ⟨rfl, A1, A2, c1, c2, Lib.hid (X2.out.put7.far7 (by omega) _ _ _ _ _ _ _), Lib.hid ((Y2.out.far7 (by omega) _ _ _ _ _ _ _).put7), Lib.hid ((Z2.out.far7 (by omega) _ _ _ _ _ _ _).far7 (by omega) _ _ _ _ _ _ _), set7 (set7 b2 (Nat.le_refl _) _ _ _ _ _ _ _) (Nat.le_succ _) _ _ _ _ _ _ _⟩
  case rest =>
    obtain ⟨rfl, A1, A2, c1, c2, X0, Y0, Z0, b0⟩ := hcut
    clear HF1 HF2
    replace hld := hld.out
    replace hrd := hrd.out
    subst hld hrd
    obtain ⟨xs0, xs1, xs2, xs3, xs4, xs5, xs6, xsl⟩ := X0.out.seven
    obtain ⟨ys0, ys1, ys2, ys3, ys4, ys5, ys6, ysl⟩ := Y0.out.seven
    go_wp2_with fail
    refine (HA.out _ b0).mono ?_
    rintro e v1 ⟨rfl, hb1⟩
    have b1 := then_ b0 hb1
    go_wp2_with fail
    refine (oInteger_any _ _).mono ?_
    rintro e v2 ⟨rfl, hb2⟩
    have Z2 := Lib.hid ((Z0.out.below hb1).below hb2)
    obtain ⟨zs0, zs1, zs2, zs3, zs4, zs5, zs6, zsl⟩ := Z2.out.seven
    obtain ⟨zsf0, zsf1, zsf2, zsf3, zsf4, zsf5, zsf6⟩ := Z2.out.frozen7
    go_wp2
    exact ret_obj Tryz.results94 rfl Z2.out.put7 rfl ⟨none, 0, rfl, set7 (then_ b1 hb2) (by omega) _ _ _ _ _ _ _⟩
set_option maxHeartbeats 600000 in
set_option maxRecDepth 100000 in
theorem oSum_no1 (a b : Ob) (p q : Rat) (hp : Val a p) (hq : Val b q) {k m : Nat} (bp : Rb k p) (bq : Rb m q) (hk : k ≤ 10000) (hm : m ≤ 10000) (A A' : Option Addr) (n n' c c' : Nat) (hn : a.pair.length = n) (hn' : b.pair.length = n') (w : World) (ht : Tab w) (h1 : p.den ≠ 1) :
    Calls Tryz.prog 94 #[objV a (.slice A n c), objV b (.slice A' n' c')] w (RetNum (p + q) w) := by
  have n1 : Num (k + 1) (Lib.itoa p.num) p.num := ⟨Dec.dval_itoa _, bp.nlen⟩
  have d1 : Num (k + 1) (Lib.itoa (p.den : Int)) p.den := ⟨Dec.dval_itoa _, bp.dlen⟩
  have n2 : Num (m + 1) (Lib.itoa q.num) q.num := ⟨Dec.dval_itoa _, bq.nlen⟩
  have d2 : Num (m + 1) (Lib.itoa (q.den : Int)) q.den := ⟨Dec.dval_itoa _, bq.dlen⟩
  have HF1 : Hid (∀ w' : World, Below w.heap.size w w' → Calls Tryz.prog 116 #[objV a (.slice A n c)] w' (RetNL (Lib.itoa p.num) (Lib.itoa (p.den : Int)) w')) := fun w' hb => oFix_any a p hp A n c hn w' (ht.below hb)
  have HF2 : Hid (∀ w' : World, Below w.heap.size w w' → Calls Tryz.prog 116 #[objV b (.slice A' n' c')] w' (RetNL (Lib.itoa q.num) (Lib.itoa (q.den : Int)) w')) := fun w' hb => oFix_any b q hq A' n' c' hn' w' (ht.below hb)
  have HM1 : Hid (∀ w' : World, Below w.heap.size w w' → Calls Tryz.prog 120 #[str (Lib.itoa (p.num : Int)), str (Lib.itoa (q.den : Int))] w' (RetStr (Lib.itoa (p.num * q.den : Int)) w')) := fun w' hb => mulZ n1 d2 (by omega) (by omega) w' (ht.below hb)
  have HM2 : Hid (∀ w' : World, Below w.heap.size w w' → Calls Tryz.prog 120 #[str (Lib.itoa (q.num : Int)), str (Lib.itoa (p.den : Int))] w' (RetStr (Lib.itoa (q.num * p.den : Int)) w')) := fun w' hb => mulZ n2 d1 (by omega) (by omega) w' (ht.below hb)
  have HA : Hid (∀ w' : World, Below w.heap.size w w' → Calls Tryz.prog 118 #[str (Lib.itoa (p.num * q.den : Int)), str (Lib.itoa (q.num * p.den : Int))] w' (RetStr (Lib.itoa (p.num * q.den + q.num * p.den : Int)) w')) := fun w' hb => addZ (n1.mul d2) (n2.mul d1) (by omega) (by omega) w' (ht.below hb)
  have HM3 : Hid (∀ w' : World, Below w.heap.size w w' → Calls Tryz.prog 120 #[str (Lib.itoa (p.den : Int)), str (Lib.itoa (q.den : Int))] w' (RetStr (Lib.itoa (p.den * q.den : Int)) w')) := fun w' hb => mulZ d1 d2 (by omega) (by omega) w' (ht.below hb)
  have HR : Hid (∀ w' : World, Below w.heap.size w w' → Calls Tryz.prog 119 #[str (Lib.itoa (p.num * q.den + q.num * p.den : Int)), str (Lib.itoa (p.den * q.den : Int))] w' (RetLeaf (ratO (p + q)) w')) := fun w' hb => by
    have := oRationalQ (Lib.itoa (p.num * q.den + q.num * p.den : Int)) (Lib.itoa (p.den * q.den : Int)) w' (by have := ((n1.mul d2).add (n2.mul d1)).len; omega) (by have := (d1.mul d2).len; omega) (ht.below hb)
    rwa [Dec.dval_itoa, Dec.dval_itoa, ← Rat.add_div] at this
  have hz : (Lib.itoa (p.den : Int) == [49]) = false := by rw [beq_eq_false_iff_ne]; exact fun e => h1 (den_one.1 e)
  clear h1
  clear n1 n2 d1 d2 hp hq bp bq hk hm hn hn'
  generalize Lib.itoa (p.num * q.den + q.num * p.den : Int) = l0 at *
  generalize Lib.itoa (p.num * q.den : Int) = l1 at *
  generalize Lib.itoa (q.num * p.den : Int) = l2 at *
  generalize Lib.itoa (p.den * q.den : Int) = l3 at *
  generalize Lib.itoa (p.num : Int) = ln at *
  generalize Lib.itoa (q.num : Int) = rn at *
  generalize Lib.itoa (p.den : Int) = ld at *
  generalize Lib.itoa (q.den : Int) = rd at *
  generalize Lib.itoa (p + q).num = qn at *
  generalize Lib.itoa ((p + q).den : Int) = qd at *
  go_enter Tryz.func94, Tryz.ntmps94
  go_upto_region 1 with (fail)
  have X0 := Lib.hid (((BlkIs.new w 31 (obCells a (.slice A n c))).alloc (.cells (obCells b (.slice A' n' c')) 31)).alloc (.cells zeroCells 31)).drew
  have Y0 := Lib.hid ((BlkIs.new1 w (.cells (obCells a (.slice A n c)) 31) 31 (obCells b (.slice A' n' c'))).alloc (.cells zeroCells 31)).drew
  have Z0 := Lib.hid (BlkIs.new2 w (.cells (obCells a (.slice A n c)) 31) (.cells (obCells b (.slice A' n' c')) 31) 31 zeroCells).drew
  have b0 := (box2 (box2 (box w (.cells (obCells a (.slice A n c)) 31)) (.cells (obCells b (.slice A' n' c')) 31)) (.cells zeroCells 31)).drew
  have X0' := Lib.hid (((BlkIs.new w 31 (obCells a (.slice A n c))).alloc (.cells (obCells b (.slice A' n' c')) 31)).alloc (.cells zeroCells 31))
  have Y0' := Lib.hid ((BlkIs.new1 w (.cells (obCells a (.slice A n c)) 31) 31 (obCells b (.slice A' n' c'))).alloc (.cells zeroCells 31))
  generalize ((w.alloc (.cells (obCells a (.slice A n c)) 31)).alloc (.cells (obCells b (.slice A' n' c')) 31)).alloc (.cells zeroCells 31) = W at *
  obtain ⟨xs0, xs1, xs2, xs3, xs4, xs5, xs6, xsl⟩ := X0'.out.seven
  obtain ⟨ys0, ys1, ys2, ys3, ys4, ys5, ys6, ysl⟩ := Y0'.out.seven
  clear X0' Y0'
  go_cut [2] (fun s2 wx => s2 = .pointer (some ⟨w.heap.size, 0, none⟩) ∧ ∃ (A1 A2 : Option Addr) (c1 c2 : Nat), Hid (BlkIs wx w.heap.size 31 (obCells (numO ln ld) (.slice A1 0 c1))) ∧ Hid (BlkIs wx (w.heap.size + 1) 31 (obCells (numO rn rd) (.slice A2 0 c2))) ∧ Hid (BlkIs wx (w.heap.size + 1 + 1) 31 zeroCells) ∧ Below w.heap.size w wx)
  case first =>
    go_region_law
      (first | (go_simp; go_at_call 116; ((with_reducible refine (HF1.out _ b0).mono ?_)); rintro e v1 ⟨A1, c1, rfl, hb1⟩; have b1 := then_ b0 hb1; have X1 := Lib.hid (X0.out.below hb1); have Y1 := Lib.hid (Y0.out.below hb1); have Z1 := Lib.hid (Z0.out.below hb1); obtain ⟨xc1_0, xc1_1, xc1_2, xc1_3, xc1_4, xc1_5, xc1_6, xc1_l⟩ := X1.out.seven; obtain ⟨yc1_0, yc1_1, yc1_2, yc1_3, yc1_4, yc1_5, yc1_6, yc1_l⟩ := Y1.out.seven; obtain ⟨xg1_f0, xg1_f1, xg1_f2, xg1_f3, xg1_f4, xg1_f5, xg1_f6⟩ := X1.out.frozen7; obtain ⟨yg1_f0, yg1_f1, yg1_f2, yg1_f3, yg1_f4, yg1_f5, yg1_f6⟩ := Y1.out.frozen7) | (go_simp; go_at_call 116; ((with_reducible refine (HF2.out _ b1).mono ?_)); rintro e v2 ⟨A2, c2, rfl, hb2⟩; have b2 := then_ b1 hb2; have X2 := Lib.hid (X1.out.below hb2); have Y2 := Lib.hid (Y1.out.below hb2); have Z2 := Lib.hid (Z1.out.below hb2); obtain ⟨xc2_0, xc2_1, xc2_2, xc2_3, xc2_4, xc2_5, xc2_6, xc2_l⟩ := X2.out.seven; obtain ⟨yc2_0, yc2_1, yc2_2, yc2_3, yc2_4, yc2_5, yc2_6, yc2_l⟩ := Y2.out.seven; obtain ⟨xg2_f0, xg2_f1, xg2_f2, xg2_f3, xg2_f4, xg2_f5, xg2_f6⟩ := X2.out.frozen7; obtain ⟨yg2_f0, yg2_f1, yg2_f2, yg2_f3, yg2_f4, yg2_f5, yg2_f6⟩ := Y2.out.frozen7))
    all_goals (go_wp2_with fail; go_meet)
    all_goals exact ⟨rfl, A1, A2, c1, c2, Lib.hid (X2.out.put7.far7 (by omega) _ _ _ _ _ _ _), Lib.hid ((Y2.out.far7 (by omega) _ _ _ _ _ _ _).put7), Lib.hid ((Z2.out.far7 (by omega) _ _ _ _ _ _ _).far7 (by omega) _ _ _ _ _ _ _), set7 (set7 b2 (Nat.le_refl _) _ _ _ _ _ _ _) (Nat.le_succ _) _ _ _ _ _ _ _⟩
  case rest =>
    obtain ⟨rfl, A1, A2, c1, c2, X0, Y0, Z0, b0⟩ := hcut
    clear HF1 HF2
    obtain ⟨xs0, xs1, xs2, xs3, xs4, xs5, xs6, xsl⟩ := X0.out.seven
    obtain ⟨ys0, ys1, ys2, ys3, ys4, ys5, ys6, ysl⟩ := Y0.out.seven
    go_upto_region 4 with (fail)
    have b0 := b0.drew
    have X0 := Lib.hid X0.out.drew
    have Y0 := Lib.hid Y0.out.drew
    have Z0 := Lib.hid Z0.out.drew
    go_region_held3 (fun w' => w'.cell? ⟨w.heap.size, 1, none⟩ = some (str ln) ∧ w'.cell? ⟨w.heap.size, 2, none⟩ = some (str ld) ∧ w'.cell? ⟨w.heap.size + 1, 1, none⟩ = some (str rn) ∧ w'.cell? ⟨w.heap.size + 1, 2, none⟩ = some (str rd)) (first | (refine ⟨?_, ?_, ?_, ?_⟩ <;> first | (rw [far7a]; assumption) | (rw [far7b]; assumption)) | go_keep)
      (first | (go_at_call 120; ((with_reducible refine (HM1.out _ b0).mono ?_)); rintro e v1 ⟨rfl, hb1⟩; have b1 := then_ b0 hb1; have X1 := Lib.hid (X0.out.below hb1); have Y1 := Lib.hid (Y0.out.below hb1); have Z1 := Lib.hid (Z0.out.below hb1); obtain ⟨xc1_0, xc1_1, xc1_2, xc1_3, xc1_4, xc1_5, xc1_6, xc1_l⟩ := X1.out.seven; obtain ⟨yc1_0, yc1_1, yc1_2, yc1_3, yc1_4, yc1_5, yc1_6, yc1_l⟩ := Y1.out.seven) | (go_at_call 120; ((with_reducible refine (HM2.out _ b1).mono ?_)); rintro e v2 ⟨rfl, hb2⟩; have b2 := then_ b1 hb2; have X2 := Lib.hid (X1.out.below hb2); have Y2 := Lib.hid (Y1.out.below hb2); have Z2 := Lib.hid (Z1.out.below hb2); obtain ⟨xc2_0, xc2_1, xc2_2, xc2_3, xc2_4, xc2_5, xc2_6, xc2_l⟩ := X2.out.seven; obtain ⟨yc2_0, yc2_1, yc2_2, yc2_3, yc2_4, yc2_5, yc2_6, yc2_l⟩ := Y2.out.seven) | (go_at_call 118; ((with_reducible refine (HA.out _ b2).mono ?_)); rintro e v3 ⟨rfl, hb3⟩; have b3 := then_ b2 hb3; have X3 := Lib.hid (X2.out.below hb3); have Y3 := Lib.hid (Y2.out.below hb3); have Z3 := Lib.hid (Z2.out.below hb3); obtain ⟨xc3_0, xc3_1, xc3_2, xc3_3, xc3_4, xc3_5, xc3_6, xc3_l⟩ := X3.out.seven; obtain ⟨yc3_0, yc3_1, yc3_2, yc3_3, yc3_4, yc3_5, yc3_6, yc3_l⟩ := Y3.out.seven) | (go_at_call 120; ((with_reducible refine (HM3.out _ b3).mono ?_)); rintro e v4 ⟨rfl, hb4⟩; have b4 := then_ b3 hb4; have X4 := Lib.hid (X3.out.below hb4); have Y4 := Lib.hid (Y3.out.below hb4); have Z4 := Lib.hid (Z3.out.below hb4); obtain ⟨xc4_0, xc4_1, xc4_2, xc4_3, xc4_4, xc4_5, xc4_6, xc4_l⟩ := X4.out.seven; obtain ⟨yc4_0, yc4_1, yc4_2, yc4_3, yc4_4, yc4_5, yc4_6, yc4_l⟩ := Y4.out.seven) | (go_at_call 119; ((with_reducible refine (HR.out _ b4).mono ?_)); rintro e v5 ⟨rfl, hb5⟩; have b5 := then_ b4 hb5; have X5 := Lib.hid (X4.out.below hb5); have Y5 := Lib.hid (Y4.out.below hb5); have Z5 := Lib.hid (Z4.out.below hb5); obtain ⟨xc5_0, xc5_1, xc5_2, xc5_3, xc5_4, xc5_5, xc5_6, xc5_l⟩ := X5.out.seven; obtain ⟨yc5_0, yc5_1, yc5_2, yc5_3, yc5_4, yc5_5, yc5_6, yc5_l⟩ := Y5.out.seven; obtain ⟨zc5_0, zc5_1, zc5_2, zc5_3, zc5_4, zc5_5, zc5_6, zc5_l⟩ := Z5.out.seven; obtain ⟨zg5_f0, zg5_f1, zg5_f2, zg5_f3, zg5_f4, zg5_f5, zg5_f6⟩ := Z5.out.frozen7))
    go_wp2
    exact ret_obj Tryz.results94 rfl Z5.out.put7 rfl ⟨none, 0, rfl, set7 b5 (by omega) _ _ _ _ _ _ _⟩
set_option maxHeartbeats 600000 in
set_option maxRecDepth 100000 in
theorem oSum_no2 (a b : Ob) (p q : Rat) (hp : Val a p) (hq : Val b q) {k m : Nat} (bp : Rb k p) (bq : Rb m q) (hk : k ≤ 10000) (hm : m ≤ 10000) (A A' : Option Addr) (n n' c c' : Nat) (hn : a.pair.length = n) (hn' : b.pair.length = n') (w : World) (ht : Tab w) (h1 : p.den = 1) (h2 : q.den ≠ 1) :
    Calls Tryz.prog 94 #[objV a (.slice A n c), objV b (.slice A' n' c')] w (RetNum (p + q) w) := by
  have n1 : Num (k + 1) (Lib.itoa p.num) p.num := ⟨Dec.dval_itoa _, bp.nlen⟩
  have d1 : Num (k + 1) (Lib.itoa (p.den : Int)) p.den := ⟨Dec.dval_itoa _, bp.dlen⟩
  have n2 : Num (m + 1) (Lib.itoa q.num) q.num := ⟨Dec.dval_itoa _, bq.nlen⟩
  have d2 : Num (m + 1) (Lib.itoa (q.den : Int)) q.den := ⟨Dec.dval_itoa _, bq.dlen⟩
  have HF1 : Hid (∀ w' : World, Below w.heap.size w w' → Calls Tryz.prog 116 #[objV a (.slice A n c)] w' (RetNL (Lib.itoa p.num) (Lib.itoa (p.den : Int)) w')) := fun w' hb => oFix_any a p hp A n c hn w' (ht.below hb)
  have HF2 : Hid (∀ w' : World, Below w.heap.size w w' → Calls Tryz.prog 116 #[objV b (.slice A' n' c')] w' (RetNL (Lib.itoa q.num) (Lib.itoa (q.den : Int)) w')) := fun w' hb => oFix_any b q hq A' n' c' hn' w' (ht.below hb)
  have HM1 : Hid (∀ w' : World, Below w.heap.size w w' → Calls Tryz.prog 120 #[str (Lib.itoa (p.num : Int)), str (Lib.itoa (q.den : Int))] w' (RetStr (Lib.itoa (p.num * q.den : Int)) w')) := fun w' hb => mulZ n1 d2 (by omega) (by omega) w' (ht.below hb)
  have HM2 : Hid (∀ w' : World, Below w.heap.size w w' → Calls Tryz.prog 120 #[str (Lib.itoa (q.num : Int)), str (Lib.itoa (p.den : Int))] w' (RetStr (Lib.itoa (q.num * p.den : Int)) w')) := fun w' hb => mulZ n2 d1 (by omega) (by omega) w' (ht.below hb)
  have HA : Hid (∀ w' : World, Below w.heap.size w w' → Calls Tryz.prog 118 #[str (Lib.itoa (p.num * q.den : Int)), str (Lib.itoa (q.num * p.den : Int))] w' (RetStr (Lib.itoa (p.num * q.den + q.num * p.den : Int)) w')) := fun w' hb => addZ (n1.mul d2) (n2.mul d1) (by omega) (by omega) w' (ht.below hb)
  have HM3 : Hid (∀ w' : World, Below w.heap.size w w' → Calls Tryz.prog 120 #[str (Lib.itoa (p.den : Int)), str (Lib.itoa (q.den : Int))] w' (RetStr (Lib.itoa (p.den * q.den : Int)) w')) := fun w' hb => mulZ d1 d2 (by omega) (by omega) w' (ht.below hb)
  have HR : Hid (∀ w' : World, Below w.heap.size w w' → Calls Tryz.prog 119 #[str (Lib.itoa (p.num * q.den + q.num * p.den : Int)), str (Lib.itoa (p.den * q.den : Int))] w' (RetLeaf (ratO (p + q)) w')) := fun w' hb => by
    have := oRationalQ (Lib.itoa (p.num * q.den + q.num * p.den : Int)) (Lib.itoa (p.den * q.den : Int)) w' (by have := ((n1.mul d2).add (n2.mul d1)).len; omega) (by have := (d1.mul d2).len; omega) (ht.below hb)
    rwa [Dec.dval_itoa, Dec.dval_itoa, ← Rat.add_div] at this
  have hy : Hid (Lib.itoa (p.den : Int) = [49]) := den_one.2 h1
  have hz : (Lib.itoa (q.den : Int) == [49]) = false := by rw [beq_eq_false_iff_ne]; exact fun e => h2 (den_one.1 e)
  clear h1 h2
  clear n1 n2 d1 d2 hp hq bp bq hk hm hn hn'
  generalize Lib.itoa (p.num * q.den + q.num * p.den : Int) = l0 at *
  generalize Lib.itoa (p.num * q.den : Int) = l1 at *
  generalize Lib.itoa (q.num * p.den : Int) = l2 at *
  generalize Lib.itoa (p.den * q.den : Int) = l3 at *
  generalize Lib.itoa (p.num : Int) = ln at *
  generalize Lib.itoa (q.num : Int) = rn at *
  generalize Lib.itoa (p.den : Int) = ld at *
  generalize Lib.itoa (q.den : Int) = rd at *
  generalize Lib.itoa (p + q).num = qn at *
  generalize Lib.itoa ((p + q).den : Int) = qd at *
  go_enter Tryz.func94, Tryz.ntmps94
  go_upto_region 1 with (fail)
  have X0 := Lib.hid (((BlkIs.new w 31 (obCells a (.slice A n c))).alloc (.cells (obCells b (.slice A' n' c')) 31)).alloc (.cells zeroCells 31)).drew
  have Y0 := Lib.hid ((BlkIs.new1 w (.cells (obCells a (.slice A n c)) 31) 31 (obCells b (.slice A' n' c'))).alloc (.cells zeroCells 31)).drew
  have Z0 := Lib.hid (BlkIs.new2 w (.cells (obCells a (.slice A n c)) 31) (.cells (obCells b (.slice A' n' c')) 31) 31 zeroCells).drew
  have b0 := (box2 (box2 (box w (.cells (obCells a (.slice A n c)) 31)) (.cells (obCells b (.slice A' n' c')) 31)) (.cells zeroCells 31)).drew
  have X0' := Lib.hid (((BlkIs.new w 31 (obCells a (.slice A n c))).alloc (.cells (obCells b (.slice A' n' c')) 31)).alloc (.cells zeroCells 31))
  have Y0' := Lib.hid ((BlkIs.new1 w (.cells (obCells a (.slice A n c)) 31) 31 (obCells b (.slice A' n' c'))).alloc (.cells zeroCells 31))
  generalize ((w.alloc (.cells (obCells a (.slice A n c)) 31)).alloc (.cells (obCells b (.slice A' n' c')) 31)).alloc (.cells zeroCells 31) = W at *
  obtain ⟨xs0, xs1, xs2, xs3, xs4, xs5, xs6, xsl⟩ := X0'.out.seven
  obtain ⟨ys0, ys1, ys2, ys3, ys4, ys5, ys6, ysl⟩ := Y0'.out.seven
  clear X0' Y0'
  go_cut [2] (fun s2 wx => s2 = .pointer (some ⟨w.heap.size, 0, none⟩) ∧ ∃ (A1 A2 : Option Addr) (c1 c2 : Nat), Hid (BlkIs wx w.heap.size 31 (obCells (numO ln ld) (.slice A1 0 c1))) ∧ Hid (BlkIs wx (w.heap.size + 1) 31 (obCells (numO rn rd) (.slice A2 0 c2))) ∧ Hid (BlkIs wx (w.heap.size + 1 + 1) 31 zeroCells) ∧ Below w.heap.size w wx)
  case first =>
    go_region_law
      (first | (go_simp; go_at_call 116; ((with_reducible refine (HF1.out _ b0).mono ?_)); rintro e v1 ⟨A1, c1, rfl, hb1⟩; have b1 := then_ b0 hb1; have X1 := Lib.hid (X0.out.below hb1); have Y1 := Lib.hid (Y0.out.below hb1); have Z1 := Lib.hid (Z0.out.below hb1); obtain ⟨xc1_0, xc1_1, xc1_2, xc1_3, xc1_4, xc1_5, xc1_6, xc1_l⟩ := X1.out.seven; obtain ⟨yc1_0, yc1_1, yc1_2, yc1_3, yc1_4, yc1_5, yc1_6, yc1_l⟩ := Y1.out.seven; obtain ⟨xg1_f0, xg1_f1, xg1_f2, xg1_f3, xg1_f4, xg1_f5, xg1_f6⟩ := X1.out.frozen7; obtain ⟨yg1_f0, yg1_f1, yg1_f2, yg1_f3, yg1_f4, yg1_f5, yg1_f6⟩ := Y1.out.frozen7) | (go_simp; go_at_call 116; ((with_reducible refine (HF2.out _ b1).mono ?_)); rintro e v2 ⟨A2, c2, rfl, hb2⟩; have b2 := then_ b1 hb2; have X2 := Lib.hid (X1.out.below hb2); have Y2 := Lib.hid (Y1.out.below hb2); have Z2 := Lib.hid (Z1.out.below hb2); obtain ⟨xc2_0, xc2_1, xc2_2, xc2_3, xc2_4, xc2_5, xc2_6, xc2_l⟩ := X2.out.seven; obtain ⟨yc2_0, yc2_1, yc2_2, yc2_3, yc2_4, yc2_5, yc2_6, yc2_l⟩ := Y2.out.seven; obtain ⟨xg2_f0, xg2_f1, xg2_f2, xg2_f3, xg2_f4, xg2_f5, xg2_f6⟩ := X2.out.frozen7; obtain ⟨yg2_f0, yg2_f1, yg2_f2, yg2_f3, yg2_f4, yg2_f5, yg2_f6⟩ := Y2.out.frozen7))
    all_goals (go_wp2_with fail; go_meet)
    all_goals exact ⟨rfl, A1, A2, c1, c2, Lib.hid (X2.out.put7.far7 (by omega) _ _ _ _ _ _ _), Lib.hid ((Y2.out.far7 (by omega) _ _ _ _ _ _ _).put7), Lib.hid ((Z2.out.far7 (by omega) _ _ _ _ _ _ _).far7 (by omega) _ _ _ _ _ _ _), set7 (set7 b2 (Nat.le_refl _) _ _ _ _ _ _ _) (Nat.le_succ _) _ _ _ _ _ _ _⟩
  case rest =>
    obtain ⟨rfl, A1, A2, c1, c2, X0, Y0, Z0, b0⟩ := hcut
    replace hy := hy.out
    subst hy
    clear HF1 HF2
    obtain ⟨xs0, xs1, xs2, xs3, xs4, xs5, xs6, xsl⟩ := X0.out.seven
    obtain ⟨ys0, ys1, ys2, ys3, ys4, ys5, ys6, ysl⟩ := Y0.out.seven
    go_upto_region 4 with (fail)
    have b0 := b0.drew
    have X0 := Lib.hid X0.out.drew
    have Y0 := Lib.hid Y0.out.drew
    have Z0 := Lib.hid Z0.out.drew
    go_region_held3 (fun w' => w'.cell? ⟨w.heap.size, 1, none⟩ = some (str ln) ∧ w'.cell? ⟨w.heap.size, 2, none⟩ = some (str [49]) ∧ w'.cell? ⟨w.heap.size + 1, 1, none⟩ = some (str rn) ∧ w'.cell? ⟨w.heap.size + 1, 2, none⟩ = some (str rd)) (first | (refine ⟨?_, ?_, ?_, ?_⟩ <;> first | (rw [far7a]; assumption) | (rw [far7b]; assumption)) | go_keep)
      (first | (go_at_call 120; ((with_reducible refine (HM1.out _ b0).mono ?_)); rintro e v1 ⟨rfl, hb1⟩; have b1 := then_ b0 hb1; have X1 := Lib.hid (X0.out.below hb1); have Y1 := Lib.hid (Y0.out.below hb1); have Z1 := Lib.hid (Z0.out.below hb1); obtain ⟨xc1_0, xc1_1, xc1_2, xc1_3, xc1_4, xc1_5, xc1_6, xc1_l⟩ := X1.out.seven; obtain ⟨yc1_0, yc1_1, yc1_2, yc1_3, yc1_4, yc1_5, yc1_6, yc1_l⟩ := Y1.out.seven) | (go_at_call 120; ((with_reducible refine (HM2.out _ b1).mono ?_)); rintro e v2 ⟨rfl, hb2⟩; have b2 := then_ b1 hb2; have X2 := Lib.hid (X1.out.below hb2); have Y2 := Lib.hid (Y1.out.below hb2); have Z2 := Lib.hid (Z1.out.below hb2); obtain ⟨xc2_0, xc2_1, xc2_2, xc2_3, xc2_4, xc2_5, xc2_6, xc2_l⟩ := X2.out.seven; obtain ⟨yc2_0, yc2_1, yc2_2, yc2_3, yc2_4, yc2_5, yc2_6, yc2_l⟩ := Y2.out.seven) | (go_at_call 118; ((with_reducible refine (HA.out _ b2).mono ?_)); rintro e v3 ⟨rfl, hb3⟩; have b3 := then_ b2 hb3; have X3 := Lib.hid (X2.out.below hb3); have Y3 := Lib.hid (Y2.out.below hb3); have Z3 := Lib.hid (Z2.out.below hb3); obtain ⟨xc3_0, xc3_1, xc3_2, xc3_3, xc3_4, xc3_5, xc3_6, xc3_l⟩ := X3.out.seven; obtain ⟨yc3_0, yc3_1, yc3_2, yc3_3, yc3_4, yc3_5, yc3_6, yc3_l⟩ := Y3.out.seven) | (go_at_call 120; ((with_reducible refine (HM3.out _ b3).mono ?_)); rintro e v4 ⟨rfl, hb4⟩; have b4 := then_ b3 hb4; have X4 := Lib.hid (X3.out.below hb4); have Y4 := Lib.hid (Y3.out.below hb4); have Z4 := Lib.hid (Z3.out.below hb4); obtain ⟨xc4_0, xc4_1, xc4_2, xc4_3, xc4_4, xc4_5, xc4_6, xc4_l⟩ := X4.out.seven; obtain ⟨yc4_0, yc4_1, yc4_2, yc4_3, yc4_4, yc4_5, yc4_6, yc4_l⟩ := Y4.out.seven) | (go_at_call 119; ((with_reducible refine (HR.out _ b4).mono ?_)); rintro e v5 ⟨rfl, hb5⟩; have b5 := then_ b4 hb5; have X5 := Lib.hid (X4.out.below hb5); have Y5 := Lib.hid (Y4.out.below hb5); have Z5 := Lib.hid (Z4.out.below hb5); obtain ⟨xc5_0, xc5_1, xc5_2, xc5_3, xc5_4, xc5_5, xc5_6, xc5_l⟩ := X5.out.seven; obtain ⟨yc5_0, yc5_1, yc5_2, yc5_3, yc5_4, yc5_5, yc5_6, yc5_l⟩ := Y5.out.seven; obtain ⟨zc5_0, zc5_1, zc5_2, zc5_3, zc5_4, zc5_5, zc5_6, zc5_l⟩ := Z5.out.seven; obtain ⟨zg5_f0, zg5_f1, zg5_f2, zg5_f3, zg5_f4, zg5_f5, zg5_f6⟩ := Z5.out.frozen7))
    go_wp2
    exact ret_obj Tryz.results94 rfl Z5.out.put7 rfl ⟨none, 0, rfl, set7 b5 (by omega) _ _ _ _ _ _ _⟩
theorem oSum_any (a b : Ob) (p q : Rat) (hp : Val a p) (hq : Val b q) {k m : Nat} (bp : Rb k p) (bq : Rb m q) (hk : k ≤ 10000) (hm : m ≤ 10000) (A A' : Option Addr) (n n' c c' : Nat) (hn : a.pair.length = n) (hn' : b.pair.length = n') (w : World) (ht : Tab w) :
    Calls Tryz.prog 94 #[objV a (.slice A n c), objV b (.slice A' n' c')] w (RetNum (p + q) w) := by
  by_cases h1 : p.den = 1
  · by_cases h2 : q.den = 1
    · exact oSum_int a b p q hp hq bp bq hk hm A A' n n' c c' hn hn' w ht h1 h2
    · exact oSum_no2 a b p q hp hq bp bq hk hm A A' n n' c c' hn hn' w ht h1 h2
  · exact oSum_no1 a b p q hp hq bp bq hk hm A A' n n' c c' hn hn' w ht h1
end Go.Proofs.YtgphkgmhcmffnaaGreatDoor
/- Arithmetic of objects: Opposite, Reciprocal, Less of package object; IsNil, IsInteger. -/
namespace Go.Proofs.YtgphkgmhcmffnaaGreatDoor
open Go.RowKit

theorem cmpQ_neg (p q : Rat) : decide (cmpQ p q < 0) = decide (p < q) := by
  unfold cmpQ
  split
  · simp [*]
  · split <;> simp [*]
set_option maxHeartbeats 1000000 in
set_option maxRecDepth 100000 in
theorem oLess_any (a b : Ob) (p q : Rat) (hp : Val a p) (hq : Val b q) {k m : Nat} (bp : Rb k p) (bq : Rb m q) (hk : k ≤ 10000) (hm : m ≤ 10000) (A A' : Option Addr) (n n' c c' : Nat) (hn : a.pair.length = n) (hn' : b.pair.length = n') (w : World) (ht : Tab w) :
    Calls Tryz.prog 92 #[objV a (.slice A n c), objV b (.slice A' n' c')] w (RetBel (.bool (decide (p < q))) w) := by
  have HF1 : Hid (∀ w' : World, Below w.heap.size w w' → Calls Tryz.prog 116 #[objV a (.slice A n c)] w' (RetNL (Lib.itoa p.num) (Lib.itoa (p.den : Int)) w')) := fun w' hb => oFix_any a p hp A n c hn w' (ht.below hb)
  have HF2 : Hid (∀ w' : World, Below w.heap.size w w' → Calls Tryz.prog 116 #[objV b (.slice A' n' c')] w' (RetNL (Lib.itoa q.num) (Lib.itoa (q.den : Int)) w')) := fun w' hb => oFix_any b q hq A' n' c' hn' w' (ht.below hb)
  have HV : Hid (∀ (w' : World) (A1 A2 : Option Addr) (c1 c2 : Nat), Below w.heap.size w w' → Calls Tryz.prog 115 #[objV (ratO p) (.slice A1 0 c1), objV (ratO q) (.slice A2 0 c2)] w' (RetI64 (cmpQ p q) w')) := fun w' A1 A2 c1 c2 hb => oValue_any p q bp bq hk hm A1 A2 0 0 c1 c2 w' (ht.below hb)
  unfold ratO at HV
  rw [← cmpQ_neg]
  clear hp hq bp bq hk hm hn hn'
  generalize cmpQ p q = z at *
  generalize Lib.itoa p.num = ln at *
  generalize Lib.itoa (p.den : Int) = ld at *
  generalize Lib.itoa q.num = rn at *
  generalize Lib.itoa (q.den : Int) = rd at *
  go_enter Tryz.func92, Tryz.ntmps92
  go_upto_region 1 with (fail)
  have X0' := Lib.hid ((BlkIs.new w 31 (obCells a (.slice A n c))).alloc (.cells (obCells b (.slice A' n' c')) 31))
  have Y0' := Lib.hid (BlkIs.new1 w (.cells (obCells a (.slice A n c)) 31) 31 (obCells b (.slice A' n' c')))
  have b0 := (box2 (box w (.cells (obCells a (.slice A n c)) 31)) (.cells (obCells b (.slice A' n' c')) 31)).drew
  generalize (w.alloc (.cells (obCells a (.slice A n c)) 31)).alloc (.cells (obCells b (.slice A' n' c')) 31) = W at *
  have X0 := Lib.hid X0'.out.drew
  have Y0 := Lib.hid Y0'.out.drew
  obtain ⟨xs0, xs1, xs2, xs3, xs4, xs5, xs6, xsl⟩ := X0'.out.seven
  obtain ⟨ys0, ys1, ys2, ys3, ys4, ys5, ys6, ysl⟩ := Y0'.out.seven
  go_region_held3 (fun w' => w'.cell? ⟨w.heap.size, 0, none⟩ = some (.int .i64 a.kind) ∧ w'.cell? ⟨w.heap.size, 1, none⟩ = some (str a.num) ∧ w'.cell? ⟨w.heap.size, 2, none⟩ = some (str a.den) ∧ w'.cell? ⟨w.heap.size, 3, none⟩ = some (str a.sp) ∧ w'.cell? ⟨w.heap.size, 4, none⟩ = some (str a.sn) ∧ w'.cell? ⟨w.heap.size, 5, none⟩ = some (str a.text) ∧ w'.cell? ⟨w.heap.size, 6, none⟩ = some (.slice A n c) ∧ w'.cell? ⟨w.heap.size + 1, 0, none⟩ = some (.int .i64 b.kind) ∧ w'.cell? ⟨w.heap.size + 1, 1, none⟩ = some (str b.num) ∧ w'.cell? ⟨w.heap.size + 1, 2, none⟩ = some (str b.den) ∧ w'.cell? ⟨w.heap.size + 1, 3, none⟩ = some (str b.sp) ∧ w'.cell? ⟨w.heap.size + 1, 4, none⟩ = some (str b.sn) ∧ w'.cell? ⟨w.heap.size + 1, 5, none⟩ = some (str b.text) ∧ w'.cell? ⟨w.heap.size + 1, 6, none⟩ = some (.slice A' n' c')) (go_keep)
    (first | (go_at_call 116; ((with_reducible refine (HF1.out _ b0).mono ?_)); rintro e v1 ⟨A1, c1, rfl, hb1⟩; have b1 := then_ b0 hb1; have X1 := Lib.hid (X0.out.below hb1); have Y1 := Lib.hid (Y0.out.below hb1); obtain ⟨xc1_0, xc1_1, xc1_2, xc1_3, xc1_4, xc1_5, xc1_6, xc1_l⟩ := X1.out.seven; obtain ⟨yc1_0, yc1_1, yc1_2, yc1_3, yc1_4, yc1_5, yc1_6, yc1_l⟩ := Y1.out.seven) | (go_at_call 116; ((with_reducible refine (HF2.out _ b1).mono ?_)); rintro e v2 ⟨A2, c2, rfl, hb2⟩; have b2 := then_ b1 hb2; have X2 := Lib.hid (X1.out.below hb2); have Y2 := Lib.hid (Y1.out.below hb2); obtain ⟨xc2_0, xc2_1, xc2_2, xc2_3, xc2_4, xc2_5, xc2_6, xc2_l⟩ := X2.out.seven; obtain ⟨yc2_0, yc2_1, yc2_2, yc2_3, yc2_4, yc2_5, yc2_6, yc2_l⟩ := Y2.out.seven) | (go_at_call 115; ((with_reducible refine (HV.out _ A1 A2 c1 c2 b2).mono ?_)); rintro e v3 ⟨rfl, hb3⟩; have b3 := then_ b2 hb3; have X3 := Lib.hid (X2.out.below hb3); have Y3 := Lib.hid (Y2.out.below hb3); obtain ⟨xc3_0, xc3_1, xc3_2, xc3_3, xc3_4, xc3_5, xc3_6, xc3_l⟩ := X3.out.seven; obtain ⟨yc3_0, yc3_1, yc3_2, yc3_3, yc3_4, yc3_5, yc3_6, yc3_l⟩ := Y3.out.seven))
  go_wp2
  go_ret
  exact ⟨rfl, b3⟩
end Go.Proofs.YtgphkgmhcmffnaaGreatDoor
