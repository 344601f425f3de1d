/- The reference's Sum, Product, Opposite, Reciprocal. -/
import Derived.Test.YtgphkgmhcmffnaaGreatDoorRcmp
import Derived.Test.YtgphkgmhcmffnaaGreatDoorAsgO
import Derived.Deep.RegionHeld3
import Derived.Deep.DeepCutAuto
namespace Go.Proofs.YtgphkgmhcmffnaaGreatDoor
open Go.RowKit

theorem RetNL.new {n d : List UInt8} {w w' : World} {e : Ending} (h : RetNL n d w e w') : RetNew (numO n d) w e w' := by
  obtain ⟨A, c, h1, h2⟩ := h
  exact ⟨A, 0, c, h1, .nil _ _, h2⟩
theorem callFix (args : Array Value) (w : World) : (callFunc 96 args).run Tryz.prog w = .ok (.enter 96 args) w := by go_simp
set_option maxHeartbeats 2000000 in
set_option maxRecDepth 100000 in
theorem rProduct_any (a b : Ob) (p q : Rat) (hp : Val a p) (hq : Val b q) {k m : Nat} (bp : Rb k p) (bq : Rb m q) (hk : k ≤ 10000) (hm : m ≤ 10000) (A A' : Option Addr) (n n' c c' : Nat) (hn : a.pair.length = n) (hn' : b.pair.length = n') (w : World) (ht : Tab w) :
    Calls Tryz.prog 68 #[objV a (.slice A n c), objV b (.slice A' n' c')] w (RetNum (p * q) w) := by
  have n1 : Num (k + 1) (Lib.itoa p.num) p.num := ⟨Dec.dval_itoa _, bp.nlen⟩
  have d1 : Num (k + 1) (Lib.itoa (p.den : Int)) p.den := ⟨Dec.dval_itoa _, bp.dlen⟩
  have n2 : Num (m + 1) (Lib.itoa q.num) q.num := ⟨Dec.dval_itoa _, bq.nlen⟩
  have d2 : Num (m + 1) (Lib.itoa (q.den : Int)) q.den := ⟨Dec.dval_itoa _, bq.dlen⟩
  have HF1 : Hid (∀ w' : World, Below w.heap.size w w' → Calls Tryz.prog 96 #[objV a (.slice A n c)] w' (RetNL (Lib.itoa p.num) (Lib.itoa (p.den : Int)) w')) := fun w' hb => rFix_any a p hp A n c hn w' (ht.below hb)
  have HF2 : Hid (∀ w' : World, Below w.heap.size w w' → Calls Tryz.prog 96 #[objV b (.slice A' n' c')] w' (RetNL (Lib.itoa q.num) (Lib.itoa (q.den : Int)) w')) := fun w' hb => rFix_any b q hq A' n' c' hn' w' (ht.below hb)
  have HM1 : Hid (∀ w' : World, Calls Tryz.prog 98 #[str (Lib.itoa (p.num : Int)), str (Lib.itoa (q.num : Int))] w' (RetStr (Lib.itoa (p.num * q.num : Int)) w')) := fun w' => rMulZ n1 n2 (by omega) (by omega) w'
  have HM2 : Hid (∀ w' : World, Calls Tryz.prog 98 #[str (Lib.itoa (p.den : Int)), str (Lib.itoa (q.den : Int))] w' (RetStr (Lib.itoa (p.den * q.den : Int)) w')) := fun w' => rMulZ d1 d2 (by omega) (by omega) w'
  have HR : Hid (∀ w' : World, Calls Tryz.prog 44 #[str (Lib.itoa (p.num * q.num : Int)), str (Lib.itoa (p.den * q.den : Int))] w' (RetLeaf (ratO (p * q)) w')) := fun w' => by
    have := rRationalQ (Lib.itoa (p.num * q.num : Int)) (Lib.itoa (p.den * q.den : Int)) w' (by have := (n1.mul n2).len; omega) (by have := (d1.mul d2).len; omega)
    rwa [Dec.dval_itoa, Dec.dval_itoa, ← Rat.mul_div] at this
  clear n1 n2 d1 d2 hp hq bp bq hk hm hn hn'
  generalize Lib.itoa (p.num * q.num : Int) = l1 at *
  generalize Lib.itoa (p.den * q.den : Int) = l2 at *
  generalize Lib.itoa (p.num : Int) = ln at *
  generalize Lib.itoa (q.num : Int) = rn at *
  generalize Lib.itoa (p.den : Int) = ld at *
  generalize Lib.itoa (q.den : Int) = rd at *
  generalize Lib.itoa (p * q).num = qn at *
  generalize Lib.itoa ((p * q).den : Int) = qd at *
  go_enter Tryz.func68, Tryz.ntmps68
  go_upto_region 1 with (fail)
  have X0 := Lib.hid (((BlkIs.new w 31 (obCells a (.slice A n c))).alloc (.cells (obCells b (.slice A' n' c')) 31)).alloc (.cells zeroCells 31))
  have Y0 := Lib.hid ((BlkIs.new1 w (.cells (obCells a (.slice A n c)) 31) 31 (obCells b (.slice A' n' c'))).alloc (.cells zeroCells 31))
  have Z0 := Lib.hid (BlkIs.new2 w (.cells (obCells a (.slice A n c)) 31) (.cells (obCells b (.slice A' n' c')) 31) 31 zeroCells)
  have bd := (box2 (box2 (box w (.cells (obCells a (.slice A n c)) 31)) (.cells (obCells b (.slice A' n' c')) 31)) (.cells zeroCells 31)).drew
  generalize ((w.alloc (.cells (obCells a (.slice A n c)) 31)).alloc (.cells (obCells b (.slice A' n' c')) 31)).alloc (.cells zeroCells 31) = W at *
  have zl := Z0.out.lt
  go_cut [5, 6] (fun q0 q1 wx => ∃ (gx gy : Nat) (A1 A2 : Option Addr) (n1 n2 c1 c2 : Nat), q0 = ptr gx ∧ q1 = ptr gy ∧ w.heap.size + 1 + 1 < gx ∧ w.heap.size + 1 + 1 < gy ∧ Hid (BlkIs wx gx 31 (obCells (numO ln ld) (.slice A1 n1 c1))) ∧ Hid (BlkIs wx gy 31 (obCells (numO rn rd) (.slice A2 n2 c2))) ∧ Hid (BlkIs wx (w.heap.size + 1 + 1) 31 zeroCells) ∧ Below w.heap.size w wx)
  case first =>
    refine wp_region_any (by kernel_rfl) ?_
    refine asg_objs 2 7 5 31 (fun j => 2 + j) (fun _ => 96) (fun j => if j = 0 then objV a (.slice A n c) else objV b (.slice A' n' c')) (fun j => if j = 0 then numO ln ld else numO rn rd) (by kernel_rfl) (by omega) (Nat.le_of_ble_eq_true rfl) (fun j hj => by omega) ?_ (fun _ _ => callFix) ?_ ?_
    · intro j hj o ρ w' ho hρ hb'
      have hc : j = 0 ∨ j = 1 := by omega
      rcases hc with rfl | rfl
      · exact run_load_obj ho hρ (X0.out.drew.below hb')
      · exact run_load_obj ho hρ (Y0.out.drew.below hb')
    · intro j hj w' hb'
      have hc : j = 0 ∨ j = 1 := by omega
      rcases hc with rfl | rfl
      · exact (HF1.out w' (then_ bd hb')).mono fun _ _ h => h.new
      · exact (HF2.out w' (then_ bd hb')).mono fun _ _ h => h.new
    · intro u w' hb' hall hne
      obtain ⟨g0, P0, m0, d0, e0, hg0, _, B0, _⟩ := hall 0 (by omega)
      obtain ⟨g1, P1, m1, d1, e1, hg1, _, B1, _⟩ := hall 1 (by omega)
      replace e0 : u 5 = ptr g0 := e0
      replace e1 : u 6 = ptr g1 := e1
      replace hg0 : W.heap.size ≤ g0 := hg0
      replace hg1 : W.heap.size ≤ g1 := hg1
      simp only [asgD, List.range, List.range.loop, Nat.reduceAdd, List.map_cons, List.map_nil, List.cons_append, List.nil_append, List.foldl_cons, List.foldl_nil, e0, e1]
      clear hall hne
      go_wp2_with fail
      go_meet
      exact ⟨g0, g1, P0, P1, m0, m1, d0, d1, rfl, rfl, by omega, by omega, Lib.hid B0, Lib.hid B1, Lib.hid (Z0.out.drew.below hb'), then_ bd hb'⟩
  case rest =>
    clear X0 Y0 Z0 bd zl HF1 HF2
    obtain ⟨gx, gy, A1, A2, n1, n2, c1, c2, rfl, rfl, hgx, hgy, X0, Y0, Z0, b0⟩ := hcut
    have hgx' : gx ≠ w.heap.size + 1 + 1 := by omega
    have hgy' : gy ≠ w.heap.size + 1 + 1 := by omega
    go_upto_region 2 with (fail)
    obtain ⟨xs0, xs1, xs2, xs3, xs4, xs5, xs6, xsl⟩ := X0.out.seven
    obtain ⟨ys0, ys1, ys2, ys3, ys4, ys5, ys6, ysl⟩ := Y0.out.seven
    have b0 := b0.drew
    have X0 := Lib.hid X0.out.drew
    have Y0 := Lib.hid Y0.out.drew
    have Z0 := Lib.hid Z0.out.drew
    go_region_held3 (fun w' => w'.cell? ⟨gx, 1, none⟩ = some (str ln) ∧ w'.cell? ⟨gx, 2, none⟩ = some (str ld) ∧ w'.cell? ⟨gy, 1, none⟩ = some (str rn) ∧ w'.cell? ⟨gy, 2, none⟩ = some (str rd)) (first | (refine ⟨?_, ?_, ?_, ?_⟩ <;> first | (rw [far7 _ hgx']; assumption) | (rw [far7 _ hgy']; assumption)) | go_keep)
      (first | (go_at_call 98; ((with_reducible refine (HM1.out _).mono ?_)); rintro e v1 ⟨rfl, hb1⟩; have b1 := then_ b0 hb1; have X1 := Lib.hid (X0.out.below hb1); have Y1 := Lib.hid (Y0.out.below hb1); have Z1 := Lib.hid (Z0.out.below hb1); obtain ⟨xc1_0, xc1_1, xc1_2, xc1_3, xc1_4, xc1_5, xc1_6, xc1_l⟩ := X1.out.seven; obtain ⟨yc1_0, yc1_1, yc1_2, yc1_3, yc1_4, yc1_5, yc1_6, yc1_l⟩ := Y1.out.seven) | (go_at_call 98; ((with_reducible refine (HM2.out _).mono ?_)); rintro e v2 ⟨rfl, hb2⟩; have b2 := then_ b1 hb2; have X2 := Lib.hid (X1.out.below hb2); have Y2 := Lib.hid (Y1.out.below hb2); have Z2 := Lib.hid (Z1.out.below hb2); obtain ⟨xc2_0, xc2_1, xc2_2, xc2_3, xc2_4, xc2_5, xc2_6, xc2_l⟩ := X2.out.seven; obtain ⟨yc2_0, yc2_1, yc2_2, yc2_3, yc2_4, yc2_5, yc2_6, yc2_l⟩ := Y2.out.seven) | (go_at_call 44; ((with_reducible refine (HR.out _).mono ?_)); rintro e v3 ⟨rfl, hb3⟩; have b3 := then_ b2 hb3; have X3 := Lib.hid (X2.out.below hb3); have Y3 := Lib.hid (Y2.out.below hb3); have Z3 := Lib.hid (Z2.out.below hb3); obtain ⟨xc3_0, xc3_1, xc3_2, xc3_3, xc3_4, xc3_5, xc3_6, xc3_l⟩ := X3.out.seven; obtain ⟨yc3_0, yc3_1, yc3_2, yc3_3, yc3_4, yc3_5, yc3_6, yc3_l⟩ := Y3.out.seven; obtain ⟨zc3_0, zc3_1, zc3_2, zc3_3, zc3_4, zc3_5, zc3_6, zc3_l⟩ := Z3.out.seven; obtain ⟨zg3_f0, zg3_f1, zg3_f2, zg3_f3, zg3_f4, zg3_f5, zg3_f6⟩ := Z3.out.frozen7))
    go_wp2
    exact ret_obj Tryz.results68 rfl Z3.out.put7 rfl ⟨none, 0, rfl, set7 b3 (by omega) _ _ _ _ _ _ _⟩
set_option maxHeartbeats 2000000 in
set_option maxRecDepth 100000 in
theorem rSum_any (a b : Ob) (p q : Rat) (hp : Val a p) (hq : Val b q) {k m : Nat} (bp : Rb k p) (bq : Rb m q) (hk : k ≤ 10000) (hm : m ≤ 10000) (A A' : Option Addr) (n n' c c' : Nat) (hn : a.pair.length = n) (hn' : b.pair.length = n') (w : World) (ht : Tab w) :
    Calls Tryz.prog 63 #[objV a (.slice A n c), objV b (.slice A' n' c')] w (RetNum (p + q) w) := by
  have n1 : Num (k + 1) (Lib.itoa p.num) p.num := ⟨Dec.dval_itoa _, bp.nlen⟩
  have d1 : Num (k + 1) (Lib.itoa (p.den : Int)) p.den := ⟨Dec.dval_itoa _, bp.dlen⟩
  have n2 : Num (m + 1) (Lib.itoa q.num) q.num := ⟨Dec.dval_itoa _, bq.nlen⟩
  have d2 : Num (m + 1) (Lib.itoa (q.den : Int)) q.den := ⟨Dec.dval_itoa _, bq.dlen⟩
  have HF1 : Hid (∀ w' : World, Below w.heap.size w w' → Calls Tryz.prog 96 #[objV a (.slice A n c)] w' (RetNL (Lib.itoa p.num) (Lib.itoa (p.den : Int)) w')) := fun w' hb => rFix_any a p hp A n c hn w' (ht.below hb)
  have HF2 : Hid (∀ w' : World, Below w.heap.size w w' → Calls Tryz.prog 96 #[objV b (.slice A' n' c')] w' (RetNL (Lib.itoa q.num) (Lib.itoa (q.den : Int)) w')) := fun w' hb => rFix_any b q hq A' n' c' hn' w' (ht.below hb)
  have HM1 : Hid (∀ w' : World, Calls Tryz.prog 98 #[str (Lib.itoa (p.num : Int)), str (Lib.itoa (q.den : Int))] w' (RetStr (Lib.itoa (p.num * q.den : Int)) w')) := fun w' => rMulZ n1 d2 (by omega) (by omega) w'
  have HM2 : Hid (∀ w' : World, Calls Tryz.prog 98 #[str (Lib.itoa (q.num : Int)), str (Lib.itoa (p.den : Int))] w' (RetStr (Lib.itoa (q.num * p.den : Int)) w')) := fun w' => rMulZ n2 d1 (by omega) (by omega) w'
  have HA : Hid (∀ w' : World, Calls Tryz.prog 97 #[str (Lib.itoa (p.num * q.den : Int)), str (Lib.itoa (q.num * p.den : Int))] w' (RetStr (Lib.itoa (p.num * q.den + q.num * p.den : Int)) w')) := fun w' => rAddZ (n1.mul d2) (n2.mul d1) (by omega) (by omega) w'
  have HM3 : Hid (∀ w' : World, Calls Tryz.prog 98 #[str (Lib.itoa (p.den : Int)), str (Lib.itoa (q.den : Int))] w' (RetStr (Lib.itoa (p.den * q.den : Int)) w')) := fun w' => rMulZ d1 d2 (by omega) (by omega) w'
  have HR : Hid (∀ w' : World, Calls Tryz.prog 44 #[str (Lib.itoa (p.num * q.den + q.num * p.den : Int)), str (Lib.itoa (p.den * q.den : Int))] w' (RetLeaf (ratO (p + q)) w')) := fun w' => by
    have := rRationalQ (Lib.itoa (p.num * q.den + q.num * p.den : Int)) (Lib.itoa (p.den * q.den : Int)) w' (by have := ((n1.mul d2).add (n2.mul d1)).len; omega) (by have := (d1.mul d2).len; omega)
    rwa [Dec.dval_itoa, Dec.dval_itoa, ← Rat.add_div] at this
  clear n1 n2 d1 d2 hp hq bp bq hk hm hn hn'
  generalize Lib.itoa (p.num * q.den + q.num * p.den : Int) = l0 at *
  generalize Lib.itoa (p.num * q.den : Int) = l1 at *
  generalize Lib.itoa (q.num * p.den : Int) = l2 at *
  generalize Lib.itoa (p.den * q.den : Int) = l3 at *
  generalize Lib.itoa (p.num : Int) = ln at *
  generalize Lib.itoa (q.num : Int) = rn at *
  generalize Lib.itoa (p.den : Int) = ld at *
  generalize Lib.itoa (q.den : Int) = rd at *
  generalize Lib.itoa (p + q).num = qn at *
  generalize Lib.itoa ((p + q).den : Int) = qd at *
  go_enter Tryz.func63, Tryz.ntmps63
  go_upto_region 1 with (fail)
  have X0 := Lib.hid (((BlkIs.new w 31 (obCells a (.slice A n c))).alloc (.cells (obCells b (.slice A' n' c')) 31)).alloc (.cells zeroCells 31))
  have Y0 := Lib.hid ((BlkIs.new1 w (.cells (obCells a (.slice A n c)) 31) 31 (obCells b (.slice A' n' c'))).alloc (.cells zeroCells 31))
  have Z0 := Lib.hid (BlkIs.new2 w (.cells (obCells a (.slice A n c)) 31) (.cells (obCells b (.slice A' n' c')) 31) 31 zeroCells)
  have bd := (box2 (box2 (box w (.cells (obCells a (.slice A n c)) 31)) (.cells (obCells b (.slice A' n' c')) 31)) (.cells zeroCells 31)).drew
  generalize ((w.alloc (.cells (obCells a (.slice A n c)) 31)).alloc (.cells (obCells b (.slice A' n' c')) 31)).alloc (.cells zeroCells 31) = W at *
  have zl := Z0.out.lt
  go_cut [5, 6] (fun q0 q1 wx => ∃ (gx gy : Nat) (A1 A2 : Option Addr) (n1 n2 c1 c2 : Nat), q0 = ptr gx ∧ q1 = ptr gy ∧ w.heap.size + 1 + 1 < gx ∧ w.heap.size + 1 + 1 < gy ∧ Hid (BlkIs wx gx 31 (obCells (numO ln ld) (.slice A1 n1 c1))) ∧ Hid (BlkIs wx gy 31 (obCells (numO rn rd) (.slice A2 n2 c2))) ∧ Hid (BlkIs wx (w.heap.size + 1 + 1) 31 zeroCells) ∧ Below w.heap.size w wx)
  case first =>
    refine wp_region_any (by kernel_rfl) ?_
    refine asg_objs 2 7 5 31 (fun j => 2 + j) (fun _ => 96) (fun j => if j = 0 then objV a (.slice A n c) else objV b (.slice A' n' c')) (fun j => if j = 0 then numO ln ld else numO rn rd) (by kernel_rfl) (by omega) (Nat.le_of_ble_eq_true rfl) (fun j hj => by omega) ?_ (fun _ _ => callFix) ?_ ?_
    · intro j hj o ρ w' ho hρ hb'
      have hc : j = 0 ∨ j = 1 := by omega
      rcases hc with rfl | rfl
      · exact run_load_obj ho hρ (X0.out.drew.below hb')
      · exact run_load_obj ho hρ (Y0.out.drew.below hb')
    · intro j hj w' hb'
      have hc : j = 0 ∨ j = 1 := by omega
      rcases hc with rfl | rfl
      · exact (HF1.out w' (then_ bd hb')).mono fun _ _ h => h.new
      · exact (HF2.out w' (then_ bd hb')).mono fun _ _ h => h.new
    · intro u w' hb' hall hne
      obtain ⟨g0, P0, m0, d0, e0, hg0, _, B0, _⟩ := hall 0 (by omega)
      obtain ⟨g1, P1, m1, d1, e1, hg1, _, B1, _⟩ := hall 1 (by omega)
      replace e0 : u 5 = ptr g0 := e0
      replace e1 : u 6 = ptr g1 := e1
      replace hg0 : W.heap.size ≤ g0 := hg0
      replace hg1 : W.heap.size ≤ g1 := hg1
      simp only [asgD, List.range, List.range.loop, Nat.reduceAdd, List.map_cons, List.map_nil, List.cons_append, List.nil_append, List.foldl_cons, List.foldl_nil, e0, e1]
      clear hall hne
      go_wp2_with fail
      go_meet
      exact ⟨g0, g1, P0, P1, m0, m1, d0, d1, rfl, rfl, by omega, by omega, Lib.hid B0, Lib.hid B1, Lib.hid (Z0.out.drew.below hb'), then_ bd hb'⟩
  case rest =>
    clear X0 Y0 Z0 bd zl HF1 HF2
    obtain ⟨gx, gy, A1, A2, n1, n2, c1, c2, rfl, rfl, hgx, hgy, X0, Y0, Z0, b0⟩ := hcut
    have hgx' : gx ≠ w.heap.size + 1 + 1 := by omega
    have hgy' : gy ≠ w.heap.size + 1 + 1 := by omega
    go_upto_region 2 with (fail)
    obtain ⟨xs0, xs1, xs2, xs3, xs4, xs5, xs6, xsl⟩ := X0.out.seven
    obtain ⟨ys0, ys1, ys2, ys3, ys4, ys5, ys6, ysl⟩ := Y0.out.seven
    have b0 := b0.drew
    have X0 := Lib.hid X0.out.drew
    have Y0 := Lib.hid Y0.out.drew
    have Z0 := Lib.hid Z0.out.drew
    go_region_held3 (fun w' => w'.cell? ⟨gx, 1, none⟩ = some (str ln) ∧ w'.cell? ⟨gx, 2, none⟩ = some (str ld) ∧ w'.cell? ⟨gy, 1, none⟩ = some (str rn) ∧ w'.cell? ⟨gy, 2, none⟩ = some (str rd)) (first | (refine ⟨?_, ?_, ?_, ?_⟩ <;> first | (rw [far7 _ hgx']; assumption) | (rw [far7 _ hgy']; assumption)) | go_keep)
      (first | (go_at_call 98; ((with_reducible refine (HM1.out _).mono ?_)); rintro e v1 ⟨rfl, hb1⟩; have b1 := then_ b0 hb1; have X1 := Lib.hid (X0.out.below hb1); have Y1 := Lib.hid (Y0.out.below hb1); have Z1 := Lib.hid (Z0.out.below hb1); obtain ⟨xc1_0, xc1_1, xc1_2, xc1_3, xc1_4, xc1_5, xc1_6, xc1_l⟩ := X1.out.seven; obtain ⟨yc1_0, yc1_1, yc1_2, yc1_3, yc1_4, yc1_5, yc1_6, yc1_l⟩ := Y1.out.seven) | (go_at_call 98; ((with_reducible refine (HM2.out _).mono ?_)); rintro e v2 ⟨rfl, hb2⟩; have b2 := then_ b1 hb2; have X2 := Lib.hid (X1.out.below hb2); have Y2 := Lib.hid (Y1.out.below hb2); have Z2 := Lib.hid (Z1.out.below hb2); obtain ⟨xc2_0, xc2_1, xc2_2, xc2_3, xc2_4, xc2_5, xc2_6, xc2_l⟩ := X2.out.seven; obtain ⟨yc2_0, yc2_1, yc2_2, yc2_3, yc2_4, yc2_5, yc2_6, yc2_l⟩ := Y2.out.seven) | (go_at_call 97; ((with_reducible refine (HA.out _).mono ?_)); rintro e v3 ⟨rfl, hb3⟩; have b3 := then_ b2 hb3; have X3 := Lib.hid (X2.out.below hb3); have Y3 := Lib.hid (Y2.out.below hb3); have Z3 := Lib.hid (Z2.out.below hb3); obtain ⟨xc3_0, xc3_1, xc3_2, xc3_3, xc3_4, xc3_5, xc3_6, xc3_l⟩ := X3.out.seven; obtain ⟨yc3_0, yc3_1, yc3_2, yc3_3, yc3_4, yc3_5, yc3_6, yc3_l⟩ := Y3.out.seven) | (go_at_call 98; ((with_reducible refine (HM3.out _).mono ?_)); rintro e v4 ⟨rfl, hb4⟩; have b4 := then_ b3 hb4; have X4 := Lib.hid (X3.out.below hb4); have Y4 := Lib.hid (Y3.out.below hb4); have Z4 := Lib.hid (Z3.out.below hb4); obtain ⟨xc4_0, xc4_1, xc4_2, xc4_3, xc4_4, xc4_5, xc4_6, xc4_l⟩ := X4.out.seven; obtain ⟨yc4_0, yc4_1, yc4_2, yc4_3, yc4_4, yc4_5, yc4_6, yc4_l⟩ := Y4.out.seven) | (go_at_call 44; ((with_reducible refine (HR.out _).mono ?_)); rintro e v5 ⟨rfl, hb5⟩; have b5 := then_ b4 hb5; have X5 := Lib.hid (X4.out.below hb5); have Y5 := Lib.hid (Y4.out.below hb5); have Z5 := Lib.hid (Z4.out.below hb5); obtain ⟨xc5_0, xc5_1, xc5_2, xc5_3, xc5_4, xc5_5, xc5_6, xc5_l⟩ := X5.out.seven; obtain ⟨yc5_0, yc5_1, yc5_2, yc5_3, yc5_4, yc5_5, yc5_6, yc5_l⟩ := Y5.out.seven; obtain ⟨zc5_0, zc5_1, zc5_2, zc5_3, zc5_4, zc5_5, zc5_6, zc5_l⟩ := Z5.out.seven; obtain ⟨zg5_f0, zg5_f1, zg5_f2, zg5_f3, zg5_f4, zg5_f5, zg5_f6⟩ := Z5.out.frozen7))
    go_wp2
    exact ret_obj Tryz.results63 rfl Z5.out.put7 rfl ⟨none, 0, rfl, set7 b5 (by omega) _ _ _ _ _ _ _⟩
end Go.Proofs.YtgphkgmhcmffnaaGreatDoor
