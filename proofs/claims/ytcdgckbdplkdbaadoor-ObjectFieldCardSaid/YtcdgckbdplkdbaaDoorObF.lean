/- Arithmetic of objects: fix, value, Sum, Product, Opposite, Reciprocal, Less of package object. -/
import Derived.Test.YtcdgckbdplkdbaaDoorObE
import Derived.Test.YtcdgckbdplkdbaaDoorRat
import Derived.Deep.RegionHeld3
namespace Go.Proofs.YtcdgckbdplkdbaaDoor
open Go.RowKit

theorem oRationalQ (a b : List UInt8) (w : World) (ha : a.length ≤ 400000) (hb : b.length ≤ 400000) (ht : Tab w) : Calls Tryd.prog 5 #[str a, str b] w (RetLeaf (ratO (Rat.divInt (Dec.dval a) (Dec.dval b))) w) := by
  have := oRational_any a b w ha hb ht
  rwa [(rd_rat _ _).1, (rd_rat _ _).2] at this
set_option maxHeartbeats 400000 in
theorem oFix_any (o : Ob) (q : Rat) (hv : Val o q) (A : Option Addr) (n c : Nat) (hn : o.pair.length = n) (w : World) (ht : Tab w) : Calls Tryd.prog 25 #[objV o (.slice A n c)] w (RetNum q w) := by
  rcases hv with ⟨hk, rfl⟩ | ⟨hk, rfl⟩
  · obtain rfl : n = 0 := by rw [← hn]; rfl
    clear hk hn
    generalize Lib.itoa q.num = ln at *
    generalize Lib.itoa (q.den : Int) = ld at *
    go_enter Tryd.func25, Tryd.ntmps25
    go_wp2
    exact ret_obj Tryd.results25 rfl (BlkIs.new1 w _ _ _) rfl ⟨A, c, rfl, box2 (box _ _) _⟩
  · obtain ⟨k, nm, d, p, s, t, l⟩ := o
    dsimp only at hk
    have hz : (k == 1) = false := by rw [beq_eq_false_iff_ne]; exact hk
    clear hk hn
    have HI : Hid (∀ w' : World, Below w.heap.size w w' → Calls Tryd.prog 6 #[.int .i64 0] w' (RetLeaf (numO (Lib.itoa (0 : Rat).num) (Lib.itoa ((0 : Rat).den : Int))) w')) := fun w' hb => by
      have := oInt_any 0 w' (ht.below hb) (by omega) (by omega)
      rwa [← ratO_int] at this
    unfold RetNum
    generalize Lib.itoa (0 : Rat).num = ln at *
    generalize Lib.itoa ((0 : Rat).den : Int) = ld at *
    go_enter Tryd.func25, Tryd.ntmps25
    go_wp2_with fail
    refine (HI.out _ (box2 (box _ _) _)).mono ?_
    rintro e w1 ⟨rfl, hb⟩
    have HB := Lib.hid ((BlkIs.new1 w _ _ _).below hb)
    obtain ⟨u0, u1, u2, u3, u4, u5, u6, hu⟩ := HB.out.seven
    obtain ⟨f0, f1, f2, f3, f4, f5, f6⟩ := HB.out.frozen7
    go_wp2
    exact ret_obj Tryd.results25 rfl HB.out.put7 rfl ⟨none, 0, rfl, set7 (via (via hb)) (Nat.le_succ _) _ _ _ _ _ _ _⟩
set_option maxHeartbeats 1000000 in
set_option maxRecDepth 100000 in
theorem oValue_any (p q : Rat) {k m : Nat} (bp : Rb k p) (bq : Rb m q) (hk : k ≤ 10000) (hm : m ≤ 10000) (A A' : Option Addr) (n n' c c' : Nat) (w : World) (ht : Tab w) :
    Calls Tryd.prog 29 #[objV (ratO p) (.slice A n c), objV (ratO q) (.slice A' n' c')] w (RetI64 (cmpQ p q) w) := by
  have n1 : Num (k + 1) (Lib.itoa p.num) p.num := ⟨Dec.dval_itoa _, bp.nlen⟩
  have d1 : Num (k + 1) (Lib.itoa (p.den : Int)) p.den := ⟨Dec.dval_itoa _, bp.dlen⟩
  have n2 : Num (m + 1) (Lib.itoa q.num) q.num := ⟨Dec.dval_itoa _, bq.nlen⟩
  have d2 : Num (m + 1) (Lib.itoa (q.den : Int)) q.den := ⟨Dec.dval_itoa _, bq.dlen⟩
  by_cases hd : p.den = q.den
  · have HC := fun w' => Lib.hid (compareZ n1 n2 (by omega) (by omega) (cmpQ_den hd) w')
    have hd' : Lib.itoa (p.den : Int) = Lib.itoa (q.den : Int) := by rw [hd]
    unfold ratO
    rw [hd']
    clear n1 n2 d1 d2 hd hd'
    generalize Lib.itoa p.num = ln at *
    generalize Lib.itoa q.num = rn at *
    generalize Lib.itoa (q.den : Int) = rd at *
    go_enter Tryd.func29, Tryd.ntmps29
    go_wp2_with fail
    refine (HC _).out.mono ?_
    rintro e w1 ⟨rfl, hb⟩
    go_wp2
    go_ret
    exact ⟨rfl, via (via hb)⟩
  · have hd' : (Lib.itoa (p.den : Int) == Lib.itoa (q.den : Int)) = false := by rw [beq_eq_false_iff_ne]; exact fun e => hd (by have := Dec.itoa_inj e; omega)
    have HM1 : Hid (∀ w' : World, Below w.heap.size w w' → Calls Tryd.prog 26 #[str (Lib.itoa p.num), str (Lib.itoa (q.den : Int))] w' (RetStr (Lib.itoa (p.num * q.den)) w')) := fun w' hb => mulZ n1 d2 (by omega) (by omega) w' (ht.below hb)
    have HM2 : Hid (∀ w' : World, Below w.heap.size w w' → Calls Tryd.prog 26 #[str (Lib.itoa q.num), str (Lib.itoa (p.den : Int))] w' (RetStr (Lib.itoa (q.num * p.den)) w')) := fun w' hb => mulZ n2 d1 (by omega) (by omega) w' (ht.below hb)
    have HC : Hid (∀ w' : World, Calls Tryd.prog 47 #[str (Lib.itoa (p.num * q.den)), str (Lib.itoa (q.num * p.den))] w' (RetI64 (cmpQ p q) w')) := fun w' => compareZ (n1.mul d2) (n2.mul d1) (by omega) (by omega) (cmpQ_cross p q) w'
    clear n1 n2 d1 d2 hd
    unfold ratO
    generalize Lib.itoa (p.num * q.den) = l1 at *
    generalize Lib.itoa (q.num * p.den) = l2 at *
    generalize Lib.itoa p.num = ln at *
    generalize Lib.itoa q.num = rn at *
    generalize Lib.itoa (p.den : Int) = ld at *
    generalize Lib.itoa (q.den : Int) = rd at *
    go_enter Tryd.func29, Tryd.ntmps29
    go_wp2_with fail
    have X0' := Lib.hid ((BlkIs.new w 27 (obCells (numO ln ld) (.slice A n c))).alloc (.cells (obCells (numO rn rd) (.slice A' n' c')) 27))
    have Y0' := Lib.hid (BlkIs.new1 w (.cells (obCells (numO ln ld) (.slice A n c)) 27) 27 (obCells (numO rn rd) (.slice A' n' c')))
    have b0 := (box2 (box w (.cells (obCells (numO ln ld) (.slice A n c)) 27)) (.cells (obCells (numO rn rd) (.slice A' n' c')) 27)).drew
    generalize (w.alloc (.cells (obCells (numO ln ld) (.slice A n c)) 27)).alloc (.cells (obCells (numO rn rd) (.slice A' n' c')) 27) = W at *
    have X0 := Lib.hid X0'.out.drew
    have Y0 := Lib.hid Y0'.out.drew
    obtain ⟨xs0, xs1, xs2, xs3, xs4, xs5, xs6, xsl⟩ := X0'.out.seven
    obtain ⟨ys0, ys1, ys2, ys3, ys4, ys5, ys6, ysl⟩ := Y0'.out.seven
    go_region_held3 (fun w' => w'.cell? ⟨w.heap.size, 1, none⟩ = some (str ln) ∧ w'.cell? ⟨w.heap.size, 2, none⟩ = some (str ld) ∧ w'.cell? ⟨w.heap.size + 1, 1, none⟩ = some (str rn) ∧ w'.cell? ⟨w.heap.size + 1, 2, none⟩ = some (str rd)) (go_keep)
      (first | (go_at_call 26; ((with_reducible refine (HM1.out _ b0).mono ?_)); rintro e v1 ⟨rfl, hb1⟩; have b1 := then_ b0 hb1; have X1 := Lib.hid (X0.out.below hb1); have Y1 := Lib.hid (Y0.out.below hb1); obtain ⟨xc1_0, xc1_1, xc1_2, xc1_3, xc1_4, xc1_5, xc1_6, xc1_l⟩ := X1.out.seven; obtain ⟨yc1_0, yc1_1, yc1_2, yc1_3, yc1_4, yc1_5, yc1_6, yc1_l⟩ := Y1.out.seven) | (go_at_call 26; ((with_reducible refine (HM2.out _ b1).mono ?_)); rintro e v2 ⟨rfl, hb2⟩; have b2 := then_ b1 hb2; have X2 := Lib.hid (X1.out.below hb2); have Y2 := Lib.hid (Y1.out.below hb2); obtain ⟨xc2_0, xc2_1, xc2_2, xc2_3, xc2_4, xc2_5, xc2_6, xc2_l⟩ := X2.out.seven; obtain ⟨yc2_0, yc2_1, yc2_2, yc2_3, yc2_4, yc2_5, yc2_6, yc2_l⟩ := Y2.out.seven) | (go_at_call 47; ((with_reducible refine (HC.out _).mono ?_)); rintro e v3 ⟨rfl, hb3⟩; have b3 := then_ b2 hb3; have X3 := Lib.hid (X2.out.below hb3); have Y3 := Lib.hid (Y2.out.below hb3); obtain ⟨xc3_0, xc3_1, xc3_2, xc3_3, xc3_4, xc3_5, xc3_6, xc3_l⟩ := X3.out.seven; obtain ⟨yc3_0, yc3_1, yc3_2, yc3_3, yc3_4, yc3_5, yc3_6, yc3_l⟩ := Y3.out.seven))
    go_wp2
    go_ret
    exact ⟨rfl, b3⟩
end Go.Proofs.YtcdgckbdplkdbaaDoor
