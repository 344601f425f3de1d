/- The reference's Compare and Less on plain trees. -/
import Derived.Test.YtgphkgmhcmffnaaGreatDoorCmp
import Derived.Deep.RegionHeld3
namespace Go.Proofs.YtgphkgmhcmffnaaGreatDoor
open Go.RowKit

theorem rAddZ {k m : Nat} {l r : List UInt8} {X Y : Int} (h : Num k l X) (h' : Num m r Y) (hk : k ≤ 100000) (hm : m ≤ 100000) (w : World) :
    Calls Tryz.prog 97 #[str l, str r] w (RetStr (Lib.itoa (X + Y)) w) := by
  have := refAdd_any l r w (by have := h.len; omega) (by have := h'.len; omega)
  rwa [h.val, h'.val] at this
theorem rMulZ {k m : Nat} {l r : List UInt8} {X Y : Int} (h : Num k l X) (h' : Num m r Y) (hk : k ≤ 100000) (hm : m ≤ 100000) (w : World) :
    Calls Tryz.prog 98 #[str l, str r] w (RetStr (Lib.itoa (X * Y)) w) := by
  have := refMul_any l r w (by have := h.len; omega) (by have := h'.len; omega)
  rwa [h.val, h'.val] at this
theorem rCompareZ {k m : Nat} {l r : List UInt8} {X Y V : Int} (h : Num k l X) (h' : Num m r Y) (hk : k ≤ 100000) (hm : m ≤ 100000) (hv : cmpI X Y = V) (w : World) :
    Calls Tryz.prog 136 #[str l, str r] w (RetI64 V w) := by
  have := refCompare_any l r w (by have := h.len; omega) (by have := h'.len; omega)
  rwa [h.val, h'.val, hv] at this
set_option maxHeartbeats 1000000 in
set_option maxRecDepth 100000 in
theorem rRank_any (o : Ob) (A : Option Addr) (n c : Nat) (w : World) : Calls Tryz.prog 135 #[objV o (.slice A n c)] w (RetBel (.int .i64 (rkI o.kind + 1)) w) := by
  obtain ⟨k, nm, d, p, t, x, l⟩ := o
  unfold rkI
  dsimp only
  by_cases h1 : k = 1
  · subst h1
    go_enter Tryz.func135, Tryz.ntmps135
    go_wp2
    go_ret
    exact ⟨rfl, box _ _⟩
  have e1 : (k == 1) = false := by rw [beq_eq_false_iff_ne]; exact h1
  rw [if_neg h1]
  by_cases h3 : k = 3
  · subst h3
    go_enter Tryz.func135, Tryz.ntmps135
    go_wp2
    go_ret
    exact ⟨rfl, box _ _⟩
  have e3 : (k == 3) = false := by rw [beq_eq_false_iff_ne]; exact h3
  rw [if_neg h3]
  by_cases h2 : k = 2
  · subst h2
    go_enter Tryz.func135, Tryz.ntmps135
    go_wp2
    go_ret
    exact ⟨rfl, box _ _⟩
  have e2 : (k == 2) = false := by rw [beq_eq_false_iff_ne]; exact h2
  rw [if_neg h2]
  clear h1 h2 h3
  go_enter Tryz.func135, Tryz.ntmps135
  go_wp2
  go_ret
  exact ⟨rfl, box _ _⟩
set_option maxHeartbeats 1000000 in
set_option maxRecDepth 100000 in
theorem rBytes_any (a b : List UInt8) (w : World) : Calls Tryz.prog 137 #[str a, str b] w (RetPureV (.int .i64 (cmpB a b)) w) := by
  have hl := bytesLess_cmp a b
  have hr := cmpB_rng a b
  by_cases h1 : cmpB a b = -1
  · rw [h1] at hl ⊢
    rw [show decide ((-1 : Int) < 0) = true by decide] at hl
    clear hr h1
    go_enter Tryz.func137, Tryz.ntmps137
    go_wp2
    go_ret
    exact ⟨rfl, rfl⟩
  · by_cases h2 : cmpB a b = 0
    · have he := (cmpB_zero a b).1 h2
      rw [h2] at hl ⊢
      rw [show decide ((0 : Int) < 0) = false by decide] at hl
      subst he
      clear hr h1 h2
      go_enter Tryz.func137, Tryz.ntmps137
      go_wp2
      go_ret
      exact ⟨rfl, rfl⟩
    · have h3 : cmpB a b = 1 := by omega
      have hne : (a == b) = false := by rw [beq_eq_false_iff_ne]; exact fun e => h2 ((cmpB_zero a b).2 e)
      rw [h3] at hl ⊢
      rw [show decide ((1 : Int) < 0) = false by decide] at hl
      clear hr h1 h2 h3
      go_enter Tryz.func137, Tryz.ntmps137
      go_wp2
      go_ret
      exact ⟨rfl, rfl⟩
set_option maxHeartbeats 1000000 in
set_option maxRecDepth 100000 in
theorem rCompareSymbols_any (p t p' t' : List UInt8) (w : World) : Calls Tryz.prog 138 #[.agg #[str p, str t], .agg #[str p', str t']] w (RetBel (.int .i64 (lex3 (cmpB t t') (cmpB p p'))) w) := by
  by_cases h : t = t'
  · subst h
    rw [lex3, if_pos ((cmpB_zero t t).2 rfl)]
    have HB := fun w' => Lib.hid (rBytes_any p p' w')
    generalize cmpB p p' = z at *
    go_enter Tryz.func138, Tryz.ntmps138
    go_wp2_with fail
    refine (HB _).out.mono ?_
    rintro e w1 ⟨rfl, rfl⟩
    go_wp2
    go_ret
    exact ⟨rfl, box2 (box _ _) _⟩
  · rw [lex3, if_neg (fun e => h ((cmpB_zero t t').1 e))]
    have hne : (t == t') = false := by rw [beq_eq_false_iff_ne]; exact h
    have HB := fun w' => Lib.hid (rBytes_any t t' w')
    clear h
    generalize cmpB t t' = z at *
    go_enter Tryz.func138, Tryz.ntmps138
    go_wp2_with fail
    refine (HB _).out.mono ?_
    rintro e w1 ⟨rfl, rfl⟩
    go_wp2
    go_ret
    exact ⟨rfl, box2 (box _ _) _⟩
set_option maxHeartbeats 4000000 in
set_option maxRecDepth 100000 in
theorem rCompare_diff (ox oy : Ob) (r1 r2 : Int) (h1 : rkI ox.kind + 1 = r1) (h2 : rkI oy.kind + 1 = r2) (hr : r1 ≠ r2) (A A' : Option Addr) (n n' c c' : Nat) (w : World) :
    Calls Tryz.prog 117 #[objV ox (.slice A n c), objV oy (.slice A' n' c')] w (RetBel (.int .i64 (if r1 < r2 then -1 else 1)) w) := by
  have HR1 : Hid (∀ w' : World, Calls Tryz.prog 135 #[objV ox (.slice A n c)] w' (RetBel (.int .i64 r1) w')) := fun w' => by rw [← h1]; exact rRank_any ox A n c w'
  have HR2 : Hid (∀ w' : World, Calls Tryz.prog 135 #[objV oy (.slice A' n' c')] w' (RetBel (.int .i64 r2) w')) := fun w' => by rw [← h2]; exact rRank_any oy A' n' c' w'
  have hne : (r1 != r2) = true := by rw [bne_iff_ne]; exact hr
  clear h1 h2
  by_cases hlt : r1 < r2
  · rw [if_pos hlt]
    clear hr
    go_enter Tryz.func117, Tryz.ntmps117
    go_upto_region 1 with (fail)
    have X0' := Lib.hid ((BlkIs.new w 31 (obCells ox (.slice A n c))).alloc (.cells (obCells oy (.slice A' n' c')) 31))
    have Y0' := Lib.hid (BlkIs.new1 w (.cells (obCells ox (.slice A n c)) 31) 31 (obCells oy (.slice A' n' c')))
    have b0 := (box2 (box w (.cells (obCells ox (.slice A n c)) 31)) (.cells (obCells oy (.slice A' n' c')) 31)).drew
    generalize (w.alloc (.cells (obCells ox (.slice A n c)) 31)).alloc (.cells (obCells oy (.slice A' n' c')) 31) = W at *
    have X0 := Lib.hid X0'.out.drew
    have Y0 := Lib.hid Y0'.out.drew
    obtain ⟨xs0, xs1, xs2, xs3, xs4, xs5, xs6, xsl⟩ := X0'.out.seven
    obtain ⟨ys0, ys1, ys2, ys3, ys4, ys5, ys6, ysl⟩ := Y0'.out.seven
    go_region_held3 (fun w' => w'.cell? ⟨w.heap.size, 0, none⟩ = some (.int .i64 ox.kind) ∧ w'.cell? ⟨w.heap.size, 1, none⟩ = some (str ox.num) ∧ w'.cell? ⟨w.heap.size, 2, none⟩ = some (str ox.den) ∧ w'.cell? ⟨w.heap.size, 3, none⟩ = some (str ox.sp) ∧ w'.cell? ⟨w.heap.size, 4, none⟩ = some (str ox.sn) ∧ w'.cell? ⟨w.heap.size, 5, none⟩ = some (str ox.text) ∧ w'.cell? ⟨w.heap.size, 6, none⟩ = some (.slice A n c) ∧ w'.cell? ⟨w.heap.size + 1, 0, none⟩ = some (.int .i64 oy.kind) ∧ w'.cell? ⟨w.heap.size + 1, 1, none⟩ = some (str oy.num) ∧ w'.cell? ⟨w.heap.size + 1, 2, none⟩ = some (str oy.den) ∧ w'.cell? ⟨w.heap.size + 1, 3, none⟩ = some (str oy.sp) ∧ w'.cell? ⟨w.heap.size + 1, 4, none⟩ = some (str oy.sn) ∧ w'.cell? ⟨w.heap.size + 1, 5, none⟩ = some (str oy.text) ∧ w'.cell? ⟨w.heap.size + 1, 6, none⟩ = some (.slice A' n' c')) (go_keep)
      (first | (go_at_call 135; ((with_reducible refine (HR1.out _).mono ?_)); rintro e v1 ⟨rfl, hb1⟩; have b1 := then_ b0 hb1; have X1 := Lib.hid (X0.out.below hb1); have Y1 := Lib.hid (Y0.out.below hb1); obtain ⟨xc1_0, xc1_1, xc1_2, xc1_3, xc1_4, xc1_5, xc1_6, xc1_l⟩ := X1.out.seven; obtain ⟨yc1_0, yc1_1, yc1_2, yc1_3, yc1_4, yc1_5, yc1_6, yc1_l⟩ := Y1.out.seven) | (go_at_call 135; ((with_reducible refine (HR2.out _).mono ?_)); rintro e v2 ⟨rfl, hb2⟩; have b2 := then_ b1 hb2; have X2 := Lib.hid (X1.out.below hb2); have Y2 := Lib.hid (Y1.out.below hb2); obtain ⟨xc2_0, xc2_1, xc2_2, xc2_3, xc2_4, xc2_5, xc2_6, xc2_l⟩ := X2.out.seven; obtain ⟨yc2_0, yc2_1, yc2_2, yc2_3, yc2_4, yc2_5, yc2_6, yc2_l⟩ := Y2.out.seven))
    go_upto_region 2 with (fail)
    have X3 := Lib.hid X2.out.drew
    have Y3 := Lib.hid Y2.out.drew
    have b3 := b2.drew
    go_region_held3 (fun w' => w'.cell? ⟨w.heap.size, 0, none⟩ = some (.int .i64 ox.kind) ∧ w'.cell? ⟨w.heap.size, 1, none⟩ = some (str ox.num) ∧ w'.cell? ⟨w.heap.size, 2, none⟩ = some (str ox.den) ∧ w'.cell? ⟨w.heap.size, 3, none⟩ = some (str ox.sp) ∧ w'.cell? ⟨w.heap.size, 4, none⟩ = some (str ox.sn) ∧ w'.cell? ⟨w.heap.size, 5, none⟩ = some (str ox.text) ∧ w'.cell? ⟨w.heap.size, 6, none⟩ = some (.slice A n c) ∧ w'.cell? ⟨w.heap.size + 1, 0, none⟩ = some (.int .i64 oy.kind) ∧ w'.cell? ⟨w.heap.size + 1, 1, none⟩ = some (str oy.num) ∧ w'.cell? ⟨w.heap.size + 1, 2, none⟩ = some (str oy.den) ∧ w'.cell? ⟨w.heap.size + 1, 3, none⟩ = some (str oy.sp) ∧ w'.cell? ⟨w.heap.size + 1, 4, none⟩ = some (str oy.sn) ∧ w'.cell? ⟨w.heap.size + 1, 5, none⟩ = some (str oy.text) ∧ w'.cell? ⟨w.heap.size + 1, 6, none⟩ = some (.slice A' n' c')) (go_keep)
      (first | (go_at_call 135; ((with_reducible refine (HR1.out _).mono ?_)); rintro e v4 ⟨rfl, hb4⟩; have b4 := then_ b3 hb4; have X4 := Lib.hid (X3.out.below hb4); have Y4 := Lib.hid (Y3.out.below hb4); obtain ⟨xc4_0, xc4_1, xc4_2, xc4_3, xc4_4, xc4_5, xc4_6, xc4_l⟩ := X4.out.seven; obtain ⟨yc4_0, yc4_1, yc4_2, yc4_3, yc4_4, yc4_5, yc4_6, yc4_l⟩ := Y4.out.seven) | (go_at_call 135; ((with_reducible refine (HR2.out _).mono ?_)); rintro e v5 ⟨rfl, hb5⟩; have b5 := then_ b4 hb5; have X5 := Lib.hid (X4.out.below hb5); have Y5 := Lib.hid (Y4.out.below hb5); obtain ⟨xc5_0, xc5_1, xc5_2, xc5_3, xc5_4, xc5_5, xc5_6, xc5_l⟩ := X5.out.seven; obtain ⟨yc5_0, yc5_1, yc5_2, yc5_3, yc5_4, yc5_5, yc5_6, yc5_l⟩ := Y5.out.seven))
    go_wp2
    go_ret
    exact ⟨rfl, b5⟩
  · rw [if_neg hlt]
    clear hr
    go_enter Tryz.func117, Tryz.ntmps117
    go_upto_region 1 with (fail)
    have X0' := Lib.hid ((BlkIs.new w 31 (obCells ox (.slice A n c))).alloc (.cells (obCells oy (.slice A' n' c')) 31))
    have Y0' := Lib.hid (BlkIs.new1 w (.cells (obCells ox (.slice A n c)) 31) 31 (obCells oy (.slice A' n' c')))
    have b0 := (box2 (box w (.cells (obCells ox (.slice A n c)) 31)) (.cells (obCells oy (.slice A' n' c')) 31)).drew
    generalize (w.alloc (.cells (obCells ox (.slice A n c)) 31)).alloc (.cells (obCells oy (.slice A' n' c')) 31) = W at *
    have X0 := Lib.hid X0'.out.drew
    have Y0 := Lib.hid Y0'.out.drew
    obtain ⟨xs0, xs1, xs2, xs3, xs4, xs5, xs6, xsl⟩ := X0'.out.seven
    obtain ⟨ys0, ys1, ys2, ys3, ys4, ys5, ys6, ysl⟩ := Y0'.out.seven
    go_region_held3 (fun w' => w'.cell? ⟨w.heap.size, 0, none⟩ = some (.int .i64 ox.kind) ∧ w'.cell? ⟨w.heap.size, 1, none⟩ = some (str ox.num) ∧ w'.cell? ⟨w.heap.size, 2, none⟩ = some (str ox.den) ∧ w'.cell? ⟨w.heap.size, 3, none⟩ = some (str ox.sp) ∧ w'.cell? ⟨w.heap.size, 4, none⟩ = some (str ox.sn) ∧ w'.cell? ⟨w.heap.size, 5, none⟩ = some (str ox.text) ∧ w'.cell? ⟨w.heap.size, 6, none⟩ = some (.slice A n c) ∧ w'.cell? ⟨w.heap.size + 1, 0, none⟩ = some (.int .i64 oy.kind) ∧ w'.cell? ⟨w.heap.size + 1, 1, none⟩ = some (str oy.num) ∧ w'.cell? ⟨w.heap.size + 1, 2, none⟩ = some (str oy.den) ∧ w'.cell? ⟨w.heap.size + 1, 3, none⟩ = some (str oy.sp) ∧ w'.cell? ⟨w.heap.size + 1, 4, none⟩ = some (str oy.sn) ∧ w'.cell? ⟨w.heap.size + 1, 5, none⟩ = some (str oy.text) ∧ w'.cell? ⟨w.heap.size + 1, 6, none⟩ = some (.slice A' n' c')) (go_keep)
      (first | (go_at_call 135; ((with_reducible refine (HR1.out _).mono ?_)); rintro e v1 ⟨rfl, hb1⟩; have b1 := then_ b0 hb1; have X1 := Lib.hid (X0.out.below hb1); have Y1 := Lib.hid (Y0.out.below hb1); obtain ⟨xc1_0, xc1_1, xc1_2, xc1_3, xc1_4, xc1_5, xc1_6, xc1_l⟩ := X1.out.seven; obtain ⟨yc1_0, yc1_1, yc1_2, yc1_3, yc1_4, yc1_5, yc1_6, yc1_l⟩ := Y1.out.seven) | (go_at_call 135; ((with_reducible refine (HR2.out _).mono ?_)); rintro e v2 ⟨rfl, hb2⟩; have b2 := then_ b1 hb2; have X2 := Lib.hid (X1.out.below hb2); have Y2 := Lib.hid (Y1.out.below hb2); obtain ⟨xc2_0, xc2_1, xc2_2, xc2_3, xc2_4, xc2_5, xc2_6, xc2_l⟩ := X2.out.seven; obtain ⟨yc2_0, yc2_1, yc2_2, yc2_3, yc2_4, yc2_5, yc2_6, yc2_l⟩ := Y2.out.seven))
    go_upto_region 2 with (fail)
    have X3 := Lib.hid X2.out.drew
    have Y3 := Lib.hid Y2.out.drew
    have b3 := b2.drew
    go_region_held3 (fun w' => w'.cell? ⟨w.heap.size, 0, none⟩ = some (.int .i64 ox.kind) ∧ w'.cell? ⟨w.heap.size, 1, none⟩ = some (str ox.num) ∧ w'.cell? ⟨w.heap.size, 2, none⟩ = some (str ox.den) ∧ w'.cell? ⟨w.heap.size, 3, none⟩ = some (str ox.sp) ∧ w'.cell? ⟨w.heap.size, 4, none⟩ = some (str ox.sn) ∧ w'.cell? ⟨w.heap.size, 5, none⟩ = some (str ox.text) ∧ w'.cell? ⟨w.heap.size, 6, none⟩ = some (.slice A n c) ∧ w'.cell? ⟨w.heap.size + 1, 0, none⟩ = some (.int .i64 oy.kind) ∧ w'.cell? ⟨w.heap.size + 1, 1, none⟩ = some (str oy.num) ∧ w'.cell? ⟨w.heap.size + 1, 2, none⟩ = some (str oy.den) ∧ w'.cell? ⟨w.heap.size + 1, 3, none⟩ = some (str oy.sp) ∧ w'.cell? ⟨w.heap.size + 1, 4, none⟩ = some (str oy.sn) ∧ w'.cell? ⟨w.heap.size + 1, 5, none⟩ = some (str oy.text) ∧ w'.cell? ⟨w.heap.size + 1, 6, none⟩ = some (.slice A' n' c')) (go_keep)
      (first | (go_at_call 135; ((with_reducible refine (HR1.out _).mono ?_)); rintro e v4 ⟨rfl, hb4⟩; have b4 := then_ b3 hb4; have X4 := Lib.hid (X3.out.below hb4); have Y4 := Lib.hid (Y3.out.below hb4); obtain ⟨xc4_0, xc4_1, xc4_2, xc4_3, xc4_4, xc4_5, xc4_6, xc4_l⟩ := X4.out.seven; obtain ⟨yc4_0, yc4_1, yc4_2, yc4_3, yc4_4, yc4_5, yc4_6, yc4_l⟩ := Y4.out.seven) | (go_at_call 135; ((with_reducible refine (HR2.out _).mono ?_)); rintro e v5 ⟨rfl, hb5⟩; have b5 := then_ b4 hb5; have X5 := Lib.hid (X4.out.below hb5); have Y5 := Lib.hid (Y4.out.below hb5); obtain ⟨xc5_0, xc5_1, xc5_2, xc5_3, xc5_4, xc5_5, xc5_6, xc5_l⟩ := X5.out.seven; obtain ⟨yc5_0, yc5_1, yc5_2, yc5_3, yc5_4, yc5_5, yc5_6, yc5_l⟩ := Y5.out.seven))
    go_wp2
    go_ret
    exact ⟨rfl, b5⟩
set_option maxHeartbeats 4000000 in
set_option maxRecDepth 100000 in
theorem rCompare_num (p q : Rat) {k m : Nat} (bp : Rb k p) (bq : Rb m q) (hk : k ≤ 10000) (hm : m ≤ 10000) (A A' : Option Addr) (n n' c c' : Nat) (w : World) :
    Calls Tryz.prog 117 #[objV (ratO p) (.slice A n c), objV (ratO q) (.slice A' n' c')] w (RetBel (.int .i64 (cmpQ p q)) w) := by
  have n1 : Num (k + 1) (Lib.itoa p.num) p.num := ⟨Dec.dval_itoa _, bp.nlen⟩
  have d1 : Num (k + 1) (Lib.itoa (p.den : Int)) p.den := ⟨Dec.dval_itoa _, bp.dlen⟩
  have n2 : Num (m + 1) (Lib.itoa q.num) q.num := ⟨Dec.dval_itoa _, bq.nlen⟩
  have d2 : Num (m + 1) (Lib.itoa (q.den : Int)) q.den := ⟨Dec.dval_itoa _, bq.dlen⟩
  have HM1 : Hid (∀ w' : World, Calls Tryz.prog 98 #[str (Lib.itoa p.num), str (Lib.itoa (q.den : Int))] w' (RetStr (Lib.itoa (p.num * q.den)) w')) := fun w' => rMulZ n1 d2 (by omega) (by omega) w'
  have HM2 : Hid (∀ w' : World, Calls Tryz.prog 98 #[str (Lib.itoa q.num), str (Lib.itoa (p.den : Int))] w' (RetStr (Lib.itoa (q.num * p.den)) w')) := fun w' => rMulZ n2 d1 (by omega) (by omega) w'
  have HC : Hid (∀ w' : World, Calls Tryz.prog 136 #[str (Lib.itoa (p.num * q.den)), str (Lib.itoa (q.num * p.den))] w' (RetI64 (cmpQ p q) w')) := fun w' => rCompareZ (n1.mul d2) (n2.mul d1) (by omega) (by omega) (cmpQ_cross p q) w'
  clear n1 n2 d1 d2
  unfold ratO
  generalize cmpQ p q = z at *
  generalize Lib.itoa (p.num * q.den) = l1 at *
  generalize Lib.itoa (q.num * p.den) = l2 at *
  generalize Lib.itoa p.num = ln at *
  generalize Lib.itoa q.num = rn at *
  generalize Lib.itoa (p.den : Int) = ld at *
  generalize Lib.itoa (q.den : Int) = rd at *
  have HR1 : Hid (∀ w' : World, Calls Tryz.prog 135 #[objV (numO ln ld) (.slice A n c)] w' (RetBel (.int .i64 1) w')) := fun w' => rRank_any (numO ln ld) A n c w'
  have HR2 : Hid (∀ w' : World, Calls Tryz.prog 135 #[objV (numO rn rd) (.slice A' n' c')] w' (RetBel (.int .i64 1) w')) := fun w' => rRank_any (numO rn rd) A' n' c' w'
  go_enter Tryz.func117, Tryz.ntmps117
  go_upto_region 1 with (fail)
  have X0' := Lib.hid ((BlkIs.new w 31 (obCells (numO ln ld) (.slice A n c))).alloc (.cells (obCells (numO rn rd) (.slice A' n' c')) 31))
  have Y0' := Lib.hid (BlkIs.new1 w (.cells (obCells (numO ln ld) (.slice A n c)) 31) 31 (obCells (numO rn rd) (.slice A' n' c')))
  have b0 := (box2 (box w (.cells (obCells (numO ln ld) (.slice A n c)) 31)) (.cells (obCells (numO rn rd) (.slice A' n' c')) 31)).drew
  generalize (w.alloc (.cells (obCells (numO ln ld) (.slice A n c)) 31)).alloc (.cells (obCells (numO rn rd) (.slice A' n' c')) 31) = W at *
  have X0 := Lib.hid X0'.out.drew
  have Y0 := Lib.hid Y0'.out.drew
  obtain ⟨xs0, xs1, xs2, xs3, xs4, xs5, xs6, xsl⟩ := X0'.out.seven
  obtain ⟨ys0, ys1, ys2, ys3, ys4, ys5, ys6, ysl⟩ := Y0'.out.seven
  go_region_held3 (fun w' => w'.cell? ⟨w.heap.size, 0, none⟩ = some (.int .i64 1) ∧ w'.cell? ⟨w.heap.size, 1, none⟩ = some (str ln) ∧ w'.cell? ⟨w.heap.size, 2, none⟩ = some (str ld) ∧ w'.cell? ⟨w.heap.size, 3, none⟩ = some (str []) ∧ w'.cell? ⟨w.heap.size, 4, none⟩ = some (str []) ∧ w'.cell? ⟨w.heap.size, 5, none⟩ = some (str []) ∧ w'.cell? ⟨w.heap.size, 6, none⟩ = some (.slice A n c) ∧ w'.cell? ⟨w.heap.size + 1, 0, none⟩ = some (.int .i64 1) ∧ w'.cell? ⟨w.heap.size + 1, 1, none⟩ = some (str rn) ∧ w'.cell? ⟨w.heap.size + 1, 2, none⟩ = some (str rd) ∧ w'.cell? ⟨w.heap.size + 1, 3, none⟩ = some (str []) ∧ w'.cell? ⟨w.heap.size + 1, 4, none⟩ = some (str []) ∧ w'.cell? ⟨w.heap.size + 1, 5, none⟩ = some (str []) ∧ w'.cell? ⟨w.heap.size + 1, 6, none⟩ = some (.slice A' n' c')) (go_keep)
    (first | (go_at_call 135; ((with_reducible refine (HR1.out _).mono ?_)); rintro e v1 ⟨rfl, hb1⟩; have b1 := then_ b0 hb1; have X1 := Lib.hid (X0.out.below hb1); have Y1 := Lib.hid (Y0.out.below hb1); obtain ⟨xc1_0, xc1_1, xc1_2, xc1_3, xc1_4, xc1_5, xc1_6, xc1_l⟩ := X1.out.seven; obtain ⟨yc1_0, yc1_1, yc1_2, yc1_3, yc1_4, yc1_5, yc1_6, yc1_l⟩ := Y1.out.seven) | (go_at_call 135; ((with_reducible refine (HR2.out _).mono ?_)); rintro e v2 ⟨rfl, hb2⟩; have b2 := then_ b1 hb2; have X2 := Lib.hid (X1.out.below hb2); have Y2 := Lib.hid (Y1.out.below hb2); obtain ⟨xc2_0, xc2_1, xc2_2, xc2_3, xc2_4, xc2_5, xc2_6, xc2_l⟩ := X2.out.seven; obtain ⟨yc2_0, yc2_1, yc2_2, yc2_3, yc2_4, yc2_5, yc2_6, yc2_l⟩ := Y2.out.seven))
  go_wp2_with fail
  refine (HR1.out _).mono ?_
  rintro e v3 ⟨rfl, hb3⟩
  have b3 := then_ b2 hb3
  have X3 := Lib.hid (X2.out.below hb3)
  have Y3 := Lib.hid (Y2.out.below hb3)
  clear xc2_0 xc2_1 xc2_2 xc2_3 xc2_4 xc2_5 xc2_6 yc2_0 yc2_1 yc2_2 yc2_3 yc2_4 yc2_5 yc2_6
  obtain ⟨xc3_0, xc3_1, xc3_2, xc3_3, xc3_4, xc3_5, xc3_6, xc3_l⟩ := X3.out.seven
  obtain ⟨yc3_0, yc3_1, yc3_2, yc3_3, yc3_4, yc3_5, yc3_6, yc3_l⟩ := Y3.out.seven
  go_upto_region 7 with (fail)
  have X4 := Lib.hid X3.out.drew
  have Y4 := Lib.hid Y3.out.drew
  have b4 := b3.drew
  go_region_held3 (fun w' => w'.cell? ⟨w.heap.size, 1, none⟩ = some (str ln) ∧ w'.cell? ⟨w.heap.size, 2, none⟩ = some (str ld) ∧ w'.cell? ⟨w.heap.size + 1, 1, none⟩ = some (str rn) ∧ w'.cell? ⟨w.heap.size + 1, 2, none⟩ = some (str rd)) (go_keep)
    (first | (go_at_call 98; ((with_reducible refine (HM1.out _).mono ?_)); rintro e v5 ⟨rfl, hb5⟩; have b5 := then_ b4 hb5; have X5 := Lib.hid (X4.out.below hb5); have Y5 := Lib.hid (Y4.out.below hb5); obtain ⟨xc5_0, xc5_1, xc5_2, xc5_3, xc5_4, xc5_5, xc5_6, xc5_l⟩ := X5.out.seven; obtain ⟨yc5_0, yc5_1, yc5_2, yc5_3, yc5_4, yc5_5, yc5_6, yc5_l⟩ := Y5.out.seven) | (go_at_call 98; ((with_reducible refine (HM2.out _).mono ?_)); rintro e v6 ⟨rfl, hb6⟩; have b6 := then_ b5 hb6; have X6 := Lib.hid (X5.out.below hb6); have Y6 := Lib.hid (Y5.out.below hb6); obtain ⟨xc6_0, xc6_1, xc6_2, xc6_3, xc6_4, xc6_5, xc6_6, xc6_l⟩ := X6.out.seven; obtain ⟨yc6_0, yc6_1, yc6_2, yc6_3, yc6_4, yc6_5, yc6_6, yc6_l⟩ := Y6.out.seven) | (go_at_call 136; ((with_reducible refine (HC.out _).mono ?_)); rintro e v7 ⟨rfl, hb7⟩; have b7 := then_ b6 hb7; have X7 := Lib.hid (X6.out.below hb7); have Y7 := Lib.hid (Y6.out.below hb7); obtain ⟨xc7_0, xc7_1, xc7_2, xc7_3, xc7_4, xc7_5, xc7_6, xc7_l⟩ := X7.out.seven; obtain ⟨yc7_0, yc7_1, yc7_2, yc7_3, yc7_4, yc7_5, yc7_6, yc7_l⟩ := Y7.out.seven))
  go_wp2
  go_ret
  exact ⟨rfl, b7⟩
set_option maxHeartbeats 4000000 in
set_option maxRecDepth 100000 in
theorem rCompare_txt (p q : List UInt8) (A A' : Option Addr) (n n' c c' : Nat) (w : World) :
    Calls Tryz.prog 117 #[objV (txtO p) (.slice A n c), objV (txtO q) (.slice A' n' c')] w (RetBel (.int .i64 (cmpB p q)) w) := by
  have HC : Hid (∀ w' : World, Calls Tryz.prog 137 #[str p, str q] w' (RetPureV (.int .i64 (cmpB p q)) w')) := fun w' => rBytes_any p q w'
  generalize cmpB p q = z at *
  have HR1 : Hid (∀ w' : World, Calls Tryz.prog 135 #[objV (txtO p) (.slice A n c)] w' (RetBel (.int .i64 2) w')) := fun w' => rRank_any (txtO p) A n c w'
  have HR2 : Hid (∀ w' : World, Calls Tryz.prog 135 #[objV (txtO q) (.slice A' n' c')] w' (RetBel (.int .i64 2) w')) := fun w' => rRank_any (txtO q) A' n' c' w'
  go_enter Tryz.func117, Tryz.ntmps117
  go_upto_region 1 with (fail)
  have X0' := Lib.hid ((BlkIs.new w 31 (obCells (txtO p) (.slice A n c))).alloc (.cells (obCells (txtO q) (.slice A' n' c')) 31))
  have Y0' := Lib.hid (BlkIs.new1 w (.cells (obCells (txtO p) (.slice A n c)) 31) 31 (obCells (txtO q) (.slice A' n' c')))
  have b0 := (box2 (box w (.cells (obCells (txtO p) (.slice A n c)) 31)) (.cells (obCells (txtO q) (.slice A' n' c')) 31)).drew
  generalize (w.alloc (.cells (obCells (txtO p) (.slice A n c)) 31)).alloc (.cells (obCells (txtO q) (.slice A' n' c')) 31) = W at *
  have X0 := Lib.hid X0'.out.drew
  have Y0 := Lib.hid Y0'.out.drew
  obtain ⟨xs0, xs1, xs2, xs3, xs4, xs5, xs6, xsl⟩ := X0'.out.seven
  obtain ⟨ys0, ys1, ys2, ys3, ys4, ys5, ys6, ysl⟩ := Y0'.out.seven
  go_region_held3 (fun w' => w'.cell? ⟨w.heap.size, 0, none⟩ = some (.int .i64 3) ∧ w'.cell? ⟨w.heap.size, 1, none⟩ = some (str []) ∧ w'.cell? ⟨w.heap.size, 2, none⟩ = some (str []) ∧ w'.cell? ⟨w.heap.size, 3, none⟩ = some (str []) ∧ w'.cell? ⟨w.heap.size, 4, none⟩ = some (str []) ∧ w'.cell? ⟨w.heap.size, 5, none⟩ = some (str p) ∧ w'.cell? ⟨w.heap.size, 6, none⟩ = some (.slice A n c) ∧ w'.cell? ⟨w.heap.size + 1, 0, none⟩ = some (.int .i64 3) ∧ w'.cell? ⟨w.heap.size + 1, 1, none⟩ = some (str []) ∧ w'.cell? ⟨w.heap.size + 1, 2, none⟩ = some (str []) ∧ w'.cell? ⟨w.heap.size + 1, 3, none⟩ = some (str []) ∧ w'.cell? ⟨w.heap.size + 1, 4, none⟩ = some (str []) ∧ w'.cell? ⟨w.heap.size + 1, 5, none⟩ = some (str q) ∧ w'.cell? ⟨w.heap.size + 1, 6, none⟩ = some (.slice A' n' c')) (go_keep)
    (first | (go_at_call 135; ((with_reducible refine (HR1.out _).mono ?_)); rintro e v1 ⟨rfl, hb1⟩; have b1 := then_ b0 hb1; have X1 := Lib.hid (X0.out.below hb1); have Y1 := Lib.hid (Y0.out.below hb1); obtain ⟨xc1_0, xc1_1, xc1_2, xc1_3, xc1_4, xc1_5, xc1_6, xc1_l⟩ := X1.out.seven; obtain ⟨yc1_0, yc1_1, yc1_2, yc1_3, yc1_4, yc1_5, yc1_6, yc1_l⟩ := Y1.out.seven) | (go_at_call 135; ((with_reducible refine (HR2.out _).mono ?_)); rintro e v2 ⟨rfl, hb2⟩; have b2 := then_ b1 hb2; have X2 := Lib.hid (X1.out.below hb2); have Y2 := Lib.hid (Y1.out.below hb2); obtain ⟨xc2_0, xc2_1, xc2_2, xc2_3, xc2_4, xc2_5, xc2_6, xc2_l⟩ := X2.out.seven; obtain ⟨yc2_0, yc2_1, yc2_2, yc2_3, yc2_4, yc2_5, yc2_6, yc2_l⟩ := Y2.out.seven))
  go_wp2_with fail
  refine (HR1.out _).mono ?_
  rintro e v3 ⟨rfl, hb3⟩
  have b3 := then_ b2 hb3
  have X3 := Lib.hid (X2.out.below hb3)
  have Y3 := Lib.hid (Y2.out.below hb3)
  clear xc2_0 xc2_1 xc2_2 xc2_3 xc2_4 xc2_5 xc2_6 yc2_0 yc2_1 yc2_2 yc2_3 yc2_4 yc2_5 yc2_6
  obtain ⟨xc3_0, xc3_1, xc3_2, xc3_3, xc3_4, xc3_5, xc3_6, xc3_l⟩ := X3.out.seven
  obtain ⟨yc3_0, yc3_1, yc3_2, yc3_3, yc3_4, yc3_5, yc3_6, yc3_l⟩ := Y3.out.seven
  go_wp2_with fail
  refine (HC.out _).mono ?_
  rintro e v4 ⟨rfl, rfl⟩
  go_wp2
  go_ret
  exact ⟨rfl, b3⟩
set_option maxHeartbeats 4000000 in
set_option maxRecDepth 100000 in
theorem rCompare_sym (p t p' t' : List UInt8) (A A' : Option Addr) (n n' c c' : Nat) (w : World) :
    Calls Tryz.prog 117 #[objV (symO p t) (.slice A n c), objV (symO p' t') (.slice A' n' c')] w (RetBel (.int .i64 (lex3 (cmpB t t') (cmpB p p'))) w) := by
  have HC : Hid (∀ w' : World, Calls Tryz.prog 138 #[.agg #[str p, str t], .agg #[str p', str t']] w' (RetBel (.int .i64 (lex3 (cmpB t t') (cmpB p p'))) w')) := fun w' => rCompareSymbols_any p t p' t' w'
  generalize lex3 (cmpB t t') (cmpB p p') = z at *
  have HR1 : Hid (∀ w' : World, Calls Tryz.prog 135 #[objV (symO p t) (.slice A n c)] w' (RetBel (.int .i64 3) w')) := fun w' => rRank_any (symO p t) A n c w'
  have HR2 : Hid (∀ w' : World, Calls Tryz.prog 135 #[objV (symO p' t') (.slice A' n' c')] w' (RetBel (.int .i64 3) w')) := fun w' => rRank_any (symO p' t') A' n' c' w'
  go_enter Tryz.func117, Tryz.ntmps117
  go_upto_region 1 with (fail)
  have X0' := Lib.hid ((BlkIs.new w 31 (obCells (symO p t) (.slice A n c))).alloc (.cells (obCells (symO p' t') (.slice A' n' c')) 31))
  have Y0' := Lib.hid (BlkIs.new1 w (.cells (obCells (symO p t) (.slice A n c)) 31) 31 (obCells (symO p' t') (.slice A' n' c')))
  have b0 := (box2 (box w (.cells (obCells (symO p t) (.slice A n c)) 31)) (.cells (obCells (symO p' t') (.slice A' n' c')) 31)).drew
  generalize (w.alloc (.cells (obCells (symO p t) (.slice A n c)) 31)).alloc (.cells (obCells (symO p' t') (.slice A' n' c')) 31) = W at *
  have X0 := Lib.hid X0'.out.drew
  have Y0 := Lib.hid Y0'.out.drew
  obtain ⟨xs0, xs1, xs2, xs3, xs4, xs5, xs6, xsl⟩ := X0'.out.seven
  obtain ⟨ys0, ys1, ys2, ys3, ys4, ys5, ys6, ysl⟩ := Y0'.out.seven
  go_region_held3 (fun w' => w'.cell? ⟨w.heap.size, 0, none⟩ = some (.int .i64 2) ∧ w'.cell? ⟨w.heap.size, 1, none⟩ = some (str []) ∧ w'.cell? ⟨w.heap.size, 2, none⟩ = some (str []) ∧ w'.cell? ⟨w.heap.size, 3, none⟩ = some (str p) ∧ w'.cell? ⟨w.heap.size, 4, none⟩ = some (str t) ∧ w'.cell? ⟨w.heap.size, 5, none⟩ = some (str []) ∧ w'.cell? ⟨w.heap.size, 6, none⟩ = some (.slice A n c) ∧ w'.cell? ⟨w.heap.size + 1, 0, none⟩ = some (.int .i64 2) ∧ w'.cell? ⟨w.heap.size + 1, 1, none⟩ = some (str []) ∧ w'.cell? ⟨w.heap.size + 1, 2, none⟩ = some (str []) ∧ w'.cell? ⟨w.heap.size + 1, 3, none⟩ = some (str p') ∧ w'.cell? ⟨w.heap.size + 1, 4, none⟩ = some (str t') ∧ w'.cell? ⟨w.heap.size + 1, 5, none⟩ = some (str []) ∧ w'.cell? ⟨w.heap.size + 1, 6, none⟩ = some (.slice A' n' c')) (go_keep)
    (first | (go_at_call 135; ((with_reducible refine (HR1.out _).mono ?_)); rintro e v1 ⟨rfl, hb1⟩; have b1 := then_ b0 hb1; have X1 := Lib.hid (X0.out.below hb1); have Y1 := Lib.hid (Y0.out.below hb1); obtain ⟨xc1_0, xc1_1, xc1_2, xc1_3, xc1_4, xc1_5, xc1_6, xc1_l⟩ := X1.out.seven; obtain ⟨yc1_0, yc1_1, yc1_2, yc1_3, yc1_4, yc1_5, yc1_6, yc1_l⟩ := Y1.out.seven) | (go_at_call 135; ((with_reducible refine (HR2.out _).mono ?_)); rintro e v2 ⟨rfl, hb2⟩; have b2 := then_ b1 hb2; have X2 := Lib.hid (X1.out.below hb2); have Y2 := Lib.hid (Y1.out.below hb2); obtain ⟨xc2_0, xc2_1, xc2_2, xc2_3, xc2_4, xc2_5, xc2_6, xc2_l⟩ := X2.out.seven; obtain ⟨yc2_0, yc2_1, yc2_2, yc2_3, yc2_4, yc2_5, yc2_6, yc2_l⟩ := Y2.out.seven))
  go_wp2_with fail
  refine (HR1.out _).mono ?_
  rintro e v3 ⟨rfl, hb3⟩
  have b3 := then_ b2 hb3
  have X3 := Lib.hid (X2.out.below hb3)
  have Y3 := Lib.hid (Y2.out.below hb3)
  clear xc2_0 xc2_1 xc2_2 xc2_3 xc2_4 xc2_5 xc2_6 yc2_0 yc2_1 yc2_2 yc2_3 yc2_4 yc2_5 yc2_6
  obtain ⟨xc3_0, xc3_1, xc3_2, xc3_3, xc3_4, xc3_5, xc3_6, xc3_l⟩ := X3.out.seven
  obtain ⟨yc3_0, yc3_1, yc3_2, yc3_3, yc3_4, yc3_5, yc3_6, yc3_l⟩ := Y3.out.seven
  go_wp2_with fail
  refine (HC.out _).mono ?_
  rintro e v4 ⟨rfl, hb4⟩
  go_wp2
  go_ret
  exact ⟨rfl, then_ b3 hb4⟩
set_option maxHeartbeats 4000000 in
set_option maxRecDepth 100000 in
theorem rCompare_cons (ok ok' : Nat → Prop) (xa xd ya yd : Ob) (z1 z2 : Int) (A A' : Option Addr) (c c' : Nat) (w : World) (hx : Rd ok w (.slice A 2 c) (.row ([xa, xd].map Ob.enc))) (hy : Rd ok' w (.slice A' 2 c') (.row ([ya, yd].map Ob.enc)))
    (H1 : ∀ (w' : World) (A4 A5 : Option Addr) (n4 n5 c4 c5 : Nat), Below w.heap.size w w' → Rd ok w (.slice A4 n4 c4) (.row (xa.pair.map Ob.enc)) → Rd ok' w (.slice A5 n5 c5) (.row (ya.pair.map Ob.enc)) → Calls Tryz.prog 117 #[objV xa (.slice A4 n4 c4), objV ya (.slice A5 n5 c5)] w' (RetBel (.int .i64 z1) w'))
    (H2 : ∀ (w' : World) (A4 A5 : Option Addr) (n4 n5 c4 c5 : Nat), Below w.heap.size w w' → Rd ok w (.slice A4 n4 c4) (.row (xd.pair.map Ob.enc)) → Rd ok' w (.slice A5 n5 c5) (.row (yd.pair.map Ob.enc)) → Calls Tryz.prog 117 #[objV xd (.slice A4 n4 c4), objV yd (.slice A5 n5 c5)] w' (RetBel (.int .i64 z2) w')) :
    Calls Tryz.prog 117 #[objV (consO xa xd) (.slice A 2 c), objV (consO ya yd) (.slice A' 2 c')] w (RetBel (.int .i64 (lex3 z1 z2)) w) := by
  have HI1 : Hid (∀ w' : World, Calls Tryz.prog 95 #[objV (consO xa xd) (.slice A 2 c)] w' (RetBel (.bool true) w')) := fun w' => rIsCons_any (consO xa xd) A 2 c w' (by omega)
  have HI2 : Hid (∀ w' : World, Calls Tryz.prog 95 #[objV (consO ya yd) (.slice A' 2 c')] w' (RetBel (.bool true) w')) := fun w' => rIsCons_any (consO ya yd) A' 2 c' w' (by omega)
  have HH1 := Lib.hid H1
  have HH2 := Lib.hid H2
  clear H1 H2
  generalize hz : lex3 z1 z2 = z
  have HZ := Lib.hid hz
  clear hz
  have HR1 : Hid (∀ w' : World, Calls Tryz.prog 135 #[objV (consO xa xd) (.slice A 2 c)] w' (RetBel (.int .i64 4) w')) := fun w' => rRank_any (consO xa xd) A 2 c w'
  have HR2 : Hid (∀ w' : World, Calls Tryz.prog 135 #[objV (consO ya yd) (.slice A' 2 c')] w' (RetBel (.int .i64 4) w')) := fun w' => rRank_any (consO ya yd) A' 2 c' w'
  go_enter Tryz.func117, Tryz.ntmps117
  go_upto_region 1 with (fail)
  have X0' := Lib.hid ((BlkIs.new w 31 (obCells (consO xa xd) (.slice A 2 c))).alloc (.cells (obCells (consO ya yd) (.slice A' 2 c')) 31))
  have Y0' := Lib.hid (BlkIs.new1 w (.cells (obCells (consO xa xd) (.slice A 2 c)) 31) 31 (obCells (consO ya yd) (.slice A' 2 c')))
  have b0 := (box2 (box w (.cells (obCells (consO xa xd) (.slice A 2 c)) 31)) (.cells (obCells (consO ya yd) (.slice A' 2 c')) 31)).drew
  generalize (w.alloc (.cells (obCells (consO xa xd) (.slice A 2 c)) 31)).alloc (.cells (obCells (consO ya yd) (.slice A' 2 c')) 31) = W at *
  have X0 := Lib.hid X0'.out.drew
  have Y0 := Lib.hid Y0'.out.drew
  obtain ⟨xs0, xs1, xs2, xs3, xs4, xs5, xs6, xsl⟩ := X0'.out.seven
  obtain ⟨ys0, ys1, ys2, ys3, ys4, ys5, ys6, ysl⟩ := Y0'.out.seven
  go_region_held3 (fun w' => w'.cell? ⟨w.heap.size, 0, none⟩ = some (.int .i64 4) ∧ w'.cell? ⟨w.heap.size, 1, none⟩ = some (str []) ∧ w'.cell? ⟨w.heap.size, 2, none⟩ = some (str []) ∧ w'.cell? ⟨w.heap.size, 3, none⟩ = some (str []) ∧ w'.cell? ⟨w.heap.size, 4, none⟩ = some (str []) ∧ w'.cell? ⟨w.heap.size, 5, none⟩ = some (str []) ∧ w'.cell? ⟨w.heap.size, 6, none⟩ = some (.slice A 2 c) ∧ w'.cell? ⟨w.heap.size + 1, 0, none⟩ = some (.int .i64 4) ∧ w'.cell? ⟨w.heap.size + 1, 1, none⟩ = some (str []) ∧ w'.cell? ⟨w.heap.size + 1, 2, none⟩ = some (str []) ∧ w'.cell? ⟨w.heap.size + 1, 3, none⟩ = some (str []) ∧ w'.cell? ⟨w.heap.size + 1, 4, none⟩ = some (str []) ∧ w'.cell? ⟨w.heap.size + 1, 5, none⟩ = some (str []) ∧ w'.cell? ⟨w.heap.size + 1, 6, none⟩ = some (.slice A' 2 c')) (go_keep)
    (first | (go_at_call 135; ((with_reducible refine (HR1.out _).mono ?_)); rintro e v1 ⟨rfl, hb1⟩; have b1 := then_ b0 hb1; have X1 := Lib.hid (X0.out.below hb1); have Y1 := Lib.hid (Y0.out.below hb1); obtain ⟨xc1_0, xc1_1, xc1_2, xc1_3, xc1_4, xc1_5, xc1_6, xc1_l⟩ := X1.out.seven; obtain ⟨yc1_0, yc1_1, yc1_2, yc1_3, yc1_4, yc1_5, yc1_6, yc1_l⟩ := Y1.out.seven) | (go_at_call 135; ((with_reducible refine (HR2.out _).mono ?_)); rintro e v2 ⟨rfl, hb2⟩; have b2 := then_ b1 hb2; have X2 := Lib.hid (X1.out.below hb2); have Y2 := Lib.hid (Y1.out.below hb2); obtain ⟨xc2_0, xc2_1, xc2_2, xc2_3, xc2_4, xc2_5, xc2_6, xc2_l⟩ := X2.out.seven; obtain ⟨yc2_0, yc2_1, yc2_2, yc2_3, yc2_4, yc2_5, yc2_6, yc2_l⟩ := Y2.out.seven))
  go_wp2_with fail
  refine (HR1.out _).mono ?_
  rintro e v3 ⟨rfl, hb3⟩
  have b3 := then_ b2 hb3
  have X3 := Lib.hid (X2.out.below hb3)
  have Y3 := Lib.hid (Y2.out.below hb3)
  clear xc2_0 xc2_1 xc2_2 xc2_3 xc2_4 xc2_5 xc2_6 yc2_0 yc2_1 yc2_2 yc2_3 yc2_4 yc2_5 yc2_6
  obtain ⟨xc3_0, xc3_1, xc3_2, xc3_3, xc3_4, xc3_5, xc3_6, xc3_l⟩ := X3.out.seven
  obtain ⟨yc3_0, yc3_1, yc3_2, yc3_3, yc3_4, yc3_5, yc3_6, yc3_l⟩ := Y3.out.seven
  go_wp2_with fail
  refine (HI1.out _).mono ?_
  rintro e v4 ⟨rfl, hb4⟩
  have b4 := then_ b3 hb4
  have X4 := Lib.hid (X3.out.below hb4)
  have Y4 := Lib.hid (Y3.out.below hb4)
  clear xc3_0 xc3_1 xc3_2 xc3_3 xc3_4 xc3_5 xc3_6 yc3_0 yc3_1 yc3_2 yc3_3 yc3_4 yc3_5 yc3_6
  obtain ⟨xc4_0, xc4_1, xc4_2, xc4_3, xc4_4, xc4_5, xc4_6, xc4_l⟩ := X4.out.seven
  obtain ⟨yc4_0, yc4_1, yc4_2, yc4_3, yc4_4, yc4_5, yc4_6, yc4_l⟩ := Y4.out.seven
  go_wp2_with fail
  refine (HI2.out _).mono ?_
  rintro e v5 ⟨rfl, hb5⟩
  have b5 := then_ b4 hb5
  have X5 := Lib.hid (X4.out.below hb5)
  have Y5 := Lib.hid (Y4.out.below hb5)
  clear xc4_0 xc4_1 xc4_2 xc4_3 xc4_4 xc4_5 xc4_6 yc4_0 yc4_1 yc4_2 yc4_3 yc4_4 yc4_5 yc4_6
  obtain ⟨xc5_0, xc5_1, xc5_2, xc5_3, xc5_4, xc5_5, xc5_6, xc5_l⟩ := X5.out.seven
  obtain ⟨yc5_0, yc5_1, yc5_2, yc5_3, yc5_4, yc5_5, yc5_6, yc5_l⟩ := Y5.out.seven
  obtain ⟨p1, q1, _, A4, n4, c4, rfl, hp1, _, a0, a1, a2, a3, a4, a5, a6, ha⟩ := hx.objs b5 (i := 0) (by omega)
  obtain ⟨p2, q2, _, A5, n5, c5, rfl, hp2, _, e0, e1, e2, e3, e4, e5, e6, he⟩ := hy.objs b5 (i := 0) (by omega)
  simp only [List.getElem_cons_zero, Nat.zero_mul, Nat.add_zero] at a0 a1 a2 a3 a4 a5 a6 ha e0 e1 e2 e3 e4 e5 e6 he
  have hp1' := Nat.lt_of_lt_of_le hp1 b5.size
  have hp2' := Nat.lt_of_lt_of_le hp2 b5.size
  have HC := Lib.hid (HH1.out v5.drew A4 A5 n4 n5 c4 c5 b5.drew ha he)
  clear HH1
  have b5' := b5.drew
  have X5' := Lib.hid X5.out.drew
  have Y5' := Lib.hid Y5.out.drew
  go_upto_region 14 with (fail)
  go_still_tail 8, (by kernel_rfl)
  go_wp2_with fail
  refine HC.out.mono ?_
  rintro e v6 ⟨rfl, hb6⟩
  have b6 := then_ b5' hb6
  have X6 := Lib.hid (X5'.out.below hb6)
  have Y6 := Lib.hid (Y5'.out.below hb6)
  clear xc5_0 xc5_1 xc5_2 xc5_3 xc5_4 xc5_5 xc5_6 yc5_0 yc5_1 yc5_2 yc5_3 yc5_4 yc5_5 yc5_6 a0 a1 a2 a3 a4 a5 a6 e0 e1 e2 e3 e4 e5 e6
  by_cases h0 : z1 = 0
  · subst h0
    obtain rfl : z = z2 := by rw [← HZ.out, lex3, if_pos rfl]
    clear HZ
    obtain ⟨xd0, xd1, xd2, xd3, xd4, xd5, xd6, xdl⟩ := X6.out.seven
    obtain ⟨yd0, yd1, yd2, yd3, yd4, yd5, yd6, ydl⟩ := Y6.out.seven
    obtain ⟨p3, q3, _, A6, n6, c6, eA, _, _, a0, a1, a2, a3, a4, a5, a6, ha'⟩ := hx.objs b6 (i := 1) (by omega)
    injection eA with eA
    injection eA with eb eq
    subst eb eq
    obtain ⟨p4, q4, _, A7, n7, c7, eA, _, _, e0, e1, e2, e3, e4, e5, e6, he'⟩ := hy.objs b6 (i := 1) (by omega)
    injection eA with eA
    injection eA with eb eq
    subst eb eq
    simp only [List.getElem_cons_zero, List.getElem_cons_succ, Nat.one_mul] at a0 a1 a2 a3 a4 a5 a6 ha' e0 e1 e2 e3 e4 e5 e6 he'
    have hp3' := Nat.lt_of_lt_of_le hp1 b6.size
    have hp4' := Nat.lt_of_lt_of_le hp2 b6.size
    have HC2 := Lib.hid (HH2.out v6.drew A6 A7 n6 n7 c6 c7 b6.drew ha' he')
    have b6' := b6.drew
    go_upto_region 17 with (fail)
    go_still_tail 8, (by kernel_rfl)
    go_wp2_with fail
    refine HC2.out.mono ?_
    rintro e v7 ⟨rfl, hb7⟩
    go_wp2
    go_ret
    exact ⟨rfl, then_ b6' hb7⟩
  · obtain rfl : z = z1 := by rw [← HZ.out, lex3, if_neg h0]
    have hz0 : (z != 0) = true := by rw [bne_iff_ne]; exact h0
    clear h0 HZ
    go_wp2
    go_ret
    exact ⟨rfl, b6⟩
theorem rCompare_any (ok ok' : Nat → Prop) {k : Nat} (hk : k ≤ 10000) : ∀ (a b : Tr), a.Ok k → b.Ok k → ∀ (A A' : Option Addr) (n n' c c' : Nat) (w : World), Rd ok w (.slice A n c) (.row (a.ob.pair.map Ob.enc)) → Rd ok' w (.slice A' n' c') (.row (b.ob.pair.map Ob.enc)) →
    Calls Tryz.prog 117 #[objV a.ob (.slice A n c), objV b.ob (.slice A' n' c')] w (RetBel (.int .i64 (Tr.cmp a b)) w) := by
  intro a
  induction a with
  | num p =>
    intro b hka hkb A A' n n' c c' w hA hB
    by_cases hr : (Tr.num p).rank = b.rank
    · cases b <;> cases hr
      exact rCompare_num p _ hka hkb hk hk A A' n n' c c' w
    · rw [Tr.cmp_rank hr]
      have := rCompare_diff (Tr.num p).ob b.ob _ _ (by rw [Tr.rk]) (by rw [Tr.rk]) (fun e => hr (by omega)) A A' n n' c c' w
      simp only [Int.add_lt_add_iff_right] at this
      exact this
  | txt p =>
    intro b hka hkb A A' n n' c c' w hA hB
    by_cases hr : (Tr.txt p).rank = b.rank
    · cases b <;> cases hr
      exact rCompare_txt p _ A A' n n' c c' w
    · rw [Tr.cmp_rank hr]
      have := rCompare_diff (Tr.txt p).ob b.ob _ _ (by rw [Tr.rk]) (by rw [Tr.rk]) (fun e => hr (by omega)) A A' n n' c c' w
      simp only [Int.add_lt_add_iff_right] at this
      exact this
  | sym p t =>
    intro b hka hkb A A' n n' c c' w hA hB
    by_cases hr : (Tr.sym p t).rank = b.rank
    · cases b <;> cases hr
      exact rCompare_sym p t _ _ A A' n n' c c' w
    · rw [Tr.cmp_rank hr]
      have := rCompare_diff (Tr.sym p t).ob b.ob _ _ (by rw [Tr.rk]) (by rw [Tr.rk]) (fun e => hr (by omega)) A A' n n' c c' w
      simp only [Int.add_lt_add_iff_right] at this
      exact this
  | cons xa xd iha ihd =>
    intro b hka hkb A A' n n' c c' w hA hB
    by_cases hr : (Tr.cons xa xd).rank = b.rank
    · cases b <;> cases hr
      rename_i ya yd
      obtain rfl : n = 2 := by have := hA.len; rw [List.length_map] at this; exact this.symm
      obtain rfl : n' = 2 := by have := hB.len; rw [List.length_map] at this; exact this.symm
      exact rCompare_cons ok ok' xa.ob xd.ob ya.ob yd.ob (Tr.cmp xa ya) (Tr.cmp xd yd) A A' c c' w hA hB (fun w' A4 A5 n4 n5 c4 c5 hb h1 h2 => iha ya hka.1 hkb.1 A4 A5 n4 n5 c4 c5 w' (h1.under hb) (h2.under hb)) (fun w' A4 A5 n4 n5 c4 c5 hb h1 h2 => ihd yd hka.2 hkb.2 A4 A5 n4 n5 c4 c5 w' (h1.under hb) (h2.under hb))
    · rw [Tr.cmp_rank hr]
      have := rCompare_diff (Tr.cons xa xd).ob b.ob _ _ (by rw [Tr.rk]) (by rw [Tr.rk]) (fun e => hr (by omega)) A A' n n' c c' w
      simp only [Int.add_lt_add_iff_right] at this
      exact this
set_option maxHeartbeats 1000000 in
set_option maxRecDepth 100000 in
theorem rLess_any (a b : Ob) (p q : Rat) (hp : Val a p) (hq : Val b q) {k m : Nat} (bp : Rb k p) (bq : Rb m q) (hk : k ≤ 10000) (hm : m ≤ 10000) (A A' : Option Addr) (n n' c c' : Nat) (hn : a.pair.length = n) (hn' : b.pair.length = n') (w : World) (ht : Tab w) :
    Calls Tryz.prog 93 #[objV a (.slice A n c), objV b (.slice A' n' c')] w (RetBel (.bool (decide (p < q))) w) := by
  have HF1 : Hid (∀ w' : World, Below w.heap.size w w' → Calls Tryz.prog 96 #[objV a (.slice A n c)] w' (RetNL (Lib.itoa p.num) (Lib.itoa (p.den : Int)) w')) := fun w' hb => rFix_any a p hp A n c hn w' (ht.below hb)
  have HF2 : Hid (∀ w' : World, Below w.heap.size w w' → Calls Tryz.prog 96 #[objV b (.slice A' n' c')] w' (RetNL (Lib.itoa q.num) (Lib.itoa (q.den : Int)) w')) := fun w' hb => rFix_any b q hq A' n' c' hn' w' (ht.below hb)
  have HV : Hid (∀ (w' : World) (A1 A2 : Option Addr) (c1 c2 : Nat), Below w.heap.size w w' → Calls Tryz.prog 117 #[objV (ratO p) (.slice A1 0 c1), objV (ratO q) (.slice A2 0 c2)] w' (RetBel (.int .i64 (cmpQ p q)) w')) := fun w' A1 A2 c1 c2 _ => rCompare_num p q bp bq hk hm A1 A2 0 0 c1 c2 w'
  unfold ratO at HV
  rw [← cmpQ_neg]
  clear hp hq bp bq hk hm hn hn'
  generalize cmpQ p q = z at *
  generalize Lib.itoa p.num = ln at *
  generalize Lib.itoa (p.den : Int) = ld at *
  generalize Lib.itoa q.num = rn at *
  generalize Lib.itoa (q.den : Int) = rd at *
  go_enter Tryz.func93, Tryz.ntmps93
  go_upto_region 1 with (fail)
  have X0' := Lib.hid ((BlkIs.new w 31 (obCells a (.slice A n c))).alloc (.cells (obCells b (.slice A' n' c')) 31))
  have Y0' := Lib.hid (BlkIs.new1 w (.cells (obCells a (.slice A n c)) 31) 31 (obCells b (.slice A' n' c')))
  have b0 := (box2 (box w (.cells (obCells a (.slice A n c)) 31)) (.cells (obCells b (.slice A' n' c')) 31)).drew
  generalize (w.alloc (.cells (obCells a (.slice A n c)) 31)).alloc (.cells (obCells b (.slice A' n' c')) 31) = W at *
  have X0 := Lib.hid X0'.out.drew
  have Y0 := Lib.hid Y0'.out.drew
  obtain ⟨xs0, xs1, xs2, xs3, xs4, xs5, xs6, xsl⟩ := X0'.out.seven
  obtain ⟨ys0, ys1, ys2, ys3, ys4, ys5, ys6, ysl⟩ := Y0'.out.seven
  go_region_held3 (fun w' => w'.cell? ⟨w.heap.size, 0, none⟩ = some (.int .i64 a.kind) ∧ w'.cell? ⟨w.heap.size, 1, none⟩ = some (str a.num) ∧ w'.cell? ⟨w.heap.size, 2, none⟩ = some (str a.den) ∧ w'.cell? ⟨w.heap.size, 3, none⟩ = some (str a.sp) ∧ w'.cell? ⟨w.heap.size, 4, none⟩ = some (str a.sn) ∧ w'.cell? ⟨w.heap.size, 5, none⟩ = some (str a.text) ∧ w'.cell? ⟨w.heap.size, 6, none⟩ = some (.slice A n c) ∧ w'.cell? ⟨w.heap.size + 1, 0, none⟩ = some (.int .i64 b.kind) ∧ w'.cell? ⟨w.heap.size + 1, 1, none⟩ = some (str b.num) ∧ w'.cell? ⟨w.heap.size + 1, 2, none⟩ = some (str b.den) ∧ w'.cell? ⟨w.heap.size + 1, 3, none⟩ = some (str b.sp) ∧ w'.cell? ⟨w.heap.size + 1, 4, none⟩ = some (str b.sn) ∧ w'.cell? ⟨w.heap.size + 1, 5, none⟩ = some (str b.text) ∧ w'.cell? ⟨w.heap.size + 1, 6, none⟩ = some (.slice A' n' c')) (go_keep)
    (first | (go_at_call 96; ((with_reducible refine (HF1.out _ b0).mono ?_)); rintro e v1 ⟨A1, c1, rfl, hb1⟩; have b1 := then_ b0 hb1; have X1 := Lib.hid (X0.out.below hb1); have Y1 := Lib.hid (Y0.out.below hb1); obtain ⟨xc1_0, xc1_1, xc1_2, xc1_3, xc1_4, xc1_5, xc1_6, xc1_l⟩ := X1.out.seven; obtain ⟨yc1_0, yc1_1, yc1_2, yc1_3, yc1_4, yc1_5, yc1_6, yc1_l⟩ := Y1.out.seven) | (go_at_call 96; ((with_reducible refine (HF2.out _ b1).mono ?_)); rintro e v2 ⟨A2, c2, rfl, hb2⟩; have b2 := then_ b1 hb2; have X2 := Lib.hid (X1.out.below hb2); have Y2 := Lib.hid (Y1.out.below hb2); obtain ⟨xc2_0, xc2_1, xc2_2, xc2_3, xc2_4, xc2_5, xc2_6, xc2_l⟩ := X2.out.seven; obtain ⟨yc2_0, yc2_1, yc2_2, yc2_3, yc2_4, yc2_5, yc2_6, yc2_l⟩ := Y2.out.seven) | (go_at_call 117; ((with_reducible refine (HV.out _ A1 A2 c1 c2 b2).mono ?_)); rintro e v3 ⟨rfl, hb3⟩; have b3 := then_ b2 hb3; have X3 := Lib.hid (X2.out.below hb3); have Y3 := Lib.hid (Y2.out.below hb3); obtain ⟨xc3_0, xc3_1, xc3_2, xc3_3, xc3_4, xc3_5, xc3_6, xc3_l⟩ := X3.out.seven; obtain ⟨yc3_0, yc3_1, yc3_2, yc3_3, yc3_4, yc3_5, yc3_6, yc3_l⟩ := Y3.out.seven))
  go_wp2
  go_ret
  exact ⟨rfl, b3⟩
end Go.Proofs.YtgphkgmhcmffnaaGreatDoor
