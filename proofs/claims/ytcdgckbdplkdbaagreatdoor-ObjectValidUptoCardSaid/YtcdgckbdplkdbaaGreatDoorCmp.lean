/- object.Compare and the reference's Compare on plain trees. -/
import Derived.Test.YtcdgckbdplkdbaaGreatDoorTr
import Derived.Test.YtcdgckbdplkdbaaGreatDoorJV
import Derived.Test.YtcdgckbdplkdbaaGreatDoorJW
namespace Go.Proofs.YtcdgckbdplkdbaaGreatDoor
open Go.RowKit

def rkI (k : Int) : Int := if k = 1 then 0 else if k = 3 then 1 else if k = 2 then 2 else 3
set_option maxHeartbeats 400000 in
theorem oRank_any (k : Int) (w : World) : Calls Tryz.prog 69 #[.int .i64 k] w (RetPureV (.int .i64 (rkI k)) w) := by
  unfold rkI
  by_cases h1 : k = 1
  · subst h1
    go_enter Tryz.func69, Tryz.ntmps69
    go_wp2
    go_ret
    exact ⟨rfl, rfl⟩
  have e1 : (k == 1) = false := by rw [beq_eq_false_iff_ne]; exact h1
  rw [if_neg h1]
  by_cases h3 : k = 3
  · subst h3
    go_enter Tryz.func69, Tryz.ntmps69
    go_wp2
    go_ret
    exact ⟨rfl, rfl⟩
  have e3 : (k == 3) = false := by rw [beq_eq_false_iff_ne]; exact h3
  rw [if_neg h3]
  by_cases h2 : k = 2
  · subst h2
    go_enter Tryz.func69, Tryz.ntmps69
    go_wp2
    go_ret
    exact ⟨rfl, rfl⟩
  have e2 : (k == 2) = false := by rw [beq_eq_false_iff_ne]; exact h2
  rw [if_neg h2]
  clear h1 h2 h3
  go_enter Tryz.func69, Tryz.ntmps69
  go_wp2
  go_ret
  exact ⟨rfl, rfl⟩
theorem Tr.rk (t : Tr) : rkI t.ob.kind = t.rank := by cases t <;> rfl
theorem strCmp (a b : List UInt8) (w : World) : Calls Tryz.prog 71 #[str a, str b] w (RetPureV (.int .i64 (cmpB a b)) w) :=
  (Tryz.strings_Compare ⟨a.toArray⟩ ⟨b.toArray⟩ w).mono fun _ _ h => ⟨by rw [h.1], h.2.symm⟩
theorem Tr.cons_pair {a d : Tr} : (Tr.cons a d).ob.pair = [a.ob, d.ob] := rfl
theorem cmp_diff {a b : Tr} (h : a.rank ≠ b.rank) (hlt : a.rank < b.rank) : Tr.cmp a b = -1 := by rw [Tr.cmp_rank h, if_pos hlt]
theorem cmp_diff' {a b : Tr} (h : a.rank ≠ b.rank) (hlt : ¬ a.rank < b.rank) : Tr.cmp a b = 1 := by rw [Tr.cmp_rank h, if_neg hlt]
set_option maxHeartbeats 8000000 in
set_option maxRecDepth 100000 in
theorem oCompare_any (ok ok' : Nat → Prop) {k : Nat} (hk : k ≤ 10000) : ∀ (N : Nat) (a b : Tr), a.size ≤ N → a.Ok k → b.Ok k → ∀ (A A' : Option Addr) (n n' c c' : Nat) (w : World), Tab w → Rd ok w (.slice A n c) (.row (a.ob.pair.map Ob.enc)) → Rd ok' w (.slice A' n' c') (.row (b.ob.pair.map Ob.enc)) →
    Calls Tryz.prog 32 #[objV a.ob (.slice A n c), objV b.ob (.slice A' n' c')] w (RetBel (.int .i64 (Tr.cmp a b)) w) := by
  intro N
  induction N with
  | zero => intro a b h; have := Tr.size_pos a; omega
  | succ N ih =>
    intro a b hN hka hkb A A' n n' c c' w ht hA hB
    have HT := Lib.hid ht
    clear ht
    generalize hz : Tr.cmp a b = z
    have HZ := Lib.hid hz
    clear hz
    go_enter Tryz.func32, Tryz.ntmps32
    go_wp2
    go_loopg [4] a.size (fun gx lv wr => ∃ (x y : Tr) (A2 A3 : Option Addr) (n2 n3 c2 c3 : Nat), lv = .int .i64 0 ∧ Hid (BlkIs wr w.heap.size 26 (obCells x.ob (.slice A2 n2 c2))) ∧ Hid (BlkIs wr (w.heap.size + 1) 26 (obCells y.ob (.slice A3 n3 c3))) ∧ Rd ok w (.slice A2 n2 c2) (.row (x.ob.pair.map Ob.enc)) ∧ Rd ok' w (.slice A3 n3 c3) (.row (y.ob.pair.map Ob.enc)) ∧ x.size ≤ N + 1 ∧ Hid (x.Ok k) ∧ Hid (y.Ok k) ∧ Hid (Tr.cmp x y = z) ∧ x.size ≤ gx ∧ Below w.heap.size w wr)
    case atStart => exact ⟨a, b, A, A', n, n', c, c', rfl, Lib.hid ((BlkIs.new w _ _).alloc _), Lib.hid (BlkIs.new1 w _ _ _), hA, hB, hN, Lib.hid hka, Lib.hid hkb, HZ, Nat.le_refl _, box2 (box _ _) _⟩
    case round =>
      clear HZ hA hB hka hkb hN
      obtain ⟨x, y, A2, A3, n2, n3, c2, c3, rfl, X, Y, hx, hy, hxN, HKX, HKY, HZ, hg, hb⟩ := hrel
      have hxl := hx.len
      have hyl := hy.len
      rw [List.length_map] at hxl hyl
      have hp2 : ∀ t : Tr, t.ob.pair.length ≤ 2 := fun t => by cases t <;> simp [Tr.ob]
      have hn2 : n2 ≤ 2 := by rw [← hxl]; exact hp2 x
      have hn3 : n3 ≤ 2 := by rw [← hyl]; exact hp2 y
      have HC1 : Hid (∀ w' : World, Calls Tryz.prog 68 #[objV x.ob (.slice A2 n2 c2)] w' (RetBel (.bool (decide (x.ob.kind = 4 ∧ n2 = 2))) w')) := fun w' => oIsCons_any x.ob A2 n2 c2 w' (by omega)
      have HC2 : Hid (∀ w' : World, Calls Tryz.prog 68 #[objV y.ob (.slice A3 n3 c3)] w' (RetBel (.bool (decide (y.ob.kind = 4 ∧ n3 = 2))) w')) := fun w' => oIsCons_any y.ob A3 n3 c3 w' (by omega)
      have HR1 : Hid (∀ w' : World, Calls Tryz.prog 69 #[.int .i64 x.ob.kind] w' (RetPureV (.int .i64 x.rank) w')) := fun w' => by rw [← Tr.rk]; exact oRank_any _ w'
      have HR2 : Hid (∀ w' : World, Calls Tryz.prog 69 #[.int .i64 y.ob.kind] w' (RetPureV (.int .i64 y.rank) w')) := fun w' => by rw [← Tr.rk]; exact oRank_any _ w'
      clear hp2
      by_cases hr : x.rank = y.rank
      case neg =>
        by_cases hcx : x.ob.kind = 4 ∧ n2 = 2
        · have hcy : ¬ (y.ob.kind = 4 ∧ n3 = 2) := fun h => hr (by rw [← Tr.rk, ← Tr.rk, hcx.1, h.1])
          rw [decide_eq_true hcx] at HC1
          rw [decide_eq_false hcy] at HC2
          clear hcx hcy hxl hyl hn2 hn3
          have HD := Lib.hid hr
          have hne : (x.rank != y.rank) = true := by rw [bne_iff_ne]; exact hr
          by_cases hlt : x.rank < y.rank
          · have hz : z = -1 := by rw [← HZ.out]; exact cmp_diff HD.out hlt
            subst hz
            clear HZ hr HD HKX HKY hx hy hxN hg
            generalize x.ob = ox at *
            generalize y.ob = oy at *
            generalize x.rank = r1 at *
            generalize y.rank = r2 at *
            obtain ⟨x0, x1, x2, x3, x4, x5, x6, xl⟩ := X.out.seven
            go_wp2_with fail
            refine (HC1.out _).mono ?_
            rintro e w1 ⟨rfl, hb1⟩
            have X1 := Lib.hid (X.out.below hb1)
            have Y1 := Lib.hid (Y.out.below hb1)
            have b1 := then_ hb hb1
            clear x0 x1 x2 x3 x4 x5 x6
            obtain ⟨x0, x1, x2, x3, x4, x5, x6, xl⟩ := Y1.out.seven
            go_wp2_with fail
            refine (HC2.out _).mono ?_
            rintro e w2 ⟨rfl, hb2⟩
            have X0 := Lib.hid (X1.out.below hb2)
            have Y0 := Lib.hid (Y1.out.below hb2)
            have b0 := then_ b1 hb2
            clear x0 x1 x2 x3 x4 x5 x6
            have X0' := Lib.hid X0.out.drew
            have Y0' := Lib.hid Y0.out.drew
            have b0' := b0.drew
            obtain ⟨u0, u1, u2, u3, u4, u5, u6, ul⟩ := X0.out.seven
            obtain ⟨v0, v1, v2, v3, v4, v5, v6, vl⟩ := Y0.out.seven
            go_upto_region 6 with (fail)
            go_region_held3 (fun w' => w'.cell? ⟨w.heap.size, 0, none⟩ = some (.int .i64 ox.kind) ∧ w'.cell? ⟨w.heap.size + 1, 0, none⟩ = some (.int .i64 oy.kind)) (go_keep)
              (first | (go_at_call 69; ((with_reducible refine (HR1.out _).mono ?_)); rintro e v1 ⟨rfl, rfl⟩) | (go_at_call 69; ((with_reducible refine (HR2.out _).mono ?_)); rintro e v2 ⟨rfl, rfl⟩))
            clear u0 v0 u1 v1 u2 v2 u3 v3 u4 v4 u5 v5 u6 v6
            obtain ⟨u0, u1, u2, u3, u4, u5, u6, ul⟩ := X0'.out.seven
            obtain ⟨v0, v1, v2, v3, v4, v5, v6, vl⟩ := Y0'.out.seven
            go_wp2
            go_ret
            exact ⟨rfl, b0'⟩
          · have hz : z = 1 := by rw [← HZ.out]; exact cmp_diff' HD.out hlt
            subst hz
            clear HZ hr HD HKX HKY hx hy hxN hg
            generalize x.ob = ox at *
            generalize y.ob = oy at *
            generalize x.rank = r1 at *
            generalize y.rank = r2 at *
            obtain ⟨x0, x1, x2, x3, x4, x5, x6, xl⟩ := X.out.seven
            go_wp2_with fail
            refine (HC1.out _).mono ?_
            rintro e w1 ⟨rfl, hb1⟩
            have X1 := Lib.hid (X.out.below hb1)
            have Y1 := Lib.hid (Y.out.below hb1)
            have b1 := then_ hb hb1
            clear x0 x1 x2 x3 x4 x5 x6
            obtain ⟨x0, x1, x2, x3, x4, x5, x6, xl⟩ := Y1.out.seven
            go_wp2_with fail
            refine (HC2.out _).mono ?_
            rintro e w2 ⟨rfl, hb2⟩
            have X0 := Lib.hid (X1.out.below hb2)
            have Y0 := Lib.hid (Y1.out.below hb2)
            have b0 := then_ b1 hb2
            clear x0 x1 x2 x3 x4 x5 x6
            have X0' := Lib.hid X0.out.drew
            have Y0' := Lib.hid Y0.out.drew
            have b0' := b0.drew
            obtain ⟨u0, u1, u2, u3, u4, u5, u6, ul⟩ := X0.out.seven
            obtain ⟨v0, v1, v2, v3, v4, v5, v6, vl⟩ := Y0.out.seven
            go_upto_region 6 with (fail)
            go_region_held3 (fun w' => w'.cell? ⟨w.heap.size, 0, none⟩ = some (.int .i64 ox.kind) ∧ w'.cell? ⟨w.heap.size + 1, 0, none⟩ = some (.int .i64 oy.kind)) (go_keep)
              (first | (go_at_call 69; ((with_reducible refine (HR1.out _).mono ?_)); rintro e v1 ⟨rfl, rfl⟩) | (go_at_call 69; ((with_reducible refine (HR2.out _).mono ?_)); rintro e v2 ⟨rfl, rfl⟩))
            clear u0 v0 u1 v1 u2 v2 u3 v3 u4 v4 u5 v5 u6 v6
            obtain ⟨u0, u1, u2, u3, u4, u5, u6, ul⟩ := X0'.out.seven
            obtain ⟨v0, v1, v2, v3, v4, v5, v6, vl⟩ := Y0'.out.seven
            go_wp2
            go_ret
            exact ⟨rfl, b0'⟩
        · rw [decide_eq_false hcx] at HC1
          clear hcx HC2 hxl hyl hn2 hn3
          have HD := Lib.hid hr
          have hne : (x.rank != y.rank) = true := by rw [bne_iff_ne]; exact hr
          by_cases hlt : x.rank < y.rank
          · have hz : z = -1 := by rw [← HZ.out]; exact cmp_diff HD.out hlt
            subst hz
            clear HZ hr HD HKX HKY hx hy hxN hg
            generalize x.ob = ox at *
            generalize y.ob = oy at *
            generalize x.rank = r1 at *
            generalize y.rank = r2 at *
            obtain ⟨x0, x1, x2, x3, x4, x5, x6, xl⟩ := X.out.seven
            go_wp2_with fail
            refine (HC1.out _).mono ?_
            rintro e w1 ⟨rfl, hb1⟩
            have X0 := Lib.hid (X.out.below hb1)
            have Y0 := Lib.hid (Y.out.below hb1)
            have b0 := then_ hb hb1
            clear x0 x1 x2 x3 x4 x5 x6
            have X0' := Lib.hid X0.out.drew
            have Y0' := Lib.hid Y0.out.drew
            have b0' := b0.drew
            obtain ⟨u0, u1, u2, u3, u4, u5, u6, ul⟩ := X0.out.seven
            obtain ⟨v0, v1, v2, v3, v4, v5, v6, vl⟩ := Y0.out.seven
            go_upto_region 6 with (fail)
            go_region_held3 (fun w' => w'.cell? ⟨w.heap.size, 0, none⟩ = some (.int .i64 ox.kind) ∧ w'.cell? ⟨w.heap.size + 1, 0, none⟩ = some (.int .i64 oy.kind)) (go_keep)
              (first | (go_at_call 69; ((with_reducible refine (HR1.out _).mono ?_)); rintro e v1 ⟨rfl, rfl⟩) | (go_at_call 69; ((with_reducible refine (HR2.out _).mono ?_)); rintro e v2 ⟨rfl, rfl⟩))
            clear u0 v0 u1 v1 u2 v2 u3 v3 u4 v4 u5 v5 u6 v6
            obtain ⟨u0, u1, u2, u3, u4, u5, u6, ul⟩ := X0'.out.seven
            obtain ⟨v0, v1, v2, v3, v4, v5, v6, vl⟩ := Y0'.out.seven
            go_wp2
            go_ret
            exact ⟨rfl, b0'⟩
          · have hz : z = 1 := by rw [← HZ.out]; exact cmp_diff' HD.out hlt
            subst hz
            clear HZ hr HD HKX HKY hx hy hxN hg
            generalize x.ob = ox at *
            generalize y.ob = oy at *
            generalize x.rank = r1 at *
            generalize y.rank = r2 at *
            obtain ⟨x0, x1, x2, x3, x4, x5, x6, xl⟩ := X.out.seven
            go_wp2_with fail
            refine (HC1.out _).mono ?_
            rintro e w1 ⟨rfl, hb1⟩
            have X0 := Lib.hid (X.out.below hb1)
            have Y0 := Lib.hid (Y.out.below hb1)
            have b0 := then_ hb hb1
            clear x0 x1 x2 x3 x4 x5 x6
            have X0' := Lib.hid X0.out.drew
            have Y0' := Lib.hid Y0.out.drew
            have b0' := b0.drew
            obtain ⟨u0, u1, u2, u3, u4, u5, u6, ul⟩ := X0.out.seven
            obtain ⟨v0, v1, v2, v3, v4, v5, v6, vl⟩ := Y0.out.seven
            go_upto_region 6 with (fail)
            go_region_held3 (fun w' => w'.cell? ⟨w.heap.size, 0, none⟩ = some (.int .i64 ox.kind) ∧ w'.cell? ⟨w.heap.size + 1, 0, none⟩ = some (.int .i64 oy.kind)) (go_keep)
              (first | (go_at_call 69; ((with_reducible refine (HR1.out _).mono ?_)); rintro e v1 ⟨rfl, rfl⟩) | (go_at_call 69; ((with_reducible refine (HR2.out _).mono ?_)); rintro e v2 ⟨rfl, rfl⟩))
            clear u0 v0 u1 v1 u2 v2 u3 v3 u4 v4 u5 v5 u6 v6
            obtain ⟨u0, u1, u2, u3, u4, u5, u6, ul⟩ := X0'.out.seven
            obtain ⟨v0, v1, v2, v3, v4, v5, v6, vl⟩ := Y0'.out.seven
            go_wp2
            go_ret
            exact ⟨rfl, b0'⟩
      cases x with
      | num p =>
        cases y <;> cases hr
        rename_i q
        have HV : Hid (∀ w' : World, Below w.heap.size w w' → Calls Tryz.prog 70 #[objV (ratO p) (.slice A2 n2 c2), objV (ratO q) (.slice A3 n3 c3)] w' (RetI64 z w')) := fun w' hb' => by
          have := oValue_any p q HKX.out HKY.out hk hk A2 A3 n2 n3 c2 c3 w' (HT.out.below hb')
          rwa [show cmpQ p q = z from HZ.out] at this
        unfold ratO at HV
        replace HC1 : Hid (∀ w' : World, Calls Tryz.prog 68 #[objV (ratO p) (.slice A2 n2 c2)] w' (RetBel (.bool false) w')) := HC1
        replace HR1 : Hid (∀ w' : World, Calls Tryz.prog 69 #[.int .i64 1] w' (RetPureV (.int .i64 0) w')) := HR1
        replace HR2 : Hid (∀ w' : World, Calls Tryz.prog 69 #[.int .i64 1] w' (RetPureV (.int .i64 0) w')) := HR2
        replace X : Hid (BlkIs wr w.heap.size 26 (obCells (ratO p) (.slice A2 n2 c2))) := X
        replace Y : Hid (BlkIs wr (w.heap.size + 1) 26 (obCells (ratO q) (.slice A3 n3 c3))) := Y
        unfold ratO at HC1 X Y
        clear HZ HKX HKY hx hy hxN hg HC2 hxl hyl hn2 hn3
        generalize Lib.itoa p.num = ln at *
        generalize Lib.itoa (p.den : Int) = ld at *
        generalize Lib.itoa q.num = rn at *
        generalize Lib.itoa (q.den : Int) = rd at *
        obtain ⟨x0, x1, x2, x3, x4, x5, x6, xl⟩ := X.out.seven
        go_wp2_with fail
        refine (HC1.out _).mono ?_
        rintro e w1 ⟨rfl, hb1⟩
        have X0 := Lib.hid (X.out.below hb1)
        have Y0 := Lib.hid (Y.out.below hb1)
        have b0 := then_ hb hb1
        clear x0 x1 x2 x3 x4 x5 x6
        have X0' := Lib.hid X0.out.drew
        have Y0' := Lib.hid Y0.out.drew
        have b0' := b0.drew
        obtain ⟨u0, u1, u2, u3, u4, u5, u6, ul⟩ := X0.out.seven
        obtain ⟨v0, v1, v2, v3, v4, v5, v6, vl⟩ := Y0.out.seven
        go_upto_region 6 with (fail)
        go_region_held3 (fun w' => w'.cell? ⟨w.heap.size, 0, none⟩ = some (.int .i64 1) ∧ w'.cell? ⟨w.heap.size + 1, 0, none⟩ = some (.int .i64 1)) (go_keep)
          (first | (go_at_call 69; ((with_reducible refine (HR1.out _).mono ?_)); rintro e v1 ⟨rfl, rfl⟩) | (go_at_call 69; ((with_reducible refine (HR2.out _).mono ?_)); rintro e v2 ⟨rfl, rfl⟩))
        clear u0 v0 u1 v1 u2 v2 u3 v3 u4 v4 u5 v5 u6 v6
        obtain ⟨u0, u1, u2, u3, u4, u5, u6, ul⟩ := X0'.out.seven
        obtain ⟨v0, v1, v2, v3, v4, v5, v6, vl⟩ := Y0'.out.seven
        go_wp2_with fail
        refine (HV.out _ b0').mono ?_
        rintro e w2 ⟨rfl, hb2⟩
        go_wp2
        go_ret
        exact ⟨rfl, then_ b0' hb2⟩
      | txt p =>
        cases y <;> cases hr
        rename_i q
        have HV : Hid (∀ w' : World, Calls Tryz.prog 71 #[str p, str q] w' (RetPureV (.int .i64 z) w')) := fun w' => by
          have := strCmp p q w'
          rwa [show cmpB p q = z from HZ.out] at this
        replace HC1 : Hid (∀ w' : World, Calls Tryz.prog 68 #[objV (txtO p) (.slice A2 n2 c2)] w' (RetBel (.bool false) w')) := HC1
        replace HR1 : Hid (∀ w' : World, Calls Tryz.prog 69 #[.int .i64 3] w' (RetPureV (.int .i64 1) w')) := HR1
        replace HR2 : Hid (∀ w' : World, Calls Tryz.prog 69 #[.int .i64 3] w' (RetPureV (.int .i64 1) w')) := HR2
        replace X : Hid (BlkIs wr w.heap.size 26 (obCells (txtO p) (.slice A2 n2 c2))) := X
        replace Y : Hid (BlkIs wr (w.heap.size + 1) 26 (obCells (txtO q) (.slice A3 n3 c3))) := Y
        clear HZ HKX HKY hx hy hxN hg HC2 hxl hyl hn2 hn3
        obtain ⟨x0, x1, x2, x3, x4, x5, x6, xl⟩ := X.out.seven
        go_wp2_with fail
        refine (HC1.out _).mono ?_
        rintro e w1 ⟨rfl, hb1⟩
        have X0 := Lib.hid (X.out.below hb1)
        have Y0 := Lib.hid (Y.out.below hb1)
        have b0 := then_ hb hb1
        clear x0 x1 x2 x3 x4 x5 x6
        have X0' := Lib.hid X0.out.drew
        have Y0' := Lib.hid Y0.out.drew
        have b0' := b0.drew
        obtain ⟨u0, u1, u2, u3, u4, u5, u6, ul⟩ := X0.out.seven
        obtain ⟨v0, v1, v2, v3, v4, v5, v6, vl⟩ := Y0.out.seven
        go_upto_region 6 with (fail)
        go_region_held3 (fun w' => w'.cell? ⟨w.heap.size, 0, none⟩ = some (.int .i64 3) ∧ w'.cell? ⟨w.heap.size + 1, 0, none⟩ = some (.int .i64 3)) (go_keep)
          (first | (go_at_call 69; ((with_reducible refine (HR1.out _).mono ?_)); rintro e v1 ⟨rfl, rfl⟩) | (go_at_call 69; ((with_reducible refine (HR2.out _).mono ?_)); rintro e v2 ⟨rfl, rfl⟩))
        clear u0 v0 u1 v1 u2 v2 u3 v3 u4 v4 u5 v5 u6 v6
        obtain ⟨u0, u1, u2, u3, u4, u5, u6, ul⟩ := X0'.out.seven
        obtain ⟨v0, v1, v2, v3, v4, v5, v6, vl⟩ := Y0'.out.seven
        go_wp2_with fail
        refine (HV.out _).mono ?_
        rintro e w2 ⟨rfl, rfl⟩
        go_wp2
        go_ret
        exact ⟨rfl, b0'⟩
      | sym p t =>
        cases y <;> cases hr
        rename_i p' t'
        replace HC1 : Hid (∀ w' : World, Calls Tryz.prog 68 #[objV (symO p t) (.slice A2 n2 c2)] w' (RetBel (.bool false) w')) := HC1
        replace HR1 : Hid (∀ w' : World, Calls Tryz.prog 69 #[.int .i64 2] w' (RetPureV (.int .i64 2) w')) := HR1
        replace HR2 : Hid (∀ w' : World, Calls Tryz.prog 69 #[.int .i64 2] w' (RetPureV (.int .i64 2) w')) := HR2
        replace X : Hid (BlkIs wr w.heap.size 26 (obCells (symO p t) (.slice A2 n2 c2))) := X
        replace Y : Hid (BlkIs wr (w.heap.size + 1) 26 (obCells (symO p' t') (.slice A3 n3 c3))) := Y
        have HV : Hid (∀ w' : World, Calls Tryz.prog 71 #[str t, str t'] w' (RetPureV (.int .i64 (cmpB t t')) w')) := fun w' => strCmp t t' w'
        have HV2 : Hid (∀ w' : World, Calls Tryz.prog 71 #[str p, str p'] w' (RetPureV (.int .i64 (cmpB p p')) w')) := fun w' => strCmp p p' w'
        have HZ' : Hid (z = lex3 (cmpB t t') (cmpB p p')) := HZ.out.symm
        clear HZ HKX HKY hx hy hxN hg HC2 hxl hyl hn2 hn3
        have HB := Lib.hid (cmpB_rng t t')
        have HB2 := Lib.hid (cmpB_rng p p')
        generalize cmpB t t' = z1 at *
        generalize cmpB p p' = z2 at *
        by_cases h0 : z1 = 0
        · obtain rfl : z = z2 := by rw [HZ'.out, lex3, if_pos h0]
          subst h0
          clear HZ' HB HB2
          obtain ⟨x0, x1, x2, x3, x4, x5, x6, xl⟩ := X.out.seven
          go_wp2_with fail
          refine (HC1.out _).mono ?_
          rintro e w1 ⟨rfl, hb1⟩
          have X0 := Lib.hid (X.out.below hb1)
          have Y0 := Lib.hid (Y.out.below hb1)
          have b0 := then_ hb hb1
          clear x0 x1 x2 x3 x4 x5 x6
          have X0' := Lib.hid X0.out.drew
          have Y0' := Lib.hid Y0.out.drew
          have b0' := b0.drew
          obtain ⟨u0, u1, u2, u3, u4, u5, u6, ul⟩ := X0.out.seven
          obtain ⟨v0, v1, v2, v3, v4, v5, v6, vl⟩ := Y0.out.seven
          go_upto_region 6 with (fail)
          go_region_held3 (fun w' => w'.cell? ⟨w.heap.size, 0, none⟩ = some (.int .i64 2) ∧ w'.cell? ⟨w.heap.size + 1, 0, none⟩ = some (.int .i64 2)) (go_keep)
            (first | (go_at_call 69; ((with_reducible refine (HR1.out _).mono ?_)); rintro e v1 ⟨rfl, rfl⟩) | (go_at_call 69; ((with_reducible refine (HR2.out _).mono ?_)); rintro e v2 ⟨rfl, rfl⟩))
          clear u0 v0 u1 v1 u2 v2 u3 v3 u4 v4 u5 v5 u6 v6
          obtain ⟨u0, u1, u2, u3, u4, u5, u6, ul⟩ := X0'.out.seven
          obtain ⟨v0, v1, v2, v3, v4, v5, v6, vl⟩ := Y0'.out.seven
          go_wp2_with fail
          refine (HV.out _).mono ?_
          rintro e w2 ⟨rfl, rfl⟩
          go_wp2_with fail
          refine (HV2.out _).mono ?_
          rintro e w2 ⟨rfl, rfl⟩
          go_wp2
          go_ret
          exact ⟨rfl, b0'⟩
        · obtain rfl : z = z1 := by rw [HZ'.out, lex3, if_neg h0]
          have hz0 : (z != 0) = true := by rw [bne_iff_ne]; exact h0
          clear HZ' HB HB2 h0
          obtain ⟨x0, x1, x2, x3, x4, x5, x6, xl⟩ := X.out.seven
          go_wp2_with fail
          refine (HC1.out _).mono ?_
          rintro e w1 ⟨rfl, hb1⟩
          have X0 := Lib.hid (X.out.below hb1)
          have Y0 := Lib.hid (Y.out.below hb1)
          have b0 := then_ hb hb1
          clear x0 x1 x2 x3 x4 x5 x6
          have X0' := Lib.hid X0.out.drew
          have Y0' := Lib.hid Y0.out.drew
          have b0' := b0.drew
          obtain ⟨u0, u1, u2, u3, u4, u5, u6, ul⟩ := X0.out.seven
          obtain ⟨v0, v1, v2, v3, v4, v5, v6, vl⟩ := Y0.out.seven
          go_upto_region 6 with (fail)
          go_region_held3 (fun w' => w'.cell? ⟨w.heap.size, 0, none⟩ = some (.int .i64 2) ∧ w'.cell? ⟨w.heap.size + 1, 0, none⟩ = some (.int .i64 2)) (go_keep)
            (first | (go_at_call 69; ((with_reducible refine (HR1.out _).mono ?_)); rintro e v1 ⟨rfl, rfl⟩) | (go_at_call 69; ((with_reducible refine (HR2.out _).mono ?_)); rintro e v2 ⟨rfl, rfl⟩))
          clear u0 v0 u1 v1 u2 v2 u3 v3 u4 v4 u5 v5 u6 v6
          obtain ⟨u0, u1, u2, u3, u4, u5, u6, ul⟩ := X0'.out.seven
          obtain ⟨v0, v1, v2, v3, v4, v5, v6, vl⟩ := Y0'.out.seven
          go_wp2_with fail
          refine (HV.out _).mono ?_
          rintro e w2 ⟨rfl, rfl⟩
          go_wp2
          go_ret
          exact ⟨rfl, b0'⟩
      | cons xa xd =>
        cases y <;> cases hr
        rename_i ya yd
        replace hx : Rd ok w (.slice A2 n2 c2) (.row ([xa.ob, xd.ob].map Ob.enc)) := hx
        replace hy : Rd ok' w (.slice A3 n3 c3) (.row ([ya.ob, yd.ob].map Ob.enc)) := hy
        replace X : Hid (BlkIs wr w.heap.size 26 (obCells (consO xa.ob xd.ob) (.slice A2 n2 c2))) := X
        replace Y : Hid (BlkIs wr (w.heap.size + 1) 26 (obCells (consO ya.ob yd.ob) (.slice A3 n3 c3))) := Y
        obtain rfl : n2 = 2 := hxl.symm
        obtain rfl : n3 = 2 := hyl.symm
        replace HC1 : Hid (∀ w' : World, Calls Tryz.prog 68 #[objV (consO xa.ob xd.ob) (.slice A2 2 c2)] w' (RetBel (.bool true) w')) := HC1
        replace HC2 : Hid (∀ w' : World, Calls Tryz.prog 68 #[objV (consO ya.ob yd.ob) (.slice A3 2 c3)] w' (RetBel (.bool true) w')) := HC2
        have HZ' : Hid (z = lex3 (Tr.cmp xa ya) (Tr.cmp xd yd)) := HZ.out.symm
        have hsz : xa.size + xd.size + 1 ≤ N + 1 := hxN
        have hgz : xa.size + xd.size + 1 ≤ _ := hg
        have hxa := Tr.size_pos xa
        have hxd := Tr.size_pos xd
        have HX := Lib.hid HKX.out.2
        have HY := Lib.hid HKY.out.2
        have HIH : Hid (∀ (w' : World) (A4 A5 : Option Addr) (n4 n5 c4 c5 : Nat), Below w.heap.size w w' → Rd ok w (.slice A4 n4 c4) (.row (xa.ob.pair.map Ob.enc)) → Rd ok' w (.slice A5 n5 c5) (.row (ya.ob.pair.map Ob.enc)) → Calls Tryz.prog 32 #[objV xa.ob (.slice A4 n4 c4), objV ya.ob (.slice A5 n5 c5)] w' (RetBel (.int .i64 (Tr.cmp xa ya)) w')) := fun w' A4 A5 n4 n5 c4 c5 hb' h1 h2 => ih xa ya (by omega) HKX.out.1 HKY.out.1 A4 A5 n4 n5 c4 c5 w' (HT.out.below hb') (h1.under hb') (h2.under hb')
        clear HZ HKX HKY hxN hg HR1 HR2 hxl hyl hn2 hn3 ih
        obtain ⟨x0, x1, x2, x3, x4, x5, x6, xl⟩ := X.out.seven
        go_wp2_with fail
        refine (HC1.out _).mono ?_
        rintro e w1 ⟨rfl, hb1⟩
        have b1 := then_ hb hb1
        have X1 := Lib.hid (X.out.below hb1)
        have Y1 := Lib.hid (Y.out.below hb1)
        clear x0 x1 x2 x3 x4 x5 x6
        obtain ⟨y0, y1, y2, y3, y4, y5, y6, yl⟩ := Y1.out.seven
        go_wp2_with fail
        refine (HC2.out _).mono ?_
        rintro e w2 ⟨rfl, hb2⟩
        have b2 := then_ b1 hb2
        have X2 := Lib.hid (X1.out.below hb2)
        have Y2 := Lib.hid (Y1.out.below hb2)
        clear y0 y1 y2 y3 y4 y5 y6
        obtain ⟨x0, x1, x2, x3, x4, x5, x6, xl⟩ := X2.out.seven
        obtain ⟨y0, y1, y2, y3, y4, y5, y6, yl⟩ := Y2.out.seven
        obtain ⟨p1, q1, _, A4, n4, c4, rfl, hp1, _, a0, a1, a2, a3, a4, a5, a6, ha⟩ := hx.objs b2 (i := 0) (by omega)
        obtain ⟨p2, q2, _, A5, n5, c5, rfl, hp2, _, e0, e1, e2, e3, e4, e5, e6, he⟩ := hy.objs b2 (i := 0) (by omega)
        simp only [List.getElem_cons_zero, Nat.zero_mul, Nat.add_zero] at a0 a1 a2 a3 a4 a5 a6 ha e0 e1 e2 e3 e4 e5 e6 he
        have hp1' := Nat.lt_of_lt_of_le hp1 b2.size
        have hp2' := Nat.lt_of_lt_of_le hp2 b2.size
        have HC := Lib.hid (HIH.out w2.drew A4 A5 n4 n5 c4 c5 b2.drew ha he)
        clear HIH
        have HRG := Lib.hid (Tr.cmp_rng xa ya)
        generalize Tr.cmp xa ya = z1 at *
        have b2' := b2.drew
        have X2' := Lib.hid X2.out.drew
        have Y2' := Lib.hid Y2.out.drew
        go_upto_region 2 with (fail)
        go_still_tail 8, (by kernel_rfl)
        go_wp2_with fail
        refine HC.out.mono ?_
        rintro e w3 ⟨rfl, hb3⟩
        have b3 := then_ b2' hb3
        have X3 := Lib.hid (X2'.out.below hb3)
        have Y3 := Lib.hid (Y2'.out.below hb3)
        clear x0 x1 x2 x3 x4 x5 x6 y0 y1 y2 y3 y4 y5 y6 a0 a1 a2 a3 a4 a5 a6 e0 e1 e2 e3 e4 e5 e6
        by_cases h0 : z1 = 0
        · subst h0
          have HZ2 : Hid (Tr.cmp xd yd = z) := by rw [HZ'.out, lex3, if_pos rfl]; rfl
          clear HZ' HRG
          obtain ⟨x0, x1, x2, x3, x4, x5, x6, xl⟩ := X3.out.seven
          obtain ⟨y0, y1, y2, y3, y4, y5, y6, yl⟩ := Y3.out.seven
          obtain ⟨xf0, xf1, xf2, xf3, xf4, xf5, xf6⟩ := X3.out.frozen7
          obtain ⟨yf0, yf1, yf2, yf3, yf4, yf5, yf6⟩ := Y3.out.frozen7
          obtain ⟨p3, q3, _, A6, n6, c6, eA, _, _, a0, a1, a2, a3, a4, a5, a6, ha'⟩ := hx.objs b3 (i := 1) (by omega)
          injection eA with eA
          injection eA with eb eq
          subst eb eq
          obtain ⟨p4, q4, _, A7, n7, c7, eA, _, _, e0, e1, e2, e3, e4, e5, e6, he'⟩ := hy.objs b3 (i := 1) (by omega)
          injection eA with eA
          injection eA with eb eq
          subst eb eq
          simp only [List.getElem_cons_zero, List.getElem_cons_succ, Nat.one_mul] at a0 a1 a2 a3 a4 a5 a6 ha' e0 e1 e2 e3 e4 e5 e6 he'
          have hp3' := Nat.lt_of_lt_of_le hp1 b3.size
          have hp4' := Nat.lt_of_lt_of_le hp2 b3.size
          have b3' := b3.drew
          go_upto_region 5 with (fail)
          go_region
          go_wp2
          go_roundg (xd.size)
          case measure => omega
          case rel =>
            exact ⟨xd, yd, A6, A7, n6, n7, c6, c7, rfl, Lib.hid ((X3.out.put7.far7 (by omega) _ _ _ _ _ _ _).drew), Lib.hid ((Y3.out.far7 (by omega) _ _ _ _ _ _ _).put7.drew), ha', he', by omega, HX, HY, HZ2, Nat.le_refl _, (set7 (set7 b3 (Nat.le_refl _) _ _ _ _ _ _ _) (Nat.le_succ _) _ _ _ _ _ _ _).drew⟩
        · obtain rfl : z = z1 := by rw [HZ'.out, lex3, if_neg h0]
          have hz0 : (z != 0) = true := by rw [bne_iff_ne]; exact h0
          clear HZ' HRG h0
          go_wp2
          go_ret
          exact ⟨rfl, b3⟩
end Go.Proofs.YtcdgckbdplkdbaaGreatDoor
