/- number.Divide where the signs differ and something is left. -/
import Derived.Test.YtcdgckbdplkdbaaDoorNumFa
namespace Go.Proofs.YtcdgckbdplkdbaaDoor
open Go.RowKit

set_option maxHeartbeats 4000000 in
set_option maxRecDepth 100000 in
theorem divN_hard (a b : List UInt8) (w : World) (ha : a.length ≤ 900000) (hb : b.length ≤ 900000) (ht : Tab w) (x y : Int) (hxv : Dec.dval a = x) (hyv : Dec.dval b = y) (hy0 : y ≠ 0) (s s' z : Bool) (hsd : decide (x < 0) = s) (hsd' : decide (y < 0) = s')
    (hz : (!(s == s')) = z) (hcase : z = true ∧ x.natAbs % y.natAbs ≠ 0) (q r : List UInt8) (HQ : Hid (numStr z (x.natAbs / y.natAbs + 1) = q)) (HR : Hid (numStr s' (y.natAbs - x.natAbs % y.natAbs) = r)) :
    Calls Tryd.prog 39 #[.string ⟨a.toArray⟩, .string ⟨b.toArray⟩] w (RetStr2 q r w) := by
  have HP1 : Hid (∀ w', Calls Tryd.prog 43 #[.string ⟨a.toArray⟩] w' (RetInt (a.length + 1) x w')) := fun w' => by have := parse_any a w' (by omega); rwa [hxv] at this
  have HP2 : Hid (∀ w', Calls Tryd.prog 43 #[.string ⟨b.toArray⟩] w' (RetInt (b.length + 1) y w')) := fun w' => by have := parse_any b w' (by omega); rwa [hyv] at this
  have HSD := Lib.hid hsd
  have HSD' := Lib.hid hsd'
  have hyp : 0 < y.natAbs := by omega
  obtain ⟨rfl, hrz⟩ := hcase
  have HRZ := Lib.hid hrz
  clear hrz
  clear hsd hsd' hxv hyv
  go_enter Tryd.func39, Tryd.ntmps39
  go_wp2_with fail
  refine (HP1.out _).mono ?_
  rintro e w1 ⟨A1, n1, c1, rfl, hs1, hn1, hb1⟩
  rw [HSD.out]
  go_wp2_with fail
  refine (HP2.out _).mono ?_
  rintro e w2 ⟨A2, n2, c2, rfl, hs2, hn2, hb2⟩
  rw [HSD'.out]
  have hbw2 := hb1.trans (hb2.mono hb1.size)
  have hn20 : ((n2 : Int) == 0) = false := by rw [beq_eq_false_iff_ne]; intro e; exact hy0 ((natAbs_limbs hs2.len).1 (by omega))
  clear hy0
  go_wp2_with fail
  obtain ⟨B0, B1, hbW⟩ := two_blocks w2 56 (.bool s) (.slice A1 n1 c1) (.bool s') (.slice A2 n2 c2)
  generalize ((w2.alloc (.cells #[.bool s, .slice A1 n1 c1] 56)).alloc (.cells #[.bool s', .slice A2 n2 c2] 56)) = W at *
  have hbwW := hbw2.trans (hbW.mono hbw2.size)
  have hsA := (hs1.below hb2).below hbW
  have hsB := hs2.below hbW
  have hl1 := hsA.len
  have hl2 := hsB.len
  have hlq := length_limbs_div (b := y.natAbs) hl1
  have hlr := length_limbs_mod (a := x.natAbs) hyp hl2
  clear hl1 hl2
  refine (divide_any A1 A2 n1 n2 c1 c2 _ _ W hsA hsB (by omega) (by omega) hyp).mono ?_
  rintro e w3 ⟨A3, n3, c3, A4, n4, c4, rfl, hs3, hs4, hb3⟩
  have hbw3 := hbwW.trans (hb3.mono hbwW.size)
  have hn3 : n3 ≤ n1 := by rw [← hs3.len]; exact hlq
  have hn4 : n4 ≤ n2 := by rw [← hs4.len]; exact hlr
  have HN4 := Lib.hid hs4.len
  have E0 := Lib.hid (B0.out.below hb3)
  have E1 := Lib.hid (B1.out.below hb3)
  obtain ⟨p00, p01, _, _, l0⟩ := E0.out.two
  obtain ⟨p10, p11, _, _, l1⟩ := E1.out.two
  have hsB3 := hsB.below hb3
  clear B0 B1
  go_upto_region 5 with (fail)
  go_cut [10, 11] (fun s10 s11 wx => ∃ g g' : Nat, s10 = .pointer (some ⟨g, 0, none⟩) ∧ s11 = .pointer (some ⟨g', 0, none⟩) ∧ g ≠ g' ∧ w3.heap.size ≤ g ∧ w3.heap.size ≤ g' ∧ Hid (BlkIs wx g 56 #[.bool true, .slice A3 n3 c3]) ∧ Hid (BlkIs wx g' 56 #[.bool s', .slice A4 n4 c4]) ∧ Below w3.heap.size w3 wx)
  case first =>
    go_region
    all_goals (go_wp2_with fail; go_meet)
    all_goals (go_wp2_with fail)
    all_goals (obtain ⟨t1, t2⟩ := two_new w3 56 (.bool true) (.slice A3 n3 c3) (.bool s') (.slice A4 n4 c4))
    all_goals (obtain ⟨t3, t4⟩ := two_new w3 56 (.bool s') (.slice A4 n4 c4) (.bool true) (.slice A3 n3 c3))
    all_goals first
      | exact ⟨w3.heap.size, w3.heap.size + 1, rfl, rfl, by omega, by omega, by omega, Lib.hid t1, Lib.hid t2, (((Below.refl _ _).alloc (Nat.le_refl _) _).alloc (by simp) _).drew⟩
      | exact ⟨w3.heap.size + 1, w3.heap.size, rfl, rfl, by omega, by omega, by omega, Lib.hid t4, Lib.hid t3, (((Below.refl _ _).alloc (Nat.le_refl _) _).alloc (by simp) _).drew⟩
  case rest =>
    obtain ⟨g, g', rfl, rfl, hgg, hg1, hg2, G0, G1, hbx⟩ := hcut
    have hbwx := hbw3.trans (hbx.mono hbw3.size)
    obtain ⟨q00, q01, f00, f01, m0⟩ := G0.out.two
    obtain ⟨q10, q11, f10, f11, m1⟩ := G1.out.two
    obtain ⟨_, v11, _, _, _⟩ := (E1.out.below hbx).two
    have hn40 : 0 < n4 := by
      rcases Nat.eq_zero_or_pos n4 with h | h
      · exfalso
        have := HN4.out
        rw [h] at this
        exact HRZ.out ((Dec.limbs_eq_nil (by omega)).1 (List.eq_nil_of_length_eq_zero this))
      · exact h
    have hPl := plus_any A3 (some ⟨wc.heap.size, 0, none⟩) n3 1 c3 1 _ [1] (wc.alloc (.cells #[.int .u32 1] 67)) ((hs3.below hbx).alloc _) (Sl.one wc .u32 67 1) (by omega) (by omega) (Dec.limbs_small (by omega) _) (Dec.Small.cons (by omega) Dec.Small.nil)
    rw [Dec.lval_limbs (by omega), show Dec.lval 1000000000 [1] = 1 by decide] at hPl
    have HPl := Lib.hid hPl
    clear hPl
    have hl3 := length_limbs_add (b := 1) (n' := 1) hs3.len (by decide)
    have hlen3 : n4 ≤ n2 := hn4
    have HMn : Hid (∀ V, Below w3.heap.size w3 V → Calls Tryd.prog 55 #[.slice A2 n2 c2, .slice A4 n4 c4] V (RetSl .u32 (Dec.limbs 1000000000 (y.natAbs - x.natAbs % y.natAbs)) V)) := fun V hV => by
      have := minus_any A2 A4 n2 n4 c2 c4 _ _ V (hsB3.below hV) (hs4.below hV) (by omega) hlen3 (Dec.limbs_small (by omega) _) (Dec.limbs_small (by omega) _) (by rw [Dec.lval_limbs (by omega), Dec.lval_limbs (by omega)]; exact Nat.le_of_lt (Nat.mod_lt _ hyp))
      rwa [Dec.lval_limbs (by omega), Dec.lval_limbs (by omega)] at this
    go_upto_region 7 with (fail)
    go_wp2_with fail
    refine HPl.out.mono ?_
    rintro e w5 ⟨A5, n5, c5, rfl, hs5, hb5, hf5⟩
    have hbc5 := ((Below.refl wc.heap.size wc).alloc (Nat.le_refl _) (.cells #[.int .u32 1] 67)).trans (hb5.mono (by simp))
    have G0' := Lib.hid (G0.out.below hbc5)
    have G1' := Lib.hid (G1.out.below hbc5)
    have E1' := Lib.hid ((E1.out.below hbx).below hbc5)
    obtain ⟨a00, a01, b00, b01, m2⟩ := G0'.out.two
    obtain ⟨a10, a11, b10, b11, m3⟩ := G1'.out.two
    obtain ⟨_, v51, _, _, m4⟩ := E1'.out.two
    have hw35 : Below w3.heap.size w3 (w5.setCell ⟨g, 1, none⟩ (.slice A5 n5 c5)) := (hbx.trans (hbc5.mono hbx.size)).setCell (p := ⟨g, 1, none⟩) hg1 _
    have H0 := Lib.hid (upd1 (v' := .slice A5 n5 c5) G0'.out)
    have H1 := Lib.hid (G1'.out.far (p := ⟨g, 1, none⟩) (Ne.symm hgg) (.slice A5 n5 c5))
    have HE := Lib.hid (E1'.out.far (p := ⟨g, 1, none⟩) (show w2.heap.size + 1 ≠ g by omega) (.slice A5 n5 c5))
    have hs5' := hs5.far (p := ⟨g, 1, none⟩) (fun b o e => by have := hf5 b o e; rw [World.size_alloc] at this; show b ≠ g; omega) (.slice A5 n5 c5)
    have hbw5 : Below w.heap.size w (w5.setCell ⟨g, 1, none⟩ (.slice A5 n5 c5)) := hbw3.trans (hw35.mono hbw3.size)
    have hn5 : n5 ≤ n3 + 2 := by rw [← hs5.len]; exact hl3
    clear q00 q01 f00 f01 q10 q11 f10 f11 G0 G1
    go_wp2_with fail
    generalize (w5.setCell ⟨g, 1, none⟩ (.slice A5 n5 c5)) = V at *
    obtain ⟨_, v61, _, _, m5⟩ := HE.out.two
    obtain ⟨_, _, _, _, m6⟩ := H0.out.two
    obtain ⟨_, _, _, _, m7⟩ := H1.out.two
    refine (HMn.out V hw35).mono ?_
    rintro e w6 ⟨A6, n6, c6, rfl, hs6, hb6, hf6⟩
    have J0 := Lib.hid (H0.out.below hb6)
    have J1 := Lib.hid (H1.out.below hb6)
    obtain ⟨_, _, _, _, _⟩ := J0.out.two
    obtain ⟨_, d11, _, e11, m8⟩ := J1.out.two
    have K0 := Lib.hid (J0.out.far (p := ⟨g', 1, none⟩) hgg (.slice A6 n6 c6))
    have K1 := Lib.hid (upd1 (v' := .slice A6 n6 c6) J1.out)
    have hs7 := hs6.far (p := ⟨g', 1, none⟩) (fun b o e => by have := hf6 b o e; show b ≠ g'; omega) (.slice A6 n6 c6)
    have hs8 := (hs5'.below hb6).far (p := ⟨g', 1, none⟩) (fun b o e => by have := hf5 b o e; rw [World.size_alloc] at this; show b ≠ g'; omega) (.slice A6 n6 c6)
    have hbwV : Below w.heap.size w (w6.setCell ⟨g', 1, none⟩ (.slice A6 n6 c6)) := (hbw5.trans (hb6.mono hbw5.size)).setCell (p := ⟨g', 1, none⟩) (by have := hbw3.size; show w.heap.size ≤ g'; omega) _
    have hn6 : n6 ≤ n2 := by
      rw [← hs6.len, ← hsB.len]; exact Dec.limbs_length_mono (by omega) (Nat.sub_le _ _)
    go_upto_region 9 with (fail)
    generalize (w6.setCell ⟨g', 1, none⟩ (.slice A6 n6 c6)) = U at *
    obtain ⟨r00, r01, _, _, _⟩ := K0.out.two
    obtain ⟨r10, r11, _, _, _⟩ := K1.out.two
    have HSq := Lib.hid (string_any true A5 n5 c5 _ U.drew hs8.drew1 (by omega) (ht.below hbwV.drew))
    have HSr : Hid (∀ w7, Below U.drew.heap.size U.drew w7 → Calls Tryd.prog 45 #[.agg #[.bool s', .slice A6 n6 c6]] w7 (RetStr (numStr s' (y.natAbs - x.natAbs % y.natAbs)) w7)) := fun w7 h7 => string_any s' A6 n6 c6 _ w7 (hs7.drew1.below h7) (by omega) (ht.below (hbwV.drew.trans (h7.mono hbwV.drew.size)))
    go_region_held3 (fun w' => w'.cell? ⟨g, 0, none⟩ = some (.bool true) ∧ w'.cell? ⟨g, 1, none⟩ = some (.slice A5 n5 c5) ∧ w'.cell? ⟨g', 0, none⟩ = some (.bool s') ∧ w'.cell? ⟨g', 1, none⟩ = some (.slice A6 n6 c6)) (go_keep)
      (first | (go_at_call 45; ((with_reducible refine HSq.out.mono ?_)); rintro e w7 ⟨rfl, hb7⟩; obtain ⟨t00, t01, _, _, _⟩ := (K0.out.drew.below hb7).two; obtain ⟨t10, t11, _, _, _⟩ := (K1.out.drew.below hb7).two; have HSr2 := Lib.hid (HSr.out w7 hb7)) | (go_at_call 45; ((with_reducible refine HSr2.out.mono ?_)); rintro e w8 ⟨rfl, hb8⟩; obtain ⟨u00, u01, _, _, _⟩ := ((K0.out.drew.below hb7).below hb8).two; obtain ⟨u10, u11, _, _, _⟩ := ((K1.out.drew.below hb7).below hb8).two))
    go_wp2
    go_ret2
    exact ⟨by rw [← HQ.out, ← HR.out]; rfl, (hbwV.drew.trans (hb7.mono hbwV.drew.size)).trans (hb8.mono (hbwV.drew.trans (hb7.mono hbwV.drew.size)).size)⟩

end Go.Proofs.YtcdgckbdplkdbaaDoor
