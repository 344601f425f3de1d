/- number.Divide, where nothing must be rounded. -/
import Derived.Test.YtcdgckbdplkdbaaDoorNumFa
namespace Go.Proofs.YtcdgckbdplkdbaaDoor
open Go.RowKit

set_option maxHeartbeats 2000000 in
set_option maxRecDepth 100000 in
theorem divN_zero (a b : List UInt8) (w : World) (ha : a.length ≤ 900000) (hb : b.length ≤ 900000) (hy0 : Dec.dval b = 0) :
    Calls Tryd.prog 39 #[.string ⟨a.toArray⟩, .string ⟨b.toArray⟩] w (RetStr2 [48] (Lib.itoa (Dec.dval a)) w) := by
  have HP1 : Hid (∀ w', Calls Tryd.prog 43 #[.string ⟨a.toArray⟩] w' (RetInt (a.length + 1) (Dec.dval a) w')) := fun w' => parse_any a w' (by omega)
  have HP2 : Hid (∀ w', Calls Tryd.prog 43 #[.string ⟨b.toArray⟩] w' (RetInt (b.length + 1) 0 w')) := fun w' => by have := parse_any b w' (by omega); rwa [hy0] at this
  have HDc : Hid (∀ w', Calls Tryd.prog 37 #[.string ⟨a.toArray⟩] w' fun e w'' => e = .returned (.string ⟨(Lib.itoa (Dec.dval a)).toArray⟩) ∧ w' = w'') := fun w' => by have := decimal_any a w' (by omega); rwa [norm_eq] at this
  clear hy0
  go_enter Tryd.func39, Tryd.ntmps39
  go_wp2_with fail
  refine (HP1.out _).mono ?_
  rintro e w1 ⟨A1, n1, c1, rfl, hs1, hn1, hb1⟩
  go_wp2_with fail
  refine (HP2.out _).mono ?_
  rintro e w2 ⟨A2, n2, c2, rfl, hs2, hn2, hb2⟩
  have hbw2 := hb1.trans (hb2.mono hb1.size)
  obtain rfl : n2 = 0 := (natAbs_limbs (x := 0) hs2.len).2 rfl
  go_wp2_with fail
  refine (HDc.out _).mono ?_
  rintro e w' ⟨rfl, rfl⟩
  go_wp2
  go_ret2
  exact ⟨rfl, (hbw2.alloc hbw2.size _).alloc (by rw [World.size_alloc]; have := hbw2.size; omega) _⟩

set_option maxHeartbeats 4000000 in
set_option maxRecDepth 100000 in
theorem divN_easy (a b : List UInt8) (w : World) (ha : a.length ≤ 900000) (hb : b.length ≤ 900000) (ht : Tab w) (x y : Int) (hxv : Dec.dval a = x) (hyv : Dec.dval b = y) (hy0 : y ≠ 0) (s s' z : Bool) (hsd : decide (x < 0) = s) (hsd' : decide (y < 0) = s')
    (hz : (!(s == s')) = z) (hcase : z = false ∨ x.natAbs % y.natAbs = 0) (q r : List UInt8) (HQ : Hid (numStr z (x.natAbs / y.natAbs) = q)) (HR : Hid (numStr s' (x.natAbs % y.natAbs) = r)) :
    Calls Tryd.prog 39 #[.string ⟨a.toArray⟩, .string ⟨b.toArray⟩] w (RetStr2 q r w) := by
  have HP1 : Hid (∀ w', Calls Tryd.prog 43 #[.string ⟨a.toArray⟩] w' (RetInt (a.length + 1) x w')) := fun w' => by have := parse_any a w' (by omega); rwa [hxv] at this
  have HP2 : Hid (∀ w', Calls Tryd.prog 43 #[.string ⟨b.toArray⟩] w' (RetInt (b.length + 1) y w')) := fun w' => by have := parse_any b w' (by omega); rwa [hyv] at this
  have HSD := Lib.hid hsd
  have HSD' := Lib.hid hsd'
  have hyp : 0 < y.natAbs := by omega
  have HCase := Lib.hid hcase
  clear hcase
  clear hsd hsd' hxv hyv
  go_enter Tryd.func39, Tryd.ntmps39
  go_wp2_with fail
  refine (HP1.out _).mono ?_
  rintro e w1 ⟨A1, n1, c1, rfl, hs1, hn1, hb1⟩
  rw [HSD.out]
  go_wp2_with fail
  refine (HP2.out _).mono ?_
  rintro e w2 ⟨A2, n2, c2, rfl, hs2, hn2, hb2⟩
  rw [HSD'.out]
  have hbw2 := hb1.trans (hb2.mono hb1.size)
  have hn20 : ((n2 : Int) == 0) = false := by rw [beq_eq_false_iff_ne]; intro e; exact hy0 ((natAbs_limbs hs2.len).1 (by omega))
  clear hy0
  go_wp2_with fail
  obtain ⟨B0, B1, hbW⟩ := two_blocks w2 56 (.bool s) (.slice A1 n1 c1) (.bool s') (.slice A2 n2 c2)
  generalize ((w2.alloc (.cells #[.bool s, .slice A1 n1 c1] 56)).alloc (.cells #[.bool s', .slice A2 n2 c2] 56)) = W at *
  have hbwW := hbw2.trans (hbW.mono hbw2.size)
  have hsA := (hs1.below hb2).below hbW
  have hsB := hs2.below hbW
  have hl1 := hsA.len
  have hl2 := hsB.len
  have hlq := length_limbs_div (b := y.natAbs) hl1
  have hlr := length_limbs_mod (a := x.natAbs) hyp hl2
  clear hl1 hl2
  refine (divide_any A1 A2 n1 n2 c1 c2 _ _ W hsA hsB (by omega) (by omega) hyp).mono ?_
  rintro e w3 ⟨A3, n3, c3, A4, n4, c4, rfl, hs3, hs4, hb3⟩
  have hbw3 := hbwW.trans (hb3.mono hbwW.size)
  have hn3 : n3 ≤ n1 := by rw [← hs3.len]; exact hlq
  have hn4 : n4 ≤ n2 := by rw [← hs4.len]; exact hlr
  have HN4 := Lib.hid hs4.len
  have E0 := Lib.hid (B0.out.below hb3)
  have E1 := Lib.hid (B1.out.below hb3)
  obtain ⟨p00, p01, _, _, l0⟩ := E0.out.two
  obtain ⟨p10, p11, _, _, l1⟩ := E1.out.two
  have hsB3 := hsB.below hb3
  clear B0 B1
  go_upto_region 5 with (fail)
  go_cut [10, 11] (fun s10 s11 wx => ∃ g g' : Nat, s10 = .pointer (some ⟨g, 0, none⟩) ∧ s11 = .pointer (some ⟨g', 0, none⟩) ∧ g ≠ g' ∧ w3.heap.size ≤ g ∧ w3.heap.size ≤ g' ∧ Hid (BlkIs wx g 56 #[.bool z, .slice A3 n3 c3]) ∧ Hid (BlkIs wx g' 56 #[.bool s', .slice A4 n4 c4]) ∧ Below w3.heap.size w3 wx)
  case first =>
    go_region
    all_goals (go_wp2_with fail; go_meet)
    all_goals (go_wp2_with fail)
    all_goals (obtain ⟨t1, t2⟩ := two_new w3 56 (.bool z) (.slice A3 n3 c3) (.bool s') (.slice A4 n4 c4))
    all_goals (obtain ⟨t3, t4⟩ := two_new w3 56 (.bool s') (.slice A4 n4 c4) (.bool z) (.slice A3 n3 c3))
    all_goals first
      | exact ⟨w3.heap.size, w3.heap.size + 1, rfl, rfl, by omega, by omega, by omega, Lib.hid t1, Lib.hid t2, (((Below.refl _ _).alloc (Nat.le_refl _) _).alloc (by simp) _).drew⟩
      | exact ⟨w3.heap.size + 1, w3.heap.size, rfl, rfl, by omega, by omega, by omega, Lib.hid t4, Lib.hid t3, (((Below.refl _ _).alloc (Nat.le_refl _) _).alloc (by simp) _).drew⟩
  case rest =>
    obtain ⟨g, g', rfl, rfl, hgg, hg1, hg2, G0, G1, hbx⟩ := hcut
    have hbwx := hbw3.trans (hbx.mono hbw3.size)
    obtain ⟨q00, q01, f00, f01, m0⟩ := G0.out.two
    obtain ⟨q10, q11, f10, f11, m1⟩ := G1.out.two
    obtain ⟨_, v11, _, _, _⟩ := (E1.out.below hbx).two
    have hgd : z = true → ¬ 0 < n4 := fun e => by
      rcases HCase.out with h | h
      · rw [h] at e; cases e
      · have := HN4.out; rw [h] at this; simp [Dec.limbs_zero] at this; omega
    have K0 := G0
    have K1 := G1
    have hbwV := hbwx
    have HSq := Lib.hid (string_any z A3 n3 c3 _ wc.drew (hs3.below hbx).drew1 (by omega) (ht.below hbwV.drew))
    have HSr : Hid (∀ w7, Below wc.drew.heap.size wc.drew w7 → Calls Tryd.prog 45 #[.agg #[.bool s', .slice A4 n4 c4]] w7 (RetStr (numStr s' (x.natAbs % y.natAbs)) w7)) := fun w7 h7 => string_any s' A4 n4 c4 _ w7 ((hs4.below hbx).drew1.below h7) (by omega) (ht.below (hbwV.drew.trans (h7.mono hbwV.drew.size)))
    have HGD := Lib.hid hgd
    clear hgd
    by_cases hzt : z = true
    · have hn40 : n4 = 0 := by have := HGD.out hzt; omega
      subst hn40
      subst hzt
      go_upto_region 9 with (fail)
      go_region_held3 (fun w' => w'.cell? ⟨g, 0, none⟩ = some (.bool true) ∧ w'.cell? ⟨g, 1, none⟩ = some (.slice A3 n3 c3) ∧ w'.cell? ⟨g', 0, none⟩ = some (.bool s') ∧ w'.cell? ⟨g', 1, none⟩ = some (.slice A4 0 c4)) (go_keep)
        (first | (go_at_call 45; ((with_reducible refine HSq.out.mono ?_)); rintro e w7 ⟨rfl, hb7⟩; obtain ⟨t00, t01, _, _, _⟩ := (K0.out.drew.below hb7).two; obtain ⟨t10, t11, _, _, _⟩ := (K1.out.drew.below hb7).two; have HSr2 := Lib.hid (HSr.out w7 hb7)) | (go_at_call 45; ((with_reducible refine HSr2.out.mono ?_)); rintro e w8 ⟨rfl, hb8⟩; obtain ⟨u00, u01, _, _, _⟩ := ((K0.out.drew.below hb7).below hb8).two; obtain ⟨u10, u11, _, _, _⟩ := ((K1.out.drew.below hb7).below hb8).two))
      go_wp2
      go_ret2
      exact ⟨by rw [← HQ.out, ← HR.out]; rfl, (hbwV.drew.trans (hb7.mono hbwV.drew.size)).trans (hb8.mono (hbwV.drew.trans (hb7.mono hbwV.drew.size)).size)⟩
    · have hzf : z = false := by cases z <;> simp_all
      subst hzf
      go_upto_region 9 with (fail)
      go_region_held3 (fun w' => w'.cell? ⟨g, 0, none⟩ = some (.bool false) ∧ w'.cell? ⟨g, 1, none⟩ = some (.slice A3 n3 c3) ∧ w'.cell? ⟨g', 0, none⟩ = some (.bool s') ∧ w'.cell? ⟨g', 1, none⟩ = some (.slice A4 n4 c4)) (go_keep)
        (first | (go_at_call 45; ((with_reducible refine HSq.out.mono ?_)); rintro e w7 ⟨rfl, hb7⟩; obtain ⟨t00, t01, _, _, _⟩ := (K0.out.drew.below hb7).two; obtain ⟨t10, t11, _, _, _⟩ := (K1.out.drew.below hb7).two; have HSr2 := Lib.hid (HSr.out w7 hb7)) | (go_at_call 45; ((with_reducible refine HSr2.out.mono ?_)); rintro e w8 ⟨rfl, hb8⟩; obtain ⟨u00, u01, _, _, _⟩ := ((K0.out.drew.below hb7).below hb8).two; obtain ⟨u10, u11, _, _, _⟩ := ((K1.out.drew.below hb7).below hb8).two))
      go_wp2
      go_ret2
      exact ⟨by rw [← HQ.out, ← HR.out]; rfl, (hbwV.drew.trans (hb7.mono hbwV.drew.size)).trans (hb8.mono (hbwV.drew.trans (hb7.mono hbwV.drew.size)).size)⟩

end Go.Proofs.YtcdgckbdplkdbaaDoor
