/- number.Divide whole; number.Gcd; number.Reduce. -/
import Derived.Test.YtcdgckbdplkdbaaDoorNumF
import Derived.Test.YtcdgckbdplkdbaaDoorNumG
import Derived.Deep.LoopGhost
namespace Go.Proofs.YtcdgckbdplkdbaaDoor
open Go.RowKit

theorem divN_any (a b : List UInt8) (w : World) (ha : a.length ≤ 900000) (hb : b.length ≤ 900000) (ht : Tab w) :
    Calls Tryd.prog 39 #[.string ⟨a.toArray⟩, .string ⟨b.toArray⟩] w (RetStr2 (Lib.itoa (qd (Dec.dval a) (Dec.dval b))) (Lib.itoa (rm (Dec.dval a) (Dec.dval b))) w) := by
  by_cases hy : Dec.dval b = 0
  · have := divN_zero a b w ha hb hy
    rw [hy, qd_zero, rm_zero, Dec.itoa_zero]
    exact this
  · generalize hx : Dec.dval a = x
    generalize hyv : Dec.dval b = y at hy
    cases hs : decide (y < 0) with
    | _ =>
      by_cases hd : decide (x < 0) = decide (y < 0)
      · obtain ⟨h1, h2⟩ := qd_same hy (hd.trans hs) hs
        exact divN_easy a b w ha hb ht x y hx hyv hy _ _ false (hd.trans hs) hs (by simp) (.inl rfl) _ _ (Lib.hid (numStr_eq (by simpa using h1))) (Lib.hid (numStr_eq h2))
      · have hd' : decide (x < 0) = !(decide (y < 0)) := by cases h1 : decide (x < 0) <;> cases h2 : decide (y < 0) <;> simp_all
        rw [hs] at hd'
        by_cases h0 : x.natAbs % y.natAbs = 0
        · obtain ⟨h1, h2⟩ := qd_diff0 hy hd' hs h0
          exact divN_easy a b w ha hb ht x y hx hyv hy _ _ true hd' hs (by simp) (.inr h0) _ _ (Lib.hid (numStr_eq (by simpa using h1))) (Lib.hid (by rw [h0, numStr_zero, h2, Dec.itoa_zero]))
        · obtain ⟨h1, h2⟩ := qd_diff hy hd' hs h0
          exact divN_hard a b w ha hb ht x y hx hyv hy _ _ true hd' hs (by simp) ⟨rfl, h0⟩ _ _ (Lib.hid (numStr_eq (by simpa using h1))) (Lib.hid (numStr_eq h2))

theorem field_limbs (s : Bool) (A : Option Addr) (n c : Nat) (w : World) : (Instr.field 56 (.agg #[.bool s, .slice A n c]) 1).run Tryd.prog w = .ok (.slice A n c) w := by kernel_rfl
set_option maxHeartbeats 1000000 in
set_option maxRecDepth 100000 in
theorem gcdN_any (a b : List UInt8) (w : World) (ha : a.length ≤ 900000) (hb : b.length ≤ 900000) (ht : Tab w) :
    Calls Tryd.prog 38 #[.string ⟨a.toArray⟩, .string ⟨b.toArray⟩] w (RetStr (Lib.itoa (Nat.gcd (Dec.dval a).natAbs (Dec.dval b).natAbs : Nat)) w) := by
  have HP1 : Hid (∀ w', Calls Tryd.prog 43 #[.string ⟨a.toArray⟩] w' (RetInt (a.length + 1) (Dec.dval a) w')) := fun w' => parse_any a w' (by omega)
  have HP2 : Hid (∀ w', Calls Tryd.prog 43 #[.string ⟨b.toArray⟩] w' (RetInt (b.length + 1) (Dec.dval b) w')) := fun w' => parse_any b w' (by omega)
  generalize Dec.dval a = x at *
  generalize Dec.dval b = y at *
  generalize hG : Nat.gcd x.natAbs y.natAbs = G
  have HG := Lib.hid hG
  clear hG
  have hfl := field_limbs
  go_enter Tryd.func38, Tryd.ntmps38
  go_wp2_with fail
  refine (HP1.out _).mono ?_
  rintro e w1 ⟨A1, n1, c1, rfl, hs1, hn1, hb1⟩
  go_wp2_with fail
  refine (HP2.out _).mono ?_
  rintro e w2 ⟨A2, n2, c2, rfl, hs2, hn2, hb2⟩
  have hbw2 := hb1.trans (hb2.mono hb1.size)
  go_wp2_with fail
  go_loopg [5, 6] y.natAbs (fun kx s5 s6 wr => ∃ (A B : Option Addr) (n c m d u v : Nat), s5 = .slice A n c ∧ s6 = .slice B m d ∧ Sl wr .u32 A n c (Dec.limbs 1000000000 u) ∧ Sl wr .u32 B m d (Dec.limbs 1000000000 v) ∧ n ≤ 900001 ∧ m ≤ 900001 ∧ v ≤ kx ∧ Hid (Nat.gcd u v = G) ∧ Below w.heap.size w wr)
  case atStart => exact ⟨A1, A2, n1, c1, n2, c2, _, _, rfl, rfl, hs1.below hb2, hs2, by omega, by omega, Nat.le_refl _, HG, hbw2⟩
  case round =>
    obtain ⟨A, B, n, c, m, d, u, v, rfl, rfl, hu, hv, hn, hm, hk, HGu, hb⟩ := hrel
    by_cases hm0 : 0 < m
    · have hv0 : 0 < v := by
        rcases Nat.eq_zero_or_pos v with e | e
        · subst e; have := hv.len; rw [Dec.limbs_zero] at this; simp at this; omega
        · exact e
      have hlr := length_limbs_mod (a := u) hv0 hv.len
      have hml := Nat.mod_lt u hv0
      have HGn : Hid (Nat.gcd v (u % v) = G) := by show _ = _; rw [← HGu.out, Nat.gcd_comm v, ← Nat.gcd_rec, Nat.gcd_comm]
      have HDv := Lib.hid (divide_any A B n m c d u v wr hu hv (by omega) (by omega) hv0)
      go_wp2_with (go_at_call 53; refine HDv.out.mono ?_; rintro e w3 ⟨A3, n3, c3, A4, n4, c4, rfl, hs3, hs4, hb3⟩; have hn4 : n4 ≤ m := (by rw [← hs4.len]; exact hlr))
      go_roundg (u % v)
      case measure => omega
      case rel => exact ⟨B, A4, m, d, n4, c4, v, u % v, rfl, rfl, hv.below hb3, hs4, hm, by omega, Nat.le_refl _, HGn, hb.trans (hb3.mono hb.size)⟩
    · have hv0 : v = 0 := (Dec.limbs_eq_nil (B := 1000000000) (by omega)).1 (List.eq_nil_of_length_eq_zero (by rw [hv.len]; omega))
      subst hv0
      have HE : Hid (numStr false u = Lib.itoa (G : Int)) := by show _ = _; rw [← HGu.out, Nat.gcd_zero_right]; rfl
      go_wp2_with fail
      refine (string_any false A n c u _ hu (by omega) (ht.below hb)).mono ?_
      rintro e w3 ⟨rfl, hb3⟩
      rw [HE.out]
      go_wp2
      go_ret
      exact ⟨rfl, hb.trans (hb3.mono hb.size)⟩
end Go.Proofs.YtcdgckbdplkdbaaDoor
