/- number.Divide whole; number.Gcd; number.Reduce. -/
import Derived.Test.YtgphkgmhcmffnaaGreatDoorJI
import Derived.Deep.LoopGhost
import Derived.Test.YtgphkgmhcmffnaaGreatDoorJG
namespace Go.Proofs.YtgphkgmhcmffnaaGreatDoor
open Go.RowKit

theorem divN_any (a b : List UInt8) (w : World) (ha : a.length ≤ 2400000) (hb : b.length ≤ 2400000) (ht : Tab w) :
    Calls Tryz.prog 154 #[.string ⟨a.toArray⟩, .string ⟨b.toArray⟩] w (RetStr2 (Lib.itoa (qd (Dec.dval a) (Dec.dval b))) (Lib.itoa (rm (Dec.dval a) (Dec.dval b))) w) := by
  by_cases hy : Dec.dval b = 0
  · have := divN_zero a b w ha hb hy
    rw [hy, qd_zero, rm_zero, Dec.itoa_zero]
    exact this
  · generalize hx : Dec.dval a = x
    generalize hyv : Dec.dval b = y at hy
    cases hs : decide (y < 0) with
    | _ =>
      by_cases hd : decide (x < 0) = decide (y < 0)
      · obtain ⟨h1, h2⟩ := qd_same hy (hd.trans hs) hs
        exact divN_easy a b w ha hb ht x y hx hyv hy _ _ false (hd.trans hs) hs (by simp) (.inl rfl) _ _ (Lib.hid (numStr_eq (by simpa using h1))) (Lib.hid (numStr_eq h2))
      · have hd' : decide (x < 0) = !(decide (y < 0)) := by cases h1 : decide (x < 0) <;> cases h2 : decide (y < 0) <;> simp_all
        rw [hs] at hd'
        by_cases h0 : x.natAbs % y.natAbs = 0
        · obtain ⟨h1, h2⟩ := qd_diff0 hy hd' hs h0
          exact divN_easy a b w ha hb ht x y hx hyv hy _ _ true hd' hs (by simp) (.inr h0) _ _ (Lib.hid (numStr_eq (by simpa using h1))) (Lib.hid (by rw [h0, numStr_zero, h2, Dec.itoa_zero]))
        · obtain ⟨h1, h2⟩ := qd_diff hy hd' hs h0
          exact divN_hard a b w ha hb ht x y hx hyv hy _ _ true hd' hs (by simp) ⟨rfl, h0⟩ _ _ (Lib.hid (numStr_eq (by simpa using h1))) (Lib.hid (numStr_eq h2))

theorem field_limbs (s : Bool) (A : Option Addr) (n c : Nat) (w : World) : (Instr.field 99 (.agg #[.bool s, .slice A n c]) 1).run Tryz.prog w = .ok (.slice A n c) w := by kernel_rfl
set_option maxHeartbeats 1000000 in
set_option maxRecDepth 100000 in
theorem gcdN_any (a b : List UInt8) (w : World) (ha : a.length ≤ 2400000) (hb : b.length ≤ 2400000) (ht : Tab w) :
    Calls Tryz.prog 153 #[.string ⟨a.toArray⟩, .string ⟨b.toArray⟩] w (RetStr (Lib.itoa (Nat.gcd (Dec.dval a).natAbs (Dec.dval b).natAbs : Nat)) w) := by
  have HP1 : Hid (∀ w', Calls Tryz.prog 142 #[.string ⟨a.toArray⟩] w' (RetInt (a.length + 1) (Dec.dval a) w')) := fun w' => parse_any a w' (by omega)
  have HP2 : Hid (∀ w', Calls Tryz.prog 142 #[.string ⟨b.toArray⟩] w' (RetInt (b.length + 1) (Dec.dval b) w')) := fun w' => parse_any b w' (by omega)
  generalize Dec.dval a = x at *
  generalize Dec.dval b = y at *
  generalize hG : Nat.gcd x.natAbs y.natAbs = G
  have HG := Lib.hid hG
  clear hG
  have hfl := field_limbs
  go_enter Tryz.func153, Tryz.ntmps153
  go_wp2_with fail
  refine (HP1.out _).mono ?_
  rintro e w1 ⟨A1, n1, c1, rfl, hs1, hn1, hb1⟩
  go_wp2_with fail
  refine (HP2.out _).mono ?_
  rintro e w2 ⟨A2, n2, c2, rfl, hs2, hn2, hb2⟩
  have hbw2 := hb1.trans (hb2.mono hb1.size)
  go_wp2_with fail
  go_loopg [5, 6] y.natAbs (fun kx s5 s6 wr => ∃ (A B : Option Addr) (n c m d u v : Nat), s5 = .slice A n c ∧ s6 = .slice B m d ∧ Sl wr .u32 A n c (Dec.limbs 1000000000 u) ∧ Sl wr .u32 B m d (Dec.limbs 1000000000 v) ∧ n ≤ 2400001 ∧ m ≤ 2400001 ∧ v ≤ kx ∧ Hid (Nat.gcd u v = G) ∧ Below w.heap.size w wr)
  case atStart => exact ⟨A1, A2, n1, c1, n2, c2, _, _, rfl, rfl, hs1.below hb2, hs2, by omega, by omega, Nat.le_refl _, HG, hbw2⟩
  case round =>
    obtain ⟨A, B, n, c, m, d, u, v, rfl, rfl, hu, hv, hn, hm, hk, HGu, hb⟩ := hrel
    by_cases hm0 : 0 < m
    · have hv0 : 0 < v := by
        rcases Nat.eq_zero_or_pos v with e | e
        · subst e; have := hv.len; rw [Dec.limbs_zero] at this; simp at this; omega
        · exact e
      have hlr := length_limbs_mod (a := u) hv0 hv.len
      have hml := Nat.mod_lt u hv0
      have HGn : Hid (Nat.gcd v (u % v) = G) := by show _ = _; rw [← HGu.out, Nat.gcd_comm v, ← Nat.gcd_rec, Nat.gcd_comm]
      have HDv := Lib.hid (divide_any A B n m c d u v wr hu hv (by omega) (by omega) hv0)
      go_wp2_with (go_at_call 170; refine HDv.out.mono ?_; rintro e w3 ⟨A3, n3, c3, A4, n4, c4, rfl, hs3, hs4, hb3⟩; have hn4 : n4 ≤ m := (by rw [← hs4.len]; exact hlr))
      go_roundg (u % v)
      case measure => omega
      case rel => exact ⟨B, A4, m, d, n4, c4, v, u % v, rfl, rfl, hv.below hb3, hs4, hm, by omega, Nat.le_refl _, HGn, hb.trans (hb3.mono hb.size)⟩
    · have hv0 : v = 0 := (Dec.limbs_eq_nil (B := 1000000000) (by omega)).1 (List.eq_nil_of_length_eq_zero (by rw [hv.len]; omega))
      subst hv0
      have HE : Hid (numStr false u = Lib.itoa (G : Int)) := by show _ = _; rw [← HGu.out, Nat.gcd_zero_right]; rfl
      go_wp2_with fail
      refine (string_any false A n c u _ hu (by omega) (ht.below hb)).mono ?_
      rintro e w3 ⟨rfl, hb3⟩
      rw [HE.out]
      go_wp2
      go_ret
      exact ⟨rfl, hb.trans (hb3.mono hb.size)⟩
end Go.Proofs.YtgphkgmhcmffnaaGreatDoor
/- number.Reduce. -/
namespace Go.Proofs.YtgphkgmhcmffnaaGreatDoor
open Go.RowKit

def rdX (x y : Int) : Int := if y < 0 then -x else x
def rdY (y : Int) : Int := if y < 0 then -y else y
def rdN (x y : Int) : Int := if y = 0 then 0 else qd (rdX x y) (Nat.gcd x.natAbs y.natAbs : Nat)
def rdD (x y : Int) : Int := if y = 0 then 1 else qd (rdY y) (Nat.gcd x.natAbs y.natAbs : Nat)
theorem qd_one (x : Int) : qd x 1 = x := by simp [qd]
theorem itoa_one : Lib.itoa 1 = [49] := by decide +kernel
theorem itoa_eq_one {v : Int} : (Lib.itoa v == [49]) = decide (v = 1) := by
  rw [← itoa_one]
  by_cases h : v = 1
  · subst h; simp
  · rw [decide_eq_false h, beq_eq_false_iff_ne]
    exact fun e => h (Dec.itoa_inj e)
theorem norm_len2 (l : List UInt8) : (Lib.itoa (Dec.dval l)).length ≤ l.length + 1 := by rw [← norm_eq]; exact norm_length l

theorem gcd_len {K : Nat} {x y : Int} (hK : 1 ≤ K) (hx : x.natAbs < 10 ^ K) (hy : y.natAbs < 10 ^ K) : (Lib.itoa (Nat.gcd x.natAbs y.natAbs : Nat)).length ≤ K + 1 := by
  have h : Nat.gcd x.natAbs y.natAbs < 10 ^ K := by
    rcases Nat.eq_zero_or_pos x.natAbs with h1 | h1
    · rw [h1, Nat.gcd_zero_left]; exact hy
    · exact Nat.lt_of_le_of_lt (Nat.gcd_le_left _ h1) hx
  exact itoa_length_any ((Nat.gcd x.natAbs y.natAbs : Nat) : Int) hK (by rw [Int.natAbs_natCast]; exact h)
set_option maxHeartbeats 2000000 in
set_option maxRecDepth 100000 in
theorem reduceN_any (a b : List UInt8) (w : World) (ha : a.length ≤ 1100000) (hb : b.length ≤ 1100000) (ht : Tab w) :
    Calls Tryz.prog 133 #[.string ⟨a.toArray⟩, .string ⟨b.toArray⟩] w (RetStr2 (Lib.itoa (rdN (Dec.dval a) (Dec.dval b))) (Lib.itoa (rdD (Dec.dval a) (Dec.dval b))) w) := by
  have hda := decimal_any a w (by omega)
  have hdb : ∀ w', Calls Tryz.prog 151 #[.string ⟨b.toArray⟩] w' fun e w'' => e = .returned (.string ⟨(norm b).toArray⟩) ∧ w' = w'' := fun w' => decimal_any b w' (by omega)
  rw [norm_eq] at hda
  simp only [norm_eq] at hdb
  have hla := norm_len2 a
  have hlb := norm_len2 b
  have hba := dval_lt18 (l := a) (k := a.length + b.length + 1) (by omega)
  have hbb := dval_lt18 (l := b) (k := a.length + b.length + 1) (by omega)
  generalize Dec.dval a = x at *
  generalize Dec.dval b = y at *
  have hgl0 : (Lib.itoa (Nat.gcd x.natAbs y.natAbs : Nat)).length ≤ 2300000 := by have := gcd_len (by omega) hba hbb; omega
  have hnx := itoa_length_any (-x) (k := a.length + b.length + 1) (by omega) (by rw [Int.natAbs_neg]; exact hba)
  have hny := itoa_length_any (-y) (k := a.length + b.length + 1) (by omega) (by rw [Int.natAbs_neg]; exact hbb)
  have HA := Lib.hid hda
  have HB := Lib.hid hdb
  clear hda hdb hba hbb
  by_cases hy0 : y = 0
  · subst hy0
    have HRN : Hid (rdN x 0 = 0) := rfl
    have HRD : Hid (rdD x 0 = 1) := rfl
    have hz := Dec.itoa_zero
    rw [hz] at HB
    clear hz
    go_enter Tryz.func133, Tryz.ntmps133
    go_wp2_with fail
    refine HA.out.mono ?_
    rintro e w' ⟨rfl, rfl⟩
    go_wp2_with fail
    refine (HB.out _).mono ?_
    rintro e w' ⟨rfl, rfl⟩
    go_wp2
    go_ret2
    exact ⟨by rw [HRN.out, HRD.out, Dec.itoa_zero, itoa_one]; rfl, Below.refl _ _⟩
  obtain ⟨D1, hD1⟩ : ∃ D1 : ByteArray, D1 = ⟨(Lib.itoa x).toArray⟩ := ⟨_, rfl⟩
  obtain ⟨D2, hD2⟩ : ∃ D2 : ByteArray, D2 = ⟨(Lib.itoa y).toArray⟩ := ⟨_, rfl⟩
  rw [← hD1] at HA
  rw [← hD2] at HB
  have HT2 : Hid (D2.data.toList = Lib.itoa y) := by rw [hD2]; exact (rfl : (Lib.itoa y).toArray.toList = _)
  have HD1 := Lib.hid hD1
  have HD2 := Lib.hid hD2
  clear hD1 hD2
  have hE0 : (D2.toList == [48]) = false := by rw [Lib.toList_data, HT2.out]; simpa using itoa_ne_zero hy0
  by_cases hy1 : y = 1
  · subst hy1
    have hE1 : (D2.toList == [49]) = true := by rw [Lib.toList_data, HT2.out, itoa_one]; rfl
    have HRN : Hid (rdN x 1 = x) := by show _ = _; simp [rdN, rdX, qd_one]
    have HRD : Hid (rdD x 1 = 1) := by show _ = _; simp [rdD, rdY, qd_one]
    go_enter Tryz.func133, Tryz.ntmps133
    go_wp2_with fail
    refine HA.out.mono ?_
    rintro e w' ⟨rfl, rfl⟩
    go_wp2_with fail
    refine (HB.out _).mono ?_
    rintro e w' ⟨rfl, rfl⟩
    go_wp2
    go_ret2
    exact ⟨by rw [HRN.out, HRD.out, ← HD1.out, ← HD2.out]; rfl, Below.refl _ _⟩
  have hE1 : (D2.toList == [49]) = false := by rw [Lib.toList_data, HT2.out, itoa_eq_one, decide_eq_false hy1]
  by_cases hn : y < 0
  · obtain ⟨hp, e0⟩ := first_byte (HT2.out.trans (itoa_natNeg hn))
    have hb45 : ((D2[0].toNat : Int) == 45) = true := by rw [e0]; rfl
    have HN1 : Hid (∀ w', Calls Tryz.prog 152 #[.string D1] w' (RetPure (.string ⟨(Lib.itoa (-x)).toArray⟩) w')) := fun w' => by
      have := negate_any (Lib.itoa x) w' (by omega); rw [Dec.dval_itoa] at this; rw [HD1.out]; exact this
    have HN2 : Hid (∀ w', Calls Tryz.prog 152 #[.string D2] w' (RetPure (.string ⟨(Lib.itoa (-y)).toArray⟩) w')) := fun w' => by
      have := negate_any (Lib.itoa y) w' (by omega); rw [Dec.dval_itoa] at this; rw [HD2.out]; exact this
    have HRN0 : Hid (rdN x y = qd (-x) (Nat.gcd x.natAbs y.natAbs : Nat)) := by show _ = _; simp [rdN, rdX, hy0, hn]
    have HRD0 : Hid (rdD x y = qd (-y) (Nat.gcd x.natAbs y.natAbs : Nat)) := by show _ = _; simp [rdD, rdY, hy0, hn]
    have HGE0 : Hid (Nat.gcd (-x).natAbs (-y).natAbs = Nat.gcd x.natAbs y.natAbs) := by show _ = _; rw [Int.natAbs_neg, Int.natAbs_neg]
    have hlX : (Lib.itoa (-x)).length ≤ 2400000 := by omega
    have hlY : (Lib.itoa (-y)).length ≤ 2400000 := by omega
    clear e0 hy0 hy1 hn
    generalize -x = X at *
    generalize -y = Y at *
    have HGc := Lib.hid (gcdN_any (Lib.itoa X) (Lib.itoa Y) w hlX hlY ht)
    rw [Dec.dval_itoa, Dec.dval_itoa] at HGc
    have HGE : Hid (Nat.gcd X.natAbs Y.natAbs = Nat.gcd x.natAbs y.natAbs) := HGE0
    rw [HGE.out] at HGc
    have hgl : (Lib.itoa (Nat.gcd x.natAbs y.natAbs : Nat)).length ≤ 2300000 := hgl0
    have hone := itoa_eq_one (v := (Nat.gcd x.natAbs y.natAbs : Nat))
    have HDX : Hid (∀ w', Tab w' → Calls Tryz.prog 154 #[.string ⟨(Lib.itoa X).toArray⟩, .string ⟨(Lib.itoa (Nat.gcd x.natAbs y.natAbs : Nat)).toArray⟩] w' (RetStr2 (Lib.itoa (qd X (Nat.gcd x.natAbs y.natAbs : Nat))) (Lib.itoa (rm X (Nat.gcd x.natAbs y.natAbs : Nat))) w')) := fun w' ht' => by
      have := divN_any (Lib.itoa X) (Lib.itoa (Nat.gcd x.natAbs y.natAbs : Nat)) w' hlX (by omega) ht'
      rwa [Dec.dval_itoa, Dec.dval_itoa] at this
    have HDY : Hid (∀ w', Tab w' → Calls Tryz.prog 154 #[.string ⟨(Lib.itoa Y).toArray⟩, .string ⟨(Lib.itoa (Nat.gcd x.natAbs y.natAbs : Nat)).toArray⟩] w' (RetStr2 (Lib.itoa (qd Y (Nat.gcd x.natAbs y.natAbs : Nat))) (Lib.itoa (rm Y (Nat.gcd x.natAbs y.natAbs : Nat))) w')) := fun w' ht' => by
      have := divN_any (Lib.itoa Y) (Lib.itoa (Nat.gcd x.natAbs y.natAbs : Nat)) w' hlY (by omega) ht'
      rwa [Dec.dval_itoa, Dec.dval_itoa] at this
    have HRN : Hid (rdN x y = qd X (Nat.gcd x.natAbs y.natAbs : Nat)) := HRN0
    have HRD : Hid (rdD x y = qd Y (Nat.gcd x.natAbs y.natAbs : Nat)) := HRD0
    generalize Nat.gcd x.natAbs y.natAbs = G at *
    by_cases hG1 : (G : Int) = 1
    · have HRN1 : Hid (rdN x y = X) := by show _ = _; rw [HRN.out, hG1, qd_one]
      have HRD1 : Hid (rdD x y = Y) := by show _ = _; rw [HRD.out, hG1, qd_one]
      rw [decide_eq_true hG1] at hone
      clear hG1
      go_enter Tryz.func133, Tryz.ntmps133
      go_wp2_with fail
      refine HA.out.mono ?_
      rintro e w' ⟨rfl, rfl⟩
      go_wp2_with fail
      refine (HB.out _).mono ?_
      rintro e w' ⟨rfl, rfl⟩
      go_wp2_with fail
      refine (HN1.out _).mono ?_
      rintro e w' ⟨rfl, rfl⟩
      go_wp2_with fail
      refine (HN2.out _).mono ?_
      rintro e w' ⟨rfl, rfl⟩
      go_wp2_with fail
      refine HGc.out.mono ?_
      rintro e w1 ⟨rfl, hb1⟩
      go_wp2
      go_ret2
      exact ⟨by rw [HRN1.out, HRD1.out]; rfl, hb1⟩
    · rw [decide_eq_false hG1] at hone
      clear hG1
      go_enter Tryz.func133, Tryz.ntmps133
      go_wp2_with fail
      refine HA.out.mono ?_
      rintro e w' ⟨rfl, rfl⟩
      go_wp2_with fail
      refine (HB.out _).mono ?_
      rintro e w' ⟨rfl, rfl⟩
      go_wp2_with fail
      refine (HN1.out _).mono ?_
      rintro e w' ⟨rfl, rfl⟩
      go_wp2_with fail
      refine (HN2.out _).mono ?_
      rintro e w' ⟨rfl, rfl⟩
      go_wp2_with fail
      refine HGc.out.mono ?_
      rintro e w1 ⟨rfl, hb1⟩
      go_wp2_with fail
      refine (HDX.out _ (ht.below hb1)).mono ?_
      rintro e w2 ⟨rfl, hb2⟩
      have hbw2 := hb1.trans (hb2.mono hb1.size)
      go_wp2_with fail
      refine (HDY.out _ (ht.below hbw2)).mono ?_
      rintro e w3 ⟨rfl, hb3⟩
      go_wp2
      go_ret2
      exact ⟨by rw [HRN.out, HRD.out]; rfl, hbw2.trans (hb3.mono hbw2.size)⟩
  · obtain ⟨c, r, hcr, _⟩ := Dec.decDigits_head (u := y.natAbs) (by omega)
    have hD3 : D2.data.toList = c :: r := by rw [HT2.out, itoa_natPos (by omega), hcr]
    obtain ⟨hp, e0⟩ := first_byte hD3
    have h45 : c ≠ 45 := Dec.head_ne45 (r := r) (by rw [← hcr]; exact Dec.digs_decDigits _)
    have hb45 : ((D2[0].toNat : Int) == 45) = false := by
      rw [e0, beq_eq_false_iff_ne]
      intro e
      exact h45 (UInt8.toNat_inj.1 (by have : c.toNat = 45 := by omega
                                       simpa using this))
    have HRN0 : Hid (rdN x y = qd x (Nat.gcd x.natAbs y.natAbs : Nat)) := by show _ = _; simp [rdN, rdX, hy0, hn]
    have HRD0 : Hid (rdD x y = qd y (Nat.gcd x.natAbs y.natAbs : Nat)) := by show _ = _; simp [rdD, rdY, hy0, hn]
    have HGE0 : Hid (Nat.gcd x.natAbs y.natAbs = Nat.gcd x.natAbs y.natAbs) := (rfl : Nat.gcd x.natAbs y.natAbs = _)
    have hlX : (Lib.itoa x).length ≤ 2400000 := by omega
    have hlY : (Lib.itoa y).length ≤ 2400000 := by omega
    clear e0 hy0 hy1 hn hD3 h45 hcr
    have HGc := Lib.hid (gcdN_any (Lib.itoa x) (Lib.itoa y) w hlX hlY ht)
    rw [Dec.dval_itoa, Dec.dval_itoa] at HGc
    have HGE : Hid (Nat.gcd x.natAbs y.natAbs = Nat.gcd x.natAbs y.natAbs) := HGE0
    have HGc := Lib.hid (show Calls Tryz.prog 153 #[.string D1, .string D2] w (RetStr (Lib.itoa (Nat.gcd x.natAbs y.natAbs : Nat)) w) by rw [HD1.out, HD2.out]; exact HGc.out)
    have hgl : (Lib.itoa (Nat.gcd x.natAbs y.natAbs : Nat)).length ≤ 2300000 := hgl0
    have hone := itoa_eq_one (v := (Nat.gcd x.natAbs y.natAbs : Nat))
    have HDX : Hid (∀ w', Tab w' → Calls Tryz.prog 154 #[.string D1, .string ⟨(Lib.itoa (Nat.gcd x.natAbs y.natAbs : Nat)).toArray⟩] w' (RetStr2 (Lib.itoa (qd x (Nat.gcd x.natAbs y.natAbs : Nat))) (Lib.itoa (rm x (Nat.gcd x.natAbs y.natAbs : Nat))) w')) := fun w' ht' => by
      have := divN_any (Lib.itoa x) (Lib.itoa (Nat.gcd x.natAbs y.natAbs : Nat)) w' hlX (by omega) ht'
      rw [Dec.dval_itoa, Dec.dval_itoa] at this
      rw [HD1.out]; exact this
    have HDY : Hid (∀ w', Tab w' → Calls Tryz.prog 154 #[.string D2, .string ⟨(Lib.itoa (Nat.gcd x.natAbs y.natAbs : Nat)).toArray⟩] w' (RetStr2 (Lib.itoa (qd y (Nat.gcd x.natAbs y.natAbs : Nat))) (Lib.itoa (rm y (Nat.gcd x.natAbs y.natAbs : Nat))) w')) := fun w' ht' => by
      have := divN_any (Lib.itoa y) (Lib.itoa (Nat.gcd x.natAbs y.natAbs : Nat)) w' hlY (by omega) ht'
      rw [Dec.dval_itoa, Dec.dval_itoa] at this
      rw [HD2.out]; exact this
    have HRN : Hid (rdN x y = qd x (Nat.gcd x.natAbs y.natAbs : Nat)) := HRN0
    have HRD : Hid (rdD x y = qd y (Nat.gcd x.natAbs y.natAbs : Nat)) := HRD0
    generalize Nat.gcd x.natAbs y.natAbs = G at *
    by_cases hG1 : (G : Int) = 1
    · have HRN1 : Hid (rdN x y = x) := by show _ = _; rw [HRN.out, hG1, qd_one]
      have HRD1 : Hid (rdD x y = y) := by show _ = _; rw [HRD.out, hG1, qd_one]
      rw [decide_eq_true hG1] at hone
      clear hG1
      go_enter Tryz.func133, Tryz.ntmps133
      go_wp2_with fail
      refine HA.out.mono ?_
      rintro e w' ⟨rfl, rfl⟩
      go_wp2_with fail
      refine (HB.out _).mono ?_
      rintro e w' ⟨rfl, rfl⟩
      go_wp2_with fail
      refine HGc.out.mono ?_
      rintro e w1 ⟨rfl, hb1⟩
      go_wp2
      go_ret2
      exact ⟨by rw [HRN1.out, HRD1.out, ← HD1.out, ← HD2.out]; rfl, hb1⟩
    · rw [decide_eq_false hG1] at hone
      clear hG1
      go_enter Tryz.func133, Tryz.ntmps133
      go_wp2_with fail
      refine HA.out.mono ?_
      rintro e w' ⟨rfl, rfl⟩
      go_wp2_with fail
      refine (HB.out _).mono ?_
      rintro e w' ⟨rfl, rfl⟩
      go_wp2_with fail
      refine HGc.out.mono ?_
      rintro e w1 ⟨rfl, hb1⟩
      go_wp2_with fail
      refine (HDX.out _ (ht.below hb1)).mono ?_
      rintro e w2 ⟨rfl, hb2⟩
      have hbw2 := hb1.trans (hb2.mono hb1.size)
      go_wp2_with fail
      refine (HDY.out _ (ht.below hbw2)).mono ?_
      rintro e w3 ⟨rfl, hb3⟩
      go_wp2
      go_ret2
      exact ⟨by rw [HRN.out, HRD.out]; rfl, hbw2.trans (hb3.mono hbw2.size)⟩
end Go.Proofs.YtgphkgmhcmffnaaGreatDoor
/- The arithmetic of decimals in words of integers. -/
namespace Go.Proofs.YtgphkgmhcmffnaaGreatDoor
open Go.RowKit

structure Num (k : Nat) (l : List UInt8) (X : Int) : Prop where
  val : Dec.dval l = X
  len : l.length ≤ k
theorem Num.of (l : List UInt8) {k : Nat} (h : l.length ≤ k) : Num k l (Dec.dval l) := ⟨rfl, h⟩
theorem Num.abs {k : Nat} {l : List UInt8} {X : Int} (h : Num k l X) : X.natAbs < 10 ^ k := by rw [← h.val]; exact dval_lt18 h.len
theorem pow_sum (k m : Nat) : 10 ^ k + 10 ^ m ≤ 10 ^ (k + m + 1) := by
  have h3 : 10 ^ k ≤ 10 ^ (k + m) := Nat.pow_le_pow_right (by omega) (by omega)
  have h4 : 10 ^ m ≤ 10 ^ (k + m) := Nat.pow_le_pow_right (by omega) (by omega)
  rw [Nat.pow_succ]; omega
theorem Num.add {k m : Nat} {l r : List UInt8} {X Y : Int} (h : Num k l X) (h' : Num m r Y) : Num (k + m + 2) (Lib.itoa (X + Y)) (X + Y) :=
  ⟨Dec.dval_itoa _, itoa_length_any _ (k := k + m + 1) (by omega) (by have := h.abs; have := h'.abs; have := pow_sum k m; omega)⟩
theorem Num.mul {k m : Nat} {l r : List UInt8} {X Y : Int} (h : Num k l X) (h' : Num m r Y) : Num (k + m + 2) (Lib.itoa (X * Y)) (X * Y) := by
  refine ⟨Dec.dval_itoa _, itoa_length_any _ (k := k + m + 1) (by omega) ?_⟩
  rw [Int.natAbs_mul, Nat.pow_succ, Nat.pow_add]
  have h1 := h.abs
  have h2 := h'.abs
  have : X.natAbs * Y.natAbs ≤ 10 ^ k * 10 ^ m := Nat.mul_le_mul (by omega) (by omega)
  have : 0 < 10 ^ k * 10 ^ m := Nat.mul_pos (Nat.pow_pos (by omega)) (Nat.pow_pos (by omega))
  omega
theorem addZ {k m : Nat} {l r : List UInt8} {X Y : Int} (h : Num k l X) (h' : Num m r Y) (hk : k ≤ 100000) (hm : m ≤ 100000) (w : World) (ht : Tab w) :
    Calls Tryz.prog 118 #[.string ⟨l.toArray⟩, .string ⟨r.toArray⟩] w (RetStr (Lib.itoa (X + Y)) w) := by
  have := addN_any l r w (by have := h.len; omega) (by have := h'.len; omega) ht
  rwa [h.val, h'.val] at this
theorem mulZ {k m : Nat} {l r : List UInt8} {X Y : Int} (h : Num k l X) (h' : Num m r Y) (hk : k ≤ 100000) (hm : m ≤ 100000) (w : World) (ht : Tab w) :
    Calls Tryz.prog 120 #[.string ⟨l.toArray⟩, .string ⟨r.toArray⟩] w (RetStr (Lib.itoa (X * Y)) w) := by
  have := mulN_any l r w (by have := h.len; omega) (by have := h'.len; omega) ht
  rwa [h.val, h'.val] at this

theorem compareZ {k m : Nat} {l r : List UInt8} {X Y V : Int} (h : Num k l X) (h' : Num m r Y) (hk : k ≤ 100000) (hm : m ≤ 100000) (hv : cmpI X Y = V) (w : World) :
    Calls Tryz.prog 134 #[.string ⟨l.toArray⟩, .string ⟨r.toArray⟩] w (RetI64 V w) := by
  have := compareN_any l r w (by have := h.len; omega) (by have := h'.len; omega)
  rwa [h.val, h'.val, hv] at this
theorem divZ {k m : Nat} {l r : List UInt8} {X Y : Int} (h : Num k l X) (h' : Num m r Y) (hk : k ≤ 100000) (hm : m ≤ 100000) (w : World) (ht : Tab w) :
    Calls Tryz.prog 154 #[.string ⟨l.toArray⟩, .string ⟨r.toArray⟩] w (RetStr2 (Lib.itoa (qd X Y)) (Lib.itoa (rm X Y)) w) := by
  have := divN_any l r w (by have := h.len; omega) (by have := h'.len; omega) ht
  rwa [h.val, h'.val] at this
theorem rm_abs (X Y : Int) : (rm X Y).natAbs ≤ X.natAbs + Y.natAbs := by
  by_cases hy : Y = 0
  · subst hy; rw [rm_zero]; omega
  · obtain ⟨h1, h2⟩ := rm_bounds (x := X) hy
    rcases Int.lt_trichotomy Y 0 with h | h | h
    · have := h2 h; omega
    · exact absurd h hy
    · have := h1 h; omega
theorem qd_abs (X Y : Int) : (qd X Y).natAbs ≤ X.natAbs := by
  unfold qd
  split
  · simp
  · split
    · exact Int.natAbs_ediv_le_natAbs X Y
    · have := Int.natAbs_ediv_le_natAbs (-X) (-Y)
      rwa [Int.natAbs_neg] at this
theorem Num.rm {k m : Nat} {l r : List UInt8} {X Y : Int} (h : Num k l X) (h' : Num m r Y) : Num (k + m + 2) (Lib.itoa (rm X Y)) (rm X Y) :=
  ⟨Dec.dval_itoa _, itoa_length_any _ (k := k + m + 1) (by omega) (by have := h.abs; have := h'.abs; have := pow_sum k m; have := rm_abs X Y; omega)⟩
theorem Num.qd {k m : Nat} {l r : List UInt8} {X Y : Int} (h : Num k l X) (_h' : Num m r Y) : Num (k + m + 2) (Lib.itoa (qd X Y)) (qd X Y) :=
  ⟨Dec.dval_itoa _, itoa_length_any _ (k := k + m + 1) (by omega) (by
    have h1 := h.abs
    have h2 := qd_abs X Y
    have h3 : 10 ^ k ≤ 10 ^ (k + m + 1) := Nat.pow_le_pow_right (by omega) (by omega)
    omega)⟩
theorem zeroNum : Num 1 [48] 0 := ⟨by decide, by decide⟩
end Go.Proofs.YtgphkgmhcmffnaaGreatDoor
/- number.Small: the value of a decimal of at most 9 digits. -/
namespace Go.Proofs.YtgphkgmhcmffnaaGreatDoor
open Go.RowKit

theorem decFrom_digs : ∀ (l : List UInt8) (a : Nat), Dec.digs l = true → Lib.decFrom a l = some (l.foldl (fun a c => a * 10 + (c.toNat - 48)) a)
  | [], _, _ => rfl
  | c :: r, a, h => by
    simp only [Dec.digs, List.all_cons, Bool.and_eq_true, Dec.dig, decide_eq_true_eq] at h
    have hd : Lib.digitVal c = some (c.toNat - 48) := by simp [Lib.digitVal, h.1]
    simp only [Lib.decFrom, hd, List.foldl_cons]
    exact decFrom_digs r _ (by simp only [Dec.digs]; exact h.2)
theorem decNat_digs {l : List UInt8} (h : Dec.digs l = true) (h0 : l ≠ []) : Lib.decNat l = some (Dec.nval l) := by
  have : l.isEmpty = false := by cases l with
    | nil => exact absurd rfl h0
    | cons => rfl
  simp only [Lib.decNat, this, Bool.false_eq_true, if_false]
  exact decFrom_digs l 0 h
theorem atoi_norm (l : List UInt8) : Lib.atoi (norm l) = some (Dec.dval l) := by
  have h1 := (mag_norm l).1
  have h2 := (mag_norm l).2.1
  have hd := norm_dec l
  rw [← dval_norm l]
  generalize norm l = s at h1 h2 hd
  have hn := decNat_digs h1 h2
  simp only [Dec.dval, hd, if_true]
  cases hng : Dec.neg s with
  | true =>
    have he := Dec.cons_of_neg hng
    generalize Dec.mag s = m at he hn
    subst he
    simp [Lib.atoi, hn]
  | false =>
    have he := Dec.mag_of_not hng
    rw [he] at hn h1 h2 ⊢
    cases s with
    | nil => exact absurd rfl h2
    | cons c r =>
      have h45 : c ≠ 45 := Dec.head_ne45 h1
      have h43 : c ≠ 43 := by
        rintro rfl
        simp [Dec.digs, Dec.dig] at h1
      simp [Lib.atoi, hn, h45, h43]
theorem norm_mag_len (l : List UInt8) : (norm l).length ≤ (Dec.mag (norm l)).length + 1 := by
  cases h : Dec.neg (norm l) with
  | true => have := congrArg List.length (Dec.cons_of_neg h); simp only [List.length_cons] at this; omega
  | false => rw [Dec.mag_of_not h]; omega

/-- a call hands back a number and a truth value -/
def RetSmall (n : Int) (b : Bool) (w : World) (e : Ending) (w' : World) : Prop := e = .returned (.tuple #[.int .i64 n, .bool b]) ∧ Below w.heap.size w w'

end Go.Proofs.YtgphkgmhcmffnaaGreatDoor
