/- number.Divide whole; number.Gcd; number.Reduce. -/
import Derived.Test.YtmkcnjfhdfanoaaGreatDoorKC
import Derived.Deep.LoopGhost
import Derived.Test.YtmkcnjfhdfanoaaGreatDoorKB
import Derived.Deep.RegionHeld3
import Derived.Deep.RegionLaw
import Derived.Deep.DeepCutAuto
import Derived.StillTailTactics
import Derived.Deep.QuietTactic
import Derived.BigQuiet
import Derived.Lib.Bytealg
import Derived.BigRegion
import Derived.IntWalk
namespace Go.Proofs.YtmkcnjfhdfanoaaGreatDoor
open Go.RowKit

theorem divN_any (a b : List UInt8) (w : World) (ha : a.length ≤ 2400000) (hb : b.length ≤ 2400000) (ht : Tab w) :
    Calls Tryz.prog 98 #[.string ⟨a.toArray⟩, .string ⟨b.toArray⟩] w (RetStr2 (Lib.itoa (qd (Dec.dval a) (Dec.dval b))) (Lib.itoa (rm (Dec.dval a) (Dec.dval b))) w) := by
  by_cases hy : Dec.dval b = 0
  · have := divN_zero a b w ha hb hy
    rw [hy, qd_zero, rm_zero, Dec.itoa_zero]
    exact this
  · generalize hx : Dec.dval a = x
    generalize hyv : Dec.dval b = y at hy
    cases hs : decide (y < 0) with
    | _ =>
      by_cases hd : decide (x < 0) = decide (y < 0)
      · obtain ⟨h1, h2⟩ := qd_same hy (hd.trans hs) hs
        exact divN_easy a b w ha hb ht x y hx hyv hy _ _ false (hd.trans hs) hs (by simp) (.inl rfl) _ _ (Lib.hid (numStr_eq (by simpa using h1))) (Lib.hid (numStr_eq h2))
      · have hd' : decide (x < 0) = !(decide (y < 0)) := by cases h1 : decide (x < 0) <;> cases h2 : decide (y < 0) <;> simp_all
        rw [hs] at hd'
        by_cases h0 : x.natAbs % y.natAbs = 0
        · obtain ⟨h1, h2⟩ := qd_diff0 hy hd' hs h0
          exact divN_easy a b w ha hb ht x y hx hyv hy _ _ true hd' hs (by simp) (.inr h0) _ _ (Lib.hid (numStr_eq (by simpa using h1))) (Lib.hid (by rw [h0, numStr_zero, h2, Dec.itoa_zero]))
        · obtain ⟨h1, h2⟩ := qd_diff hy hd' hs h0
          exact divN_hard a b w ha hb ht x y hx hyv hy _ _ true hd' hs (by simp) ⟨rfl, h0⟩ _ _ (Lib.hid (numStr_eq (by simpa using h1))) (Lib.hid (numStr_eq h2))

theorem field_limbs (s : Bool) (A : Option Addr) (n c : Nat) (w : World) : (Instr.field 117 (.agg #[.bool s, .slice A n c]) 1).run Tryz.prog w = .ok (.slice A n c) w := by kernel_rfl
set_option maxHeartbeats 1000000 in
set_option maxRecDepth 100000 in
theorem gcdN_any (a b : List UInt8) (w : World) (ha : a.length ≤ 2400000) (hb : b.length ≤ 2400000) (ht : Tab w) :
    Calls Tryz.prog 163 #[.string ⟨a.toArray⟩, .string ⟨b.toArray⟩] w (RetStr (Lib.itoa (Nat.gcd (Dec.dval a).natAbs (Dec.dval b).natAbs : Nat)) w) := by
  have HP1 : Hid (∀ w', Calls Tryz.prog 126 #[.string ⟨a.toArray⟩] w' (RetInt (a.length + 1) (Dec.dval a) w')) := fun w' => parse_any a w' (by omega)
  have HP2 : Hid (∀ w', Calls Tryz.prog 126 #[.string ⟨b.toArray⟩] w' (RetInt (b.length + 1) (Dec.dval b) w')) := fun w' => parse_any b w' (by omega)
  generalize Dec.dval a = x at *
  generalize Dec.dval b = y at *
  generalize hG : Nat.gcd x.natAbs y.natAbs = G
  have HG := Lib.hid hG
  clear hG
  have hfl := field_limbs
  go_enter Tryz.func163, Tryz.ntmps163
  go_wp2_with fail
  refine (HP1.out _).mono ?_
  rintro e w1 ⟨A1, n1, c1, rfl, hs1, hn1, hb1⟩
  go_wp2_with fail
  refine (HP2.out _).mono ?_
  rintro e w2 ⟨A2, n2, c2, rfl, hs2, hn2, hb2⟩
  have hbw2 := hb1.trans (hb2.mono hb1.size)
  go_wp2_with fail
  go_loopg [5, 6] y.natAbs (fun kx s5 s6 wr => ∃ (A B : Option Addr) (n c m d u v : Nat), s5 = .slice A n c ∧ s6 = .slice B m d ∧ Sl wr .u32 A n c (Dec.limbs 1000000000 u) ∧ Sl wr .u32 B m d (Dec.limbs 1000000000 v) ∧ n ≤ 2400001 ∧ m ≤ 2400001 ∧ v ≤ kx ∧ Hid (Nat.gcd u v = G) ∧ Below w.heap.size w wr)
  case atStart => exact ⟨A1, A2, n1, c1, n2, c2, _, _, rfl, rfl, hs1.below hb2, hs2, by omega, by omega, Nat.le_refl _, HG, hbw2⟩
  case round =>
    obtain ⟨A, B, n, c, m, d, u, v, rfl, rfl, hu, hv, hn, hm, hk, HGu, hb⟩ := hrel
    by_cases hm0 : 0 < m
    · have hv0 : 0 < v := by
        rcases Nat.eq_zero_or_pos v with e | e
        · subst e; have := hv.len; rw [Dec.limbs_zero] at this; simp at this; omega
        · exact e
      have hlr := length_limbs_mod (a := u) hv0 hv.len
      have hml := Nat.mod_lt u hv0
      have HGn : Hid (Nat.gcd v (u % v) = G) := by show _ = _; rw [← HGu.out, Nat.gcd_comm v, ← Nat.gcd_rec, Nat.gcd_comm]
      have HDv := Lib.hid (divide_any A B n m c d u v wr hu hv (by omega) (by omega) hv0)
      go_wp2_with (go_at_call 135; refine HDv.out.mono ?_; rintro e w3 ⟨A3, n3, c3, A4, n4, c4, rfl, hs3, hs4, hb3⟩; have hn4 : n4 ≤ m := (by rw [← hs4.len]; exact hlr))
      go_roundg (u % v)
      case measure => omega
      case rel => exact ⟨B, A4, m, d, n4, c4, v, u % v, rfl, rfl, hv.below hb3, hs4, hm, by omega, Nat.le_refl _, HGn, hb.trans (hb3.mono hb.size)⟩
    · have hv0 : v = 0 := (Dec.limbs_eq_nil (B := 1000000000) (by omega)).1 (List.eq_nil_of_length_eq_zero (by rw [hv.len]; omega))
      subst hv0
      have HE : Hid (numStr false u = Lib.itoa (G : Int)) := by show _ = _; rw [← HGu.out, Nat.gcd_zero_right]; rfl
      go_wp2_with fail
      refine (string_any false A n c u _ hu (by omega) (ht.below hb)).mono ?_
      rintro e w3 ⟨rfl, hb3⟩
      rw [HE.out]
      go_wp2
      go_ret
      exact ⟨rfl, hb.trans (hb3.mono hb.size)⟩
end Go.Proofs.YtmkcnjfhdfanoaaGreatDoor
/- number.Reduce. -/
namespace Go.Proofs.YtmkcnjfhdfanoaaGreatDoor
open Go.RowKit

def rdX (x y : Int) : Int := if y < 0 then -x else x
def rdY (y : Int) : Int := if y < 0 then -y else y
def rdN (x y : Int) : Int := if y = 0 then 0 else qd (rdX x y) (Nat.gcd x.natAbs y.natAbs : Nat)
def rdD (x y : Int) : Int := if y = 0 then 1 else qd (rdY y) (Nat.gcd x.natAbs y.natAbs : Nat)
theorem qd_one (x : Int) : qd x 1 = x := by simp [qd]
theorem itoa_one : Lib.itoa 1 = [49] := by decide +kernel
theorem itoa_eq_one {v : Int} : (Lib.itoa v == [49]) = decide (v = 1) := by
  rw [← itoa_one]
  by_cases h : v = 1
  · subst h; simp
  · rw [decide_eq_false h, beq_eq_false_iff_ne]
    exact fun e => h (Dec.itoa_inj e)
theorem norm_len2 (l : List UInt8) : (Lib.itoa (Dec.dval l)).length ≤ l.length + 1 := by rw [← norm_eq]; exact norm_length l

theorem gcd_len {K : Nat} {x y : Int} (hK : 1 ≤ K) (hx : x.natAbs < 10 ^ K) (hy : y.natAbs < 10 ^ K) : (Lib.itoa (Nat.gcd x.natAbs y.natAbs : Nat)).length ≤ K + 1 := by
  have h : Nat.gcd x.natAbs y.natAbs < 10 ^ K := by
    rcases Nat.eq_zero_or_pos x.natAbs with h1 | h1
    · rw [h1, Nat.gcd_zero_left]; exact hy
    · exact Nat.lt_of_le_of_lt (Nat.gcd_le_left _ h1) hx
  exact itoa_length_any ((Nat.gcd x.natAbs y.natAbs : Nat) : Int) hK (by rw [Int.natAbs_natCast]; exact h)
set_option maxHeartbeats 2000000 in
set_option maxRecDepth 100000 in
theorem reduceN_any (a b : List UInt8) (w : World) (ha : a.length ≤ 1100000) (hb : b.length ≤ 1100000) (ht : Tab w) :
    Calls Tryz.prog 128 #[.string ⟨a.toArray⟩, .string ⟨b.toArray⟩] w (RetStr2 (Lib.itoa (rdN (Dec.dval a) (Dec.dval b))) (Lib.itoa (rdD (Dec.dval a) (Dec.dval b))) w) := by
  have hda := decimal_any a w (by omega)
  have hdb : ∀ w', Calls Tryz.prog 132 #[.string ⟨b.toArray⟩] w' fun e w'' => e = .returned (.string ⟨(norm b).toArray⟩) ∧ w' = w'' := fun w' => decimal_any b w' (by omega)
  rw [norm_eq] at hda
  simp only [norm_eq] at hdb
  have hla := norm_len2 a
  have hlb := norm_len2 b
  have hba := dval_lt18 (l := a) (k := a.length + b.length + 1) (by omega)
  have hbb := dval_lt18 (l := b) (k := a.length + b.length + 1) (by omega)
  generalize Dec.dval a = x at *
  generalize Dec.dval b = y at *
  have hgl0 : (Lib.itoa (Nat.gcd x.natAbs y.natAbs : Nat)).length ≤ 2300000 := by have := gcd_len (by omega) hba hbb; omega
  have hnx := itoa_length_any (-x) (k := a.length + b.length + 1) (by omega) (by rw [Int.natAbs_neg]; exact hba)
  have hny := itoa_length_any (-y) (k := a.length + b.length + 1) (by omega) (by rw [Int.natAbs_neg]; exact hbb)
  have HA := Lib.hid hda
  have HB := Lib.hid hdb
  clear hda hdb hba hbb
  by_cases hy0 : y = 0
  · subst hy0
    have HRN : Hid (rdN x 0 = 0) := rfl
    have HRD : Hid (rdD x 0 = 1) := rfl
    have hz := Dec.itoa_zero
    rw [hz] at HB
    clear hz
    go_enter Tryz.func128, Tryz.ntmps128
    go_wp2_with fail
    refine HA.out.mono ?_
    rintro e w' ⟨rfl, rfl⟩
    go_wp2_with fail
    refine (HB.out _).mono ?_
    rintro e w' ⟨rfl, rfl⟩
    go_wp2
    go_ret2
    exact ⟨by rw [HRN.out, HRD.out, Dec.itoa_zero, itoa_one]; rfl, Below.refl _ _⟩
  obtain ⟨D1, hD1⟩ : ∃ D1 : ByteArray, D1 = ⟨(Lib.itoa x).toArray⟩ := ⟨_, rfl⟩
  obtain ⟨D2, hD2⟩ : ∃ D2 : ByteArray, D2 = ⟨(Lib.itoa y).toArray⟩ := ⟨_, rfl⟩
  rw [← hD1] at HA
  rw [← hD2] at HB
  have HT2 : Hid (D2.data.toList = Lib.itoa y) := by rw [hD2]; exact (rfl : (Lib.itoa y).toArray.toList = _)
  have HD1 := Lib.hid hD1
  have HD2 := Lib.hid hD2
  clear hD1 hD2
  have hE0 : (D2.toList == [48]) = false := by rw [Lib.toList_data, HT2.out]; simpa using itoa_ne_zero hy0
  by_cases hy1 : y = 1
  · subst hy1
    have hE1 : (D2.toList == [49]) = true := by rw [Lib.toList_data, HT2.out, itoa_one]; rfl
    have HRN : Hid (rdN x 1 = x) := by show _ = _; simp [rdN, rdX, qd_one]
    have HRD : Hid (rdD x 1 = 1) := by show _ = _; simp [rdD, rdY, qd_one]
    go_enter Tryz.func128, Tryz.ntmps128
    go_wp2_with fail
    refine HA.out.mono ?_
    rintro e w' ⟨rfl, rfl⟩
    go_wp2_with fail
    refine (HB.out _).mono ?_
    rintro e w' ⟨rfl, rfl⟩
    go_wp2
    go_ret2
    exact ⟨by rw [HRN.out, HRD.out, ← HD1.out, ← HD2.out]; rfl, Below.refl _ _⟩
  have hE1 : (D2.toList == [49]) = false := by rw [Lib.toList_data, HT2.out, itoa_eq_one, decide_eq_false hy1]
  by_cases hn : y < 0
  · obtain ⟨hp, e0⟩ := first_byte (HT2.out.trans (itoa_natNeg hn))
    have hb45 : ((D2[0].toNat : Int) == 45) = true := by rw [e0]; rfl
    have HN1 : Hid (∀ w', Calls Tryz.prog 134 #[.string D1] w' (RetPure (.string ⟨(Lib.itoa (-x)).toArray⟩) w')) := fun w' => by
      have := negate_any (Lib.itoa x) w' (by omega); rw [Dec.dval_itoa] at this; rw [HD1.out]; exact this
    have HN2 : Hid (∀ w', Calls Tryz.prog 134 #[.string D2] w' (RetPure (.string ⟨(Lib.itoa (-y)).toArray⟩) w')) := fun w' => by
      have := negate_any (Lib.itoa y) w' (by omega); rw [Dec.dval_itoa] at this; rw [HD2.out]; exact this
    have HRN0 : Hid (rdN x y = qd (-x) (Nat.gcd x.natAbs y.natAbs : Nat)) := by show _ = _; simp [rdN, rdX, hy0, hn]
    have HRD0 : Hid (rdD x y = qd (-y) (Nat.gcd x.natAbs y.natAbs : Nat)) := by show _ = _; simp [rdD, rdY, hy0, hn]
    have HGE0 : Hid (Nat.gcd (-x).natAbs (-y).natAbs = Nat.gcd x.natAbs y.natAbs) := by show _ = _; rw [Int.natAbs_neg, Int.natAbs_neg]
    have hlX : (Lib.itoa (-x)).length ≤ 2400000 := by omega
    have hlY : (Lib.itoa (-y)).length ≤ 2400000 := by omega
    clear e0 hy0 hy1 hn
    generalize -x = X at *
    generalize -y = Y at *
    have HGc := Lib.hid (gcdN_any (Lib.itoa X) (Lib.itoa Y) w hlX hlY ht)
    rw [Dec.dval_itoa, Dec.dval_itoa] at HGc
    have HGE : Hid (Nat.gcd X.natAbs Y.natAbs = Nat.gcd x.natAbs y.natAbs) := HGE0
    rw [HGE.out] at HGc
    have hgl : (Lib.itoa (Nat.gcd x.natAbs y.natAbs : Nat)).length ≤ 2300000 := hgl0
    have hone := itoa_eq_one (v := (Nat.gcd x.natAbs y.natAbs : Nat))
    have HDX : Hid (∀ w', Tab w' → Calls Tryz.prog 98 #[.string ⟨(Lib.itoa X).toArray⟩, .string ⟨(Lib.itoa (Nat.gcd x.natAbs y.natAbs : Nat)).toArray⟩] w' (RetStr2 (Lib.itoa (qd X (Nat.gcd x.natAbs y.natAbs : Nat))) (Lib.itoa (rm X (Nat.gcd x.natAbs y.natAbs : Nat))) w')) := fun w' ht' => by
      have := divN_any (Lib.itoa X) (Lib.itoa (Nat.gcd x.natAbs y.natAbs : Nat)) w' hlX (by omega) ht'
      rwa [Dec.dval_itoa, Dec.dval_itoa] at this
    have HDY : Hid (∀ w', Tab w' → Calls Tryz.prog 98 #[.string ⟨(Lib.itoa Y).toArray⟩, .string ⟨(Lib.itoa (Nat.gcd x.natAbs y.natAbs : Nat)).toArray⟩] w' (RetStr2 (Lib.itoa (qd Y (Nat.gcd x.natAbs y.natAbs : Nat))) (Lib.itoa (rm Y (Nat.gcd x.natAbs y.natAbs : Nat))) w')) := fun w' ht' => by
      have := divN_any (Lib.itoa Y) (Lib.itoa (Nat.gcd x.natAbs y.natAbs : Nat)) w' hlY (by omega) ht'
      rwa [Dec.dval_itoa, Dec.dval_itoa] at this
    have HRN : Hid (rdN x y = qd X (Nat.gcd x.natAbs y.natAbs : Nat)) := HRN0
    have HRD : Hid (rdD x y = qd Y (Nat.gcd x.natAbs y.natAbs : Nat)) := HRD0
    generalize Nat.gcd x.natAbs y.natAbs = G at *
    by_cases hG1 : (G : Int) = 1
    · have HRN1 : Hid (rdN x y = X) := by show _ = _; rw [HRN.out, hG1, qd_one]
      have HRD1 : Hid (rdD x y = Y) := by show _ = _; rw [HRD.out, hG1, qd_one]
      rw [decide_eq_true hG1] at hone
      clear hG1
      go_enter Tryz.func128, Tryz.ntmps128
      go_wp2_with fail
      refine HA.out.mono ?_
      rintro e w' ⟨rfl, rfl⟩
      go_wp2_with fail
      refine (HB.out _).mono ?_
      rintro e w' ⟨rfl, rfl⟩
      go_wp2_with fail
      refine (HN1.out _).mono ?_
      rintro e w' ⟨rfl, rfl⟩
      go_wp2_with fail
      refine (HN2.out _).mono ?_
      rintro e w' ⟨rfl, rfl⟩
      go_wp2_with fail
      refine HGc.out.mono ?_
      rintro e w1 ⟨rfl, hb1⟩
      go_wp2
      go_ret2
      exact ⟨by rw [HRN1.out, HRD1.out]; rfl, hb1⟩
    · rw [decide_eq_false hG1] at hone
      clear hG1
      go_enter Tryz.func128, Tryz.ntmps128
      go_wp2_with fail
      refine HA.out.mono ?_
      rintro e w' ⟨rfl, rfl⟩
      go_wp2_with fail
      refine (HB.out _).mono ?_
      rintro e w' ⟨rfl, rfl⟩
      go_wp2_with fail
      refine (HN1.out _).mono ?_
      rintro e w' ⟨rfl, rfl⟩
      go_wp2_with fail
      refine (HN2.out _).mono ?_
      rintro e w' ⟨rfl, rfl⟩
      go_wp2_with fail
      refine HGc.out.mono ?_
      rintro e w1 ⟨rfl, hb1⟩
      go_wp2_with fail
      refine (HDX.out _ (ht.below hb1)).mono ?_
      rintro e w2 ⟨rfl, hb2⟩
      have hbw2 := hb1.trans (hb2.mono hb1.size)
      go_wp2_with fail
      refine (HDY.out _ (ht.below hbw2)).mono ?_
      rintro e w3 ⟨rfl, hb3⟩
      go_wp2
      go_ret2
      exact ⟨by rw [HRN.out, HRD.out]; rfl, hbw2.trans (hb3.mono hbw2.size)⟩
  · obtain ⟨c, r, hcr, _⟩ := Dec.decDigits_head (u := y.natAbs) (by omega)
    have hD3 : D2.data.toList = c :: r := by rw [HT2.out, itoa_natPos (by omega), hcr]
    obtain ⟨hp, e0⟩ := first_byte hD3
    have h45 : c ≠ 45 := Dec.head_ne45 (r := r) (by rw [← hcr]; exact Dec.digs_decDigits _)
    have hb45 : ((D2[0].toNat : Int) == 45) = false := by
      rw [e0, beq_eq_false_iff_ne]
      intro e
      exact h45 (UInt8.toNat_inj.1 (by have : c.toNat = 45 := by omega
                                       simpa using this))
    have HRN0 : Hid (rdN x y = qd x (Nat.gcd x.natAbs y.natAbs : Nat)) := by show _ = _; simp [rdN, rdX, hy0, hn]
    have HRD0 : Hid (rdD x y = qd y (Nat.gcd x.natAbs y.natAbs : Nat)) := by show _ = _; simp [rdD, rdY, hy0, hn]
    have HGE0 : Hid (Nat.gcd x.natAbs y.natAbs = Nat.gcd x.natAbs y.natAbs) := (rfl : Nat.gcd x.natAbs y.natAbs = _)
    have hlX : (Lib.itoa x).length ≤ 2400000 := by omega
    have hlY : (Lib.itoa y).length ≤ 2400000 := by omega
    clear e0 hy0 hy1 hn hD3 h45 hcr
    have HGc := Lib.hid (gcdN_any (Lib.itoa x) (Lib.itoa y) w hlX hlY ht)
    rw [Dec.dval_itoa, Dec.dval_itoa] at HGc
    have HGE : Hid (Nat.gcd x.natAbs y.natAbs = Nat.gcd x.natAbs y.natAbs) := HGE0
    have HGc := Lib.hid (show Calls Tryz.prog 163 #[.string D1, .string D2] w (RetStr (Lib.itoa (Nat.gcd x.natAbs y.natAbs : Nat)) w) by rw [HD1.out, HD2.out]; exact HGc.out)
    have hgl : (Lib.itoa (Nat.gcd x.natAbs y.natAbs : Nat)).length ≤ 2300000 := hgl0
    have hone := itoa_eq_one (v := (Nat.gcd x.natAbs y.natAbs : Nat))
    have HDX : Hid (∀ w', Tab w' → Calls Tryz.prog 98 #[.string D1, .string ⟨(Lib.itoa (Nat.gcd x.natAbs y.natAbs : Nat)).toArray⟩] w' (RetStr2 (Lib.itoa (qd x (Nat.gcd x.natAbs y.natAbs : Nat))) (Lib.itoa (rm x (Nat.gcd x.natAbs y.natAbs : Nat))) w')) := fun w' ht' => by
      have := divN_any (Lib.itoa x) (Lib.itoa (Nat.gcd x.natAbs y.natAbs : Nat)) w' hlX (by omega) ht'
      rw [Dec.dval_itoa, Dec.dval_itoa] at this
      rw [HD1.out]; exact this
    have HDY : Hid (∀ w', Tab w' → Calls Tryz.prog 98 #[.string D2, .string ⟨(Lib.itoa (Nat.gcd x.natAbs y.natAbs : Nat)).toArray⟩] w' (RetStr2 (Lib.itoa (qd y (Nat.gcd x.natAbs y.natAbs : Nat))) (Lib.itoa (rm y (Nat.gcd x.natAbs y.natAbs : Nat))) w')) := fun w' ht' => by
      have := divN_any (Lib.itoa y) (Lib.itoa (Nat.gcd x.natAbs y.natAbs : Nat)) w' hlY (by omega) ht'
      rw [Dec.dval_itoa, Dec.dval_itoa] at this
      rw [HD2.out]; exact this
    have HRN : Hid (rdN x y = qd x (Nat.gcd x.natAbs y.natAbs : Nat)) := HRN0
    have HRD : Hid (rdD x y = qd y (Nat.gcd x.natAbs y.natAbs : Nat)) := HRD0
    generalize Nat.gcd x.natAbs y.natAbs = G at *
    by_cases hG1 : (G : Int) = 1
    · have HRN1 : Hid (rdN x y = x) := by show _ = _; rw [HRN.out, hG1, qd_one]
      have HRD1 : Hid (rdD x y = y) := by show _ = _; rw [HRD.out, hG1, qd_one]
      rw [decide_eq_true hG1] at hone
      clear hG1
      go_enter Tryz.func128, Tryz.ntmps128
      go_wp2_with fail
      refine HA.out.mono ?_
      rintro e w' ⟨rfl, rfl⟩
      go_wp2_with fail
      refine (HB.out _).mono ?_
      rintro e w' ⟨rfl, rfl⟩
      go_wp2_with fail
      refine HGc.out.mono ?_
      rintro e w1 ⟨rfl, hb1⟩
      go_wp2
      go_ret2
      exact ⟨by rw [HRN1.out, HRD1.out, ← HD1.out, ← HD2.out]; rfl, hb1⟩
    · rw [decide_eq_false hG1] at hone
      clear hG1
      go_enter Tryz.func128, Tryz.ntmps128
      go_wp2_with fail
      refine HA.out.mono ?_
      rintro e w' ⟨rfl, rfl⟩
      go_wp2_with fail
      refine (HB.out _).mono ?_
      rintro e w' ⟨rfl, rfl⟩
      go_wp2_with fail
      refine HGc.out.mono ?_
      rintro e w1 ⟨rfl, hb1⟩
      go_wp2_with fail
      refine (HDX.out _ (ht.below hb1)).mono ?_
      rintro e w2 ⟨rfl, hb2⟩
      have hbw2 := hb1.trans (hb2.mono hb1.size)
      go_wp2_with fail
      refine (HDY.out _ (ht.below hbw2)).mono ?_
      rintro e w3 ⟨rfl, hb3⟩
      go_wp2
      go_ret2
      exact ⟨by rw [HRN.out, HRD.out]; rfl, hbw2.trans (hb3.mono hbw2.size)⟩
end Go.Proofs.YtmkcnjfhdfanoaaGreatDoor
/- The arithmetic of decimals in words of integers. -/
namespace Go.Proofs.YtmkcnjfhdfanoaaGreatDoor
open Go.RowKit

structure Num (k : Nat) (l : List UInt8) (X : Int) : Prop where
  val : Dec.dval l = X
  len : l.length ≤ k
theorem Num.abs {k : Nat} {l : List UInt8} {X : Int} (h : Num k l X) : X.natAbs < 10 ^ k := by rw [← h.val]; exact dval_lt18 h.len
theorem Num.mul {k m : Nat} {l r : List UInt8} {X Y : Int} (h : Num k l X) (h' : Num m r Y) : Num (k + m + 2) (Lib.itoa (X * Y)) (X * Y) := by
  refine ⟨Dec.dval_itoa _, itoa_length_any _ (k := k + m + 1) (by omega) ?_⟩
  rw [Int.natAbs_mul, Nat.pow_succ, Nat.pow_add]
  have h1 := h.abs
  have h2 := h'.abs
  have : X.natAbs * Y.natAbs ≤ 10 ^ k * 10 ^ m := Nat.mul_le_mul (by omega) (by omega)
  have : 0 < 10 ^ k * 10 ^ m := Nat.mul_pos (Nat.pow_pos (by omega)) (Nat.pow_pos (by omega))
  omega
theorem mulZ {k m : Nat} {l r : List UInt8} {X Y : Int} (h : Num k l X) (h' : Num m r Y) (hk : k ≤ 100000) (hm : m ≤ 100000) (w : World) (ht : Tab w) :
    Calls Tryz.prog 86 #[.string ⟨l.toArray⟩, .string ⟨r.toArray⟩] w (RetStr (Lib.itoa (X * Y)) w) := by
  have := mulN_any l r w (by have := h.len; omega) (by have := h'.len; omega) ht
  rwa [h.val, h'.val] at this

theorem compareZ {k m : Nat} {l r : List UInt8} {X Y V : Int} (h : Num k l X) (h' : Num m r Y) (hk : k ≤ 100000) (hm : m ≤ 100000) (hv : cmpI X Y = V) (w : World) :
    Calls Tryz.prog 133 #[.string ⟨l.toArray⟩, .string ⟨r.toArray⟩] w (RetI64 V w) := by
  have := compareN_any l r w (by have := h.len; omega) (by have := h'.len; omega)
  rwa [h.val, h'.val, hv] at this
end Go.Proofs.YtmkcnjfhdfanoaaGreatDoor
/- number.Small: the value of a decimal of at most 9 digits. -/
namespace Go.Proofs.YtmkcnjfhdfanoaaGreatDoor
open Go.RowKit

theorem decFrom_digs : ∀ (l : List UInt8) (a : Nat), Dec.digs l = true → Lib.decFrom a l = some (l.foldl (fun a c => a * 10 + (c.toNat - 48)) a)
  | [], _, _ => rfl
  | c :: r, a, h => by
    simp only [Dec.digs, List.all_cons, Bool.and_eq_true, Dec.dig, decide_eq_true_eq] at h
    have hd : Lib.digitVal c = some (c.toNat - 48) := by simp [Lib.digitVal, h.1]
    simp only [Lib.decFrom, hd, List.foldl_cons]
    exact decFrom_digs r _ (by simp only [Dec.digs]; exact h.2)
theorem decNat_digs {l : List UInt8} (h : Dec.digs l = true) (h0 : l ≠ []) : Lib.decNat l = some (Dec.nval l) := by
  have : l.isEmpty = false := by cases l with
    | nil => exact absurd rfl h0
    | cons => rfl
  simp only [Lib.decNat, this, Bool.false_eq_true, if_false]
  exact decFrom_digs l 0 h
theorem atoi_norm (l : List UInt8) : Lib.atoi (norm l) = some (Dec.dval l) := by
  have h1 := (mag_norm l).1
  have h2 := (mag_norm l).2.1
  have hd := norm_dec l
  rw [← dval_norm l]
  generalize norm l = s at h1 h2 hd
  have hn := decNat_digs h1 h2
  simp only [Dec.dval, hd, if_true]
  cases hng : Dec.neg s with
  | true =>
    have he := Dec.cons_of_neg hng
    generalize Dec.mag s = m at he hn
    subst he
    simp [Lib.atoi, hn]
  | false =>
    have he := Dec.mag_of_not hng
    rw [he] at hn h1 h2 ⊢
    cases s with
    | nil => exact absurd rfl h2
    | cons c r =>
      have h45 : c ≠ 45 := Dec.head_ne45 h1
      have h43 : c ≠ 43 := by
        rintro rfl
        simp [Dec.digs, Dec.dig] at h1
      simp [Lib.atoi, hn, h45, h43]
theorem norm_mag_len (l : List UInt8) : (norm l).length ≤ (Dec.mag (norm l)).length + 1 := by
  cases h : Dec.neg (norm l) with
  | true => have := congrArg List.length (Dec.cons_of_neg h); simp only [List.length_cons] at this; omega
  | false => rw [Dec.mag_of_not h]; omega

/-- a call hands back a number and a truth value -/
def RetSmall (n : Int) (b : Bool) (w : World) (e : Ending) (w' : World) : Prop := e = .returned (.tuple #[.int .i64 n, .bool b]) ∧ Below w.heap.size w w'

theorem small_no (l : List UInt8) (w : World) (hl : l.length ≤ 2500000) (h9 : 9 < (Dec.mag (norm l)).length) :
    Calls Tryz.prog 90 #[.string ⟨l.toArray⟩] w (RetSmall 0 false w) := by
  have HD := Lib.hid (digits_any l w hl)
  have hnl := norm_length l
  have hml := Dec.mag_length_le (norm l)
  generalize (Dec.mag (norm l)).length = k at HD h9 hml
  go_enter Tryz.func90, Tryz.ntmps90
  go_wp2_with fail
  refine HD.out.mono ?_
  rintro e w' ⟨rfl, rfl⟩
  go_wp2
  go_ret2
  exact ⟨rfl, Below.refl _ _⟩
theorem small_yes (l : List UInt8) (w : World) (hl : l.length ≤ 2500000) (h9 : (Dec.mag (norm l)).length ≤ 9) :
    Calls Tryz.prog 90 #[.string ⟨l.toArray⟩] w (RetSmall (Dec.dval l) true w) := by
  have HD := Lib.hid (digits_any l w hl)
  have HE := Lib.hid (decimal_any l w (by omega))
  have hln := norm_mag_len l
  have HA := Lib.hid (Tryz.strconv_Atoi ⟨(norm l).toArray⟩ (Dec.dval l) (by rw [Lib.size_eq]; show (norm l).length ≤ _; omega) (atoi_norm l) w)
  generalize (Dec.mag (norm l)).length = k at HD h9
  go_enter Tryz.func90, Tryz.ntmps90
  go_wp2_with fail
  refine HD.out.mono ?_
  rintro e w' ⟨rfl, rfl⟩
  go_wp2_with fail
  refine HE.out.mono ?_
  rintro e w' ⟨rfl, rfl⟩
  go_wp2_with fail
  refine HA.out.mono ?_
  rintro e w' ⟨rfl, t, rfl⟩
  go_wp2
  go_ret2
  exact ⟨rfl, Lib.bytesWorld_below _ _ _⟩
end Go.Proofs.YtmkcnjfhdfanoaaGreatDoor
/- Lisp objects: a plain type, and how one lies in memory. -/
namespace Go.Proofs.YtmkcnjfhdfanoaaGreatDoor
open Go.RowKit

/-- an object, all its fields -/
structure Ob where
  kind : Int
  num : List UInt8
  den : List UInt8
  sp : List UInt8
  sn : List UInt8
  text : List UInt8
  pair : List Ob
namespace Ob
mutual
def enc : Ob → List Dt
  | ⟨k, n, d, p, s, t, l⟩ => [.val (.int .i64 k), .val (str n), .val (str d), .val (str p), .val (str s), .val (str t), .row (encL l)]
def encL : List Ob → List (List Dt)
  | [] => []
  | o :: r => enc o :: encL r
end
mutual
/-- how many objects it holds, itself counted -/
def size : Ob → Nat
  | ⟨_, _, _, _, _, _, l⟩ => sizeL l + 1
def sizeL : List Ob → Nat
  | [] => 0
  | o :: r => size o + sizeL r
end
theorem encL_map (l : List Ob) : encL l = l.map enc := by
  induction l with
  | nil => rfl
  | cons o r ih => rw [encL, ih]; rfl
theorem enc_eq (o : Ob) : o.enc = [.val (.int .i64 o.kind), .val (str o.num), .val (str o.den), .val (str o.sp), .val (str o.sn), .val (str o.text), .row (o.pair.map enc)] := by
  cases o; rw [enc, encL_map]
theorem enc_len (o : Ob) : o.enc.length = 7 := by rw [enc_eq]; rfl
theorem size_pos (o : Ob) : 0 < o.size := by cases o; rw [size]; omega
theorem sizeL_mem {l : List Ob} {o : Ob} (h : o ∈ l) : o.size ≤ sizeL l := by
  induction l with
  | nil => cases h
  | cons x r ih =>
    rw [sizeL]
    rcases List.mem_cons.1 h with rfl | h
    · omega
    · have := ih h; omega
theorem size_pair {o x : Ob} (h : x ∈ o.pair) : x.size < o.size := by
  cases o with
  | mk k n d p s t l =>
    rw [size]
    have := sizeL_mem (l := l) h
    omega
/-- objects by their size -/
theorem ind {motive : Ob → Prop} (step : ∀ o, (∀ x ∈ o.pair, motive x) → motive o) (o : Ob) : motive o := by
  have : ∀ n (o : Ob), o.size ≤ n → motive o := by
    intro n
    induction n with
    | zero => intro o h; have := size_pos o; omega
    | succ n ih => intro o h; exact step o fun x hx => ih x (by have := size_pair hx; omega)
  exact this o.size o (Nat.le_refl _)
/-- lengths and kinds within Go's bounds, all the way down -/
inductive Wf : Ob → Prop
  | mk (o : Ob) (hk0 : -9223372036854775808 ≤ o.kind) (hk1 : o.kind ≤ 9223372036854775807) (hn : o.num.length ≤ 9223372036854775807) (hd : o.den.length ≤ 9223372036854775807) (hp : o.sp.length ≤ 9223372036854775807) (hs : o.sn.length ≤ 9223372036854775807) (ht : o.text.length ≤ 9223372036854775807) (hl : o.pair.length ≤ 9223372036854775807) (h : ∀ x ∈ o.pair, Wf x) : Wf o
theorem Wf.kids {o x : Ob} (h : o.Wf) (hx : x ∈ o.pair) : x.Wf := by
  cases h with
  | mk _ _ _ _ _ _ _ _ _ h => exact h x hx
theorem Wf.len {o : Ob} (h : o.Wf) : o.pair.length ≤ 9223372036854775807 := by
  cases h with
  | mk _ _ _ _ _ _ _ _ hl _ => exact hl
end Ob

/-- the value of an object, P being its last field -/
abbrev objV (o : Ob) (P : Value) : Value := .agg #[.int .i64 o.kind, str o.num, str o.den, str o.sp, str o.sn, str o.text, P]
abbrev obCells (o : Ob) (P : Value) : Array Value := #[.int .i64 o.kind, str o.num, str o.den, str o.sp, str o.sn, str o.text, P]
theorem Rd.objs {ok : Nat → Prop} {w wr : World} {A : Option Addr} {n c : Nat} {l : List Ob} (h : Rd ok w (.slice A n c) (.row (l.map Ob.enc))) (hbr : Below w.heap.size w wr) {i : Nat} (hi : i < n) :
    ∃ (b o : Nat) (hl : i < l.length) (A' : Option Addr) (n' c' : Nat), A = some ⟨b, o, none⟩ ∧ b < w.heap.size ∧ ok b ∧
      wr.cell? ⟨b, o + i * 7, none⟩ = some (.int .i64 (l[i]).kind) ∧ wr.cell? ⟨b, o + i * 7 + 1, none⟩ = some (str (l[i]).num) ∧ wr.cell? ⟨b, o + i * 7 + 2, none⟩ = some (str (l[i]).den) ∧ wr.cell? ⟨b, o + i * 7 + 3, none⟩ = some (str (l[i]).sp) ∧
      wr.cell? ⟨b, o + i * 7 + 4, none⟩ = some (str (l[i]).sn) ∧ wr.cell? ⟨b, o + i * 7 + 5, none⟩ = some (str (l[i]).text) ∧ wr.cell? ⟨b, o + i * 7 + 6, none⟩ = some (.slice A' n' c') ∧ Rd ok w (.slice A' n' c') (.row ((l[i]).pair.map Ob.enc)) := by
  have hlen := h.len
  rw [List.length_map] at hlen
  obtain ⟨b, o, k, rfl, hb, hok, hk, hf⟩ := h.cells (by omega)
  have e : (l.map Ob.enc)[i]'(by rw [List.length_map]; omega) = (l[i]'(by omega)).enc := List.getElem_map _
  have hk' := hk i (by rw [List.length_map]; omega)
  rw [e, Ob.enc_len] at hk'
  subst hk'
  have hf' : ∀ j (hj : j < 7), ∃ u, w.cell? ⟨b, o + i * 7 + j, none⟩ = some u ∧ Rd ok w u ((l[i]'(by omega)).enc[j]'(by rw [Ob.enc_len]; exact hj)) := fun j hj => by
    obtain ⟨u, h1, h2⟩ := hf i j (by rw [List.length_map]; omega) (by rw [e, Ob.enc_len]; exact hj)
    simp only [e] at h2
    exact ⟨u, h1, h2⟩
  simp only [Ob.enc_eq] at hf'
  obtain ⟨u0, h0, r0⟩ := hf' 0 (by omega)
  obtain ⟨u1, h1, r1⟩ := hf' 1 (by omega)
  obtain ⟨u2, h2, r2⟩ := hf' 2 (by omega)
  obtain ⟨u3, h3, r3⟩ := hf' 3 (by omega)
  obtain ⟨u4, h4, r4⟩ := hf' 4 (by omega)
  obtain ⟨u5, h5, r5⟩ := hf' 5 (by omega)
  obtain ⟨u6, h6, r6⟩ := hf' 6 (by omega)
  simp only [List.getElem_cons_zero, List.getElem_cons_succ] at r0 r1 r2 r3 r4 r5 r6
  rw [r0.val_eq] at h0
  rw [r1.val_eq] at h1
  rw [r2.val_eq] at h2
  rw [r3.val_eq] at h3
  rw [r4.val_eq] at h4
  rw [r5.val_eq] at h5
  obtain ⟨A', n', c', rfl, _⟩ := r6.slice
  exact ⟨b, o, by omega, A', n', c', rfl, hb, hok, (hbr.cell (p := ⟨b, o + i * 7, none⟩) hb).trans h0, (hbr.cell (p := ⟨b, o + i * 7 + 1, none⟩) hb).trans h1, (hbr.cell (p := ⟨b, o + i * 7 + 2, none⟩) hb).trans h2, (hbr.cell (p := ⟨b, o + i * 7 + 3, none⟩) hb).trans h3, (hbr.cell (p := ⟨b, o + i * 7 + 4, none⟩) hb).trans h4, (hbr.cell (p := ⟨b, o + i * 7 + 5, none⟩) hb).trans h5, (hbr.cell (p := ⟨b, o + i * 7 + 6, none⟩) hb).trans h6, r6⟩
/-- the seven cells of a box stored anew -/
theorem BlkIs.put7 {w : World} {g : Nat} {t : TypeId} {c0 c1 c2 c3 c4 c5 c6 v0 v1 v2 v3 v4 v5 v6 : Value} (h : BlkIs w g t #[c0, c1, c2, c3, c4, c5, c6]) :
    BlkIs (((((((w.setCell ⟨g, 0, none⟩ v0).setCell ⟨g, 1, none⟩ v1).setCell ⟨g, 2, none⟩ v2).setCell ⟨g, 3, none⟩ v3).setCell ⟨g, 4, none⟩ v4).setCell ⟨g, 5, none⟩ v5).setCell ⟨g, 6, none⟩ v6) g t #[v0, v1, v2, v3, v4, v5, v6] := by
  have := ((((((h.set_ 0 v0).set_ 1 v1).set_ 2 v2).set_ 3 v3).set_ 4 v4).set_ 5 v5).set_ 6 v6
  simpa using this
theorem BlkIs.far7 {w : World} {g g' : Nat} {t : TypeId} {cs : Array Value} (h : BlkIs w g t cs) (hg : g ≠ g') (v0 v1 v2 v3 v4 v5 v6 : Value) :
    BlkIs (((((((w.setCell ⟨g', 0, none⟩ v0).setCell ⟨g', 1, none⟩ v1).setCell ⟨g', 2, none⟩ v2).setCell ⟨g', 3, none⟩ v3).setCell ⟨g', 4, none⟩ v4).setCell ⟨g', 5, none⟩ v5).setCell ⟨g', 6, none⟩ v6) g t cs :=
  ((((((h.far (p := ⟨g', 0, none⟩) hg _).far (p := ⟨g', 1, none⟩) hg _).far (p := ⟨g', 2, none⟩) hg _).far (p := ⟨g', 3, none⟩) hg _).far (p := ⟨g', 4, none⟩) hg _).far (p := ⟨g', 5, none⟩) hg _).far (p := ⟨g', 6, none⟩) hg _
theorem set7 {a w : World} (h0 : Below a.heap.size a w) {g : Nat} (hg : a.heap.size ≤ g) (v0 v1 v2 v3 v4 v5 v6 : Value) :
    Below a.heap.size a (((((((w.setCell ⟨g, 0, none⟩ v0).setCell ⟨g, 1, none⟩ v1).setCell ⟨g, 2, none⟩ v2).setCell ⟨g, 3, none⟩ v3).setCell ⟨g, 4, none⟩ v4).setCell ⟨g, 5, none⟩ v5).setCell ⟨g, 6, none⟩ v6) :=
  set2 (set2 (set2 (set2 (set2 (set2 (set2 h0 hg _) hg _) hg _) hg _) hg _) hg _) hg _
theorem BlkIs.frozen7 {w : World} {g : Nat} {t : TypeId} {cs : Array Value} (h : BlkIs w g t cs) : w.frozen? ⟨g, 0, none⟩ = false ∧ w.frozen? ⟨g, 1, none⟩ = false ∧ w.frozen? ⟨g, 2, none⟩ = false ∧ w.frozen? ⟨g, 3, none⟩ = false ∧ w.frozen? ⟨g, 4, none⟩ = false ∧ w.frozen? ⟨g, 5, none⟩ = false ∧ w.frozen? ⟨g, 6, none⟩ = false :=
  ⟨h.frozen 0, h.frozen 1, h.frozen 2, h.frozen 3, h.frozen 4, h.frozen 5, h.frozen 6⟩
end Go.Proofs.YtmkcnjfhdfanoaaGreatDoor
/- Plain functions on objects: nodes, equality, the order. -/
namespace Go.Proofs.YtmkcnjfhdfanoaaGreatDoor
open Go.RowKit

namespace Ob
mutual
/-- the nodes: a cons has a car and a cdr; whatever else has one node -/
def nodes : Ob → Nat
  | ⟨_, _, _, _, _, _, l⟩ => if l.length = 2 then nodesL l + 1 else 1
def nodesL : List Ob → Nat
  | [] => 0
  | o :: r => nodes o + nodesL r
end
theorem nodes_two {o a d : Ob} (h : o.pair = [a, d]) : o.nodes = a.nodes + d.nodes + 1 := by
  obtain ⟨k, n, e, p, s, t, l⟩ := o
  simp only at h
  subst h
  simp only [nodes, nodesL, List.length_cons, List.length_nil, if_true]
  omega
theorem nodes_one {o : Ob} (h : o.pair.length ≠ 2) : o.nodes = 1 := by
  obtain ⟨k, n, e, p, s, t, l⟩ := o
  rw [nodes, if_neg h]
theorem nodes_pos (o : Ob) : 1 ≤ o.nodes := by
  by_cases h : o.pair.length = 2
  · obtain ⟨k, n, e, p, s, t, l⟩ := o
    rw [nodes, if_pos h]; omega
  · rw [nodes_one h]; omega
theorem two_of_length {l : List Ob} (h : l.length = 2) : ∃ a d, l = [a, d] := by
  match l, h with
  | [a, d], _ => exact ⟨a, d, rfl⟩
end Ob
end Go.Proofs.YtmkcnjfhdfanoaaGreatDoor
/- Objects: the leaves, Cons and the small questions; of package object and of the reference. -/
namespace Go.Proofs.YtmkcnjfhdfanoaaGreatDoor
open Go.RowKit

def RetObj (ok : Nat → Prop) (o : Ob) (w : World) (e : Ending) (w' : World) : Prop :=
  ∃ A n c, e = .returned (objV o (.slice A n c)) ∧ Rd (fun b => ok b ∨ w.heap.size ≤ b) w' (.slice A n c) (.row (o.pair.map Ob.enc)) ∧ Below w.heap.size w w'
/-- a leaf: nothing in memory -/
def RetLeaf (o : Ob) (w : World) (e : Ending) (w' : World) : Prop := e = .returned (objV o (.slice none 0 0)) ∧ Below w.heap.size w w'
theorem RetLeaf.obj {ok : Nat → Prop} {o : Ob} {w w' : World} {e : Ending} (h : RetLeaf o w e w') (hp : o.pair = []) : RetObj ok o w e w' :=
  ⟨none, 0, 0, h.1, by rw [hp]; exact .nil _ _, h.2⟩
theorem BlkIs.new2 (w : World) (o o' : Obj) (t : TypeId) (cs : Array Value) : BlkIs (((w.alloc o).alloc o').alloc (.cells cs t)) (w.heap.size + 1 + 1) t cs := by
  have := BlkIs.new ((w.alloc o).alloc o') t cs
  simpa using this
abbrev zeroCells : Array Value := #[.int .i64 0, .string ⟨#[]⟩, .string ⟨#[]⟩, .string ⟨#[]⟩, .string ⟨#[]⟩, .string ⟨#[]⟩, .slice none 0 0]
abbrev lispB : List UInt8 := [108, 105, 115, 112]
abbrev nilB : List UInt8 := [110, 105, 108]
abbrev symO (p s : List UInt8) : Ob := ⟨2, [], [], p, s, [], []⟩
abbrev nilO : Ob := symO lispB nilB
abbrev tO : Ob := symO lispB [116]
abbrev numO (n d : List UInt8) : Ob := ⟨1, n, d, [], [], [], []⟩
abbrev txtO (t : List UInt8) : Ob := ⟨3, [], [], [], [], t, []⟩
abbrev consO (a d : Ob) : Ob := ⟨4, [], [], [], [], [], [a, d]⟩

set_option maxHeartbeats 400000 in
/-- a return of an object that lies in the result's box -/
theorem ret_obj {fn : Func} {a : Act} {g r : Nat} {w : World} {t : TypeId} {c0 c1 c2 c3 c4 c5 c6 : Value} {R : Ending → World → Prop} (hf : fn.results = #[.cell r 36]) (ht : a.tmps[r]? = some (.pointer (some ⟨g, 0, none⟩))) (hB : BlkIs w g t #[c0, c1, c2, c3, c4, c5, c6]) (hd : a.defers = []) (hR : R (.returned (.agg #[c0, c1, c2, c3, c4, c5, c6])) w) : bodyPost Tryz.prog fn R .ret a w := by
  obtain ⟨h0, h1, h2, h3, h4, h5, h6, _⟩ := hB.seven
  refine bodyPost_ret (v := .agg #[c0, c1, c2, c3, c4, c5, c6]) ?_ hd hR
  simp [results, hf, ht, go_sem, h0, h1, h2, h3, h4, h5, h6]

set_option maxHeartbeats 400000 in
theorem oSymbol_any (w : World) (p s : List UInt8) : Calls Tryz.prog 88 #[.agg #[str p, str s]] w (RetLeaf (symO p s) w) := by
  go_enter Tryz.func88, Tryz.ntmps88
  go_wp2
  exact bodyPost_ret (v := objV (symO p s) (.slice none 0 0)) (by simp [results, Tryz.results88, go_sem]) rfl ⟨rfl, box2 (box _ _) _⟩

set_option maxHeartbeats 400000 in
theorem oText_any (w : World) (t : List UInt8) : Calls Tryz.prog 47 #[str t] w (RetLeaf (txtO t) w) := by
  go_enter Tryz.func47, Tryz.ntmps47
  go_wp2
  exact bodyPost_ret (v := objV (txtO t) (.slice none 0 0)) (by simp [results, Tryz.results47, go_sem]) rfl ⟨rfl, box _ _⟩

set_option maxHeartbeats 400000 in
theorem rSymbol_any (w : World) (p s : List UInt8) : Calls Tryz.prog 32 #[.agg #[str p, str s]] w (RetLeaf (symO p s) w) := by
  go_enter Tryz.func32, Tryz.ntmps32
  go_wp2
  exact bodyPost_ret (v := objV (symO p s) (.slice none 0 0)) (by simp [results, Tryz.results32, go_sem]) rfl ⟨rfl, box2 (box _ _) _⟩

set_option maxHeartbeats 400000 in
theorem rText_any (w : World) (t : List UInt8) : Calls Tryz.prog 26 #[str t] w (RetLeaf (txtO t) w) := by
  go_enter Tryz.func26, Tryz.ntmps26
  go_wp2
  exact bodyPost_ret (v := objV (txtO t) (.slice none 0 0)) (by simp [results, Tryz.results26, go_sem]) rfl ⟨rfl, box _ _⟩
end Go.Proofs.YtmkcnjfhdfanoaaGreatDoor
/- object.rest and Nodes: how many nodes an object has. -/
namespace Go.Proofs.YtmkcnjfhdfanoaaGreatDoor
open Go.RowKit

/-- what rest gives: what is left, or a negative number -/
def RestIs (o : Ob) (left r : Int) : Prop := ((o.nodes : Int) ≤ left → r = left - o.nodes) ∧ (left < o.nodes → r < 0) ∧ r < left ∧ (0 ≤ left → -left - 1 ≤ r) ∧ (left < 0 → r = left - 1)
def RetRest (o : Ob) (left : Int) (w : World) (e : Ending) (w' : World) : Prop := ∃ r : Int, e = .returned (.int .i64 r) ∧ RestIs o left r ∧ Below w.heap.size w w'
theorem rest_end {x : Ob} {m : Int} (h : ¬ (0 < m ∧ x.pair.length = 2)) : RestIs x m (m - 1) := by
  have hp := x.nodes_pos
  refine ⟨fun h1 => ?_, fun h1 => ?_, by omega, fun h1 => by omega, fun _ => rfl⟩
  · have : x.pair.length ≠ 2 := fun e => h ⟨by omega, e⟩
    rw [Ob.nodes_one this]; rfl
  · rcases Int.lt_or_le 0 m with h2 | h2
    · have : x.pair.length ≠ 2 := fun e => h ⟨h2, e⟩
      rw [Ob.nodes_one this] at h1
      omega
    · omega
theorem rest_step {x a d : Ob} {m r1 r : Int} (hx : x.pair = [a, d]) (hm : 0 < m) (h1 : RestIs a (m - 1) r1) (h2 : RestIs d r1 r) : RestIs x m r := by
  have hn := Ob.nodes_two hx
  have pa := a.nodes_pos
  have pd := d.nodes_pos
  obtain ⟨a1, a2, a3, a4, a5⟩ := h1
  obtain ⟨b1, b2, b3, b4, b5⟩ := h2
  have a4' := a4 (by omega)
  refine ⟨fun h => ?_, fun h => ?_, by omega, fun _ => ?_, fun h => by omega⟩
  · have e1 := a1 (by omega)
    have e2 := b1 (by omega)
    omega
  · by_cases h3 : m - 1 < a.nodes
    · have e1 := a2 h3
      have e2 := b5 e1
      omega
    · have e1 := a1 (by omega)
      exact b2 (by omega)
  · by_cases h3 : r1 < 0
    · have := b5 h3; omega
    · have := b4 (by omega); omega
set_option maxHeartbeats 2000000 in
set_option maxRecDepth 100000 in
theorem rest_any (ok : Nat → Prop) : ∀ (N : Nat) (o : Ob), o.size ≤ N → ∀ (A : Option Addr) (n c : Nat) (left : Int) (w : World), Rd ok w (.slice A n c) (.row (o.pair.map Ob.enc)) → -10 ≤ left → left ≤ 3001 →
    Calls Tryz.prog 138 #[objV o (.slice A n c), .int .i64 left] w (RetRest o left w) := by
  intro N
  induction N with
  | zero => intro o h; have := Ob.size_pos o; omega
  | succ N ih =>
    intro o hN A n c left w hP hl0 hl1
    go_enter Tryz.func138, Tryz.ntmps138
    go_wp2
    go_loopg [1] o.size (fun gx lv wr => ∃ (x : Ob) (m : Int) (A2 : Option Addr) (n2 c2 : Nat), lv = .int .i64 m ∧ Hid (BlkIs wr w.heap.size 36 (obCells x (.slice A2 n2 c2))) ∧ Rd ok w (.slice A2 n2 c2) (.row (x.pair.map Ob.enc)) ∧ x.size ≤ N + 1 ∧ -4000 ≤ m ∧ m ≤ 3001 ∧ Hid (∀ r, RestIs x m r → RestIs o left r) ∧ x.size ≤ gx ∧ Below w.heap.size w wr)
    case atStart => exact ⟨o, left, A, n, c, rfl, Lib.hid (BlkIs.new w _ _), hP, hN, by omega, hl1, Lib.hid (fun _ h => h), Nat.le_refl _, box _ _⟩
    case round =>
      obtain ⟨x, m, A2, n2, c2, rfl, HB, hr, hxN, hm0, hm1, HR, hg, hb⟩ := hrel
      obtain ⟨c0, c1, c3, c4, c5, c6, c7, hlt⟩ := HB.out.seven
      obtain ⟨f0, f1, f2, f3, f4, f5, f6⟩ := HB.out.frozen7
      have hlen := hr.len
      rw [List.length_map] at hlen
      by_cases hc : 0 < m ∧ n2 = 2
      · obtain ⟨hmp, hn2⟩ := hc
        subst hn2
        obtain ⟨a, d, had⟩ := Ob.two_of_length hlen
        have HST := Lib.hid (fun r1 r => rest_step (r1 := r1) (r := r) had hmp)
        have hsa := Ob.size_pair (o := x) (x := a) (by rw [had]; simp)
        have hsd := Ob.size_pair (o := x) (x := d) (by rw [had]; simp)
        rw [had] at hr
        clear hlen had
        obtain ⟨b, q, _, A3, n3, c3', rfl, hbl, _, a0, a1, a2, a3, a4, a5, a6, ha⟩ := hr.objs hb (i := 0) (by omega)
        simp only [List.getElem_cons_zero, Nat.zero_mul, Nat.add_zero] at a0 a1 a2 a3 a4 a5 a6 ha
        have hbl' := Nat.lt_of_lt_of_le hbl hb.size
        have HC := Lib.hid (ih a (by omega) A3 n3 c3' (m - 1) wr (ha.under hb) (by omega) (by omega))
        go_wp2_with fail
        refine HC.out.mono ?_
        rintro e w1 ⟨r1, rfl, hr1, hb1⟩
        have hbw1 := then_ hb hb1
        have HB1 := Lib.hid (HB.out.below hb1)
        clear c0 c1 c3 c4 c5 c6 c7 f0 f1 f2 f3 f4 f5 f6 a0 a1 a2 a3 a4 a5 a6
        obtain ⟨c0, c1, c3, c4, c5, c6, c7, hlt1⟩ := HB1.out.seven
        obtain ⟨f0, f1, f2, f3, f4, f5, f6⟩ := HB1.out.frozen7
        obtain ⟨b', q', _, A4, n4, c4', eA, _, _, d0, d1, d2, d3, d4, d5, d6, hd⟩ := hr.objs hbw1 (i := 1) (by omega)
        injection eA with eA
        injection eA with eb eq
        subst eb eq
        simp only [List.getElem_cons_zero, List.getElem_cons_succ, Nat.one_mul] at d0 d1 d2 d3 d4 d5 d6 hd
        have hbl1 := Nat.lt_of_lt_of_le hbl hbw1.size
        have hb4 := hr1.2.2.1
        have hb5 := hr1.2.2.2.1 (by omega)
        have HR1 := Lib.hid hr1
        clear hr1
        go_wp2
        go_roundg d.size
        case measure => omega
        case rel => exact ⟨d, r1, A4, n4, c4', rfl, Lib.hid HB1.out.put7, hd, by omega, by omega, by omega, Lib.hid (fun r h => HR.out r (HST.out r1 r HR1.out h)), Nat.le_refl _, set7 hbw1 (Nat.le_refl _) _ _ _ _ _ _ _⟩
      · have HE : Hid (RestIs o left (m - 1)) := HR.out _ (rest_end (by rw [hlen]; exact hc))
        by_cases hmp : 0 < m
        · have hn2 : ((n2 : Int) == 2) = false := by rw [beq_eq_false_iff_ne]; omega
          clear hlen hc
          go_wp2
          go_ret
          exact ⟨m - 1, rfl, HE.out, hb⟩
        · clear hlen hc
          go_wp2
          go_ret
          exact ⟨m - 1, rfl, HE.out, hb⟩
/-- object.Nodes -/
theorem nodes_of {o : Ob} {r : Int} (h : RestIs o 3001 r) : 3001 - max 0 r = if o.nodes ≤ 3001 then (o.nodes : Int) else 3001 := by
  obtain ⟨h1, h2, h3, _, _⟩ := h
  have := o.nodes_pos
  split
  · have := h1 (by omega); omega
  · have := h2 (by omega); omega
def nodesP (o : Ob) : Int := if o.nodes ≤ 3001 then (o.nodes : Int) else 3001
set_option maxHeartbeats 1000000 in
theorem oNodes_any (ok : Nat → Prop) (o : Ob) (A : Option Addr) (n c : Nat) (w : World) (hP : Rd ok w (.slice A n c) (.row (o.pair.map Ob.enc))) :
    Calls Tryz.prog 99 #[objV o (.slice A n c)] w (RetBel (.int .i64 (nodesP o)) w) := by
  go_enter Tryz.func99, Tryz.ntmps99
  go_wp2_with fail
  refine (rest_any ok o.size o (Nat.le_refl _) A n c 3001 _ (hP.under (box _ _)) (by omega) (by omega)).mono ?_
  rintro e w1 ⟨r, rfl, hr, hb1⟩
  have HN := Lib.hid (nodes_of hr)
  have h1 := hr.2.2.1
  have h2 := hr.2.2.2.1 (by omega)
  clear hr
  by_cases h0 : 0 < r
  · have HM : Hid (3001 - r = nodesP o) := by show _ = _; have := HN.out; unfold nodesP; omega
    go_wp2
    go_ret
    exact ⟨by first | (rw [← HM.out]; rfl) | (rw [show nodesP o = 3001 - max 0 r from HN.out.symm]; rfl), via hb1⟩
  · have HM : Hid (3001 = nodesP o) := by show _ = _; have := HN.out; unfold nodesP; omega
    go_wp2
    go_ret
    exact ⟨by first | (rw [← HM.out]; rfl) | (rw [show nodesP o = 3001 - max 0 r from HN.out.symm]; rfl), via hb1⟩
end Go.Proofs.YtmkcnjfhdfanoaaGreatDoor
/- Rational numbers: what reducing a fraction gives, and how long its numerals are. -/
namespace Go.Proofs.YtmkcnjfhdfanoaaGreatDoor
open Go.RowKit

theorem qd_pos {x : Int} {g : Nat} (h : 0 < g) : qd x (g : Int) = x / g := by
  unfold qd
  rw [if_neg (by omega), if_pos (by omega)]
theorem rd_rat (x y : Int) : rdN x y = (Rat.divInt x y).num ∧ rdD x y = ((Rat.divInt x y).den : Int) := by
  rw [Rat.num_divInt, Rat.den_divInt]
  by_cases hy : y = 0
  · subst hy; simp [rdN, rdD]
  · have hg : 0 < Nat.gcd x.natAbs y.natAbs := Nat.gcd_pos_of_pos_right _ (by omega)
    have e : y.gcd x = Nat.gcd x.natAbs y.natAbs := Nat.gcd_comm _ _
    unfold rdN rdD
    rw [if_neg hy, if_neg hy, if_neg hy, qd_pos hg, qd_pos hg, e]
    refine ⟨?_, ?_⟩
    · congr 1
      unfold rdX
      split
      · rw [Int.sign_eq_neg_one_of_neg (by assumption)]; omega
      · rw [Int.sign_eq_one_of_pos (by omega)]; omega
    · unfold rdY
      rw [Int.natCast_ediv]
      congr 1
      split <;> omega
/-- numerator and denominator have at most k digits -/
structure Rb (k : Nat) (q : Rat) : Prop where
  num : q.num.natAbs < 10 ^ k
  den : q.den < 10 ^ k
  pos : 1 ≤ k
theorem Rb.mk' {k : Nat} {x y : Int} (hk : 1 ≤ k) (hx : x.natAbs < 10 ^ k) (hy : y.natAbs < 10 ^ k) : Rb k (Rat.divInt x y) := by
  refine ⟨?_, ?_, hk⟩
  · rw [Rat.num_divInt]
    refine Nat.lt_of_le_of_lt (Nat.le_trans (Int.natAbs_ediv_le_natAbs _ _) ?_) hx
    rw [Int.natAbs_mul]
    rcases Int.lt_trichotomy y 0 with h | h | h
    · rw [Int.sign_eq_neg_one_of_neg h]; simp
    · subst h; simp
    · rw [Int.sign_eq_one_of_pos h]; simp
  · rw [Rat.den_divInt]
    split
    · exact Nat.one_lt_pow (by omega) (by omega)
    · exact Nat.lt_of_le_of_lt (Nat.div_le_self _ _) hy
theorem Rb.mono {k m : Nat} {q : Rat} (h : Rb k q) (hm : k ≤ m) : Rb m q :=
  ⟨Nat.lt_of_lt_of_le h.num (Nat.pow_le_pow_right (by omega) hm), Nat.lt_of_lt_of_le h.den (Nat.pow_le_pow_right (by omega) hm), by have := h.pos; omega⟩
theorem Rat.add_div (p q : Rat) : p + q = Rat.divInt (p.num * q.den + q.num * p.den) (p.den * q.den) := by
  rw [Rat.add_def', ← Rat.divInt_ofNat, Int.natCast_mul]
theorem Rat.mul_div (p q : Rat) : p * q = Rat.divInt (p.num * q.num) (p.den * q.den) := by
  rw [Rat.mul_def', ← Rat.divInt_ofNat, Int.natCast_mul]
theorem mul_lt_pow {a b k m : Nat} (ha : a < 10 ^ k) (hb : b < 10 ^ m) : a * b < 10 ^ (k + m) := by
  rw [Nat.pow_add]
  exact Nat.mul_lt_mul'' ha hb
theorem Rb.add {k m : Nat} {p q : Rat} (h : Rb k p) (h' : Rb m q) : Rb (k + m + 1) (p + q) := by
  rw [Rat.add_div]
  have h1 := mul_lt_pow h.num h'.den
  have h2 := mul_lt_pow h.den h'.num
  have h3 := mul_lt_pow h.den h'.den
  have h4 : 10 ^ (k + m + 1) = 10 ^ (k + m) * 10 := Nat.pow_succ _ _
  refine Rb.mk' (by omega) ?_ ?_
  · have e1 : (p.num * (q.den : Int)).natAbs = p.num.natAbs * q.den := by rw [Int.natAbs_mul, Int.natAbs_natCast]
    have e2 : (q.num * (p.den : Int)).natAbs = p.den * q.num.natAbs := by rw [Int.natAbs_mul, Int.natAbs_natCast, Nat.mul_comm]
    omega
  · rw [Int.natAbs_mul, Int.natAbs_natCast, Int.natAbs_natCast]; omega
theorem Rb.mul {k m : Nat} {p q : Rat} (h : Rb k p) (h' : Rb m q) : Rb (k + m) (p * q) := by
  rw [Rat.mul_div]
  have := h.pos
  refine Rb.mk' (by omega) ?_ ?_
  · rw [Int.natAbs_mul]; exact mul_lt_pow h.num h'.num
  · rw [Int.natAbs_mul, Int.natAbs_natCast, Int.natAbs_natCast]; exact mul_lt_pow h.den h'.den
theorem Rb.neg {k : Nat} {p : Rat} (h : Rb k p) : Rb k (-p) := ⟨by rw [Rat.neg_num, Int.natAbs_neg]; exact h.num, by rw [Rat.neg_den]; exact h.den, h.pos⟩
theorem Rb.inv {k : Nat} {p : Rat} (h : Rb k p) : Rb k p⁻¹ := by
  rw [Rat.inv_def]
  exact Rb.mk' h.pos (by rw [Int.natAbs_natCast]; exact h.den) h.num
theorem Rb.zero : Rb 1 0 := ⟨by decide, by decide, by decide⟩
theorem Rb.nlen {k : Nat} {q : Rat} (h : Rb k q) : (Lib.itoa q.num).length ≤ k + 1 := itoa_length_any _ h.pos h.num
theorem Rb.dlen {k : Nat} {q : Rat} (h : Rb k q) : (Lib.itoa (q.den : Int)).length ≤ k + 1 := itoa_length_any _ h.pos (by rw [Int.natAbs_natCast]; exact h.den)

/-- a number as an object -/
abbrev ratO (q : Rat) : Ob := numO (Lib.itoa q.num) (Lib.itoa (q.den : Int))
theorem ratO_inj {p q : Rat} : ratO p = ratO q ↔ p = q := by
  refine ⟨fun h => ?_, fun h => by rw [h]⟩
  injection h with _ h1 h2
  exact Rat.ext (Dec.itoa_inj h1) (by have := Dec.itoa_inj h2; omega)
theorem ratO_int (n : Int) : ratO (n : Rat) = numO (Lib.itoa n) [49] := by
  have : Lib.itoa 1 = [49] := itoa_one
  rw [ratO, Rat.num_intCast, Rat.den_intCast]
  show numO _ (Lib.itoa 1) = _
  rw [this]
/-- the value of an object in arithmetic: 0 unless it is a number -/
def Val (o : Ob) (q : Rat) : Prop := (o.kind = 1 ∧ o = ratO q) ∨ (o.kind ≠ 1 ∧ q = 0)
theorem Val.rat (q : Rat) : Val (ratO q) q := .inl ⟨rfl, rfl⟩
/-- a number is returned -/
def RetNL (n d : List UInt8) (w : World) (e : Ending) (w' : World) : Prop := ∃ (A : Option Addr) (c : Nat), e = .returned (objV (numO n d) (.slice A 0 c)) ∧ Below w.heap.size w w'
abbrev RetNum (q : Rat) (w : World) (e : Ending) (w' : World) : Prop := RetNL (Lib.itoa q.num) (Lib.itoa (q.den : Int)) w e w'
def cmpQ (p q : Rat) : Int := if p < q then -1 else if q < p then 1 else 0
theorem cmpQ_cross (p q : Rat) : cmpI (p.num * q.den) (q.num * p.den) = cmpQ p q := by
  unfold cmpI cmpQ
  simp only [Rat.lt_iff]
theorem cmpQ_den {p q : Rat} (h : p.den = q.den) : cmpI p.num q.num = cmpQ p q := by
  rw [← cmpQ_cross, h]
  have hp : 0 < (q.den : Int) := by have := q.den_nz; omega
  unfold cmpI
  simp only [Int.mul_lt_mul_right hp]
end Go.Proofs.YtmkcnjfhdfanoaaGreatDoor
/- Objects: the constructors and the small questions of package object. -/
namespace Go.Proofs.YtmkcnjfhdfanoaaGreatDoor
open Go.RowKit

set_option maxHeartbeats 400000 in
theorem oNil_any (w : World) : Calls Tryz.prog 50 #[] w (RetLeaf nilO w) := by
  go_enter Tryz.func50, Tryz.ntmps50
  go_wp2_with fail
  refine (oSymbol_any _ lispB nilB).mono ?_
  rintro e w1 ⟨rfl, hb⟩
  have HB := Lib.hid (BlkIs.via hb)
  obtain ⟨u0, u1, u2, u3, u4, u5, u6, hu⟩ := HB.out.seven
  obtain ⟨f0, f1, f2, f3, f4, f5, f6⟩ := HB.out.frozen7
  go_wp2
  exact ret_obj Tryz.results50 rfl HB.out.put7 rfl ⟨rfl, set7 (via hb) (Nat.le_refl _) _ _ _ _ _ _ _⟩
set_option maxHeartbeats 400000 in
theorem oT_any (w : World) : Calls Tryz.prog 92 #[] w (RetLeaf tO w) := by
  go_enter Tryz.func92, Tryz.ntmps92
  go_wp2_with fail
  refine (oSymbol_any _ lispB [116]).mono ?_
  rintro e w1 ⟨rfl, hb⟩
  have HB := Lib.hid (BlkIs.via hb)
  obtain ⟨u0, u1, u2, u3, u4, u5, u6, hu⟩ := HB.out.seven
  obtain ⟨f0, f1, f2, f3, f4, f5, f6⟩ := HB.out.frozen7
  go_wp2
  exact ret_obj Tryz.results92 rfl HB.out.put7 rfl ⟨rfl, set7 (via hb) (Nat.le_refl _) _ _ _ _ _ _ _⟩
set_option maxHeartbeats 400000 in
theorem oInteger_any (a : List UInt8) (w : World) : Calls Tryz.prog 83 #[str a] w (RetLeaf (numO a [49]) w) := by
  go_enter Tryz.func83, Tryz.ntmps83
  go_wp2
  go_outline
  exact bodyPost_ret (v := objV (numO a [49]) (.slice none 0 0)) (by simp [results, Tryz.results83, go_sem]) rfl ⟨rfl, box _ _⟩
set_option maxHeartbeats 400000 in
theorem oInt_any (n : Int) (w : World) (ht : Tab w) (h0 : -9223372036854775808 ≤ n) (h1 : n ≤ 9223372036854775807) : Calls Tryz.prog 51 #[.int .i64 n] w (RetLeaf (numO (Lib.itoa n) [49]) w) := by
  have HF := Lib.hid (fun w' (hb : Below w.heap.size w w') => fromInt_any n w' (ht.below hb) h0 h1)
  clear h0 h1
  go_enter Tryz.func51, Tryz.ntmps51
  go_wp2_with fail
  refine (HF.out _ (box _ _)).mono ?_
  rintro e w1 ⟨rfl, hb⟩
  go_wp2_with fail
  refine (oInteger_any _ _).mono ?_
  rintro e w2 ⟨rfl, hb2⟩
  have HB := Lib.hid ((BlkIs.via hb).below hb2)
  obtain ⟨u0, u1, u2, u3, u4, u5, u6, hu⟩ := HB.out.seven
  obtain ⟨f0, f1, f2, f3, f4, f5, f6⟩ := HB.out.frozen7
  go_wp2
  exact ret_obj Tryz.results51 rfl HB.out.put7 rfl ⟨rfl, set7 (then_ (via hb) hb2) (Nat.le_refl _) _ _ _ _ _ _ _⟩
set_option maxHeartbeats 400000 in
theorem oRational_any (a b : List UInt8) (w : World) (ha : a.length ≤ 1100000) (hb : b.length ≤ 1100000) (ht : Tab w) : Calls Tryz.prog 85 #[str a, str b] w (RetLeaf (numO (Lib.itoa (rdN (Dec.dval a) (Dec.dval b))) (Lib.itoa (rdD (Dec.dval a) (Dec.dval b)))) w) := by
  have HF := Lib.hid (fun w' (hw : Below w.heap.size w w') => reduceN_any a b w' ha hb (ht.below hw))
  clear ha hb
  generalize Lib.itoa (rdN (Dec.dval a) (Dec.dval b)) = n at *
  generalize Lib.itoa (rdD (Dec.dval a) (Dec.dval b)) = d at *
  go_enter Tryz.func85, Tryz.ntmps85
  go_wp2_with fail
  refine (HF.out _ (box _ _)).mono ?_
  rintro e w1 ⟨rfl, hb⟩
  have HB := Lib.hid (BlkIs.via hb)
  obtain ⟨u0, u1, u2, u3, u4, u5, u6, hu⟩ := HB.out.seven
  obtain ⟨f0, f1, f2, f3, f4, f5, f6⟩ := HB.out.frozen7
  go_wp2
  exact ret_obj Tryz.results85 rfl HB.out.put7 rfl ⟨rfl, set7 (via hb) (Nat.le_refl _) _ _ _ _ _ _ _⟩
/-- two objects side by side in one block read as a pair -/
theorem rd_pair {ok : Nat → Prop} {a d : Ob} {A A' : Option Addr} {n n' c c' : Nat} {w : World} {g : Nat} {t : TypeId} (hB : BlkIs w g t #[.int .i64 a.kind, str a.num, str a.den, str a.sp, str a.sn, str a.text, .slice A n c, .int .i64 d.kind, str d.num, str d.den, str d.sp, str d.sn, str d.text, .slice A' n' c'])
    (hg : ok g) (ha : Rd ok w (.slice A n c) (.row (a.pair.map Ob.enc))) (hd : Rd ok w (.slice A' n' c') (.row (d.pair.map Ob.enc))) : Rd ok w (.slice (some ⟨g, 0, none⟩) 2 2) (.row ([a, d].map Ob.enc)) := by
  refine Rd.mk (k := 7) rfl (Nat.le_refl _) hB.lt hg (fun i hi => ?_) (fun i j hi hj => ?_)
  · rw [List.getElem_map, Ob.enc_len]
  · simp only [List.getElem_map, Ob.enc_len] at hj
    have hi' : i < 2 := hi
    rw [hB.cell]
    rcases i with _ | _ | i
    · rcases j with _ | _ | _ | _ | _ | _ | _ | j
      all_goals first | omega | skip
      all_goals simp only [List.map_cons, List.getElem_cons_zero, Ob.enc_eq, List.getElem_cons_succ]
      all_goals first | exact ⟨_, rfl, .val _⟩ | exact ⟨_, rfl, ha⟩
    · rcases j with _ | _ | _ | _ | _ | _ | _ | j
      all_goals first | omega | skip
      all_goals simp only [List.map_cons, List.getElem_cons_zero, Ob.enc_eq, List.getElem_cons_succ]
      all_goals first | exact ⟨_, rfl, .val _⟩ | exact ⟨_, rfl, hd⟩
    · omega
theorem cons_ret (ok : Nat → Prop) (a d : Ob) (A A' : Option Addr) (n n' c c' : Nat) (w : World) {b1 b2 b3 : Obj} {t : TypeId} (ha : Rd ok w (.slice A n c) (.row (a.pair.map Ob.enc))) (hd : Rd ok w (.slice A' n' c') (.row (d.pair.map Ob.enc))) :
    RetObj ok (consO a d) w (.returned (objV (consO a d) (.slice (some ⟨w.heap.size + 1 + 1 + 1, 0, none⟩) 2 2))) ((((w.alloc b1).alloc b2).alloc b3).alloc (.cells #[.int .i64 a.kind, str a.num, str a.den, str a.sp, str a.sn, str a.text, .slice A n c, .int .i64 d.kind, str d.num, str d.den, str d.sp, str d.sn, str d.text, .slice A' n' c'] t)) := by
  have hb : Below w.heap.size w (((w.alloc b1).alloc b2).alloc b3) := box2 (box2 (box _ _) _) _
  refine ⟨_, 2, 2, rfl, ?_, box2 hb _⟩
  have hB := BlkIs.new (((w.alloc b1).alloc b2).alloc b3) t #[.int .i64 a.kind, str a.num, str a.den, str a.sp, str a.sn, str a.text, .slice A n c, .int .i64 d.kind, str d.num, str d.den, str d.sp, str d.sn, str d.text, .slice A' n' c']
  have e : (((w.alloc b1).alloc b2).alloc b3).heap.size = w.heap.size + 1 + 1 + 1 := by simp
  rw [e] at hB
  exact rd_pair hB (.inr (by omega)) ((ha.under (box2 hb _)).mono fun _ h _ => .inl h) ((hd.under (box2 hb _)).mono fun _ h _ => .inl h)
set_option maxHeartbeats 400000 in
theorem oCons_any (ok : Nat → Prop) (a d : Ob) (A A' : Option Addr) (n n' c c' : Nat) (w : World) (ha : Rd ok w (.slice A n c) (.row (a.pair.map Ob.enc))) (hd : Rd ok w (.slice A' n' c') (.row (d.pair.map Ob.enc))) :
    Calls Tryz.prog 44 #[objV a (.slice A n c), objV d (.slice A' n' c')] w (RetObj ok (consO a d) w) := by
  go_enter Tryz.func44, Tryz.ntmps44
  go_wp2
  exact ret_obj Tryz.results44 rfl ((BlkIs.new2 w _ _ _ _).alloc _) rfl (cons_ret ok a d A A' n n' c c' w ha hd)
end Go.Proofs.YtmkcnjfhdfanoaaGreatDoor
/- Arithmetic of objects: fix, value, Sum, Product, Opposite, Reciprocal, Less of package object. -/
namespace Go.Proofs.YtmkcnjfhdfanoaaGreatDoor
open Go.RowKit

theorem oRationalQ (a b : List UInt8) (w : World) (ha : a.length ≤ 1100000) (hb : b.length ≤ 1100000) (ht : Tab w) : Calls Tryz.prog 85 #[str a, str b] w (RetLeaf (ratO (Rat.divInt (Dec.dval a) (Dec.dval b))) w) := by
  have := oRational_any a b w ha hb ht
  rwa [(rd_rat _ _).1, (rd_rat _ _).2] at this
set_option maxHeartbeats 400000 in
theorem oFix_any (o : Ob) (q : Rat) (hv : Val o q) (A : Option Addr) (n c : Nat) (hn : o.pair.length = n) (w : World) (ht : Tab w) : Calls Tryz.prog 82 #[objV o (.slice A n c)] w (RetNum q w) := by
  rcases hv with ⟨hk, rfl⟩ | ⟨hk, rfl⟩
  · obtain rfl : n = 0 := by rw [← hn]; rfl
    clear hk hn
    generalize Lib.itoa q.num = ln at *
    generalize Lib.itoa (q.den : Int) = ld at *
    go_enter Tryz.func82, Tryz.ntmps82
    go_wp2
    exact ret_obj Tryz.results82 rfl (BlkIs.new1 w _ _ _) rfl ⟨A, c, rfl, box2 (box _ _) _⟩
  · obtain ⟨k, nm, d, p, s, t, l⟩ := o
    dsimp only at hk
    have hz : (k == 1) = false := by rw [beq_eq_false_iff_ne]; exact hk
    clear hk hn
    have HI : Hid (∀ w' : World, Below w.heap.size w w' → Calls Tryz.prog 51 #[.int .i64 0] w' (RetLeaf (numO (Lib.itoa (0 : Rat).num) (Lib.itoa ((0 : Rat).den : Int))) w')) := fun w' hb => by
      have := oInt_any 0 w' (ht.below hb) (by omega) (by omega)
      rwa [← ratO_int] at this
    unfold RetNum
    generalize Lib.itoa (0 : Rat).num = ln at *
    generalize Lib.itoa ((0 : Rat).den : Int) = ld at *
    go_enter Tryz.func82, Tryz.ntmps82
    go_wp2_with fail
    refine (HI.out _ (box2 (box _ _) _)).mono ?_
    rintro e w1 ⟨rfl, hb⟩
    have HB := Lib.hid ((BlkIs.new1 w _ _ _).below hb)
    obtain ⟨u0, u1, u2, u3, u4, u5, u6, hu⟩ := HB.out.seven
    obtain ⟨f0, f1, f2, f3, f4, f5, f6⟩ := HB.out.frozen7
    go_wp2
    exact ret_obj Tryz.results82 rfl HB.out.put7 rfl ⟨none, 0, rfl, set7 (via (via hb)) (Nat.le_succ _) _ _ _ _ _ _ _⟩
set_option maxHeartbeats 1000000 in
set_option maxRecDepth 100000 in
theorem oValue_any (p q : Rat) {k m : Nat} (bp : Rb k p) (bq : Rb m q) (hk : k ≤ 10000) (hm : m ≤ 10000) (A A' : Option Addr) (n n' c c' : Nat) (w : World) (ht : Tab w) :
    Calls Tryz.prog 93 #[objV (ratO p) (.slice A n c), objV (ratO q) (.slice A' n' c')] w (RetI64 (cmpQ p q) w) := by
  have n1 : Num (k + 1) (Lib.itoa p.num) p.num := ⟨Dec.dval_itoa _, bp.nlen⟩
  have d1 : Num (k + 1) (Lib.itoa (p.den : Int)) p.den := ⟨Dec.dval_itoa _, bp.dlen⟩
  have n2 : Num (m + 1) (Lib.itoa q.num) q.num := ⟨Dec.dval_itoa _, bq.nlen⟩
  have d2 : Num (m + 1) (Lib.itoa (q.den : Int)) q.den := ⟨Dec.dval_itoa _, bq.dlen⟩
  by_cases hd : p.den = q.den
  · have HC := fun w' => Lib.hid (compareZ n1 n2 (by omega) (by omega) (cmpQ_den hd) w')
    have hd' : Lib.itoa (p.den : Int) = Lib.itoa (q.den : Int) := by rw [hd]
    unfold ratO
    rw [hd']
    clear n1 n2 d1 d2 hd hd'
    generalize Lib.itoa p.num = ln at *
    generalize Lib.itoa q.num = rn at *
    generalize Lib.itoa (q.den : Int) = rd at *
    go_enter Tryz.func93, Tryz.ntmps93
    go_wp2_with fail
    refine (HC _).out.mono ?_
    rintro e w1 ⟨rfl, hb⟩
    go_wp2
    go_ret
    exact ⟨rfl, via (via hb)⟩
  · have hd' : (Lib.itoa (p.den : Int) == Lib.itoa (q.den : Int)) = false := by rw [beq_eq_false_iff_ne]; exact fun e => hd (by have := Dec.itoa_inj e; omega)
    have HM1 : Hid (∀ w' : World, Below w.heap.size w w' → Calls Tryz.prog 86 #[str (Lib.itoa p.num), str (Lib.itoa (q.den : Int))] w' (RetStr (Lib.itoa (p.num * q.den)) w')) := fun w' hb => mulZ n1 d2 (by omega) (by omega) w' (ht.below hb)
    have HM2 : Hid (∀ w' : World, Below w.heap.size w w' → Calls Tryz.prog 86 #[str (Lib.itoa q.num), str (Lib.itoa (p.den : Int))] w' (RetStr (Lib.itoa (q.num * p.den)) w')) := fun w' hb => mulZ n2 d1 (by omega) (by omega) w' (ht.below hb)
    have HC : Hid (∀ w' : World, Calls Tryz.prog 133 #[str (Lib.itoa (p.num * q.den)), str (Lib.itoa (q.num * p.den))] w' (RetI64 (cmpQ p q) w')) := fun w' => compareZ (n1.mul d2) (n2.mul d1) (by omega) (by omega) (cmpQ_cross p q) w'
    clear n1 n2 d1 d2 hd
    unfold ratO
    generalize Lib.itoa (p.num * q.den) = l1 at *
    generalize Lib.itoa (q.num * p.den) = l2 at *
    generalize Lib.itoa p.num = ln at *
    generalize Lib.itoa q.num = rn at *
    generalize Lib.itoa (p.den : Int) = ld at *
    generalize Lib.itoa (q.den : Int) = rd at *
    go_enter Tryz.func93, Tryz.ntmps93
    go_wp2_with fail
    have X0' := Lib.hid ((BlkIs.new w 36 (obCells (numO ln ld) (.slice A n c))).alloc (.cells (obCells (numO rn rd) (.slice A' n' c')) 36))
    have Y0' := Lib.hid (BlkIs.new1 w (.cells (obCells (numO ln ld) (.slice A n c)) 36) 36 (obCells (numO rn rd) (.slice A' n' c')))
    have b0 := (box2 (box w (.cells (obCells (numO ln ld) (.slice A n c)) 36)) (.cells (obCells (numO rn rd) (.slice A' n' c')) 36)).drew
    generalize (w.alloc (.cells (obCells (numO ln ld) (.slice A n c)) 36)).alloc (.cells (obCells (numO rn rd) (.slice A' n' c')) 36) = W at *
    have X0 := Lib.hid X0'.out.drew
    have Y0 := Lib.hid Y0'.out.drew
    obtain ⟨xs0, xs1, xs2, xs3, xs4, xs5, xs6, xsl⟩ := X0'.out.seven
    obtain ⟨ys0, ys1, ys2, ys3, ys4, ys5, ys6, ysl⟩ := Y0'.out.seven
    go_region_held3 (fun w' => w'.cell? ⟨w.heap.size, 1, none⟩ = some (str ln) ∧ w'.cell? ⟨w.heap.size, 2, none⟩ = some (str ld) ∧ w'.cell? ⟨w.heap.size + 1, 1, none⟩ = some (str rn) ∧ w'.cell? ⟨w.heap.size + 1, 2, none⟩ = some (str rd)) (go_keep)
      (first | (go_at_call 86; ((with_reducible refine (HM1.out _ b0).mono ?_)); rintro e v1 ⟨rfl, hb1⟩; have b1 := then_ b0 hb1; have X1 := Lib.hid (X0.out.below hb1); have Y1 := Lib.hid (Y0.out.below hb1); obtain ⟨xc1_0, xc1_1, xc1_2, xc1_3, xc1_4, xc1_5, xc1_6, xc1_l⟩ := X1.out.seven; obtain ⟨yc1_0, yc1_1, yc1_2, yc1_3, yc1_4, yc1_5, yc1_6, yc1_l⟩ := Y1.out.seven) | (go_at_call 86; ((with_reducible refine (HM2.out _ b1).mono ?_)); rintro e v2 ⟨rfl, hb2⟩; have b2 := then_ b1 hb2; have X2 := Lib.hid (X1.out.below hb2); have Y2 := Lib.hid (Y1.out.below hb2); obtain ⟨xc2_0, xc2_1, xc2_2, xc2_3, xc2_4, xc2_5, xc2_6, xc2_l⟩ := X2.out.seven; obtain ⟨yc2_0, yc2_1, yc2_2, yc2_3, yc2_4, yc2_5, yc2_6, yc2_l⟩ := Y2.out.seven) | (go_at_call 133; ((with_reducible refine (HC.out _).mono ?_)); rintro e v3 ⟨rfl, hb3⟩; have b3 := then_ b2 hb3; have X3 := Lib.hid (X2.out.below hb3); have Y3 := Lib.hid (Y2.out.below hb3); obtain ⟨xc3_0, xc3_1, xc3_2, xc3_3, xc3_4, xc3_5, xc3_6, xc3_l⟩ := X3.out.seven; obtain ⟨yc3_0, yc3_1, yc3_2, yc3_3, yc3_4, yc3_5, yc3_6, yc3_l⟩ := Y3.out.seven))
    go_wp2
    go_ret
    exact ⟨rfl, b3⟩
end Go.Proofs.YtmkcnjfhdfanoaaGreatDoor
/- Arithmetic of objects: Sum, Product, Opposite, Reciprocal, Less of package object. -/
namespace Go.Proofs.YtmkcnjfhdfanoaaGreatDoor
open Go.RowKit

theorem far7 (w : World) {g g' : Nat} (hg : g ≠ g') (i : Nat) (v0 v1 v2 v3 v4 v5 v6 : Value) :
    (((((((w.setCell ⟨g', 0, none⟩ v0).setCell ⟨g', 1, none⟩ v1).setCell ⟨g', 2, none⟩ v2).setCell ⟨g', 3, none⟩ v3).setCell ⟨g', 4, none⟩ v4).setCell ⟨g', 5, none⟩ v5).setCell ⟨g', 6, none⟩ v6).cell? ⟨g, i, none⟩ = w.cell? ⟨g, i, none⟩ := by
  have e : ∀ (w : World) (j : Nat) (v : Value), (w.setCell ⟨g', j, none⟩ v).cell? ⟨g, i, none⟩ = w.cell? ⟨g, i, none⟩ := fun w j v => World.cell?_of_block (Below.heap_setCell w ⟨g', j, none⟩ v g hg)
  rw [e, e, e, e, e, e, e]
end Go.Proofs.YtmkcnjfhdfanoaaGreatDoor
/- Arithmetic of objects: Opposite, Reciprocal, Less of package object; IsNil, IsInteger. -/
namespace Go.Proofs.YtmkcnjfhdfanoaaGreatDoor
open Go.RowKit

theorem cmpQ_neg (p q : Rat) : decide (cmpQ p q < 0) = decide (p < q) := by
  unfold cmpQ
  split
  · simp [*]
  · split <;> simp [*]
set_option maxHeartbeats 400000 in
theorem oIsNil_any (o : Ob) (A : Option Addr) (n c : Nat) (w : World) : Calls Tryz.prog 43 #[objV o (.slice A n c)] w (RetBel (.bool (decide (o.kind = 2 ∧ o.sp = lispB ∧ o.sn = nilB))) w) := by
  obtain ⟨k, nm, d, p, s, t, l⟩ := o
  dsimp only
  by_cases hk : k = 2
  · subst hk
    by_cases h1 : p = lispB
    · subst h1
      by_cases h2 : s = nilB
      · subst h2
        rw [decide_eq_true ⟨rfl, rfl, rfl⟩]
        go_enter Tryz.func43, Tryz.ntmps43
        go_wp2
        go_ret
        exact ⟨rfl, box _ _⟩
      · rw [decide_eq_false (fun h => h2 h.2.2)]
        have hz : (s == nilB) = false := by rw [beq_eq_false_iff_ne]; exact h2
        clear h2
        go_enter Tryz.func43, Tryz.ntmps43
        go_wp2
        go_ret
        exact ⟨rfl, box _ _⟩
    · rw [decide_eq_false (fun h => h1 h.2.1)]
      have hz : (p == lispB) = false := by rw [beq_eq_false_iff_ne]; exact h1
      clear h1
      go_enter Tryz.func43, Tryz.ntmps43
      go_wp2
      go_ret
      exact ⟨rfl, box _ _⟩
  · rw [decide_eq_false (fun h => hk h.1)]
    have hz : (k == 2) = false := by rw [beq_eq_false_iff_ne]; exact hk
    clear hk
    go_enter Tryz.func43, Tryz.ntmps43
    go_wp2
    go_ret
    exact ⟨rfl, box _ _⟩
end Go.Proofs.YtmkcnjfhdfanoaaGreatDoor
/- Lists of objects: List and Items of package object. -/
namespace Go.Proofs.YtmkcnjfhdfanoaaGreatDoor
open Go.RowKit

def listO : List Ob → Ob
  | [] => nilO
  | a :: r => consO a (listO r)
theorem Rd.far7 {ok : Nat → Prop} {w : World} {v : Value} {d : Dt} {g : Nat} (h : Rd ok w v d) (hg : ∀ b, ok b → b ≠ g) (v0 v1 v2 v3 v4 v5 v6 : Value) :
    Rd ok (((((((w.setCell ⟨g, 0, none⟩ v0).setCell ⟨g, 1, none⟩ v1).setCell ⟨g, 2, none⟩ v2).setCell ⟨g, 3, none⟩ v3).setCell ⟨g, 4, none⟩ v4).setCell ⟨g, 5, none⟩ v5).setCell ⟨g, 6, none⟩ v6) v d :=
  ((((((h.far (p := ⟨g, 0, none⟩) hg _).far (p := ⟨g, 1, none⟩) hg _).far (p := ⟨g, 2, none⟩) hg _).far (p := ⟨g, 3, none⟩) hg _).far (p := ⟨g, 4, none⟩) hg _).far (p := ⟨g, 5, none⟩) hg _).far (p := ⟨g, 6, none⟩) hg _
theorem drop_cons {l : List Ob} {j : Nat} (h : j < l.length) : listO (l.drop j) = consO l[j] (listO (l.drop (j + 1))) := by
  rw [List.drop_eq_getElem_cons h]; rfl
end Go.Proofs.YtmkcnjfhdfanoaaGreatDoor
/- object.Valid is true for objects built of 1, nil and a short string by conses; object.Compare at a string and a symbol. -/
namespace Go.Proofs.YtmkcnjfhdfanoaaGreatDoor
open Go.RowKit

set_option maxHeartbeats 400000 in
theorem bare_cons (a d : Ob) (A : Option Addr) (n c : Nat) (w : World) : Calls Tryz.prog 139 #[objV (consO a d) (.slice A n c), .bool false, .bool false, .bool false] w (RetBel (.bool true) w) := by
  go_enter Tryz.func139, Tryz.ntmps139
  go_wp2
  go_ret
  exact ⟨rfl, box _ _⟩
set_option maxHeartbeats 400000 in
theorem bare_num (l r : List UInt8) (A : Option Addr) (n c : Nat) (w : World) : Calls Tryz.prog 139 #[objV (numO l r) (.slice A n c), .bool true, .bool false, .bool false] w (RetBel (.bool true) w) := by
  go_enter Tryz.func139, Tryz.ntmps139
  go_wp2
  go_ret
  exact ⟨rfl, box _ _⟩
set_option maxHeartbeats 400000 in
theorem bare_sym (l r : List UInt8) (A : Option Addr) (n c : Nat) (w : World) : Calls Tryz.prog 139 #[objV (symO l r) (.slice A n c), .bool false, .bool true, .bool false] w (RetBel (.bool true) w) := by
  go_enter Tryz.func139, Tryz.ntmps139
  go_wp2
  go_ret
  exact ⟨rfl, box _ _⟩
set_option maxHeartbeats 400000 in
theorem bare_txt (l : List UInt8) (A : Option Addr) (n c : Nat) (w : World) : Calls Tryz.prog 139 #[objV (txtO l) (.slice A n c), .bool false, .bool false, .bool true] w (RetBel (.bool true) w) := by
  go_enter Tryz.func139, Tryz.ntmps139
  go_wp2
  go_ret
  exact ⟨rfl, box _ _⟩
set_option maxHeartbeats 400000 in
theorem lowest_one (w : World) (ht : Tab w) : Calls Tryz.prog 140 #[str [49], str [49]] w (RetBel (.bool true) w) := by
  have HV : Hid (∀ w' : World, Calls Tryz.prog 154 #[str [49]] w' (RetPure (.bool true) w')) := fun w' => by
    have := valid_any [49] w' (by decide)
    rwa [show Dec.isDec [49] = true by decide] at this
  have HD : Hid (∀ w' : World, Calls Tryz.prog 130 #[str [49]] w' (RetPure (.int .i64 1) w')) := fun w' => by
    have := digits_any [49] w' (by decide)
    rwa [show ((Dec.mag (norm [49])).length : Nat) = 1 by decide +kernel] at this
  have HR : Hid (∀ w' : World, Below w.heap.size w w' → Calls Tryz.prog 128 #[str [49], str [49]] w' (RetStr2 [49] [49] w')) := fun w' hb => by
    have := reduceN_any [49] [49] w' (by decide) (by decide) (ht.below hb)
    rwa [show Lib.itoa (rdN (Dec.dval [49]) (Dec.dval [49])) = [49] by decide +kernel, show Lib.itoa (rdD (Dec.dval [49]) (Dec.dval [49])) = [49] by decide +kernel] at this
  go_enter Tryz.func140, Tryz.ntmps140
  go_wp2_with (first | (go_at_call 154; refine (HV.out _).mono ?_; rintro e w' ⟨rfl, rfl⟩) | (go_at_call 130; refine (HD.out _).mono ?_; rintro e w' ⟨rfl, rfl⟩) | (go_at_call 128; refine (HR.out _ (Below.refl _ _)).mono ?_; rintro e w1 ⟨rfl, hb1⟩))
  go_ret
  exact ⟨rfl, hb1⟩
set_option maxHeartbeats 1000000 in
theorem symbol_nil (w : World) : Calls Tryz.prog 141 #[.agg #[str lispB, str nilB]] w (RetBel (.bool true) w) := by
  go_enter Tryz.func141, Tryz.ntmps141
  go_wp2
  go_loopw [31] (fun ix wr => ∃ i : Nat, i ≤ 4 ∧ ix = .int .i64 i ∧ Hid (BlkIs wr w.heap.size 23 #[str lispB, str nilB]) ∧ Below w.heap.size w wr) (fun ix _ => 4 - (intOf ix).toNat)
  case atStart => exact ⟨0, by omega, rfl, Lib.hid (BlkIs.new w _ _), box _ _⟩
  case round =>
    obtain ⟨i, hi, rfl, X, hb⟩ := hrel
    obtain ⟨x0, x1, _, _, hlt⟩ := X.out.two
    have hc : i = 0 ∨ i = 1 ∨ i = 2 ∨ i = 3 ∨ i = 4 := by omega
    rcases hc with rfl | rfl | rfl | rfl | rfl
    · go_wp2
      go_roundw
      case rel => exact ⟨1, by omega, by go_num, X, hb⟩
      case measure => simp only [intOf]; omega
    · go_wp2
      go_roundw
      case rel => exact ⟨2, by omega, by go_num, X, hb⟩
      case measure => simp only [intOf]; omega
    · go_wp2
      go_roundw
      case rel => exact ⟨3, by omega, by go_num, X, hb⟩
      case measure => simp only [intOf]; omega
    · go_wp2
      go_roundw
      case rel => exact ⟨4, by omega, by go_num, X, hb⟩
      case measure => simp only [intOf]; omega
    · go_wp2
      go_ret
      exact ⟨rfl, hb⟩
inductive Good : Ob → Prop
  | one : Good (numO [49] [49])
  | nil : Good nilO
  | txt : Good (txtO [97])
  | cons {a d : Ob} (ha : Good a) (hd : Good d) : Good (consO a d)
set_option maxHeartbeats 2000000 in
set_option maxRecDepth 100000 in
theorem formed_good (ok : Nat → Prop) : ∀ (N : Nat) (o : Ob), o.size ≤ N → Good o → ∀ (A : Option Addr) (n c : Nat) (w : World), Tab w → Rd ok w (.slice A n c) (.row (o.pair.map Ob.enc)) →
    Calls Tryz.prog 100 #[objV o (.slice A n c)] w (RetBel (.bool true) w) := by
  intro N
  induction N with
  | zero => intro o h; have := Ob.size_pos o; omega
  | succ N ih =>
    intro o hN hG A n c w ht hP
    go_enter Tryz.func100, Tryz.ntmps100
    go_wp2
    go_loopg [2] o.size (fun gx lv wr => ∃ (x : Ob) (A2 : Option Addr) (n2 c2 : Nat), lv = .bool false ∧ Hid (BlkIs wr w.heap.size 36 (obCells x (.slice A2 n2 c2))) ∧ Rd ok w (.slice A2 n2 c2) (.row (x.pair.map Ob.enc)) ∧ x.size ≤ N + 1 ∧ Good x ∧ x.size ≤ gx ∧ Below w.heap.size w wr)
    case atStart => exact ⟨o, A, n, c, rfl, Lib.hid (BlkIs.new w _ _), hP, hN, hG, Nat.le_refl _, box _ _⟩
    case round =>
      obtain ⟨x, A2, n2, c2, rfl, X, hr, hxN, hg, hgx, hb⟩ := hrel
      have hlen := hr.len
      rw [List.length_map] at hlen
      obtain ⟨x0, x1, x2, x3, x4, x5, x6, xl⟩ := X.out.seven
      obtain ⟨xf0, xf1, xf2, xf3, xf4, xf5, xf6⟩ := X.out.frozen7
      cases hg with
      | one =>
        obtain rfl : n2 = 0 := hlen.symm
        go_wp2_with fail
        refine (bare_num [49] [49] A2 0 c2 _).mono ?_
        rintro e w1 ⟨rfl, hb1⟩
        have X1 := Lib.hid (X.out.below hb1)
        clear x0 xf0 x1 xf1 x2 xf2 x3 xf3 x4 xf4 x5 xf5 x6 xf6
        obtain ⟨y0, y1, y2, y3, y4, y5, y6, yl⟩ := X1.out.seven
        go_wp2_with fail
        refine (lowest_one _ (ht.below (then_ hb hb1))).mono ?_
        rintro e w2 ⟨rfl, hb2⟩
        go_wp2
        go_ret
        exact ⟨rfl, then_ (then_ hb hb1) hb2⟩
      | nil =>
        obtain rfl : n2 = 0 := hlen.symm
        go_wp2_with fail
        refine (bare_sym lispB nilB A2 0 c2 _).mono ?_
        rintro e w1 ⟨rfl, hb1⟩
        have X1 := Lib.hid (X.out.below hb1)
        clear x0 xf0 x1 xf1 x2 xf2 x3 xf3 x4 xf4 x5 xf5 x6 xf6
        obtain ⟨y0, y1, y2, y3, y4, y5, y6, yl⟩ := X1.out.seven
        go_wp2_with fail
        refine (symbol_nil _).mono ?_
        rintro e w2 ⟨rfl, hb2⟩
        go_wp2
        go_ret
        exact ⟨rfl, then_ (then_ hb hb1) hb2⟩
      | txt =>
        obtain rfl : n2 = 0 := hlen.symm
        go_wp2_with fail
        refine (bare_txt [97] A2 0 c2 _).mono ?_
        rintro e w1 ⟨rfl, hb1⟩
        have X1 := Lib.hid (X.out.below hb1)
        clear x0 xf0 x1 xf1 x2 xf2 x3 xf3 x4 xf4 x5 xf5 x6 xf6
        obtain ⟨y0, y1, y2, y3, y4, y5, y6, yl⟩ := X1.out.seven
        go_wp2
        go_ret
        exact ⟨rfl, then_ hb hb1⟩
      | cons ga gd =>
        rename_i a d
        obtain rfl : n2 = 2 := hlen.symm
        have hsa := Ob.size_pair (o := consO a d) (x := a) (by simp)
        have hsd := Ob.size_pair (o := consO a d) (x := d) (by simp)
        clear hlen
        go_wp2_with fail
        refine (bare_cons a d A2 2 c2 _).mono ?_
        rintro e w1 ⟨rfl, hb1⟩
        have b1 := then_ hb hb1
        have X1 := Lib.hid (X.out.below hb1)
        clear x0 xf0 x1 xf1 x2 xf2 x3 xf3 x4 xf4 x5 xf5 x6 xf6
        obtain ⟨y0, y1, y2, y3, y4, y5, y6, yl⟩ := X1.out.seven
        obtain ⟨b, q, _, A3, n3, c3', rfl, hbl, _, a0, a1, a2, a3, a4, a5, a6, ha⟩ := hr.objs b1 (i := 0) (by omega)
        simp only [List.getElem_cons_zero, Nat.zero_mul, Nat.add_zero] at a0 a1 a2 a3 a4 a5 a6 ha
        have hbl' := Nat.lt_of_lt_of_le hbl b1.size
        go_wp2_with fail
        refine (ih a (by omega) ga A3 n3 c3' _ (ht.below b1) (ha.under b1)).mono ?_
        rintro e w2 ⟨rfl, hb2⟩
        have b2 := then_ b1 hb2
        have X2 := Lib.hid (X1.out.below hb2)
        clear y0 y1 y2 y3 y4 y5 y6 a0 a1 a2 a3 a4 a5 a6
        obtain ⟨z0, z1, z2, z3, z4, z5, z6, zl⟩ := X2.out.seven
        obtain ⟨zf0, zf1, zf2, zf3, zf4, zf5, zf6⟩ := X2.out.frozen7
        obtain ⟨b', q', _, A4, n4, c4', eA, _, _, d0, d1, d2, d3, d4, d5, d6, hd⟩ := hr.objs b2 (i := 1) (by omega)
        injection eA with eA
        injection eA with eb eq
        subst eb eq
        simp only [List.getElem_cons_zero, List.getElem_cons_succ, Nat.one_mul] at d0 d1 d2 d3 d4 d5 d6 hd
        have hbl2 := Nat.lt_of_lt_of_le hbl b2.size
        go_wp2
        go_roundg d.size
        case measure => omega
        case rel => exact ⟨d, A4, n4, c4', rfl, Lib.hid X2.out.put7, hd, by omega, gd, Nat.le_refl _, set7 b2 (Nat.le_refl _) _ _ _ _ _ _ _⟩
set_option maxHeartbeats 400000 in
theorem valid_good (ok : Nat → Prop) (o : Ob) (hG : Good o) (hn : o.nodes ≤ 3000) (A : Option Addr) (n c : Nat) (w : World) (ht : Tab w) (hP : Rd ok w (.slice A n c) (.row (o.pair.map Ob.enc))) :
    Calls Tryz.prog 56 #[objV o (.slice A n c)] w (RetBel (.bool true) w) := by
  have HN : Hid (∀ w' : World, Below w.heap.size w w' → Calls Tryz.prog 99 #[objV o (.slice A n c)] w' (RetBel (.int .i64 (o.nodes : Int)) w')) := fun w' hb => by
    have := oNodes_any ok o A n c w' (hP.under hb)
    rwa [nodesP, if_pos (by omega)] at this
  have HF : Hid (∀ w' : World, Below w.heap.size w w' → Calls Tryz.prog 100 #[objV o (.slice A n c)] w' (RetBel (.bool true) w')) := fun w' hb => formed_good ok o.size o (Nat.le_refl _) hG A n c w' (ht.below hb) (hP.under hb)
  generalize o.nodes = k at *
  go_enter Tryz.func56, Tryz.ntmps56
  go_wp2_with fail
  refine (HN.out _ (box _ _)).mono ?_
  rintro e w1 ⟨rfl, hb1⟩
  have X1 := Lib.hid (BlkIs.via hb1)
  obtain ⟨y0, y1, y2, y3, y4, y5, y6, yl⟩ := X1.out.seven
  have hk : (k : Int) ≤ 3000 := by omega
  go_wp2_with fail
  refine (HF.out _ (via hb1)).mono ?_
  rintro e w2 ⟨rfl, hb2⟩
  go_wp2
  go_ret
  exact ⟨rfl, then_ (via hb1) hb2⟩
end Go.Proofs.YtmkcnjfhdfanoaaGreatDoor
/- Plain trees: the well-formed objects, and their order. -/
namespace Go.Proofs.YtmkcnjfhdfanoaaGreatDoor
open Go.RowKit

/-- a comparison of three answers that orders a type -/
structure Cmp3 {α : Type} (f : α → α → Int) : Prop where
  rng : ∀ a b, f a b = -1 ∨ f a b = 0 ∨ f a b = 1
  swap : ∀ a b, f b a = - f a b
  zero : ∀ a b, f a b = 0 ↔ a = b
  trans : ∀ a b c, f a b ≤ 0 → f b c ≤ 0 → f a c ≤ 0
abbrev cmpB : List UInt8 → List UInt8 → Int := Lib.compareBytes
theorem cmpB_zero : ∀ a b : List UInt8, cmpB a b = 0 ↔ a = b
  | [], [] => ⟨fun _ => rfl, fun _ => rfl⟩
  | [], _ :: _ => ⟨(fun h => by cases h), (fun h => by cases h)⟩
  | _ :: _, [] => ⟨(fun h => by cases h), (fun h => by cases h)⟩
  | a :: x, b :: y => by
    unfold cmpB Lib.compareBytes
    have := cmpB_zero x y
    unfold cmpB at this
    by_cases h1 : a < b
    · rw [if_pos h1]
      exact ⟨(fun h => by cases h), fun h => by injection h with h _; subst h; rw [UInt8.lt_iff_toNat_lt] at h1; omega⟩
    · by_cases h2 : b < a
      · rw [if_neg h1, if_pos h2]
        exact ⟨(fun h => by cases h), fun h => by injection h with h _; subst h; exact absurd h2 h1⟩
      · rw [if_neg h1, if_neg h2, this]
        have e : a = b := by
          rw [UInt8.lt_iff_toNat_lt] at h1 h2
          exact UInt8.toNat_inj.1 (by omega)
        subst e
        exact ⟨fun h => by rw [h], fun h => by injection h⟩
theorem cmpQ_ok : Cmp3 cmpQ where
  rng a b := by unfold cmpQ; split <;> (try split) <;> simp
  swap a b := by
    unfold cmpQ
    by_cases h1 : a < b
    · have h2 : ¬ b < a := by grind
      simp only [if_pos h1, if_neg h2]; rfl
    · by_cases h2 : b < a
      · simp only [if_neg h1, if_pos h2]
      · simp only [if_neg h1, if_neg h2]; rfl
  zero a b := by
    unfold cmpQ
    by_cases h1 : a < b
    · simp only [if_pos h1]
      exact ⟨(fun h => by cases h), fun h => by grind⟩
    · by_cases h2 : b < a
      · simp only [if_neg h1, if_pos h2]
        exact ⟨(fun h => by cases h), fun h => by grind⟩
      · simp only [if_neg h1, if_neg h2]
        exact ⟨fun _ => by grind, fun _ => trivial⟩
  trans a b c := by
    unfold cmpQ
    intro h1 h2
    have e1 : ¬ b < a := fun h => by
      have : ¬ a < b := by grind
      rw [if_neg this, if_pos h] at h1; omega
    have e2 : ¬ c < b := fun h => by
      have : ¬ b < c := by grind
      rw [if_neg this, if_pos h] at h2; omega
    have e3 : ¬ c < a := by grind
    rw [if_neg e3]
    split <;> decide
/-- first by f, then by g -/
def lex3 (x y : Int) : Int := if x = 0 then y else x
theorem lex3_zero {x y : Int} : lex3 x y = 0 ↔ x = 0 ∧ y = 0 := by
  unfold lex3
  split <;> omega
inductive Tr where
  | num (q : Rat)
  | txt (t : List UInt8)
  | sym (p s : List UInt8)
  | cons (a d : Tr)
namespace Tr
def ob : Tr → Ob
  | .num q => ratO q
  | .txt t => txtO t
  | .sym p s => symO p s
  | .cons a d => consO a.ob d.ob
def size : Tr → Nat
  | .cons a d => a.size + d.size + 1
  | _ => 1
theorem size_pos (t : Tr) : 1 ≤ t.size := by cases t <;> simp [size]
theorem ob_inj : ∀ {a b : Tr}, a.ob = b.ob → a = b
  | .num p, .num q, h => by rw [ratO_inj.1 h]
  | .txt s, .txt t, h => by injection h with _ _ _ _ _ h; rw [h]
  | .sym p s, .sym p' s', h => by injection h with _ _ _ h1 h2; rw [h1, h2]
  | .cons a d, .cons a' d', h => by
    injection h with _ _ _ _ _ _ h
    injection h with h1 h2
    injection h2 with h2
    rw [ob_inj h1, ob_inj h2]
  | .num _, .txt _, h => by injection h with h; cases h
  | .num _, .sym _ _, h => by injection h with h; cases h
  | .num _, .cons _ _, h => by injection h with h; cases h
  | .txt _, .num _, h => by injection h with h; cases h
  | .txt _, .sym _ _, h => by injection h with h; cases h
  | .txt _, .cons _ _, h => by injection h with h; cases h
  | .sym _ _, .num _, h => by injection h with h; cases h
  | .sym _ _, .txt _, h => by injection h with h; cases h
  | .sym _ _, .cons _ _, h => by injection h with h; cases h
  | .cons _ _, .num _, h => by injection h with h; cases h
  | .cons _ _, .txt _, h => by injection h with h; cases h
  | .cons _ _, .sym _ _, h => by injection h with h; cases h
theorem ob_iff {a b : Tr} : a.ob = b.ob ↔ a = b := ⟨ob_inj, fun h => by rw [h]⟩
/-- numbers of at most k digits, and short strings -/
def Ok (k : Nat) : Tr → Prop
  | .num q => Rb k q
  | .txt t => t.length ≤ 100000
  | .sym p s => p.length ≤ 100000 ∧ s.length ≤ 100000
  | .cons a d => a.Ok k ∧ d.Ok k
theorem Ok.mono {k m : Nat} (hm : k ≤ m) : ∀ {t : Tr}, t.Ok k → t.Ok m
  | .num _, h => Rb.mono h hm
  | .txt _, h => h
  | .sym _ _, h => h
  | .cons _ _, h => ⟨Ok.mono hm h.1, Ok.mono hm h.2⟩
theorem Ok.wf {k : Nat} (hk : k ≤ 100000) : ∀ {t : Tr}, t.Ok k → t.ob.Wf
  | .num q, h => by
    have h1 := Rb.nlen h
    have h2 := Rb.dlen h
    exact .mk (ratO q) (by show (-9223372036854775808 : Int) ≤ 1; omega) (by show (1 : Int) ≤ _; omega) (by show (Lib.itoa q.num).length ≤ _; omega) (by show (Lib.itoa (q.den : Int)).length ≤ _; omega) (Nat.zero_le _) (Nat.zero_le _) (Nat.zero_le _) (Nat.zero_le _) (fun x hx => by cases hx)
  | .txt t, h => by
    have h' : t.length ≤ 100000 := h
    exact .mk (txtO t) (by show (-9223372036854775808 : Int) ≤ 3; omega) (by show (3 : Int) ≤ _; omega) (Nat.zero_le _) (Nat.zero_le _) (Nat.zero_le _) (Nat.zero_le _) (by show t.length ≤ _; omega) (Nat.zero_le _) (fun x hx => by cases hx)
  | .sym p s, h => by
    obtain ⟨h1, h2⟩ := h
    exact .mk (symO p s) (by show (-9223372036854775808 : Int) ≤ 2; omega) (by show (2 : Int) ≤ _; omega) (Nat.zero_le _) (Nat.zero_le _) (by show p.length ≤ _; omega) (by show s.length ≤ _; omega) (Nat.zero_le _) (Nat.zero_le _) (fun x hx => by cases hx)
  | .cons a d, h => by
    have h1 := Ok.wf hk h.1
    have h2 := Ok.wf hk h.2
    exact .mk (consO a.ob d.ob) (by show (-9223372036854775808 : Int) ≤ 4; omega) (by show (4 : Int) ≤ _; omega) (Nat.zero_le _) (Nat.zero_le _) (Nat.zero_le _) (Nat.zero_le _) (Nat.zero_le _) (by show 2 ≤ 9223372036854775807; omega) (fun x hx => by
      simp only [List.mem_cons, List.not_mem_nil, or_false] at hx
      rcases hx with rfl | rfl <;> assumption)
/-- its value in arithmetic -/
def val : Tr → Rat
  | .num q => q
  | _ => 0
theorem val_ob (t : Tr) : Val t.ob t.val := by
  cases t with
  | num q => exact Val.rat q
  | txt t => exact .inr ⟨by show (3 : Int) ≠ 1; decide, rfl⟩
  | sym p s => exact .inr ⟨by show (2 : Int) ≠ 1; decide, rfl⟩
  | cons a d => exact .inr ⟨by show (4 : Int) ≠ 1; decide, rfl⟩
theorem Ok.val {k : Nat} {t : Tr} (h : t.Ok k) (hk : 1 ≤ k) : Rb k t.val := by
  cases t with
  | num q => exact h
  | _ => exact Rb.zero.mono hk
def rank : Tr → Int
  | .num _ => 0
  | .txt _ => 1
  | .sym _ _ => 2
  | .cons _ _ => 3
/-- the order of objects -/
def cmp : Tr → Tr → Int
  | .num p, .num q => cmpQ p q
  | .txt s, .txt t => cmpB s t
  | .sym p s, .sym p' s' => lex3 (cmpB s s') (cmpB p p')
  | .cons a d, .cons a' d' => lex3 (cmp a a') (cmp d d')
  | x, y => if x.rank < y.rank then -1 else 1
theorem cmp_zero : ∀ a b : Tr, cmp a b = 0 ↔ a = b
  | .num p, .num q => (cmpQ_ok.zero p q).trans ⟨fun h => by rw [h], fun h => by injection h⟩
  | .txt s, .txt t => (cmpB_zero s t).trans ⟨fun h => by rw [h], fun h => by injection h⟩
  | .sym p s, .sym p' s' => by
    show lex3 _ _ = 0 ↔ _
    rw [lex3_zero, cmpB_zero, cmpB_zero]
    exact ⟨fun h => by rw [h.1, h.2], fun h => by injection h with h1 h2; exact ⟨h2, h1⟩⟩
  | .cons a d, .cons a' d' => by
    show lex3 _ _ = 0 ↔ _
    rw [lex3_zero, cmp_zero a a', cmp_zero d d']
    exact ⟨fun h => by rw [h.1, h.2], fun h => by injection h with h1 h2; exact ⟨h1, h2⟩⟩
  | .num _, .txt _ => ⟨(fun h => by cases h), (fun h => by cases h)⟩
  | .num _, .sym _ _ => ⟨(fun h => by cases h), (fun h => by cases h)⟩
  | .num _, .cons _ _ => ⟨(fun h => by cases h), (fun h => by cases h)⟩
  | .txt _, .num _ => ⟨(fun h => by cases h), (fun h => by cases h)⟩
  | .txt _, .sym _ _ => ⟨(fun h => by cases h), (fun h => by cases h)⟩
  | .txt _, .cons _ _ => ⟨(fun h => by cases h), (fun h => by cases h)⟩
  | .sym _ _, .num _ => ⟨(fun h => by cases h), (fun h => by cases h)⟩
  | .sym _ _, .txt _ => ⟨(fun h => by cases h), (fun h => by cases h)⟩
  | .sym _ _, .cons _ _ => ⟨(fun h => by cases h), (fun h => by cases h)⟩
  | .cons _ _, .num _ => ⟨(fun h => by cases h), (fun h => by cases h)⟩
  | .cons _ _, .txt _ => ⟨(fun h => by cases h), (fun h => by cases h)⟩
  | .cons _ _, .sym _ _ => ⟨(fun h => by cases h), (fun h => by cases h)⟩
def list : List Tr → Tr
  | [] => .sym lispB nilB
  | a :: r => .cons a (list r)
theorem list_ob : ∀ l : List Tr, (list l).ob = listO (l.map ob)
  | [] => rfl
  | a :: r => by show consO a.ob (list r).ob = _; rw [list_ob r]; rfl
end Tr
end Go.Proofs.YtmkcnjfhdfanoaaGreatDoor
/- object.Equal: all fields are equal. -/
namespace Go.Proofs.YtmkcnjfhdfanoaaGreatDoor
open Go.RowKit

def RetEq (p : Prop) (w : World) (e : Ending) (w' : World) : Prop := ∃ b : Bool, e = .returned (.bool b) ∧ (b = true ↔ p) ∧ Below w.heap.size w w'
theorem iff_no {p : Prop} (h : ¬ p) : (false = true) ↔ p := ⟨(fun e => by cases e), fun e => absurd e h⟩
theorem iff_yes {p : Prop} (h : p) : (true = true) ↔ p := ⟨fun _ => h, fun _ => rfl⟩
theorem ob_iff (k : Int) (n d p s t : List UInt8) (l m : List Ob) : l = m ↔ (⟨k, n, d, p, s, t, l⟩ : Ob) = ⟨k, n, d, p, s, t, m⟩ := ⟨fun e => by rw [e], fun e => by injection e⟩
theorem init_last {l m : List Ob} {n : Nat} (hl : l.length = n) (hm : m.length = n) (h0 : 0 < n) (h : ∀ j (h1 : j < l.length) (h2 : j < m.length), j < n - 1 → l[j] = m[j]) : (l[n - 1]'(by omega) = m[n - 1]'(by omega)) ↔ l = m := by
  constructor
  · intro e
    apply List.ext_getElem (by omega)
    intro i h1 h2
    by_cases hi : i < n - 1
    · exact h i h1 h2 hi
    · obtain rfl : i = n - 1 := by omega
      exact e
  · intro e; subst e; rfl

set_option maxHeartbeats 8000000 in
set_option maxRecDepth 100000 in
theorem oEqual_any (ok ok' : Nat → Prop) : ∀ (N : Nat) (a b : Ob), a.size ≤ N → a.Wf → ∀ (A A' : Option Addr) (n n' c c' : Nat) (w : World), Rd ok w (.slice A n c) (.row (a.pair.map Ob.enc)) → Rd ok' w (.slice A' n' c') (.row (b.pair.map Ob.enc)) →
    Calls Tryz.prog 53 #[objV a (.slice A n c), objV b (.slice A' n' c')] w (RetEq (a = b) w) := by
  intro N
  induction N with
  | zero => intro a b h; have := Ob.size_pos a; omega
  | succ N ih =>
    intro a b hN hW A A' n n' c c' w hA hB
    go_enter Tryz.func53, Tryz.ntmps53
    go_wp2
    go_loopg [5] a.size (fun gx _ wr => ∃ (x y : Ob) (A2 A3 : Option Addr) (n2 n3 c2 c3 : Nat), Hid (BlkIs wr w.heap.size 36 (obCells x (.slice A2 n2 c2))) ∧ Hid (BlkIs wr (w.heap.size + 1) 36 (obCells y (.slice A3 n3 c3))) ∧ Rd ok w (.slice A2 n2 c2) (.row (x.pair.map Ob.enc)) ∧ Rd ok' w (.slice A3 n3 c3) (.row (y.pair.map Ob.enc)) ∧ x.size ≤ N + 1 ∧ x.Wf ∧ Hid (x = y ↔ a = b) ∧ x.size ≤ gx ∧ Below w.heap.size w wr)
    case atStart => exact ⟨a, b, A, A', n, n', c, c', Lib.hid ((BlkIs.new w _ _).alloc _), Lib.hid (BlkIs.new1 w _ _ _), hA, hB, hN, hW, Lib.hid Iff.rfl, Nat.le_refl _, box2 (box _ _) _⟩
    case round =>
      obtain ⟨⟨xk, xn, xd, xp, xs, xt, xl⟩, ⟨yk, yn, yd, yp, ys, yt, yl⟩, A2, A3, n2, n3, c2, c3, HX, HY, hx, hy, hxN, hxW, HI, hg, hb⟩ := hrel
      obtain ⟨u0, u1, u2, u3, u4, u5, u6, hu⟩ := HX.out.seven
      obtain ⟨v0, v1, v2, v3, v4, v5, v6, hv⟩ := HY.out.seven
      have hxl := hx.len
      have hyl := hy.len
      rw [List.length_map] at hxl hyl
      have hw1 := hxW.len
      dsimp only at hxl hyl hw1 u0 u1 u2 u3 u4 u5 u6 v0 v1 v2 v3 v4 v5 v6
      have HN := fun (h : ¬ ((Ob.mk xk xn xd xp xs xt xl) = (Ob.mk yk yn yd yp ys yt yl))) => Lib.hid (fun e => h (HI.out.2 e))
      by_cases hk : xk = yk
      case neg =>
        have hz : (xk != yk) = true := by rw [bne_iff_ne]; exact hk
        have HF := HN (fun e => hk (by injection e))
        clear HN hk hxl hyl
        go_wp2
        go_ret
        exact ⟨false, rfl, iff_no HF.out, hb⟩
      subst hk
      by_cases hn : xn = yn
      case neg =>
        have hz : (xn == yn) = false := by rw [beq_eq_false_iff_ne]; exact hn
        have HF := HN (fun e => hn (by injection e))
        clear HN hn hxl hyl
        go_wp2
        go_ret
        exact ⟨false, rfl, iff_no HF.out, hb⟩
      subst hn
      by_cases hd : xd = yd
      case neg =>
        have hz : (xd == yd) = false := by rw [beq_eq_false_iff_ne]; exact hd
        have HF := HN (fun e => hd (by injection e))
        clear HN hd hxl hyl
        go_wp2
        go_ret
        exact ⟨false, rfl, iff_no HF.out, hb⟩
      subst hd
      by_cases hp : xp = yp
      case neg =>
        have hz : (xp == yp) = false := by rw [beq_eq_false_iff_ne]; exact hp
        have HF := HN (fun e => hp (by injection e))
        clear HN hp hxl hyl
        go_wp2
        go_ret
        exact ⟨false, rfl, iff_no HF.out, hb⟩
      subst hp
      by_cases hs : xs = ys
      case neg =>
        have hz : (xs == ys) = false := by rw [beq_eq_false_iff_ne]; exact hs
        have HF := HN (fun e => hs (by injection e))
        clear HN hs hxl hyl
        go_wp2
        go_ret
        exact ⟨false, rfl, iff_no HF.out, hb⟩
      subst hs
      by_cases ht : xt = yt
      case neg =>
        have hz : (xt == yt) = false := by rw [beq_eq_false_iff_ne]; exact ht
        have HF := HN (fun e => ht (by injection e))
        clear HN ht hxl hyl
        go_wp2
        go_ret
        exact ⟨false, rfl, iff_no HF.out, hb⟩
      subst ht
      by_cases hl : n2 = n3
      case neg =>
        have hz : ((n2 : Int) != (n3 : Int)) = true := by rw [bne_iff_ne]; omega
        have HF := HN (fun e => hl (by injection e with _ _ _ _ _ _ e; rw [← hxl, ← hyl, e]))
        clear HN hl hxl hyl
        go_wp2
        go_ret
        exact ⟨false, rfl, iff_no HF.out, hb⟩
      subst hl
      clear HN
      have HXL := Lib.hid hxl
      have HYL := Lib.hid hyl
      rw [hxl] at hw1
      clear hxl hyl
      by_cases h0 : n2 = 0
      · subst h0
        have HT : Hid (a = b) := HI.out.1 (by rw [List.eq_nil_of_length_eq_zero HXL.out, List.eq_nil_of_length_eq_zero HYL.out])
        go_wp2
        go_ret
        exact ⟨true, rfl, iff_yes HT.out, hb⟩
      · have hz0 : ((n2 : Int) == 0) = false := by rw [beq_eq_false_iff_ne]; omega
        go_wp2
        clear u0 u1 u2 u3 u4 u5 u6 hu v0 v1 v2 v3 v4 v5 v6 hv
        go_loopw [56] (fun ix wq => ∃ i : Nat, i ≤ n2 - 1 ∧ ix = .int .i64 i ∧ Hid (∀ j (h1 : j < xl.length) (h2 : j < yl.length), j < i → xl[j] = yl[j]) ∧ Hid (BlkIs wq w.heap.size 36 (obCells ⟨xk, xn, xd, xp, xs, xt, xl⟩ (.slice A2 n2 c2))) ∧ Hid (BlkIs wq (w.heap.size + 1) 36 (obCells ⟨xk, xn, xd, xp, xs, xt, yl⟩ (.slice A3 n2 c3))) ∧ Below w.heap.size w wq) (fun ix _ => n2 - 1 - (intOf ix).toNat)
        case atStart => exact ⟨0, Nat.zero_le _, rfl, Lib.hid (fun j _ _ h => absurd h (by omega)), HX, HY, hb⟩
        case round =>
          clear HX HY hb
          obtain ⟨i, hi, rfl, HJ, HX, HY, hb⟩ := hrel
          obtain ⟨u0, u1, u2, u3, u4, u5, u6, hu⟩ := HX.out.seven
          obtain ⟨v0, v1, v2, v3, v4, v5, v6, hv⟩ := HY.out.seven
          obtain ⟨f0, f1, f2, f3, f4, f5, f6⟩ := HX.out.frozen7
          obtain ⟨g0, g1, g2, g3, g4, g5, g6⟩ := HY.out.frozen7
          by_cases hin : i < n2 - 1
          · obtain ⟨p1, q1, hil, A4, n4, c4, rfl, hp1, _, a0, a1, a2, a3, a4, a5, a6, ha⟩ := hx.objs hb (i := i) (by omega)
            obtain ⟨p2, q2, hil', A5, n5, c5, rfl, hp2, _, b0, b1, b2, b3, b4, b5, b6, hb'⟩ := hy.objs hb (i := i) (by omega)
            have hp1' := Nat.lt_of_lt_of_le hp1 hb.size
            have hp2' := Nat.lt_of_lt_of_le hp2 hb.size
            have hsz := Ob.size_pair (o := ⟨xk, xn, xd, xp, xs, xt, xl⟩) (x := xl[i]) (List.getElem_mem hil)
            have hwf := hxW.kids (x := xl[i]) (List.getElem_mem hil)
            have HC : Hid (∀ wd : World, Below w.heap.size w wd → Calls Tryz.prog 53 #[objV xl[i] (.slice A4 n4 c4), objV yl[i] (.slice A5 n5 c5)] wd (RetEq (xl[i] = yl[i]) wd)) := fun wd hd => ih xl[i] yl[i] (by omega) hwf A4 A5 n4 n5 c4 c5 wd (ha.under hd) (hb'.under hd)
            have hi1 : (0 : Int) ≤ (i : Int) := by omega
            have hi2 : (i : Int) < n2 := by omega
            have hi3 : i < n2 := by omega
            have hbd := hb.drew
            go_upto_region 9 with (fail)
            go_still_tail 10, (by kernel_rfl)
            go_wp2_with fail
            refine (HC.out _ hbd).mono ?_
            rintro e w1 ⟨bb, rfl, hbb, hb1⟩
            have hbw1 := then_ hbd hb1
            cases bb with
            | false =>
              have HF : Hid (¬ a = b) := fun e => by
                have e2 := HI.out.2 e
                injection e2 with _ _ _ _ _ _ e2
                have := hbb.2 (by subst e2; rfl)
                cases this
              clear hbb
              go_wp2
              go_ret
              exact ⟨false, rfl, iff_no HF.out, hbw1⟩
            | true =>
              have HE := Lib.hid (hbb.1 rfl)
              clear hbb
              go_wp2
              go_roundw
              case rel => exact ⟨i + 1, by omega, by go_num, Lib.hid (fun j h1 h2 h => by
                rcases Nat.lt_or_ge j i with h3 | h3
                · exact HJ.out j h1 h2 h3
                · obtain rfl : j = i := by omega
                  exact HE.out), Lib.hid (HX.out.drew.below hb1), Lib.hid (HY.out.drew.below hb1), hbw1⟩
              case measure => simp only [intOf]; omega
          · obtain rfl : i = n2 - 1 := by omega
            obtain ⟨p1, q1, hil, A4, n4, c4, rfl, hp1, _, a0, a1, a2, a3, a4, a5, a6, ha⟩ := hx.objs hb (i := n2 - 1) (by omega)
            obtain ⟨p2, q2, hil', A5, n5, c5, rfl, hp2, _, b0, b1, b2, b3, b4, b5, b6, hb'⟩ := hy.objs hb (i := n2 - 1) (by omega)
            have hp1' := Nat.lt_of_lt_of_le hp1 hb.size
            have hp2' := Nat.lt_of_lt_of_le hp2 hb.size
            have hsz := Ob.size_pair (o := ⟨xk, xn, xd, xp, xs, xt, xl⟩) (x := xl[n2 - 1]) (List.getElem_mem hil)
            have hwf := hxW.kids (x := xl[n2 - 1]) (List.getElem_mem hil)
            have HL := Lib.hid (init_last HXL.out HYL.out (by omega) HJ.out)
            have hi1 : (0 : Int) ≤ (n2 : Int) - 1 := by omega
            have hi2 : (n2 : Int) - 1 < n2 := by omega
            have hi3 : ((n2 : Int) - 1).toNat = n2 - 1 := by omega
            have hbd := hb.drew
            go_upto_region 12 with (fail)
            have w1 : IntKind.i64.wrap ((n2 : Int) - 1) = (n2 : Int) - 1 := IntWalk.i64_in _ (by omega)
            go_region
            clear w1
            go_wp2
            go_roundg (xl[n2 - 1].size)
            case measure => omega
            case rel =>
              exact ⟨xl[n2 - 1], yl[n2 - 1], A4, A5, n4, n5, c4, c5, Lib.hid ((HX.out.put7.far7 (by omega) _ _ _ _ _ _ _).drew), Lib.hid ((HY.out.far7 (by omega) _ _ _ _ _ _ _).put7.drew), ha, hb', by omega, hwf, Lib.hid (HL.out.trans ((ob_iff xk xn xd xp xs xt xl yl).trans HI.out)), Nat.le_refl _, (set7 (set7 hb (Nat.le_refl _) _ _ _ _ _ _ _) (Nat.le_succ _) _ _ _ _ _ _ _).drew⟩
end Go.Proofs.YtmkcnjfhdfanoaaGreatDoor
/- lispproverlaw2.first returns true; object.Compare at a string and a symbol. -/
namespace Go.Proofs.YtmkcnjfhdfanoaaGreatDoor
open Go.RowKit

/-- numerator and denominator as strings -/
def sn (q : Rat) : List UInt8 := Lib.itoa q.num
def sd (q : Rat) : List UInt8 := Lib.itoa (q.den : Int)
abbrev nv (q : Rat) (A : Option Addr) (c : Nat) : Value := objV (numO (sn q) (sd q)) (.slice A 0 c)
end Go.Proofs.YtmkcnjfhdfanoaaGreatDoor
