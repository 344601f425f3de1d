/- number.Reduce. -/
import Derived.Test.YtcdgckbdplkdbaaDoorNumH
namespace Go.Proofs.YtcdgckbdplkdbaaDoor
open Go.RowKit

def rdX (x y : Int) : Int := if y < 0 then -x else x
def rdY (y : Int) : Int := if y < 0 then -y else y
def rdN (x y : Int) : Int := if y = 0 then 0 else qd (rdX x y) (Nat.gcd x.natAbs y.natAbs : Nat)
def rdD (x y : Int) : Int := if y = 0 then 1 else qd (rdY y) (Nat.gcd x.natAbs y.natAbs : Nat)
theorem qd_one (x : Int) : qd x 1 = x := by simp [qd]
theorem itoa_one : Lib.itoa 1 = [49] := by decide +kernel
theorem itoa_eq_one {v : Int} : (Lib.itoa v == [49]) = decide (v = 1) := by
  rw [← itoa_one]
  by_cases h : v = 1
  · subst h; simp
  · rw [decide_eq_false h, beq_eq_false_iff_ne]
    exact fun e => h (Dec.itoa_inj e)
theorem norm_len2 (l : List UInt8) : (Lib.itoa (Dec.dval l)).length ≤ l.length + 1 := by rw [← norm_eq]; exact norm_length l

theorem gcd_len {K : Nat} {x y : Int} (hK : 1 ≤ K) (hx : x.natAbs < 10 ^ K) (hy : y.natAbs < 10 ^ K) : (Lib.itoa (Nat.gcd x.natAbs y.natAbs : Nat)).length ≤ K + 1 := by
  have h : Nat.gcd x.natAbs y.natAbs < 10 ^ K := by
    rcases Nat.eq_zero_or_pos x.natAbs with h1 | h1
    · rw [h1, Nat.gcd_zero_left]; exact hy
    · exact Nat.lt_of_le_of_lt (Nat.gcd_le_left _ h1) hx
  exact itoa_length_any ((Nat.gcd x.natAbs y.natAbs : Nat) : Int) hK (by rw [Int.natAbs_natCast]; exact h)
set_option maxHeartbeats 2000000 in
set_option maxRecDepth 100000 in
theorem reduceN_any (a b : List UInt8) (w : World) (ha : a.length ≤ 400000) (hb : b.length ≤ 400000) (ht : Tab w) :
    Calls Tryd.prog 22 #[.string ⟨a.toArray⟩, .string ⟨b.toArray⟩] w (RetStr2 (Lib.itoa (rdN (Dec.dval a) (Dec.dval b))) (Lib.itoa (rdD (Dec.dval a) (Dec.dval b))) w) := by
  have hda := decimal_any a w (by omega)
  have hdb : ∀ w', Calls Tryd.prog 37 #[.string ⟨b.toArray⟩] w' fun e w'' => e = .returned (.string ⟨(norm b).toArray⟩) ∧ w' = w'' := fun w' => decimal_any b w' (by omega)
  rw [norm_eq] at hda
  simp only [norm_eq] at hdb
  have hla := norm_len2 a
  have hlb := norm_len2 b
  have hba := dval_lt18 (l := a) (k := a.length + b.length + 1) (by omega)
  have hbb := dval_lt18 (l := b) (k := a.length + b.length + 1) (by omega)
  generalize Dec.dval a = x at *
  generalize Dec.dval b = y at *
  have hgl0 : (Lib.itoa (Nat.gcd x.natAbs y.natAbs : Nat)).length ≤ 850000 := by have := gcd_len (by omega) hba hbb; omega
  have hnx := itoa_length_any (-x) (k := a.length + b.length + 1) (by omega) (by rw [Int.natAbs_neg]; exact hba)
  have hny := itoa_length_any (-y) (k := a.length + b.length + 1) (by omega) (by rw [Int.natAbs_neg]; exact hbb)
  have HA := Lib.hid hda
  have HB := Lib.hid hdb
  clear hda hdb hba hbb
  by_cases hy0 : y = 0
  · subst hy0
    have HRN : Hid (rdN x 0 = 0) := rfl
    have HRD : Hid (rdD x 0 = 1) := rfl
    have hz := Dec.itoa_zero
    rw [hz] at HB
    clear hz
    go_enter Tryd.func22, Tryd.ntmps22
    go_wp2_with fail
    refine HA.out.mono ?_
    rintro e w' ⟨rfl, rfl⟩
    go_wp2_with fail
    refine (HB.out _).mono ?_
    rintro e w' ⟨rfl, rfl⟩
    go_wp2
    go_ret2
    exact ⟨by rw [HRN.out, HRD.out, Dec.itoa_zero, itoa_one]; rfl, Below.refl _ _⟩
  obtain ⟨D1, hD1⟩ : ∃ D1 : ByteArray, D1 = ⟨(Lib.itoa x).toArray⟩ := ⟨_, rfl⟩
  obtain ⟨D2, hD2⟩ : ∃ D2 : ByteArray, D2 = ⟨(Lib.itoa y).toArray⟩ := ⟨_, rfl⟩
  rw [← hD1] at HA
  rw [← hD2] at HB
  have HT2 : Hid (D2.data.toList = Lib.itoa y) := by rw [hD2]; exact (rfl : (Lib.itoa y).toArray.toList = _)
  have HD1 := Lib.hid hD1
  have HD2 := Lib.hid hD2
  clear hD1 hD2
  have hE0 : (D2.toList == [48]) = false := by rw [Lib.toList_data, HT2.out]; simpa using itoa_ne_zero hy0
  by_cases hy1 : y = 1
  · subst hy1
    have hE1 : (D2.toList == [49]) = true := by rw [Lib.toList_data, HT2.out, itoa_one]; rfl
    have HRN : Hid (rdN x 1 = x) := by show _ = _; simp [rdN, rdX, qd_one]
    have HRD : Hid (rdD x 1 = 1) := by show _ = _; simp [rdD, rdY, qd_one]
    go_enter Tryd.func22, Tryd.ntmps22
    go_wp2_with fail
    refine HA.out.mono ?_
    rintro e w' ⟨rfl, rfl⟩
    go_wp2_with fail
    refine (HB.out _).mono ?_
    rintro e w' ⟨rfl, rfl⟩
    go_wp2
    go_ret2
    exact ⟨by rw [HRN.out, HRD.out, ← HD1.out, ← HD2.out]; rfl, Below.refl _ _⟩
  have hE1 : (D2.toList == [49]) = false := by rw [Lib.toList_data, HT2.out, itoa_eq_one, decide_eq_false hy1]
  by_cases hn : y < 0
  · obtain ⟨hp, e0⟩ := first_byte (HT2.out.trans (itoa_natNeg hn))
    have hb45 : ((D2[0].toNat : Int) == 45) = true := by rw [e0]; rfl
    have HN1 : Hid (∀ w', Calls Tryd.prog 28 #[.string D1] w' (RetPure (.string ⟨(Lib.itoa (-x)).toArray⟩) w')) := fun w' => by
      have := negate_any (Lib.itoa x) w' (by omega); rw [Dec.dval_itoa] at this; rw [HD1.out]; exact this
    have HN2 : Hid (∀ w', Calls Tryd.prog 28 #[.string D2] w' (RetPure (.string ⟨(Lib.itoa (-y)).toArray⟩) w')) := fun w' => by
      have := negate_any (Lib.itoa y) w' (by omega); rw [Dec.dval_itoa] at this; rw [HD2.out]; exact this
    have HRN0 : Hid (rdN x y = qd (-x) (Nat.gcd x.natAbs y.natAbs : Nat)) := by show _ = _; simp [rdN, rdX, hy0, hn]
    have HRD0 : Hid (rdD x y = qd (-y) (Nat.gcd x.natAbs y.natAbs : Nat)) := by show _ = _; simp [rdD, rdY, hy0, hn]
    have HGE0 : Hid (Nat.gcd (-x).natAbs (-y).natAbs = Nat.gcd x.natAbs y.natAbs) := by show _ = _; rw [Int.natAbs_neg, Int.natAbs_neg]
    have hlX : (Lib.itoa (-x)).length ≤ 900000 := by omega
    have hlY : (Lib.itoa (-y)).length ≤ 900000 := by omega
    clear e0 hy0 hy1 hn
    generalize -x = X at *
    generalize -y = Y at *
    have HGc := Lib.hid (gcdN_any (Lib.itoa X) (Lib.itoa Y) w hlX hlY ht)
    rw [Dec.dval_itoa, Dec.dval_itoa] at HGc
    have HGE : Hid (Nat.gcd X.natAbs Y.natAbs = Nat.gcd x.natAbs y.natAbs) := HGE0
    rw [HGE.out] at HGc
    have hgl : (Lib.itoa (Nat.gcd x.natAbs y.natAbs : Nat)).length ≤ 850000 := hgl0
    have hone := itoa_eq_one (v := (Nat.gcd x.natAbs y.natAbs : Nat))
    have HDX : Hid (∀ w', Tab w' → Calls Tryd.prog 39 #[.string ⟨(Lib.itoa X).toArray⟩, .string ⟨(Lib.itoa (Nat.gcd x.natAbs y.natAbs : Nat)).toArray⟩] w' (RetStr2 (Lib.itoa (qd X (Nat.gcd x.natAbs y.natAbs : Nat))) (Lib.itoa (rm X (Nat.gcd x.natAbs y.natAbs : Nat))) w')) := fun w' ht' => by
      have := divN_any (Lib.itoa X) (Lib.itoa (Nat.gcd x.natAbs y.natAbs : Nat)) w' hlX (by omega) ht'
      rwa [Dec.dval_itoa, Dec.dval_itoa] at this
    have HDY : Hid (∀ w', Tab w' → Calls Tryd.prog 39 #[.string ⟨(Lib.itoa Y).toArray⟩, .string ⟨(Lib.itoa (Nat.gcd x.natAbs y.natAbs : Nat)).toArray⟩] w' (RetStr2 (Lib.itoa (qd Y (Nat.gcd x.natAbs y.natAbs : Nat))) (Lib.itoa (rm Y (Nat.gcd x.natAbs y.natAbs : Nat))) w')) := fun w' ht' => by
      have := divN_any (Lib.itoa Y) (Lib.itoa (Nat.gcd x.natAbs y.natAbs : Nat)) w' hlY (by omega) ht'
      rwa [Dec.dval_itoa, Dec.dval_itoa] at this
    have HRN : Hid (rdN x y = qd X (Nat.gcd x.natAbs y.natAbs : Nat)) := HRN0
    have HRD : Hid (rdD x y = qd Y (Nat.gcd x.natAbs y.natAbs : Nat)) := HRD0
    generalize Nat.gcd x.natAbs y.natAbs = G at *
    by_cases hG1 : (G : Int) = 1
    · have HRN1 : Hid (rdN x y = X) := by show _ = _; rw [HRN.out, hG1, qd_one]
      have HRD1 : Hid (rdD x y = Y) := by show _ = _; rw [HRD.out, hG1, qd_one]
      rw [decide_eq_true hG1] at hone
      clear hG1
      go_enter Tryd.func22, Tryd.ntmps22
      go_wp2_with fail
      refine HA.out.mono ?_
      rintro e w' ⟨rfl, rfl⟩
      go_wp2_with fail
      refine (HB.out _).mono ?_
      rintro e w' ⟨rfl, rfl⟩
      go_wp2_with fail
      refine (HN1.out _).mono ?_
      rintro e w' ⟨rfl, rfl⟩
      go_wp2_with fail
      refine (HN2.out _).mono ?_
      rintro e w' ⟨rfl, rfl⟩
      go_wp2_with fail
      refine HGc.out.mono ?_
      rintro e w1 ⟨rfl, hb1⟩
      go_wp2
      go_ret2
      exact ⟨by rw [HRN1.out, HRD1.out]; rfl, hb1⟩
    · rw [decide_eq_false hG1] at hone
      clear hG1
      go_enter Tryd.func22, Tryd.ntmps22
      go_wp2_with fail
      refine HA.out.mono ?_
      rintro e w' ⟨rfl, rfl⟩
      go_wp2_with fail
      refine (HB.out _).mono ?_
      rintro e w' ⟨rfl, rfl⟩
      go_wp2_with fail
      refine (HN1.out _).mono ?_
      rintro e w' ⟨rfl, rfl⟩
      go_wp2_with fail
      refine (HN2.out _).mono ?_
      rintro e w' ⟨rfl, rfl⟩
      go_wp2_with fail
      refine HGc.out.mono ?_
      rintro e w1 ⟨rfl, hb1⟩
      go_wp2_with fail
      refine (HDX.out _ (ht.below hb1)).mono ?_
      rintro e w2 ⟨rfl, hb2⟩
      have hbw2 := hb1.trans (hb2.mono hb1.size)
      go_wp2_with fail
      refine (HDY.out _ (ht.below hbw2)).mono ?_
      rintro e w3 ⟨rfl, hb3⟩
      go_wp2
      go_ret2
      exact ⟨by rw [HRN.out, HRD.out]; rfl, hbw2.trans (hb3.mono hbw2.size)⟩
  · obtain ⟨c, r, hcr, _⟩ := Dec.decDigits_head (u := y.natAbs) (by omega)
    have hD3 : D2.data.toList = c :: r := by rw [HT2.out, itoa_natPos (by omega), hcr]
    obtain ⟨hp, e0⟩ := first_byte hD3
    have h45 : c ≠ 45 := Dec.head_ne45 (r := r) (by rw [← hcr]; exact Dec.digs_decDigits _)
    have hb45 : ((D2[0].toNat : Int) == 45) = false := by
      rw [e0, beq_eq_false_iff_ne]
      intro e
      exact h45 (UInt8.toNat_inj.1 (by have : c.toNat = 45 := by omega
                                       simpa using this))
    have HRN0 : Hid (rdN x y = qd x (Nat.gcd x.natAbs y.natAbs : Nat)) := by show _ = _; simp [rdN, rdX, hy0, hn]
    have HRD0 : Hid (rdD x y = qd y (Nat.gcd x.natAbs y.natAbs : Nat)) := by show _ = _; simp [rdD, rdY, hy0, hn]
    have HGE0 : Hid (Nat.gcd x.natAbs y.natAbs = Nat.gcd x.natAbs y.natAbs) := (rfl : Nat.gcd x.natAbs y.natAbs = _)
    have hlX : (Lib.itoa x).length ≤ 900000 := by omega
    have hlY : (Lib.itoa y).length ≤ 900000 := by omega
    clear e0 hy0 hy1 hn hD3 h45 hcr
    have HGc := Lib.hid (gcdN_any (Lib.itoa x) (Lib.itoa y) w hlX hlY ht)
    rw [Dec.dval_itoa, Dec.dval_itoa] at HGc
    have HGE : Hid (Nat.gcd x.natAbs y.natAbs = Nat.gcd x.natAbs y.natAbs) := HGE0
    have HGc := Lib.hid (show Calls Tryd.prog 38 #[.string D1, .string D2] w (RetStr (Lib.itoa (Nat.gcd x.natAbs y.natAbs : Nat)) w) by rw [HD1.out, HD2.out]; exact HGc.out)
    have hgl : (Lib.itoa (Nat.gcd x.natAbs y.natAbs : Nat)).length ≤ 850000 := hgl0
    have hone := itoa_eq_one (v := (Nat.gcd x.natAbs y.natAbs : Nat))
    have HDX : Hid (∀ w', Tab w' → Calls Tryd.prog 39 #[.string D1, .string ⟨(Lib.itoa (Nat.gcd x.natAbs y.natAbs : Nat)).toArray⟩] w' (RetStr2 (Lib.itoa (qd x (Nat.gcd x.natAbs y.natAbs : Nat))) (Lib.itoa (rm x (Nat.gcd x.natAbs y.natAbs : Nat))) w')) := fun w' ht' => by
      have := divN_any (Lib.itoa x) (Lib.itoa (Nat.gcd x.natAbs y.natAbs : Nat)) w' hlX (by omega) ht'
      rw [Dec.dval_itoa, Dec.dval_itoa] at this
      rw [HD1.out]; exact this
    have HDY : Hid (∀ w', Tab w' → Calls Tryd.prog 39 #[.string D2, .string ⟨(Lib.itoa (Nat.gcd x.natAbs y.natAbs : Nat)).toArray⟩] w' (RetStr2 (Lib.itoa (qd y (Nat.gcd x.natAbs y.natAbs : Nat))) (Lib.itoa (rm y (Nat.gcd x.natAbs y.natAbs : Nat))) w')) := fun w' ht' => by
      have := divN_any (Lib.itoa y) (Lib.itoa (Nat.gcd x.natAbs y.natAbs : Nat)) w' hlY (by omega) ht'
      rw [Dec.dval_itoa, Dec.dval_itoa] at this
      rw [HD2.out]; exact this
    have HRN : Hid (rdN x y = qd x (Nat.gcd x.natAbs y.natAbs : Nat)) := HRN0
    have HRD : Hid (rdD x y = qd y (Nat.gcd x.natAbs y.natAbs : Nat)) := HRD0
    generalize Nat.gcd x.natAbs y.natAbs = G at *
    by_cases hG1 : (G : Int) = 1
    · have HRN1 : Hid (rdN x y = x) := by show _ = _; rw [HRN.out, hG1, qd_one]
      have HRD1 : Hid (rdD x y = y) := by show _ = _; rw [HRD.out, hG1, qd_one]
      rw [decide_eq_true hG1] at hone
      clear hG1
      go_enter Tryd.func22, Tryd.ntmps22
      go_wp2_with fail
      refine HA.out.mono ?_
      rintro e w' ⟨rfl, rfl⟩
      go_wp2_with fail
      refine (HB.out _).mono ?_
      rintro e w' ⟨rfl, rfl⟩
      go_wp2_with fail
      refine HGc.out.mono ?_
      rintro e w1 ⟨rfl, hb1⟩
      go_wp2
      go_ret2
      exact ⟨by rw [HRN1.out, HRD1.out, ← HD1.out, ← HD2.out]; rfl, hb1⟩
    · rw [decide_eq_false hG1] at hone
      clear hG1
      go_enter Tryd.func22, Tryd.ntmps22
      go_wp2_with fail
      refine HA.out.mono ?_
      rintro e w' ⟨rfl, rfl⟩
      go_wp2_with fail
      refine (HB.out _).mono ?_
      rintro e w' ⟨rfl, rfl⟩
      go_wp2_with fail
      refine HGc.out.mono ?_
      rintro e w1 ⟨rfl, hb1⟩
      go_wp2_with fail
      refine (HDX.out _ (ht.below hb1)).mono ?_
      rintro e w2 ⟨rfl, hb2⟩
      have hbw2 := hb1.trans (hb2.mono hb1.size)
      go_wp2_with fail
      refine (HDY.out _ (ht.below hbw2)).mono ?_
      rintro e w3 ⟨rfl, hb3⟩
      go_wp2
      go_ret2
      exact ⟨by rw [HRN.out, HRD.out]; rfl, hbw2.trans (hb3.mono hbw2.size)⟩
end Go.Proofs.YtcdgckbdplkdbaaDoor
