/- number.Divide whole; number.Gcd; number.Reduce. -/
import Derived.Test.YtlbbfmijemnjdaaGreatDoorOC
import Derived.Deep.LoopGhost
import Derived.Test.YtlbbfmijemnjdaaGreatDoorOB
import Derived.Deep.RegionHeld3
import Derived.Deep.RegionLaw
import Derived.Deep.DeepCutAuto
import Derived.StillTailTactics
import Derived.Deep.QuietTactic
import Derived.BigQuiet
import Derived.Lib.Bytealg
import Derived.BigRegion
import Derived.IntWalk
import Derived.Test.YtlbbfmijemnjdaaGreatDoorOA
namespace Go.Proofs.YtlbbfmijemnjdaaGreatDoor
open Go.RowKit

theorem divN_any (a b : List UInt8) (w : World) (ha : a.length ≤ 2400000) (hb : b.length ≤ 2400000) (ht : Tab w) :
    Calls Tryz.prog 147 #[.string ⟨a.toArray⟩, .string ⟨b.toArray⟩] w (RetStr2 (Lib.itoa (qd (Dec.dval a) (Dec.dval b))) (Lib.itoa (rm (Dec.dval a) (Dec.dval b))) w) := by
  by_cases hy : Dec.dval b = 0
  · have := divN_zero a b w ha hb hy
    rw [hy, qd_zero, rm_zero, Dec.itoa_zero]
    exact this
  · generalize hx : Dec.dval a = x
    generalize hyv : Dec.dval b = y at hy
    cases hs : decide (y < 0) with
    | _ =>
      by_cases hd : decide (x < 0) = decide (y < 0)
      · obtain ⟨h1, h2⟩ := qd_same hy (hd.trans hs) hs
        exact divN_easy a b w ha hb ht x y hx hyv hy _ _ false (hd.trans hs) hs (by simp) (.inl rfl) _ _ (Lib.hid (numStr_eq (by simpa using h1))) (Lib.hid (numStr_eq h2))
      · have hd' : decide (x < 0) = !(decide (y < 0)) := by cases h1 : decide (x < 0) <;> cases h2 : decide (y < 0) <;> simp_all
        rw [hs] at hd'
        by_cases h0 : x.natAbs % y.natAbs = 0
        · obtain ⟨h1, h2⟩ := qd_diff0 hy hd' hs h0
          exact divN_easy a b w ha hb ht x y hx hyv hy _ _ true hd' hs (by simp) (.inr h0) _ _ (Lib.hid (numStr_eq (by simpa using h1))) (Lib.hid (by rw [h0, numStr_zero, h2, Dec.itoa_zero]))
        · obtain ⟨h1, h2⟩ := qd_diff hy hd' hs h0
          exact divN_hard a b w ha hb ht x y hx hyv hy _ _ true hd' hs (by simp) ⟨rfl, h0⟩ _ _ (Lib.hid (numStr_eq (by simpa using h1))) (Lib.hid (numStr_eq h2))

theorem field_limbs (s : Bool) (A : Option Addr) (n c : Nat) (w : World) : (Instr.field 176 (.agg #[.bool s, .slice A n c]) 1).run Tryz.prog w = .ok (.slice A n c) w := by kernel_rfl
set_option maxHeartbeats 1000000 in
set_option maxRecDepth 100000 in
theorem gcdN_any (a b : List UInt8) (w : World) (ha : a.length ≤ 2400000) (hb : b.length ≤ 2400000) (ht : Tab w) :
    Calls Tryz.prog 146 #[.string ⟨a.toArray⟩, .string ⟨b.toArray⟩] w (RetStr (Lib.itoa (Nat.gcd (Dec.dval a).natAbs (Dec.dval b).natAbs : Nat)) w) := by
  have HP1 : Hid (∀ w', Calls Tryz.prog 151 #[.string ⟨a.toArray⟩] w' (RetInt (a.length + 1) (Dec.dval a) w')) := fun w' => parse_any a w' (by omega)
  have HP2 : Hid (∀ w', Calls Tryz.prog 151 #[.string ⟨b.toArray⟩] w' (RetInt (b.length + 1) (Dec.dval b) w')) := fun w' => parse_any b w' (by omega)
  generalize Dec.dval a = x at *
  generalize Dec.dval b = y at *
  generalize hG : Nat.gcd x.natAbs y.natAbs = G
  have HG := Lib.hid hG
  clear hG
  have hfl := field_limbs
  go_enter Tryz.func146, Tryz.ntmps146
  go_wp2_with fail
  refine (HP1.out _).mono ?_
  rintro e w1 ⟨A1, n1, c1, rfl, hs1, hn1, hb1⟩
  go_wp2_with fail
  refine (HP2.out _).mono ?_
  rintro e w2 ⟨A2, n2, c2, rfl, hs2, hn2, hb2⟩
  have hbw2 := hb1.trans (hb2.mono hb1.size)
  go_wp2_with fail
  go_loopg [5, 6] y.natAbs (fun kx s5 s6 wr => ∃ (A B : Option Addr) (n c m d u v : Nat), s5 = .slice A n c ∧ s6 = .slice B m d ∧ Sl wr .u32 A n c (Dec.limbs 1000000000 u) ∧ Sl wr .u32 B m d (Dec.limbs 1000000000 v) ∧ n ≤ 2400001 ∧ m ≤ 2400001 ∧ v ≤ kx ∧ Hid (Nat.gcd u v = G) ∧ Below w.heap.size w wr)
  case atStart => exact ⟨A1, A2, n1, c1, n2, c2, _, _, rfl, rfl, hs1.below hb2, hs2, by omega, by omega, Nat.le_refl _, HG, hbw2⟩
  case round =>
    obtain ⟨A, B, n, c, m, d, u, v, rfl, rfl, hu, hv, hn, hm, hk, HGu, hb⟩ := hrel
    by_cases hm0 : 0 < m
    · have hv0 : 0 < v := by
        rcases Nat.eq_zero_or_pos v with e | e
        · subst e; have := hv.len; rw [Dec.limbs_zero] at this; simp at this; omega
        · exact e
      have hlr := length_limbs_mod (a := u) hv0 hv.len
      have hml := Nat.mod_lt u hv0
      have HGn : Hid (Nat.gcd v (u % v) = G) := by show _ = _; rw [← HGu.out, Nat.gcd_comm v, ← Nat.gcd_rec, Nat.gcd_comm]
      have HDv := Lib.hid (divide_any A B n m c d u v wr hu hv (by omega) (by omega) hv0)
      go_wp2_with (go_at_call 152; refine HDv.out.mono ?_; rintro e w3 ⟨A3, n3, c3, A4, n4, c4, rfl, hs3, hs4, hb3⟩; have hn4 : n4 ≤ m := (by rw [← hs4.len]; exact hlr))
      go_roundg (u % v)
      case measure => omega
      case rel => exact ⟨B, A4, m, d, n4, c4, v, u % v, rfl, rfl, hv.below hb3, hs4, hm, by omega, Nat.le_refl _, HGn, hb.trans (hb3.mono hb.size)⟩
    · have hv0 : v = 0 := (Dec.limbs_eq_nil (B := 1000000000) (by omega)).1 (List.eq_nil_of_length_eq_zero (by rw [hv.len]; omega))
      subst hv0
      have HE : Hid (numStr false u = Lib.itoa (G : Int)) := by show _ = _; rw [← HGu.out, Nat.gcd_zero_right]; rfl
      go_wp2_with fail
      refine (string_any false A n c u _ hu (by omega) (ht.below hb)).mono ?_
      rintro e w3 ⟨rfl, hb3⟩
      rw [HE.out]
      go_wp2
      go_ret
      exact ⟨rfl, hb.trans (hb3.mono hb.size)⟩
end Go.Proofs.YtlbbfmijemnjdaaGreatDoor
/- number.Reduce. -/
namespace Go.Proofs.YtlbbfmijemnjdaaGreatDoor
open Go.RowKit

def rdX (x y : Int) : Int := if y < 0 then -x else x
def rdY (y : Int) : Int := if y < 0 then -y else y
def rdN (x y : Int) : Int := if y = 0 then 0 else qd (rdX x y) (Nat.gcd x.natAbs y.natAbs : Nat)
def rdD (x y : Int) : Int := if y = 0 then 1 else qd (rdY y) (Nat.gcd x.natAbs y.natAbs : Nat)
theorem qd_one (x : Int) : qd x 1 = x := by simp [qd]
theorem itoa_one : Lib.itoa 1 = [49] := by decide +kernel
theorem itoa_eq_one {v : Int} : (Lib.itoa v == [49]) = decide (v = 1) := by
  rw [← itoa_one]
  by_cases h : v = 1
  · subst h; simp
  · rw [decide_eq_false h, beq_eq_false_iff_ne]
    exact fun e => h (Dec.itoa_inj e)
theorem norm_len2 (l : List UInt8) : (Lib.itoa (Dec.dval l)).length ≤ l.length + 1 := by rw [← norm_eq]; exact norm_length l

theorem gcd_len {K : Nat} {x y : Int} (hK : 1 ≤ K) (hx : x.natAbs < 10 ^ K) (hy : y.natAbs < 10 ^ K) : (Lib.itoa (Nat.gcd x.natAbs y.natAbs : Nat)).length ≤ K + 1 := by
  have h : Nat.gcd x.natAbs y.natAbs < 10 ^ K := by
    rcases Nat.eq_zero_or_pos x.natAbs with h1 | h1
    · rw [h1, Nat.gcd_zero_left]; exact hy
    · exact Nat.lt_of_le_of_lt (Nat.gcd_le_left _ h1) hx
  exact itoa_length_any ((Nat.gcd x.natAbs y.natAbs : Nat) : Int) hK (by rw [Int.natAbs_natCast]; exact h)
set_option maxHeartbeats 2000000 in
set_option maxRecDepth 100000 in
theorem reduceN_any (a b : List UInt8) (w : World) (ha : a.length ≤ 1100000) (hb : b.length ≤ 1100000) (ht : Tab w) :
    Calls Tryz.prog 134 #[.string ⟨a.toArray⟩, .string ⟨b.toArray⟩] w (RetStr2 (Lib.itoa (rdN (Dec.dval a) (Dec.dval b))) (Lib.itoa (rdD (Dec.dval a) (Dec.dval b))) w) := by
  have hda := decimal_any a w (by omega)
  have hdb : ∀ w', Calls Tryz.prog 144 #[.string ⟨b.toArray⟩] w' fun e w'' => e = .returned (.string ⟨(norm b).toArray⟩) ∧ w' = w'' := fun w' => decimal_any b w' (by omega)
  rw [norm_eq] at hda
  simp only [norm_eq] at hdb
  have hla := norm_len2 a
  have hlb := norm_len2 b
  have hba := dval_lt18 (l := a) (k := a.length + b.length + 1) (by omega)
  have hbb := dval_lt18 (l := b) (k := a.length + b.length + 1) (by omega)
  generalize Dec.dval a = x at *
  generalize Dec.dval b = y at *
  have hgl0 : (Lib.itoa (Nat.gcd x.natAbs y.natAbs : Nat)).length ≤ 2300000 := by have := gcd_len (by omega) hba hbb; omega
  have hnx := itoa_length_any (-x) (k := a.length + b.length + 1) (by omega) (by rw [Int.natAbs_neg]; exact hba)
  have hny := itoa_length_any (-y) (k := a.length + b.length + 1) (by omega) (by rw [Int.natAbs_neg]; exact hbb)
  have HA := Lib.hid hda
  have HB := Lib.hid hdb
  clear hda hdb hba hbb
  by_cases hy0 : y = 0
  · subst hy0
    have HRN : Hid (rdN x 0 = 0) := rfl
    have HRD : Hid (rdD x 0 = 1) := rfl
    have hz := Dec.itoa_zero
    rw [hz] at HB
    clear hz
    go_enter Tryz.func134, Tryz.ntmps134
    go_wp2_with fail
    refine HA.out.mono ?_
    rintro e w' ⟨rfl, rfl⟩
    go_wp2_with fail
    refine (HB.out _).mono ?_
    rintro e w' ⟨rfl, rfl⟩
    go_wp2
    go_ret2
    exact ⟨by rw [HRN.out, HRD.out, Dec.itoa_zero, itoa_one]; rfl, Below.refl _ _⟩
  obtain ⟨D1, hD1⟩ : ∃ D1 : ByteArray, D1 = ⟨(Lib.itoa x).toArray⟩ := ⟨_, rfl⟩
  obtain ⟨D2, hD2⟩ : ∃ D2 : ByteArray, D2 = ⟨(Lib.itoa y).toArray⟩ := ⟨_, rfl⟩
  rw [← hD1] at HA
  rw [← hD2] at HB
  have HT2 : Hid (D2.data.toList = Lib.itoa y) := by rw [hD2]; exact (rfl : (Lib.itoa y).toArray.toList = _)
  have HD1 := Lib.hid hD1
  have HD2 := Lib.hid hD2
  clear hD1 hD2
  have hE0 : (D2.toList == [48]) = false := by rw [Lib.toList_data, HT2.out]; simpa using itoa_ne_zero hy0
  by_cases hy1 : y = 1
  · subst hy1
    have hE1 : (D2.toList == [49]) = true := by rw [Lib.toList_data, HT2.out, itoa_one]; rfl
    have HRN : Hid (rdN x 1 = x) := by show _ = _; simp [rdN, rdX, qd_one]
    have HRD : Hid (rdD x 1 = 1) := by show _ = _; simp [rdD, rdY, qd_one]
    go_enter Tryz.func134, Tryz.ntmps134
    go_wp2_with fail
    refine HA.out.mono ?_
    rintro e w' ⟨rfl, rfl⟩
    go_wp2_with fail
    refine (HB.out _).mono ?_
    rintro e w' ⟨rfl, rfl⟩
    go_wp2
    go_ret2
    exact ⟨by rw [HRN.out, HRD.out, ← HD1.out, ← HD2.out]; rfl, Below.refl _ _⟩
  have hE1 : (D2.toList == [49]) = false := by rw [Lib.toList_data, HT2.out, itoa_eq_one, decide_eq_false hy1]
  by_cases hn : y < 0
  · obtain ⟨hp, e0⟩ := first_byte (HT2.out.trans (itoa_natNeg hn))
    have hb45 : ((D2[0].toNat : Int) == 45) = true := by rw [e0]; rfl
    have HN1 : Hid (∀ w', Calls Tryz.prog 145 #[.string D1] w' (RetPure (.string ⟨(Lib.itoa (-x)).toArray⟩) w')) := fun w' => by
      have := negate_any (Lib.itoa x) w' (by omega); rw [Dec.dval_itoa] at this; rw [HD1.out]; exact this
    have HN2 : Hid (∀ w', Calls Tryz.prog 145 #[.string D2] w' (RetPure (.string ⟨(Lib.itoa (-y)).toArray⟩) w')) := fun w' => by
      have := negate_any (Lib.itoa y) w' (by omega); rw [Dec.dval_itoa] at this; rw [HD2.out]; exact this
    have HRN0 : Hid (rdN x y = qd (-x) (Nat.gcd x.natAbs y.natAbs : Nat)) := by show _ = _; simp [rdN, rdX, hy0, hn]
    have HRD0 : Hid (rdD x y = qd (-y) (Nat.gcd x.natAbs y.natAbs : Nat)) := by show _ = _; simp [rdD, rdY, hy0, hn]
    have HGE0 : Hid (Nat.gcd (-x).natAbs (-y).natAbs = Nat.gcd x.natAbs y.natAbs) := by show _ = _; rw [Int.natAbs_neg, Int.natAbs_neg]
    have hlX : (Lib.itoa (-x)).length ≤ 2400000 := by omega
    have hlY : (Lib.itoa (-y)).length ≤ 2400000 := by omega
    clear e0 hy0 hy1 hn
    generalize -x = X at *
    generalize -y = Y at *
    have HGc := Lib.hid (gcdN_any (Lib.itoa X) (Lib.itoa Y) w hlX hlY ht)
    rw [Dec.dval_itoa, Dec.dval_itoa] at HGc
    have HGE : Hid (Nat.gcd X.natAbs Y.natAbs = Nat.gcd x.natAbs y.natAbs) := HGE0
    rw [HGE.out] at HGc
    have hgl : (Lib.itoa (Nat.gcd x.natAbs y.natAbs : Nat)).length ≤ 2300000 := hgl0
    have hone := itoa_eq_one (v := (Nat.gcd x.natAbs y.natAbs : Nat))
    have HDX : Hid (∀ w', Tab w' → Calls Tryz.prog 147 #[.string ⟨(Lib.itoa X).toArray⟩, .string ⟨(Lib.itoa (Nat.gcd x.natAbs y.natAbs : Nat)).toArray⟩] w' (RetStr2 (Lib.itoa (qd X (Nat.gcd x.natAbs y.natAbs : Nat))) (Lib.itoa (rm X (Nat.gcd x.natAbs y.natAbs : Nat))) w')) := fun w' ht' => by
      have := divN_any (Lib.itoa X) (Lib.itoa (Nat.gcd x.natAbs y.natAbs : Nat)) w' hlX (by omega) ht'
      rwa [Dec.dval_itoa, Dec.dval_itoa] at this
    have HDY : Hid (∀ w', Tab w' → Calls Tryz.prog 147 #[.string ⟨(Lib.itoa Y).toArray⟩, .string ⟨(Lib.itoa (Nat.gcd x.natAbs y.natAbs : Nat)).toArray⟩] w' (RetStr2 (Lib.itoa (qd Y (Nat.gcd x.natAbs y.natAbs : Nat))) (Lib.itoa (rm Y (Nat.gcd x.natAbs y.natAbs : Nat))) w')) := fun w' ht' => by
      have := divN_any (Lib.itoa Y) (Lib.itoa (Nat.gcd x.natAbs y.natAbs : Nat)) w' hlY (by omega) ht'
      rwa [Dec.dval_itoa, Dec.dval_itoa] at this
    have HRN : Hid (rdN x y = qd X (Nat.gcd x.natAbs y.natAbs : Nat)) := HRN0
    have HRD : Hid (rdD x y = qd Y (Nat.gcd x.natAbs y.natAbs : Nat)) := HRD0
    generalize Nat.gcd x.natAbs y.natAbs = G at *
    by_cases hG1 : (G : Int) = 1
    · have HRN1 : Hid (rdN x y = X) := by show _ = _; rw [HRN.out, hG1, qd_one]
      have HRD1 : Hid (rdD x y = Y) := by show _ = _; rw [HRD.out, hG1, qd_one]
      rw [decide_eq_true hG1] at hone
      clear hG1
      go_enter Tryz.func134, Tryz.ntmps134
      go_wp2_with fail
      refine HA.out.mono ?_
      rintro e w' ⟨rfl, rfl⟩
      go_wp2_with fail
      refine (HB.out _).mono ?_
      rintro e w' ⟨rfl, rfl⟩
      go_wp2_with fail
      refine (HN1.out _).mono ?_
      rintro e w' ⟨rfl, rfl⟩
      go_wp2_with fail
      refine (HN2.out _).mono ?_
      rintro e w' ⟨rfl, rfl⟩
      go_wp2_with fail
      refine HGc.out.mono ?_
      rintro e w1 ⟨rfl, hb1⟩
      go_wp2
      go_ret2
      exact ⟨by rw [HRN1.out, HRD1.out]; rfl, hb1⟩
    · rw [decide_eq_false hG1] at hone
      clear hG1
      go_enter Tryz.func134, Tryz.ntmps134
      go_wp2_with fail
      refine HA.out.mono ?_
      rintro e w' ⟨rfl, rfl⟩
      go_wp2_with fail
      refine (HB.out _).mono ?_
      rintro e w' ⟨rfl, rfl⟩
      go_wp2_with fail
      refine (HN1.out _).mono ?_
      rintro e w' ⟨rfl, rfl⟩
      go_wp2_with fail
      refine (HN2.out _).mono ?_
      rintro e w' ⟨rfl, rfl⟩
      go_wp2_with fail
      refine HGc.out.mono ?_
      rintro e w1 ⟨rfl, hb1⟩
      go_wp2_with fail
      refine (HDX.out _ (ht.below hb1)).mono ?_
      rintro e w2 ⟨rfl, hb2⟩
      have hbw2 := hb1.trans (hb2.mono hb1.size)
      go_wp2_with fail
      refine (HDY.out _ (ht.below hbw2)).mono ?_
      rintro e w3 ⟨rfl, hb3⟩
      go_wp2
      go_ret2
      exact ⟨by rw [HRN.out, HRD.out]; rfl, hbw2.trans (hb3.mono hbw2.size)⟩
  · obtain ⟨c, r, hcr, _⟩ := Dec.decDigits_head (u := y.natAbs) (by omega)
    have hD3 : D2.data.toList = c :: r := by rw [HT2.out, itoa_natPos (by omega), hcr]
    obtain ⟨hp, e0⟩ := first_byte hD3
    have h45 : c ≠ 45 := Dec.head_ne45 (r := r) (by rw [← hcr]; exact Dec.digs_decDigits _)
    have hb45 : ((D2[0].toNat : Int) == 45) = false := by
      rw [e0, beq_eq_false_iff_ne]
      intro e
      exact h45 (UInt8.toNat_inj.1 (by have : c.toNat = 45 := by omega
                                       simpa using this))
    have HRN0 : Hid (rdN x y = qd x (Nat.gcd x.natAbs y.natAbs : Nat)) := by show _ = _; simp [rdN, rdX, hy0, hn]
    have HRD0 : Hid (rdD x y = qd y (Nat.gcd x.natAbs y.natAbs : Nat)) := by show _ = _; simp [rdD, rdY, hy0, hn]
    have HGE0 : Hid (Nat.gcd x.natAbs y.natAbs = Nat.gcd x.natAbs y.natAbs) := (rfl : Nat.gcd x.natAbs y.natAbs = _)
    have hlX : (Lib.itoa x).length ≤ 2400000 := by omega
    have hlY : (Lib.itoa y).length ≤ 2400000 := by omega
    clear e0 hy0 hy1 hn hD3 h45 hcr
    have HGc := Lib.hid (gcdN_any (Lib.itoa x) (Lib.itoa y) w hlX hlY ht)
    rw [Dec.dval_itoa, Dec.dval_itoa] at HGc
    have HGE : Hid (Nat.gcd x.natAbs y.natAbs = Nat.gcd x.natAbs y.natAbs) := HGE0
    have HGc := Lib.hid (show Calls Tryz.prog 146 #[.string D1, .string D2] w (RetStr (Lib.itoa (Nat.gcd x.natAbs y.natAbs : Nat)) w) by rw [HD1.out, HD2.out]; exact HGc.out)
    have hgl : (Lib.itoa (Nat.gcd x.natAbs y.natAbs : Nat)).length ≤ 2300000 := hgl0
    have hone := itoa_eq_one (v := (Nat.gcd x.natAbs y.natAbs : Nat))
    have HDX : Hid (∀ w', Tab w' → Calls Tryz.prog 147 #[.string D1, .string ⟨(Lib.itoa (Nat.gcd x.natAbs y.natAbs : Nat)).toArray⟩] w' (RetStr2 (Lib.itoa (qd x (Nat.gcd x.natAbs y.natAbs : Nat))) (Lib.itoa (rm x (Nat.gcd x.natAbs y.natAbs : Nat))) w')) := fun w' ht' => by
      have := divN_any (Lib.itoa x) (Lib.itoa (Nat.gcd x.natAbs y.natAbs : Nat)) w' hlX (by omega) ht'
      rw [Dec.dval_itoa, Dec.dval_itoa] at this
      rw [HD1.out]; exact this
    have HDY : Hid (∀ w', Tab w' → Calls Tryz.prog 147 #[.string D2, .string ⟨(Lib.itoa (Nat.gcd x.natAbs y.natAbs : Nat)).toArray⟩] w' (RetStr2 (Lib.itoa (qd y (Nat.gcd x.natAbs y.natAbs : Nat))) (Lib.itoa (rm y (Nat.gcd x.natAbs y.natAbs : Nat))) w')) := fun w' ht' => by
      have := divN_any (Lib.itoa y) (Lib.itoa (Nat.gcd x.natAbs y.natAbs : Nat)) w' hlY (by omega) ht'
      rw [Dec.dval_itoa, Dec.dval_itoa] at this
      rw [HD2.out]; exact this
    have HRN : Hid (rdN x y = qd x (Nat.gcd x.natAbs y.natAbs : Nat)) := HRN0
    have HRD : Hid (rdD x y = qd y (Nat.gcd x.natAbs y.natAbs : Nat)) := HRD0
    generalize Nat.gcd x.natAbs y.natAbs = G at *
    by_cases hG1 : (G : Int) = 1
    · have HRN1 : Hid (rdN x y = x) := by show _ = _; rw [HRN.out, hG1, qd_one]
      have HRD1 : Hid (rdD x y = y) := by show _ = _; rw [HRD.out, hG1, qd_one]
      rw [decide_eq_true hG1] at hone
      clear hG1
      go_enter Tryz.func134, Tryz.ntmps134
      go_wp2_with fail
      refine HA.out.mono ?_
      rintro e w' ⟨rfl, rfl⟩
      go_wp2_with fail
      refine (HB.out _).mono ?_
      rintro e w' ⟨rfl, rfl⟩
      go_wp2_with fail
      refine HGc.out.mono ?_
      rintro e w1 ⟨rfl, hb1⟩
      go_wp2
      go_ret2
      exact ⟨by rw [HRN1.out, HRD1.out, ← HD1.out, ← HD2.out]; rfl, hb1⟩
    · rw [decide_eq_false hG1] at hone
      clear hG1
      go_enter Tryz.func134, Tryz.ntmps134
      go_wp2_with fail
      refine HA.out.mono ?_
      rintro e w' ⟨rfl, rfl⟩
      go_wp2_with fail
      refine (HB.out _).mono ?_
      rintro e w' ⟨rfl, rfl⟩
      go_wp2_with fail
      refine HGc.out.mono ?_
      rintro e w1 ⟨rfl, hb1⟩
      go_wp2_with fail
      refine (HDX.out _ (ht.below hb1)).mono ?_
      rintro e w2 ⟨rfl, hb2⟩
      have hbw2 := hb1.trans (hb2.mono hb1.size)
      go_wp2_with fail
      refine (HDY.out _ (ht.below hbw2)).mono ?_
      rintro e w3 ⟨rfl, hb3⟩
      go_wp2
      go_ret2
      exact ⟨by rw [HRN.out, HRD.out]; rfl, hbw2.trans (hb3.mono hbw2.size)⟩
end Go.Proofs.YtlbbfmijemnjdaaGreatDoor
/- The arithmetic of decimals in words of integers. -/
namespace Go.Proofs.YtlbbfmijemnjdaaGreatDoor
open Go.RowKit

end Go.Proofs.YtlbbfmijemnjdaaGreatDoor
/- number.Small: the value of a decimal of at most 9 digits. -/
namespace Go.Proofs.YtlbbfmijemnjdaaGreatDoor
open Go.RowKit

end Go.Proofs.YtlbbfmijemnjdaaGreatDoor
/- Lisp objects: a plain type, and how one lies in memory. -/
namespace Go.Proofs.YtlbbfmijemnjdaaGreatDoor
open Go.RowKit

/-- an object, all its fields -/
structure Ob where
  kind : Int
  num : List UInt8
  den : List UInt8
  sp : List UInt8
  sn : List UInt8
  text : List UInt8
  pair : List Ob
namespace Ob
mutual
def enc : Ob → List Dt
  | ⟨k, n, d, p, s, t, l⟩ => [.val (.int .i64 k), .val (str n), .val (str d), .val (str p), .val (str s), .val (str t), .row (encL l)]
def encL : List Ob → List (List Dt)
  | [] => []
  | o :: r => enc o :: encL r
end
mutual
/-- how many objects it holds, itself counted -/
def size : Ob → Nat
  | ⟨_, _, _, _, _, _, l⟩ => sizeL l + 1
def sizeL : List Ob → Nat
  | [] => 0
  | o :: r => size o + sizeL r
end
theorem encL_map (l : List Ob) : encL l = l.map enc := by
  induction l with
  | nil => rfl
  | cons o r ih => rw [encL, ih]; rfl
theorem enc_eq (o : Ob) : o.enc = [.val (.int .i64 o.kind), .val (str o.num), .val (str o.den), .val (str o.sp), .val (str o.sn), .val (str o.text), .row (o.pair.map enc)] := by
  cases o; rw [enc, encL_map]
theorem enc_len (o : Ob) : o.enc.length = 7 := by rw [enc_eq]; rfl
theorem size_pos (o : Ob) : 0 < o.size := by cases o; rw [size]; omega
theorem sizeL_mem {l : List Ob} {o : Ob} (h : o ∈ l) : o.size ≤ sizeL l := by
  induction l with
  | nil => cases h
  | cons x r ih =>
    rw [sizeL]
    rcases List.mem_cons.1 h with rfl | h
    · omega
    · have := ih h; omega
theorem size_pair {o x : Ob} (h : x ∈ o.pair) : x.size < o.size := by
  cases o with
  | mk k n d p s t l =>
    rw [size]
    have := sizeL_mem (l := l) h
    omega
/-- objects by their size -/
theorem ind {motive : Ob → Prop} (step : ∀ o, (∀ x ∈ o.pair, motive x) → motive o) (o : Ob) : motive o := by
  have : ∀ n (o : Ob), o.size ≤ n → motive o := by
    intro n
    induction n with
    | zero => intro o h; have := size_pos o; omega
    | succ n ih => intro o h; exact step o fun x hx => ih x (by have := size_pair hx; omega)
  exact this o.size o (Nat.le_refl _)
/-- lengths and kinds within Go's bounds, all the way down -/
inductive Wf : Ob → Prop
  | mk (o : Ob) (hk0 : -9223372036854775808 ≤ o.kind) (hk1 : o.kind ≤ 9223372036854775807) (hn : o.num.length ≤ 9223372036854775807) (hd : o.den.length ≤ 9223372036854775807) (hp : o.sp.length ≤ 9223372036854775807) (hs : o.sn.length ≤ 9223372036854775807) (ht : o.text.length ≤ 9223372036854775807) (hl : o.pair.length ≤ 9223372036854775807) (h : ∀ x ∈ o.pair, Wf x) : Wf o
theorem Wf.kids {o x : Ob} (h : o.Wf) (hx : x ∈ o.pair) : x.Wf := by
  cases h with
  | mk _ _ _ _ _ _ _ _ _ h => exact h x hx
theorem Wf.len {o : Ob} (h : o.Wf) : o.pair.length ≤ 9223372036854775807 := by
  cases h with
  | mk _ _ _ _ _ _ _ _ hl _ => exact hl
end Ob

/-- the value of an object, P being its last field -/
abbrev objV (o : Ob) (P : Value) : Value := .agg #[.int .i64 o.kind, str o.num, str o.den, str o.sp, str o.sn, str o.text, P]
abbrev obCells (o : Ob) (P : Value) : Array Value := #[.int .i64 o.kind, str o.num, str o.den, str o.sp, str o.sn, str o.text, P]
theorem Rd.objs {ok : Nat → Prop} {w wr : World} {A : Option Addr} {n c : Nat} {l : List Ob} (h : Rd ok w (.slice A n c) (.row (l.map Ob.enc))) (hbr : Below w.heap.size w wr) {i : Nat} (hi : i < n) :
    ∃ (b o : Nat) (hl : i < l.length) (A' : Option Addr) (n' c' : Nat), A = some ⟨b, o, none⟩ ∧ b < w.heap.size ∧ ok b ∧
      wr.cell? ⟨b, o + i * 7, none⟩ = some (.int .i64 (l[i]).kind) ∧ wr.cell? ⟨b, o + i * 7 + 1, none⟩ = some (str (l[i]).num) ∧ wr.cell? ⟨b, o + i * 7 + 2, none⟩ = some (str (l[i]).den) ∧ wr.cell? ⟨b, o + i * 7 + 3, none⟩ = some (str (l[i]).sp) ∧
      wr.cell? ⟨b, o + i * 7 + 4, none⟩ = some (str (l[i]).sn) ∧ wr.cell? ⟨b, o + i * 7 + 5, none⟩ = some (str (l[i]).text) ∧ wr.cell? ⟨b, o + i * 7 + 6, none⟩ = some (.slice A' n' c') ∧ Rd ok w (.slice A' n' c') (.row ((l[i]).pair.map Ob.enc)) := by
  have hlen := h.len
  rw [List.length_map] at hlen
  obtain ⟨b, o, k, rfl, hb, hok, hk, hf⟩ := h.cells (by omega)
  have e : (l.map Ob.enc)[i]'(by rw [List.length_map]; omega) = (l[i]'(by omega)).enc := List.getElem_map _
  have hk' := hk i (by rw [List.length_map]; omega)
  rw [e, Ob.enc_len] at hk'
  subst hk'
  have hf' : ∀ j (hj : j < 7), ∃ u, w.cell? ⟨b, o + i * 7 + j, none⟩ = some u ∧ Rd ok w u ((l[i]'(by omega)).enc[j]'(by rw [Ob.enc_len]; exact hj)) := fun j hj => by
    obtain ⟨u, h1, h2⟩ := hf i j (by rw [List.length_map]; omega) (by rw [e, Ob.enc_len]; exact hj)
    simp only [e] at h2
    exact ⟨u, h1, h2⟩
  simp only [Ob.enc_eq] at hf'
  obtain ⟨u0, h0, r0⟩ := hf' 0 (by omega)
  obtain ⟨u1, h1, r1⟩ := hf' 1 (by omega)
  obtain ⟨u2, h2, r2⟩ := hf' 2 (by omega)
  obtain ⟨u3, h3, r3⟩ := hf' 3 (by omega)
  obtain ⟨u4, h4, r4⟩ := hf' 4 (by omega)
  obtain ⟨u5, h5, r5⟩ := hf' 5 (by omega)
  obtain ⟨u6, h6, r6⟩ := hf' 6 (by omega)
  simp only [List.getElem_cons_zero, List.getElem_cons_succ] at r0 r1 r2 r3 r4 r5 r6
  rw [r0.val_eq] at h0
  rw [r1.val_eq] at h1
  rw [r2.val_eq] at h2
  rw [r3.val_eq] at h3
  rw [r4.val_eq] at h4
  rw [r5.val_eq] at h5
  obtain ⟨A', n', c', rfl, _⟩ := r6.slice
  exact ⟨b, o, by omega, A', n', c', rfl, hb, hok, (hbr.cell (p := ⟨b, o + i * 7, none⟩) hb).trans h0, (hbr.cell (p := ⟨b, o + i * 7 + 1, none⟩) hb).trans h1, (hbr.cell (p := ⟨b, o + i * 7 + 2, none⟩) hb).trans h2, (hbr.cell (p := ⟨b, o + i * 7 + 3, none⟩) hb).trans h3, (hbr.cell (p := ⟨b, o + i * 7 + 4, none⟩) hb).trans h4, (hbr.cell (p := ⟨b, o + i * 7 + 5, none⟩) hb).trans h5, (hbr.cell (p := ⟨b, o + i * 7 + 6, none⟩) hb).trans h6, r6⟩
/-- the seven cells of a box stored anew -/
theorem BlkIs.put7 {w : World} {g : Nat} {t : TypeId} {c0 c1 c2 c3 c4 c5 c6 v0 v1 v2 v3 v4 v5 v6 : Value} (h : BlkIs w g t #[c0, c1, c2, c3, c4, c5, c6]) :
    BlkIs (((((((w.setCell ⟨g, 0, none⟩ v0).setCell ⟨g, 1, none⟩ v1).setCell ⟨g, 2, none⟩ v2).setCell ⟨g, 3, none⟩ v3).setCell ⟨g, 4, none⟩ v4).setCell ⟨g, 5, none⟩ v5).setCell ⟨g, 6, none⟩ v6) g t #[v0, v1, v2, v3, v4, v5, v6] := by
  have := ((((((h.set_ 0 v0).set_ 1 v1).set_ 2 v2).set_ 3 v3).set_ 4 v4).set_ 5 v5).set_ 6 v6
  simpa using this
theorem BlkIs.far7 {w : World} {g g' : Nat} {t : TypeId} {cs : Array Value} (h : BlkIs w g t cs) (hg : g ≠ g') (v0 v1 v2 v3 v4 v5 v6 : Value) :
    BlkIs (((((((w.setCell ⟨g', 0, none⟩ v0).setCell ⟨g', 1, none⟩ v1).setCell ⟨g', 2, none⟩ v2).setCell ⟨g', 3, none⟩ v3).setCell ⟨g', 4, none⟩ v4).setCell ⟨g', 5, none⟩ v5).setCell ⟨g', 6, none⟩ v6) g t cs :=
  ((((((h.far (p := ⟨g', 0, none⟩) hg _).far (p := ⟨g', 1, none⟩) hg _).far (p := ⟨g', 2, none⟩) hg _).far (p := ⟨g', 3, none⟩) hg _).far (p := ⟨g', 4, none⟩) hg _).far (p := ⟨g', 5, none⟩) hg _).far (p := ⟨g', 6, none⟩) hg _
theorem set7 {a w : World} (h0 : Below a.heap.size a w) {g : Nat} (hg : a.heap.size ≤ g) (v0 v1 v2 v3 v4 v5 v6 : Value) :
    Below a.heap.size a (((((((w.setCell ⟨g, 0, none⟩ v0).setCell ⟨g, 1, none⟩ v1).setCell ⟨g, 2, none⟩ v2).setCell ⟨g, 3, none⟩ v3).setCell ⟨g, 4, none⟩ v4).setCell ⟨g, 5, none⟩ v5).setCell ⟨g, 6, none⟩ v6) :=
  set2 (set2 (set2 (set2 (set2 (set2 (set2 h0 hg _) hg _) hg _) hg _) hg _) hg _) hg _
theorem BlkIs.frozen7 {w : World} {g : Nat} {t : TypeId} {cs : Array Value} (h : BlkIs w g t cs) : w.frozen? ⟨g, 0, none⟩ = false ∧ w.frozen? ⟨g, 1, none⟩ = false ∧ w.frozen? ⟨g, 2, none⟩ = false ∧ w.frozen? ⟨g, 3, none⟩ = false ∧ w.frozen? ⟨g, 4, none⟩ = false ∧ w.frozen? ⟨g, 5, none⟩ = false ∧ w.frozen? ⟨g, 6, none⟩ = false :=
  ⟨h.frozen 0, h.frozen 1, h.frozen 2, h.frozen 3, h.frozen 4, h.frozen 5, h.frozen 6⟩
end Go.Proofs.YtlbbfmijemnjdaaGreatDoor
/- Plain functions on objects: nodes, equality, the order. -/
namespace Go.Proofs.YtlbbfmijemnjdaaGreatDoor
open Go.RowKit

namespace Ob
mutual
/-- the nodes: a cons has a car and a cdr; whatever else has one node -/
def nodes : Ob → Nat
  | ⟨_, _, _, _, _, _, l⟩ => if l.length = 2 then nodesL l + 1 else 1
def nodesL : List Ob → Nat
  | [] => 0
  | o :: r => nodes o + nodesL r
end
theorem nodes_two {o a d : Ob} (h : o.pair = [a, d]) : o.nodes = a.nodes + d.nodes + 1 := by
  obtain ⟨k, n, e, p, s, t, l⟩ := o
  simp only at h
  subst h
  simp only [nodes, nodesL, List.length_cons, List.length_nil, if_true]
  omega
theorem nodes_one {o : Ob} (h : o.pair.length ≠ 2) : o.nodes = 1 := by
  obtain ⟨k, n, e, p, s, t, l⟩ := o
  rw [nodes, if_neg h]
theorem nodes_pos (o : Ob) : 1 ≤ o.nodes := by
  by_cases h : o.pair.length = 2
  · obtain ⟨k, n, e, p, s, t, l⟩ := o
    rw [nodes, if_pos h]; omega
  · rw [nodes_one h]; omega
theorem two_of_length {l : List Ob} (h : l.length = 2) : ∃ a d, l = [a, d] := by
  match l, h with
  | [a, d], _ => exact ⟨a, d, rfl⟩
end Ob
end Go.Proofs.YtlbbfmijemnjdaaGreatDoor
/- Objects: the leaves, Cons and the small questions; of package object and of the reference. -/
namespace Go.Proofs.YtlbbfmijemnjdaaGreatDoor
open Go.RowKit

def RetObj (ok : Nat → Prop) (o : Ob) (w : World) (e : Ending) (w' : World) : Prop :=
  ∃ A n c, e = .returned (objV o (.slice A n c)) ∧ Rd (fun b => ok b ∨ w.heap.size ≤ b) w' (.slice A n c) (.row (o.pair.map Ob.enc)) ∧ Below w.heap.size w w'
/-- a leaf: nothing in memory -/
def RetLeaf (o : Ob) (w : World) (e : Ending) (w' : World) : Prop := e = .returned (objV o (.slice none 0 0)) ∧ Below w.heap.size w w'
theorem RetLeaf.obj {ok : Nat → Prop} {o : Ob} {w w' : World} {e : Ending} (h : RetLeaf o w e w') (hp : o.pair = []) : RetObj ok o w e w' :=
  ⟨none, 0, 0, h.1, by rw [hp]; exact .nil _ _, h.2⟩
theorem BlkIs.new2 (w : World) (o o' : Obj) (t : TypeId) (cs : Array Value) : BlkIs (((w.alloc o).alloc o').alloc (.cells cs t)) (w.heap.size + 1 + 1) t cs := by
  have := BlkIs.new ((w.alloc o).alloc o') t cs
  simpa using this
abbrev zeroCells : Array Value := #[.int .i64 0, .string ⟨#[]⟩, .string ⟨#[]⟩, .string ⟨#[]⟩, .string ⟨#[]⟩, .string ⟨#[]⟩, .slice none 0 0]
abbrev lispB : List UInt8 := [108, 105, 115, 112]
abbrev nilB : List UInt8 := [110, 105, 108]
abbrev symO (p s : List UInt8) : Ob := ⟨2, [], [], p, s, [], []⟩
abbrev nilO : Ob := symO lispB nilB
abbrev tO : Ob := symO lispB [116]
abbrev numO (n d : List UInt8) : Ob := ⟨1, n, d, [], [], [], []⟩
abbrev txtO (t : List UInt8) : Ob := ⟨3, [], [], [], [], t, []⟩
abbrev consO (a d : Ob) : Ob := ⟨4, [], [], [], [], [], [a, d]⟩

set_option maxHeartbeats 400000 in
/-- a return of an object that lies in the result's box -/
theorem ret_obj {fn : Func} {a : Act} {g r : Nat} {w : World} {t : TypeId} {c0 c1 c2 c3 c4 c5 c6 : Value} {R : Ending → World → Prop} (hf : fn.results = #[.cell r 32]) (ht : a.tmps[r]? = some (.pointer (some ⟨g, 0, none⟩))) (hB : BlkIs w g t #[c0, c1, c2, c3, c4, c5, c6]) (hd : a.defers = []) (hR : R (.returned (.agg #[c0, c1, c2, c3, c4, c5, c6])) w) : bodyPost Tryz.prog fn R .ret a w := by
  obtain ⟨h0, h1, h2, h3, h4, h5, h6, _⟩ := hB.seven
  refine bodyPost_ret (v := .agg #[c0, c1, c2, c3, c4, c5, c6]) ?_ hd hR
  simp [results, hf, ht, go_sem, h0, h1, h2, h3, h4, h5, h6]

set_option maxHeartbeats 400000 in
theorem rSymbol_any (w : World) (p s : List UInt8) : Calls Tryz.prog 117 #[.agg #[str p, str s]] w (RetLeaf (symO p s) w) := by
  go_enter Tryz.func117, Tryz.ntmps117
  go_wp2
  exact bodyPost_ret (v := objV (symO p s) (.slice none 0 0)) (by simp [results, Tryz.results117, go_sem]) rfl ⟨rfl, box2 (box _ _) _⟩

set_option maxHeartbeats 400000 in
theorem rText_any (w : World) (t : List UInt8) : Calls Tryz.prog 119 #[str t] w (RetLeaf (txtO t) w) := by
  go_enter Tryz.func119, Tryz.ntmps119
  go_wp2
  exact bodyPost_ret (v := objV (txtO t) (.slice none 0 0)) (by simp [results, Tryz.results119, go_sem]) rfl ⟨rfl, box _ _⟩
end Go.Proofs.YtlbbfmijemnjdaaGreatDoor
/- object.rest and Nodes: how many nodes an object has. -/
namespace Go.Proofs.YtlbbfmijemnjdaaGreatDoor
open Go.RowKit

/-- what rest gives: what is left, or a negative number -/
def RestIs (o : Ob) (left r : Int) : Prop := ((o.nodes : Int) ≤ left → r = left - o.nodes) ∧ (left < o.nodes → r < 0) ∧ r < left ∧ (0 ≤ left → -left - 1 ≤ r) ∧ (left < 0 → r = left - 1)
def RetRest (o : Ob) (left : Int) (w : World) (e : Ending) (w' : World) : Prop := ∃ r : Int, e = .returned (.int .i64 r) ∧ RestIs o left r ∧ Below w.heap.size w w'
theorem rest_end {x : Ob} {m : Int} (h : ¬ (0 < m ∧ x.pair.length = 2)) : RestIs x m (m - 1) := by
  have hp := x.nodes_pos
  refine ⟨fun h1 => ?_, fun h1 => ?_, by omega, fun h1 => by omega, fun _ => rfl⟩
  · have : x.pair.length ≠ 2 := fun e => h ⟨by omega, e⟩
    rw [Ob.nodes_one this]; rfl
  · rcases Int.lt_or_le 0 m with h2 | h2
    · have : x.pair.length ≠ 2 := fun e => h ⟨h2, e⟩
      rw [Ob.nodes_one this] at h1
      omega
    · omega
theorem rest_step {x a d : Ob} {m r1 r : Int} (hx : x.pair = [a, d]) (hm : 0 < m) (h1 : RestIs a (m - 1) r1) (h2 : RestIs d r1 r) : RestIs x m r := by
  have hn := Ob.nodes_two hx
  have pa := a.nodes_pos
  have pd := d.nodes_pos
  obtain ⟨a1, a2, a3, a4, a5⟩ := h1
  obtain ⟨b1, b2, b3, b4, b5⟩ := h2
  have a4' := a4 (by omega)
  refine ⟨fun h => ?_, fun h => ?_, by omega, fun _ => ?_, fun h => by omega⟩
  · have e1 := a1 (by omega)
    have e2 := b1 (by omega)
    omega
  · by_cases h3 : m - 1 < a.nodes
    · have e1 := a2 h3
      have e2 := b5 e1
      omega
    · have e1 := a1 (by omega)
      exact b2 (by omega)
  · by_cases h3 : r1 < 0
    · have := b5 h3; omega
    · have := b4 (by omega); omega
set_option maxHeartbeats 2000000 in
set_option maxRecDepth 100000 in
theorem rest_any (ok : Nat → Prop) : ∀ (N : Nat) (o : Ob), o.size ≤ N → ∀ (A : Option Addr) (n c : Nat) (left : Int) (w : World), Rd ok w (.slice A n c) (.row (o.pair.map Ob.enc)) → -10 ≤ left → left ≤ 3001 →
    Calls Tryz.prog 113 #[objV o (.slice A n c), .int .i64 left] w (RetRest o left w) := by
  intro N
  induction N with
  | zero => intro o h; have := Ob.size_pos o; omega
  | succ N ih =>
    intro o hN A n c left w hP hl0 hl1
    go_enter Tryz.func113, Tryz.ntmps113
    go_wp2
    go_loopg [1] o.size (fun gx lv wr => ∃ (x : Ob) (m : Int) (A2 : Option Addr) (n2 c2 : Nat), lv = .int .i64 m ∧ Hid (BlkIs wr w.heap.size 32 (obCells x (.slice A2 n2 c2))) ∧ Rd ok w (.slice A2 n2 c2) (.row (x.pair.map Ob.enc)) ∧ x.size ≤ N + 1 ∧ -4000 ≤ m ∧ m ≤ 3001 ∧ Hid (∀ r, RestIs x m r → RestIs o left r) ∧ x.size ≤ gx ∧ Below w.heap.size w wr)
    case atStart => exact ⟨o, left, A, n, c, rfl, Lib.hid (BlkIs.new w _ _), hP, hN, by omega, hl1, Lib.hid (fun _ h => h), Nat.le_refl _, box _ _⟩
    case round =>
      obtain ⟨x, m, A2, n2, c2, rfl, HB, hr, hxN, hm0, hm1, HR, hg, hb⟩ := hrel
      obtain ⟨c0, c1, c3, c4, c5, c6, c7, hlt⟩ := HB.out.seven
      obtain ⟨f0, f1, f2, f3, f4, f5, f6⟩ := HB.out.frozen7
      have hlen := hr.len
      rw [List.length_map] at hlen
      by_cases hc : 0 < m ∧ n2 = 2
      · obtain ⟨hmp, hn2⟩ := hc
        subst hn2
        obtain ⟨a, d, had⟩ := Ob.two_of_length hlen
        have HST := Lib.hid (fun r1 r => rest_step (r1 := r1) (r := r) had hmp)
        have hsa := Ob.size_pair (o := x) (x := a) (by rw [had]; simp)
        have hsd := Ob.size_pair (o := x) (x := d) (by rw [had]; simp)
        rw [had] at hr
        clear hlen had
        obtain ⟨b, q, _, A3, n3, c3', rfl, hbl, _, a0, a1, a2, a3, a4, a5, a6, ha⟩ := hr.objs hb (i := 0) (by omega)
        simp only [List.getElem_cons_zero, Nat.zero_mul, Nat.add_zero] at a0 a1 a2 a3 a4 a5 a6 ha
        have hbl' := Nat.lt_of_lt_of_le hbl hb.size
        have HC := Lib.hid (ih a (by omega) A3 n3 c3' (m - 1) wr (ha.under hb) (by omega) (by omega))
        go_wp2_with fail
        refine HC.out.mono ?_
        rintro e w1 ⟨r1, rfl, hr1, hb1⟩
        have hbw1 := then_ hb hb1
        have HB1 := Lib.hid (HB.out.below hb1)
        clear c0 c1 c3 c4 c5 c6 c7 f0 f1 f2 f3 f4 f5 f6 a0 a1 a2 a3 a4 a5 a6
        obtain ⟨c0, c1, c3, c4, c5, c6, c7, hlt1⟩ := HB1.out.seven
        obtain ⟨f0, f1, f2, f3, f4, f5, f6⟩ := HB1.out.frozen7
        obtain ⟨b', q', _, A4, n4, c4', eA, _, _, d0, d1, d2, d3, d4, d5, d6, hd⟩ := hr.objs hbw1 (i := 1) (by omega)
        injection eA with eA
        injection eA with eb eq
        subst eb eq
        simp only [List.getElem_cons_zero, List.getElem_cons_succ, Nat.one_mul] at d0 d1 d2 d3 d4 d5 d6 hd
        have hbl1 := Nat.lt_of_lt_of_le hbl hbw1.size
        have hb4 := hr1.2.2.1
        have hb5 := hr1.2.2.2.1 (by omega)
        have HR1 := Lib.hid hr1
        clear hr1
        go_wp2
        go_roundg d.size
        case measure => omega
        case rel => exact ⟨d, r1, A4, n4, c4', rfl, Lib.hid HB1.out.put7, hd, by omega, by omega, by omega, Lib.hid (fun r h => HR.out r (HST.out r1 r HR1.out h)), Nat.le_refl _, set7 hbw1 (Nat.le_refl _) _ _ _ _ _ _ _⟩
      · have HE : Hid (RestIs o left (m - 1)) := HR.out _ (rest_end (by rw [hlen]; exact hc))
        by_cases hmp : 0 < m
        · have hn2 : ((n2 : Int) == 2) = false := by rw [beq_eq_false_iff_ne]; omega
          clear hlen hc
          go_wp2
          go_ret
          exact ⟨m - 1, rfl, HE.out, hb⟩
        · clear hlen hc
          go_wp2
          go_ret
          exact ⟨m - 1, rfl, HE.out, hb⟩
/-- object.Nodes -/
theorem nodes_of {o : Ob} {r : Int} (h : RestIs o 3001 r) : 3001 - max 0 r = if o.nodes ≤ 3001 then (o.nodes : Int) else 3001 := by
  obtain ⟨h1, h2, h3, _, _⟩ := h
  have := o.nodes_pos
  split
  · have := h1 (by omega); omega
  · have := h2 (by omega); omega
def nodesP (o : Ob) : Int := if o.nodes ≤ 3001 then (o.nodes : Int) else 3001
set_option maxHeartbeats 1000000 in
theorem oNodes_any (ok : Nat → Prop) (o : Ob) (A : Option Addr) (n c : Nat) (w : World) (hP : Rd ok w (.slice A n c) (.row (o.pair.map Ob.enc))) :
    Calls Tryz.prog 98 #[objV o (.slice A n c)] w (RetBel (.int .i64 (nodesP o)) w) := by
  go_enter Tryz.func98, Tryz.ntmps98
  go_wp2_with fail
  refine (rest_any ok o.size o (Nat.le_refl _) A n c 3001 _ (hP.under (box _ _)) (by omega) (by omega)).mono ?_
  rintro e w1 ⟨r, rfl, hr, hb1⟩
  have HN := Lib.hid (nodes_of hr)
  have h1 := hr.2.2.1
  have h2 := hr.2.2.2.1 (by omega)
  clear hr
  by_cases h0 : 0 < r
  · have HM : Hid (3001 - r = nodesP o) := by show _ = _; have := HN.out; unfold nodesP; omega
    go_wp2
    go_ret
    exact ⟨by first | (rw [← HM.out]; rfl) | (rw [show nodesP o = 3001 - max 0 r from HN.out.symm]; rfl), via hb1⟩
  · have HM : Hid (3001 = nodesP o) := by show _ = _; have := HN.out; unfold nodesP; omega
    go_wp2
    go_ret
    exact ⟨by first | (rw [← HM.out]; rfl) | (rw [show nodesP o = 3001 - max 0 r from HN.out.symm]; rfl), via hb1⟩
end Go.Proofs.YtlbbfmijemnjdaaGreatDoor
/- Rational numbers: what reducing a fraction gives, and how long its numerals are. -/
namespace Go.Proofs.YtlbbfmijemnjdaaGreatDoor
open Go.RowKit

theorem qd_pos {x : Int} {g : Nat} (h : 0 < g) : qd x (g : Int) = x / g := by
  unfold qd
  rw [if_neg (by omega), if_pos (by omega)]
theorem rd_rat (x y : Int) : rdN x y = (Rat.divInt x y).num ∧ rdD x y = ((Rat.divInt x y).den : Int) := by
  rw [Rat.num_divInt, Rat.den_divInt]
  by_cases hy : y = 0
  · subst hy; simp [rdN, rdD]
  · have hg : 0 < Nat.gcd x.natAbs y.natAbs := Nat.gcd_pos_of_pos_right _ (by omega)
    have e : y.gcd x = Nat.gcd x.natAbs y.natAbs := Nat.gcd_comm _ _
    unfold rdN rdD
    rw [if_neg hy, if_neg hy, if_neg hy, qd_pos hg, qd_pos hg, e]
    refine ⟨?_, ?_⟩
    · congr 1
      unfold rdX
      split
      · rw [Int.sign_eq_neg_one_of_neg (by assumption)]; omega
      · rw [Int.sign_eq_one_of_pos (by omega)]; omega
    · unfold rdY
      rw [Int.natCast_ediv]
      congr 1
      split <;> omega
/-- numerator and denominator have at most k digits -/
structure Rb (k : Nat) (q : Rat) : Prop where
  num : q.num.natAbs < 10 ^ k
  den : q.den < 10 ^ k
  pos : 1 ≤ k
theorem Rb.mk' {k : Nat} {x y : Int} (hk : 1 ≤ k) (hx : x.natAbs < 10 ^ k) (hy : y.natAbs < 10 ^ k) : Rb k (Rat.divInt x y) := by
  refine ⟨?_, ?_, hk⟩
  · rw [Rat.num_divInt]
    refine Nat.lt_of_le_of_lt (Nat.le_trans (Int.natAbs_ediv_le_natAbs _ _) ?_) hx
    rw [Int.natAbs_mul]
    rcases Int.lt_trichotomy y 0 with h | h | h
    · rw [Int.sign_eq_neg_one_of_neg h]; simp
    · subst h; simp
    · rw [Int.sign_eq_one_of_pos h]; simp
  · rw [Rat.den_divInt]
    split
    · exact Nat.one_lt_pow (by omega) (by omega)
    · exact Nat.lt_of_le_of_lt (Nat.div_le_self _ _) hy
theorem Rb.mono {k m : Nat} {q : Rat} (h : Rb k q) (hm : k ≤ m) : Rb m q :=
  ⟨Nat.lt_of_lt_of_le h.num (Nat.pow_le_pow_right (by omega) hm), Nat.lt_of_lt_of_le h.den (Nat.pow_le_pow_right (by omega) hm), by have := h.pos; omega⟩
theorem Rb.nlen {k : Nat} {q : Rat} (h : Rb k q) : (Lib.itoa q.num).length ≤ k + 1 := itoa_length_any _ h.pos h.num
theorem Rb.dlen {k : Nat} {q : Rat} (h : Rb k q) : (Lib.itoa (q.den : Int)).length ≤ k + 1 := itoa_length_any _ h.pos (by rw [Int.natAbs_natCast]; exact h.den)

/-- a number as an object -/
abbrev ratO (q : Rat) : Ob := numO (Lib.itoa q.num) (Lib.itoa (q.den : Int))
end Go.Proofs.YtlbbfmijemnjdaaGreatDoor
/- Objects: the constructors and the small questions of package object. -/
namespace Go.Proofs.YtlbbfmijemnjdaaGreatDoor
open Go.RowKit

/-- two objects side by side in one block read as a pair -/
theorem rd_pair {ok : Nat → Prop} {a d : Ob} {A A' : Option Addr} {n n' c c' : Nat} {w : World} {g : Nat} {t : TypeId} (hB : BlkIs w g t #[.int .i64 a.kind, str a.num, str a.den, str a.sp, str a.sn, str a.text, .slice A n c, .int .i64 d.kind, str d.num, str d.den, str d.sp, str d.sn, str d.text, .slice A' n' c'])
    (hg : ok g) (ha : Rd ok w (.slice A n c) (.row (a.pair.map Ob.enc))) (hd : Rd ok w (.slice A' n' c') (.row (d.pair.map Ob.enc))) : Rd ok w (.slice (some ⟨g, 0, none⟩) 2 2) (.row ([a, d].map Ob.enc)) := by
  refine Rd.mk (k := 7) rfl (Nat.le_refl _) hB.lt hg (fun i hi => ?_) (fun i j hi hj => ?_)
  · rw [List.getElem_map, Ob.enc_len]
  · simp only [List.getElem_map, Ob.enc_len] at hj
    have hi' : i < 2 := hi
    rw [hB.cell]
    rcases i with _ | _ | i
    · rcases j with _ | _ | _ | _ | _ | _ | _ | j
      all_goals first | omega | skip
      all_goals simp only [List.map_cons, List.getElem_cons_zero, Ob.enc_eq, List.getElem_cons_succ]
      all_goals first | exact ⟨_, rfl, .val _⟩ | exact ⟨_, rfl, ha⟩
    · rcases j with _ | _ | _ | _ | _ | _ | _ | j
      all_goals first | omega | skip
      all_goals simp only [List.map_cons, List.getElem_cons_zero, Ob.enc_eq, List.getElem_cons_succ]
      all_goals first | exact ⟨_, rfl, .val _⟩ | exact ⟨_, rfl, hd⟩
    · omega
theorem cons_ret (ok : Nat → Prop) (a d : Ob) (A A' : Option Addr) (n n' c c' : Nat) (w : World) {b1 b2 b3 : Obj} {t : TypeId} (ha : Rd ok w (.slice A n c) (.row (a.pair.map Ob.enc))) (hd : Rd ok w (.slice A' n' c') (.row (d.pair.map Ob.enc))) :
    RetObj ok (consO a d) w (.returned (objV (consO a d) (.slice (some ⟨w.heap.size + 1 + 1 + 1, 0, none⟩) 2 2))) ((((w.alloc b1).alloc b2).alloc b3).alloc (.cells #[.int .i64 a.kind, str a.num, str a.den, str a.sp, str a.sn, str a.text, .slice A n c, .int .i64 d.kind, str d.num, str d.den, str d.sp, str d.sn, str d.text, .slice A' n' c'] t)) := by
  have hb : Below w.heap.size w (((w.alloc b1).alloc b2).alloc b3) := box2 (box2 (box _ _) _) _
  refine ⟨_, 2, 2, rfl, ?_, box2 hb _⟩
  have hB := BlkIs.new (((w.alloc b1).alloc b2).alloc b3) t #[.int .i64 a.kind, str a.num, str a.den, str a.sp, str a.sn, str a.text, .slice A n c, .int .i64 d.kind, str d.num, str d.den, str d.sp, str d.sn, str d.text, .slice A' n' c']
  have e : (((w.alloc b1).alloc b2).alloc b3).heap.size = w.heap.size + 1 + 1 + 1 := by simp
  rw [e] at hB
  exact rd_pair hB (.inr (by omega)) ((ha.under (box2 hb _)).mono fun _ h _ => .inl h) ((hd.under (box2 hb _)).mono fun _ h _ => .inl h)
end Go.Proofs.YtlbbfmijemnjdaaGreatDoor
/- Arithmetic of objects: fix, value, Sum, Product, Opposite, Reciprocal, Less of package object. -/
namespace Go.Proofs.YtlbbfmijemnjdaaGreatDoor
open Go.RowKit

end Go.Proofs.YtlbbfmijemnjdaaGreatDoor
/- Arithmetic of objects: Sum, Product, Opposite, Reciprocal, Less of package object. -/
namespace Go.Proofs.YtlbbfmijemnjdaaGreatDoor
open Go.RowKit

theorem far7 (w : World) {g g' : Nat} (hg : g ≠ g') (i : Nat) (v0 v1 v2 v3 v4 v5 v6 : Value) :
    (((((((w.setCell ⟨g', 0, none⟩ v0).setCell ⟨g', 1, none⟩ v1).setCell ⟨g', 2, none⟩ v2).setCell ⟨g', 3, none⟩ v3).setCell ⟨g', 4, none⟩ v4).setCell ⟨g', 5, none⟩ v5).setCell ⟨g', 6, none⟩ v6).cell? ⟨g, i, none⟩ = w.cell? ⟨g, i, none⟩ := by
  have e : ∀ (w : World) (j : Nat) (v : Value), (w.setCell ⟨g', j, none⟩ v).cell? ⟨g, i, none⟩ = w.cell? ⟨g, i, none⟩ := fun w j v => World.cell?_of_block (Below.heap_setCell w ⟨g', j, none⟩ v g hg)
  rw [e, e, e, e, e, e, e]
end Go.Proofs.YtlbbfmijemnjdaaGreatDoor
/- Arithmetic of objects: Opposite, Reciprocal, Less of package object; IsNil, IsInteger. -/
namespace Go.Proofs.YtlbbfmijemnjdaaGreatDoor
open Go.RowKit

set_option maxHeartbeats 400000 in
theorem oIsNil_any (o : Ob) (A : Option Addr) (n c : Nat) (w : World) : Calls Tryz.prog 39 #[objV o (.slice A n c)] w (RetBel (.bool (decide (o.kind = 2 ∧ o.sp = lispB ∧ o.sn = nilB))) w) := by
  obtain ⟨k, nm, d, p, s, t, l⟩ := o
  dsimp only
  by_cases hk : k = 2
  · subst hk
    by_cases h1 : p = lispB
    · subst h1
      by_cases h2 : s = nilB
      · subst h2
        rw [decide_eq_true ⟨rfl, rfl, rfl⟩]
        go_enter Tryz.func39, Tryz.ntmps39
        go_wp2
        go_ret
        exact ⟨rfl, box _ _⟩
      · rw [decide_eq_false (fun h => h2 h.2.2)]
        have hz : (s == nilB) = false := by rw [beq_eq_false_iff_ne]; exact h2
        clear h2
        go_enter Tryz.func39, Tryz.ntmps39
        go_wp2
        go_ret
        exact ⟨rfl, box _ _⟩
    · rw [decide_eq_false (fun h => h1 h.2.1)]
      have hz : (p == lispB) = false := by rw [beq_eq_false_iff_ne]; exact h1
      clear h1
      go_enter Tryz.func39, Tryz.ntmps39
      go_wp2
      go_ret
      exact ⟨rfl, box _ _⟩
  · rw [decide_eq_false (fun h => hk h.1)]
    have hz : (k == 2) = false := by rw [beq_eq_false_iff_ne]; exact hk
    clear hk
    go_enter Tryz.func39, Tryz.ntmps39
    go_wp2
    go_ret
    exact ⟨rfl, box _ _⟩
end Go.Proofs.YtlbbfmijemnjdaaGreatDoor
/- Lists of objects: List and Items of package object. -/
namespace Go.Proofs.YtlbbfmijemnjdaaGreatDoor
open Go.RowKit

def listO : List Ob → Ob
  | [] => nilO
  | a :: r => consO a (listO r)
theorem Rd.far7 {ok : Nat → Prop} {w : World} {v : Value} {d : Dt} {g : Nat} (h : Rd ok w v d) (hg : ∀ b, ok b → b ≠ g) (v0 v1 v2 v3 v4 v5 v6 : Value) :
    Rd ok (((((((w.setCell ⟨g, 0, none⟩ v0).setCell ⟨g, 1, none⟩ v1).setCell ⟨g, 2, none⟩ v2).setCell ⟨g, 3, none⟩ v3).setCell ⟨g, 4, none⟩ v4).setCell ⟨g, 5, none⟩ v5).setCell ⟨g, 6, none⟩ v6) v d :=
  ((((((h.far (p := ⟨g, 0, none⟩) hg _).far (p := ⟨g, 1, none⟩) hg _).far (p := ⟨g, 2, none⟩) hg _).far (p := ⟨g, 3, none⟩) hg _).far (p := ⟨g, 4, none⟩) hg _).far (p := ⟨g, 5, none⟩) hg _).far (p := ⟨g, 6, none⟩) hg _
theorem drop_cons {l : List Ob} {j : Nat} (h : j < l.length) : listO (l.drop j) = consO l[j] (listO (l.drop (j + 1))) := by
  rw [List.drop_eq_getElem_cons h]; rfl
end Go.Proofs.YtlbbfmijemnjdaaGreatDoor
/- object.Valid is true for objects built of 1, nil and a short string by conses; object.Compare at a string and a symbol. -/
namespace Go.Proofs.YtlbbfmijemnjdaaGreatDoor
open Go.RowKit

end Go.Proofs.YtlbbfmijemnjdaaGreatDoor
/- Plain trees: the well-formed objects, and their order. -/
namespace Go.Proofs.YtlbbfmijemnjdaaGreatDoor
open Go.RowKit

inductive Tr where
  | num (q : Rat)
  | txt (t : List UInt8)
  | sym (p s : List UInt8)
  | cons (a d : Tr)
namespace Tr
def ob : Tr → Ob
  | .num q => ratO q
  | .txt t => txtO t
  | .sym p s => symO p s
  | .cons a d => consO a.ob d.ob
/-- numbers of at most k digits, and short strings -/
def Ok (k : Nat) : Tr → Prop
  | .num q => Rb k q
  | .txt t => t.length ≤ 100000
  | .sym p s => p.length ≤ 100000 ∧ s.length ≤ 100000
  | .cons a d => a.Ok k ∧ d.Ok k
theorem Ok.mono {k m : Nat} (hm : k ≤ m) : ∀ {t : Tr}, t.Ok k → t.Ok m
  | .num _, h => Rb.mono h hm
  | .txt _, h => h
  | .sym _ _, h => h
  | .cons _ _, h => ⟨Ok.mono hm h.1, Ok.mono hm h.2⟩
theorem Ok.wf {k : Nat} (hk : k ≤ 100000) : ∀ {t : Tr}, t.Ok k → t.ob.Wf
  | .num q, h => by
    have h1 := Rb.nlen h
    have h2 := Rb.dlen h
    exact .mk (ratO q) (by show (-9223372036854775808 : Int) ≤ 1; omega) (by show (1 : Int) ≤ _; omega) (by show (Lib.itoa q.num).length ≤ _; omega) (by show (Lib.itoa (q.den : Int)).length ≤ _; omega) (Nat.zero_le _) (Nat.zero_le _) (Nat.zero_le _) (Nat.zero_le _) (fun x hx => by cases hx)
  | .txt t, h => by
    have h' : t.length ≤ 100000 := h
    exact .mk (txtO t) (by show (-9223372036854775808 : Int) ≤ 3; omega) (by show (3 : Int) ≤ _; omega) (Nat.zero_le _) (Nat.zero_le _) (Nat.zero_le _) (Nat.zero_le _) (by show t.length ≤ _; omega) (Nat.zero_le _) (fun x hx => by cases hx)
  | .sym p s, h => by
    obtain ⟨h1, h2⟩ := h
    exact .mk (symO p s) (by show (-9223372036854775808 : Int) ≤ 2; omega) (by show (2 : Int) ≤ _; omega) (Nat.zero_le _) (Nat.zero_le _) (by show p.length ≤ _; omega) (by show s.length ≤ _; omega) (Nat.zero_le _) (Nat.zero_le _) (fun x hx => by cases hx)
  | .cons a d, h => by
    have h1 := Ok.wf hk h.1
    have h2 := Ok.wf hk h.2
    exact .mk (consO a.ob d.ob) (by show (-9223372036854775808 : Int) ≤ 4; omega) (by show (4 : Int) ≤ _; omega) (Nat.zero_le _) (Nat.zero_le _) (Nat.zero_le _) (Nat.zero_le _) (Nat.zero_le _) (by show 2 ≤ 9223372036854775807; omega) (fun x hx => by
      simp only [List.mem_cons, List.not_mem_nil, or_false] at hx
      rcases hx with rfl | rfl <;> assumption)
def list : List Tr → Tr
  | [] => .sym lispB nilB
  | a :: r => .cons a (list r)
theorem list_ob : ∀ l : List Tr, (list l).ob = listO (l.map ob)
  | [] => rfl
  | a :: r => by show consO a.ob (list r).ob = _; rw [list_ob r]; rfl
end Tr
end Go.Proofs.YtlbbfmijemnjdaaGreatDoor
/- object.Equal: all fields are equal. -/
namespace Go.Proofs.YtlbbfmijemnjdaaGreatDoor
open Go.RowKit

def RetEq (p : Prop) (w : World) (e : Ending) (w' : World) : Prop := ∃ b : Bool, e = .returned (.bool b) ∧ (b = true ↔ p) ∧ Below w.heap.size w w'
theorem iff_no {p : Prop} (h : ¬ p) : (false = true) ↔ p := ⟨(fun e => by cases e), fun e => absurd e h⟩
theorem iff_yes {p : Prop} (h : p) : (true = true) ↔ p := ⟨fun _ => h, fun _ => rfl⟩
theorem ob_iff (k : Int) (n d p s t : List UInt8) (l m : List Ob) : l = m ↔ (⟨k, n, d, p, s, t, l⟩ : Ob) = ⟨k, n, d, p, s, t, m⟩ := ⟨fun e => by rw [e], fun e => by injection e⟩
theorem init_last {l m : List Ob} {n : Nat} (hl : l.length = n) (hm : m.length = n) (h0 : 0 < n) (h : ∀ j (h1 : j < l.length) (h2 : j < m.length), j < n - 1 → l[j] = m[j]) : (l[n - 1]'(by omega) = m[n - 1]'(by omega)) ↔ l = m := by
  constructor
  · intro e
    apply List.ext_getElem (by omega)
    intro i h1 h2
    by_cases hi : i < n - 1
    · exact h i h1 h2 hi
    · obtain rfl : i = n - 1 := by omega
      exact e
  · intro e; subst e; rfl

set_option maxHeartbeats 8000000 in
set_option maxRecDepth 100000 in
theorem oEqual_any (ok ok' : Nat → Prop) : ∀ (N : Nat) (a b : Ob), a.size ≤ N → a.Wf → ∀ (A A' : Option Addr) (n n' c c' : Nat) (w : World), Rd ok w (.slice A n c) (.row (a.pair.map Ob.enc)) → Rd ok' w (.slice A' n' c') (.row (b.pair.map Ob.enc)) →
    Calls Tryz.prog 64 #[objV a (.slice A n c), objV b (.slice A' n' c')] w (RetEq (a = b) w) := by
  intro N
  induction N with
  | zero => intro a b h; have := Ob.size_pos a; omega
  | succ N ih =>
    intro a b hN hW A A' n n' c c' w hA hB
    go_enter Tryz.func64, Tryz.ntmps64
    go_wp2
    go_loopg [5] a.size (fun gx _ wr => ∃ (x y : Ob) (A2 A3 : Option Addr) (n2 n3 c2 c3 : Nat), Hid (BlkIs wr w.heap.size 32 (obCells x (.slice A2 n2 c2))) ∧ Hid (BlkIs wr (w.heap.size + 1) 32 (obCells y (.slice A3 n3 c3))) ∧ Rd ok w (.slice A2 n2 c2) (.row (x.pair.map Ob.enc)) ∧ Rd ok' w (.slice A3 n3 c3) (.row (y.pair.map Ob.enc)) ∧ x.size ≤ N + 1 ∧ x.Wf ∧ Hid (x = y ↔ a = b) ∧ x.size ≤ gx ∧ Below w.heap.size w wr)
    case atStart => exact ⟨a, b, A, A', n, n', c, c', Lib.hid ((BlkIs.new w _ _).alloc _), Lib.hid (BlkIs.new1 w _ _ _), hA, hB, hN, hW, Lib.hid Iff.rfl, Nat.le_refl _, box2 (box _ _) _⟩
    case round =>
      obtain ⟨⟨xk, xn, xd, xp, xs, xt, xl⟩, ⟨yk, yn, yd, yp, ys, yt, yl⟩, A2, A3, n2, n3, c2, c3, HX, HY, hx, hy, hxN, hxW, HI, hg, hb⟩ := hrel
      obtain ⟨u0, u1, u2, u3, u4, u5, u6, hu⟩ := HX.out.seven
      obtain ⟨v0, v1, v2, v3, v4, v5, v6, hv⟩ := HY.out.seven
      have hxl := hx.len
      have hyl := hy.len
      rw [List.length_map] at hxl hyl
      have hw1 := hxW.len
      dsimp only at hxl hyl hw1 u0 u1 u2 u3 u4 u5 u6 v0 v1 v2 v3 v4 v5 v6
      have HN := fun (h : ¬ ((Ob.mk xk xn xd xp xs xt xl) = (Ob.mk yk yn yd yp ys yt yl))) => Lib.hid (fun e => h (HI.out.2 e))
      by_cases hk : xk = yk
      case neg =>
        have hz : (xk != yk) = true := by rw [bne_iff_ne]; exact hk
        have HF := HN (fun e => hk (by injection e))
        clear HN hk hxl hyl
        go_wp2
        go_ret
        exact ⟨false, rfl, iff_no HF.out, hb⟩
      subst hk
      by_cases hn : xn = yn
      case neg =>
        have hz : (xn == yn) = false := by rw [beq_eq_false_iff_ne]; exact hn
        have HF := HN (fun e => hn (by injection e))
        clear HN hn hxl hyl
        go_wp2
        go_ret
        exact ⟨false, rfl, iff_no HF.out, hb⟩
      subst hn
      by_cases hd : xd = yd
      case neg =>
        have hz : (xd == yd) = false := by rw [beq_eq_false_iff_ne]; exact hd
        have HF := HN (fun e => hd (by injection e))
        clear HN hd hxl hyl
        go_wp2
        go_ret
        exact ⟨false, rfl, iff_no HF.out, hb⟩
      subst hd
      by_cases hp : xp = yp
      case neg =>
        have hz : (xp == yp) = false := by rw [beq_eq_false_iff_ne]; exact hp
        have HF := HN (fun e => hp (by injection e))
        clear HN hp hxl hyl
        go_wp2
        go_ret
        exact ⟨false, rfl, iff_no HF.out, hb⟩
      subst hp
      by_cases hs : xs = ys
      case neg =>
        have hz : (xs == ys) = false := by rw [beq_eq_false_iff_ne]; exact hs
        have HF := HN (fun e => hs (by injection e))
        clear HN hs hxl hyl
        go_wp2
        go_ret
        exact ⟨false, rfl, iff_no HF.out, hb⟩
      subst hs
      by_cases ht : xt = yt
      case neg =>
        have hz : (xt == yt) = false := by rw [beq_eq_false_iff_ne]; exact ht
        have HF := HN (fun e => ht (by injection e))
        clear HN ht hxl hyl
        go_wp2
        go_ret
        exact ⟨false, rfl, iff_no HF.out, hb⟩
      subst ht
      by_cases hl : n2 = n3
      case neg =>
        have hz : ((n2 : Int) != (n3 : Int)) = true := by rw [bne_iff_ne]; omega
        have HF := HN (fun e => hl (by injection e with _ _ _ _ _ _ e; rw [← hxl, ← hyl, e]))
        clear HN hl hxl hyl
        go_wp2
        go_ret
        exact ⟨false, rfl, iff_no HF.out, hb⟩
      subst hl
      clear HN
      have HXL := Lib.hid hxl
      have HYL := Lib.hid hyl
      rw [hxl] at hw1
      clear hxl hyl
      by_cases h0 : n2 = 0
      · subst h0
        have HT : Hid (a = b) := HI.out.1 (by rw [List.eq_nil_of_length_eq_zero HXL.out, List.eq_nil_of_length_eq_zero HYL.out])
        go_wp2
        go_ret
        exact ⟨true, rfl, iff_yes HT.out, hb⟩
      · have hz0 : ((n2 : Int) == 0) = false := by rw [beq_eq_false_iff_ne]; omega
        go_wp2
        clear u0 u1 u2 u3 u4 u5 u6 hu v0 v1 v2 v3 v4 v5 v6 hv
        go_loopw [56] (fun ix wq => ∃ i : Nat, i ≤ n2 - 1 ∧ ix = .int .i64 i ∧ Hid (∀ j (h1 : j < xl.length) (h2 : j < yl.length), j < i → xl[j] = yl[j]) ∧ Hid (BlkIs wq w.heap.size 32 (obCells ⟨xk, xn, xd, xp, xs, xt, xl⟩ (.slice A2 n2 c2))) ∧ Hid (BlkIs wq (w.heap.size + 1) 32 (obCells ⟨xk, xn, xd, xp, xs, xt, yl⟩ (.slice A3 n2 c3))) ∧ Below w.heap.size w wq) (fun ix _ => n2 - 1 - (intOf ix).toNat)
        case atStart => exact ⟨0, Nat.zero_le _, rfl, Lib.hid (fun j _ _ h => absurd h (by omega)), HX, HY, hb⟩
        case round =>
          clear HX HY hb
          obtain ⟨i, hi, rfl, HJ, HX, HY, hb⟩ := hrel
          obtain ⟨u0, u1, u2, u3, u4, u5, u6, hu⟩ := HX.out.seven
          obtain ⟨v0, v1, v2, v3, v4, v5, v6, hv⟩ := HY.out.seven
          obtain ⟨f0, f1, f2, f3, f4, f5, f6⟩ := HX.out.frozen7
          obtain ⟨g0, g1, g2, g3, g4, g5, g6⟩ := HY.out.frozen7
          by_cases hin : i < n2 - 1
          · obtain ⟨p1, q1, hil, A4, n4, c4, rfl, hp1, _, a0, a1, a2, a3, a4, a5, a6, ha⟩ := hx.objs hb (i := i) (by omega)
            obtain ⟨p2, q2, hil', A5, n5, c5, rfl, hp2, _, b0, b1, b2, b3, b4, b5, b6, hb'⟩ := hy.objs hb (i := i) (by omega)
            have hp1' := Nat.lt_of_lt_of_le hp1 hb.size
            have hp2' := Nat.lt_of_lt_of_le hp2 hb.size
            have hsz := Ob.size_pair (o := ⟨xk, xn, xd, xp, xs, xt, xl⟩) (x := xl[i]) (List.getElem_mem hil)
            have hwf := hxW.kids (x := xl[i]) (List.getElem_mem hil)
            have HC : Hid (∀ wd : World, Below w.heap.size w wd → Calls Tryz.prog 64 #[objV xl[i] (.slice A4 n4 c4), objV yl[i] (.slice A5 n5 c5)] wd (RetEq (xl[i] = yl[i]) wd)) := fun wd hd => ih xl[i] yl[i] (by omega) hwf A4 A5 n4 n5 c4 c5 wd (ha.under hd) (hb'.under hd)
            have hi1 : (0 : Int) ≤ (i : Int) := by omega
            have hi2 : (i : Int) < n2 := by omega
            have hi3 : i < n2 := by omega
            have hbd := hb.drew
            go_upto_region 9 with (fail)
            go_still_tail 10, (by kernel_rfl)
            go_wp2_with fail
            refine (HC.out _ hbd).mono ?_
            rintro e w1 ⟨bb, rfl, hbb, hb1⟩
            have hbw1 := then_ hbd hb1
            cases bb with
            | false =>
              have HF : Hid (¬ a = b) := fun e => by
                have e2 := HI.out.2 e
                injection e2 with _ _ _ _ _ _ e2
                have := hbb.2 (by subst e2; rfl)
                cases this
              clear hbb
              go_wp2
              go_ret
              exact ⟨false, rfl, iff_no HF.out, hbw1⟩
            | true =>
              have HE := Lib.hid (hbb.1 rfl)
              clear hbb
              go_wp2
              go_roundw
              case rel => exact ⟨i + 1, by omega, by go_num, Lib.hid (fun j h1 h2 h => by
                rcases Nat.lt_or_ge j i with h3 | h3
                · exact HJ.out j h1 h2 h3
                · obtain rfl : j = i := by omega
                  exact HE.out), Lib.hid (HX.out.drew.below hb1), Lib.hid (HY.out.drew.below hb1), hbw1⟩
              case measure => simp only [intOf]; omega
          · obtain rfl : i = n2 - 1 := by omega
            obtain ⟨p1, q1, hil, A4, n4, c4, rfl, hp1, _, a0, a1, a2, a3, a4, a5, a6, ha⟩ := hx.objs hb (i := n2 - 1) (by omega)
            obtain ⟨p2, q2, hil', A5, n5, c5, rfl, hp2, _, b0, b1, b2, b3, b4, b5, b6, hb'⟩ := hy.objs hb (i := n2 - 1) (by omega)
            have hp1' := Nat.lt_of_lt_of_le hp1 hb.size
            have hp2' := Nat.lt_of_lt_of_le hp2 hb.size
            have hsz := Ob.size_pair (o := ⟨xk, xn, xd, xp, xs, xt, xl⟩) (x := xl[n2 - 1]) (List.getElem_mem hil)
            have hwf := hxW.kids (x := xl[n2 - 1]) (List.getElem_mem hil)
            have HL := Lib.hid (init_last HXL.out HYL.out (by omega) HJ.out)
            have hi1 : (0 : Int) ≤ (n2 : Int) - 1 := by omega
            have hi2 : (n2 : Int) - 1 < n2 := by omega
            have hi3 : ((n2 : Int) - 1).toNat = n2 - 1 := by omega
            have hbd := hb.drew
            go_upto_region 12 with (fail)
            have w1 : IntKind.i64.wrap ((n2 : Int) - 1) = (n2 : Int) - 1 := IntWalk.i64_in _ (by omega)
            go_region
            clear w1
            go_wp2
            go_roundg (xl[n2 - 1].size)
            case measure => omega
            case rel =>
              exact ⟨xl[n2 - 1], yl[n2 - 1], A4, A5, n4, n5, c4, c5, Lib.hid ((HX.out.put7.far7 (by omega) _ _ _ _ _ _ _).drew), Lib.hid ((HY.out.far7 (by omega) _ _ _ _ _ _ _).put7.drew), ha, hb', by omega, hwf, Lib.hid (HL.out.trans ((ob_iff xk xn xd xp xs xt xl yl).trans HI.out)), Nat.le_refl _, (set7 (set7 hb (Nat.le_refl _) _ _ _ _ _ _ _) (Nat.le_succ _) _ _ _ _ _ _ _).drew⟩
end Go.Proofs.YtlbbfmijemnjdaaGreatDoor
/- lispproverlaw2.first returns true; object.Compare at a string and a symbol. -/
namespace Go.Proofs.YtlbbfmijemnjdaaGreatDoor
open Go.RowKit

/-- numerator and denominator as strings -/
def sn (q : Rat) : List UInt8 := Lib.itoa q.num
end Go.Proofs.YtlbbfmijemnjdaaGreatDoor
/- lispproverref1.Valid: which strings are decimals. -/
namespace Go.Proofs.YtlbbfmijemnjdaaGreatDoor
open Go.RowKit

theorem isDec_nil {l : List UInt8} (h0 : (l == [48]) = false) (h : Dec.mag l = []) : Dec.isDec l = false := by
  unfold Dec.isDec; rw [h0, h]; rfl
theorem isDec_48 {l : List UInt8} {c : UInt8} {r : List UInt8} (h0 : (l == [48]) = false) (h : Dec.mag l = c :: r) (hc : c.toNat = 48) : Dec.isDec l = false := by
  rw [isDec_head48 h hc, h0]
theorem byte_drop {D : ByteArray} {l : List UInt8} (h : D.data.toList = l) (f k : Nat) (hf : f ≤ k) (hk : k < D.size) : ∃ hl : k - f < (l.drop f).length, D[k] = (l.drop f)[k - f] := by
  obtain ⟨h1, e⟩ := byte_at h k hk
  refine ⟨by rw [List.length_drop]; omega, ?_⟩
  rw [e]
  simp only [List.getElem_drop]
  congr 1
  omega
theorem cons_of_pos {l : List UInt8} (h : 0 < l.length) : ∃ c r, l = c :: r := by
  cases l with
  | nil => simp at h
  | cons c r => exact ⟨c, r, rfl⟩

set_option maxHeartbeats 1000000 in
theorem refValid_any (l : List UInt8) (w : World) (hl : l.length ≤ 9223372036854775807) :
    Calls Tryz.prog 106 #[.string ⟨l.toArray⟩] w fun e w' => e = .returned (.bool (Dec.isDec l)) ∧ w = w' := by
  obtain ⟨D, hD⟩ : ∃ D : ByteArray, D = ⟨l.toArray⟩ := ⟨_, rfl⟩
  rw [← hD]
  have HT : Hid (D.data.toList = l) := by rw [hD]; exact (rfl : l.toArray.toList = l)
  clear hD
  have hsz : D.size ≤ 9223372036854775807 := by rw [Lib.size_eq, HT.out]; exact hl
  cases h48 : (l == [48]) with
  | true =>
    have hE : (D.toList == [48]) = true := by rw [Lib.toList_data, HT.out]; exact h48
    have HR : Hid (Dec.isDec l = true) := by show _ = _; unfold Dec.isDec; rw [h48]; rfl
    clear h48
    go_enter Tryz.func106, Tryz.ntmps106
    go_wp2
    go_ret
    exact ⟨by rw [HR.out]; rfl, rfl⟩
  | false =>
    have hE : (D.toList == [48]) = false := by rw [Lib.toList_data, HT.out]; exact h48
    have H48 := Lib.hid h48
    clear h48
    by_cases h0 : D.size = 0
    · have HR := Lib.hid (isDec_nil H48.out (by rw [← HT.out, List.eq_nil_of_length_eq_zero (l := D.data.toList) (by rw [← Lib.size_eq]; exact h0)]; rfl))
      go_enter Tryz.func106, Tryz.ntmps106
      go_wp2
      go_ret
      exact ⟨by rw [HR.out]; rfl, rfl⟩
    · have hpos : 0 < D.size := by omega
      obtain ⟨hl0, e0⟩ := byte_at HT.out 0 hpos
      obtain ⟨c0, r0, hcr⟩ := cons_of_pos hl0
      have ec : D[0] = c0 := by rw [e0]; simp [hcr]
      by_cases h45 : c0 = 45
      · have HM : Hid (Dec.mag l = l.drop 1) := by show _ = _; rw [hcr, h45, Dec.mag_cons45]; rfl
        have hb45 : ((D[0].toNat : Int) == 45) = true := by rw [ec, h45]; rfl
        clear h45 e0 ec hcr hl0
        by_cases hf : D.size ≤ 1
        · have HR := Lib.hid (isDec_nil H48.out (by rw [HM.out, List.drop_of_length_le (by rw [← HT.out, ← Lib.size_eq]; exact hf)]))
          go_enter Tryz.func106, Tryz.ntmps106
          go_wp2
          go_ret
          exact ⟨by rw [HR.out]; rfl, rfl⟩
        · have hfs : 1 < D.size := by omega
          obtain ⟨hlf, ef⟩ := byte_drop HT.out 1 1 (Nat.le_refl _) hfs
          obtain ⟨c, r, hcr⟩ := cons_of_pos (l := l.drop 1) (by omega)
          have ec : D[1] = c := by rw [ef]; simp [hcr]
          by_cases h8 : D[1].toNat = 48
          · have HR := Lib.hid (isDec_48 H48.out (HM.out.trans hcr) (by rw [← ec]; exact h8))
            have hb48 : ((D[1].toNat : Int) == 48) = true := by rw [beq_iff_eq]; omega
            clear h8 ef ec hcr hlf
            go_enter Tryz.func106, Tryz.ntmps106
            go_wp2
            go_ret
            exact ⟨by rw [HR.out]; rfl, rfl⟩
          · have HF := Lib.hid (isDec_head (HM.out.trans hcr) (by rw [← ec]; exact h8))
            have hb48 : ((D[1].toNat : Int) == 48) = false := by rw [beq_eq_false_iff_ne]; omega
            clear h8 ef ec hcr hlf
            go_enter Tryz.func106, Tryz.ntmps106
            go_wp2
            go_loop [4] (fun ix => ∃ k : Nat, 1 ≤ k ∧ k ≤ D.size ∧ ix = .int .i64 k ∧ Hid (Dec.digs ((Dec.mag l).take (k - 1)) = true)) (fun ix => D.size - (intOf ix).toNat)
            case atStart => exact ⟨1, Nat.le_refl _, by omega, rfl, (rfl : Dec.digs ((Dec.mag l).take 0) = true)⟩
            case round =>
              obtain ⟨k, hfk, hk, rfl, HK⟩ := hrel
              by_cases hlt : k < D.size
              · obtain ⟨hkl, ek⟩ := byte_drop HT.out 1 k hfk hlt
                have EK := Lib.hid ek
                clear ek
                rcases Nat.lt_or_ge D[k].toNat 48 with h1 | h1
                · have HR : Hid (Dec.isDec l = false) := by show _ = _; rw [HF.out, HM.out]; exact digs_not hkl (.inl (by rw [← EK.out]; exact h1))
                  go_wp2
                  go_ret
                  exact ⟨by rw [HR.out]; rfl, rfl⟩
                · rcases Nat.lt_or_ge 57 D[k].toNat with h2 | h2
                  · have HR : Hid (Dec.isDec l = false) := by show _ = _; rw [HF.out, HM.out]; exact digs_not hkl (.inr (by rw [← EK.out]; exact h2))
                    go_wp2
                    go_ret
                    exact ⟨by rw [HR.out]; rfl, rfl⟩
                  · go_wp2
                    go_round
                    case rel => exact ⟨k + 1, by omega, by omega, by go_num, Lib.hid (by
                      have h3 := HK.out
                      rw [HM.out] at h3 ⊢
                      rw [show k + 1 - 1 = (k - 1) + 1 by omega]
                      exact digs_take_succ hkl h3 (by rw [← EK.out]; exact h1) (by rw [← EK.out]; exact h2))⟩
                    case measure => simp only [intOf]; omega
              · have HR : Hid (Dec.isDec l = true) := by
                  show _ = _
                  rw [HF.out]
                  have := HK.out
                  rwa [List.take_of_length_le (by rw [HM.out, List.length_drop, ← HT.out, ← Lib.size_eq]; omega)] at this
                go_wp2
                go_ret
                exact ⟨by rw [HR.out]; rfl, rfl⟩
      · have HM : Hid (Dec.mag l = l.drop 0) := by show _ = _; rw [hcr]; simp [Dec.mag, h45]
        have hb45 : ((D[0].toNat : Int) == 45) = false := by
          rw [ec, beq_eq_false_iff_ne]; intro e
          exact h45 (UInt8.toNat_inj.1 (by have : c0.toNat = 45 := by omega
                                           simpa using this))
        clear h45 e0 ec hcr hl0
        by_cases hf : D.size ≤ 0
        · omega
        · have hfs : 0 < D.size := by omega
          obtain ⟨hlf, ef⟩ := byte_drop HT.out 0 0 (Nat.le_refl _) hfs
          obtain ⟨c, r, hcr⟩ := cons_of_pos (l := l.drop 0) (by omega)
          have ec : D[0] = c := by rw [ef]; simp [hcr]
          by_cases h8 : D[0].toNat = 48
          · have HR := Lib.hid (isDec_48 H48.out (HM.out.trans hcr) (by rw [← ec]; exact h8))
            have hb48 : ((D[0].toNat : Int) == 48) = true := by rw [beq_iff_eq]; omega
            clear h8 ef ec hcr hlf
            go_enter Tryz.func106, Tryz.ntmps106
            go_wp2
            go_ret
            exact ⟨by rw [HR.out]; rfl, rfl⟩
          · have HF := Lib.hid (isDec_head (HM.out.trans hcr) (by rw [← ec]; exact h8))
            have hb48 : ((D[0].toNat : Int) == 48) = false := by rw [beq_eq_false_iff_ne]; omega
            clear h8 ef ec hcr hlf
            go_enter Tryz.func106, Tryz.ntmps106
            go_wp2
            go_loop [4] (fun ix => ∃ k : Nat, 0 ≤ k ∧ k ≤ D.size ∧ ix = .int .i64 k ∧ Hid (Dec.digs ((Dec.mag l).take (k - 0)) = true)) (fun ix => D.size - (intOf ix).toNat)
            case atStart => exact ⟨0, Nat.le_refl _, by omega, rfl, (rfl : Dec.digs ((Dec.mag l).take 0) = true)⟩
            case round =>
              obtain ⟨k, hfk, hk, rfl, HK⟩ := hrel
              by_cases hlt : k < D.size
              · obtain ⟨hkl, ek⟩ := byte_drop HT.out 0 k hfk hlt
                have EK := Lib.hid ek
                clear ek
                rcases Nat.lt_or_ge D[k].toNat 48 with h1 | h1
                · have HR : Hid (Dec.isDec l = false) := by show _ = _; rw [HF.out, HM.out]; exact digs_not hkl (.inl (by rw [← EK.out]; exact h1))
                  go_wp2
                  go_ret
                  exact ⟨by rw [HR.out]; rfl, rfl⟩
                · rcases Nat.lt_or_ge 57 D[k].toNat with h2 | h2
                  · have HR : Hid (Dec.isDec l = false) := by show _ = _; rw [HF.out, HM.out]; exact digs_not hkl (.inr (by rw [← EK.out]; exact h2))
                    go_wp2
                    go_ret
                    exact ⟨by rw [HR.out]; rfl, rfl⟩
                  · go_wp2
                    go_round
                    case rel => exact ⟨k + 1, by omega, by omega, by go_num, Lib.hid (by
                      have h3 := HK.out
                      rw [HM.out] at h3 ⊢
                      rw [show k + 1 - 0 = (k - 0) + 1 by omega]
                      exact digs_take_succ hkl h3 (by rw [← EK.out]; exact h1) (by rw [← EK.out]; exact h2))⟩
                    case measure => simp only [intOf]; omega
              · have HR : Hid (Dec.isDec l = true) := by
                  show _ = _
                  rw [HF.out]
                  have := HK.out
                  rwa [List.take_of_length_le (by rw [HM.out, List.length_drop, ← HT.out, ← Lib.size_eq]; omega)] at this
                go_wp2
                go_ret
                exact ⟨by rw [HR.out]; rfl, rfl⟩
theorem refv (l : List UInt8) (z : Bool) (hz : Dec.isDec l = z) (hl : l.length ≤ 9223372036854775807) (w : World) : Calls Tryz.prog 106 #[.string ⟨l.toArray⟩] w fun e w' => e = .returned (.bool z) ∧ w = w' := by
  have := refValid_any l w hl
  rwa [hz] at this

end Go.Proofs.YtlbbfmijemnjdaaGreatDoor
/- lispproverref1.trim, digits: the digits of a decimal. -/
namespace Go.Proofs.YtlbbfmijemnjdaaGreatDoor
open Go.RowKit

theorem infoInt : (Tryz.prog.info? 3).map (fun i => (i.zero, i.size, i.bytes)) = some (some (.int .i64 0), 1, 8) := by kernel_rfl

set_option maxHeartbeats 400000 in
theorem refTrim_any (A : Option Addr) (n c : Nat) (l : List Nat) (w : World) (h : Sl w .i64 A n c l) (hn : n ≤ 1000000000) :
    Calls Tryz.prog 107 #[.slice A n c] w fun e w' => e = .returned (.slice A (Dec.trimZ l).length c) ∧ w = w' := by
  have hlen := h.len
  have hcap := h.cap
  go_enter Tryz.func107, Tryz.ntmps107
  go_wp2
  go_loop [3] (fun v => ∃ m : Nat, v = .int .i64 m ∧ m ≤ n ∧ Hid (Dec.trimZ (l.take m) = Dec.trimZ l)) (fun v => (intOf v).toNat)
  case atStart => exact ⟨n, rfl, Nat.le_refl _, Lib.hid (by rw [List.take_of_length_le (by omega)])⟩
  case round =>
    obtain ⟨m, rfl, hm, HT⟩ := hrel
    by_cases h0 : 0 < m
    · obtain ⟨b, o, rfl, hb, hc⟩ := h.cells (by omega)
      have hcm := hc (m - 1) (by omega)
      clear hc
      go_wp2
      · have hz : l.getD (m - 1) 0 = 0 := by simpa using ‹((l[m - 1]?.getD 0 : Nat) == (0 : Int)) = true›
        go_round
        case rel => exact ⟨m - 1, by go_num, by omega, Lib.hid (by rw [trimZ_step h0 (by omega) hz]; exact HT.out)⟩
        case measure => simp only [intOf]; omega
      · have hz : l.getD (m - 1) 0 ≠ 0 := by simpa using ‹((l[m - 1]?.getD 0 : Nat) == (0 : Int)) = false›
        go_ret
        refine ⟨?_, rfl⟩
        have e : (Dec.trimZ l).length = m := by
          rw [← HT.out, trimZ_stop h0 (by omega) hz, List.length_take]; omega
        rw [e]; rfl
    · have e : (Dec.trimZ l).length = m := by
        rw [← HT.out, show m = 0 by omega]; rfl
      have HE := Lib.hid e
      clear e
      go_wp2
      go_ret
      refine ⟨?_, rfl⟩
      rw [HE.out]; rfl

def RetDig (K : Nat) (v : Int) (w : World) (e : Ending) (w' : World) : Prop :=
  ∃ A n c, e = .returned (.tuple #[.bool (decide (v < 0)), .slice A n c]) ∧ Sl w' .i64 A n c (Dec.limbs 10 v.natAbs) ∧ n ≤ K ∧ Below w.heap.size w w'
theorem revDigs_cons (c : UInt8) (r : List UInt8) : Dec.revDigs (c :: r) = Dec.revDigs r ++ [c.toNat - 48] := by simp [Dec.revDigs]
theorem revDigs_drop (l : List UInt8) (j : Nat) (h0 : 0 < j) (hj : j ≤ l.length) : Dec.revDigs (l.drop (j - 1)) = Dec.revDigs (l.drop j) ++ [(l[j - 1]'(by omega)).toNat - 48] := by
  obtain ⟨m, rfl⟩ : ∃ m, j = m + 1 := ⟨j - 1, by omega⟩
  simp only [Nat.add_sub_cancel]
  rw [List.drop_eq_getElem_cons (by omega), revDigs_cons]

set_option maxHeartbeats 1000000 in
theorem refDigits_any (l : List UInt8) (w : World) (hl : l.length ≤ 2500000) :
    Calls Tryz.prog 90 #[.string ⟨l.toArray⟩] w (RetDig (l.length + 1) (Dec.dval l) w) := by
  cases hv : Dec.isDec l with
  | false =>
    have HV := Lib.hid (refv l false hv (by omega) w)
    have HD : Hid (Dec.dval l = 0) := by show _ = _; unfold Dec.dval; rw [hv]; rfl
    clear hv
    go_enter Tryz.func90, Tryz.ntmps90
    go_wp2_with fail
    refine HV.out.mono ?_
    rintro e w' ⟨rfl, rfl⟩
    go_wp2
    go_ret2
    exact ⟨none, 0, 0, by rw [HD.out]; rfl, by rw [HD.out]; exact Sl.nil _ _ _ _, by omega, Below.refl _ _⟩
  | true =>
    have HV := Lib.hid (refv l true hv (by omega) w)
    obtain ⟨D, hD⟩ : ∃ D : ByteArray, D = ⟨l.toArray⟩ := ⟨_, rfl⟩
    rw [← hD] at HV
    rw [← hD]
    have HT : Hid (D.data.toList = l) := by rw [hD]; exact (rfl : l.toArray.toList = l)
    clear hD
    have hsz : D.size ≤ 2500000 := by rw [Lib.size_eq, HT.out]; exact hl
    have HSz : Hid (D.size = l.length) := by show _ = _; rw [Lib.size_eq, HT.out]
    by_cases h0 : l = [48]
    · have hE : (D.toList == [48]) = true := by rw [Lib.toList_data, HT.out, h0]; rfl
      have HD : Hid (Dec.dval l = 0) := by rw [h0]; exact Dec.dval_zero
      clear hv h0
      go_enter Tryz.func90, Tryz.ntmps90
      go_wp2_with fail
      refine HV.out.mono ?_
      rintro e w' ⟨rfl, rfl⟩
      go_wp2
      go_ret2
      exact ⟨none, 0, 0, by rw [HD.out]; rfl, by rw [HD.out]; exact Sl.nil _ _ _ _, by omega, Below.refl _ _⟩
    · have hE : (D.toList == [48]) = false := by rw [Lib.toList_data, HT.out]; simpa using h0
      obtain ⟨hd, hh⟩ := (Dec.isDec_iff h0).1 hv
      have hz := (Dec.decDigits_nval _ hd hh).2
      have HDv : Hid (Dec.dval l = if Dec.neg l then -(Dec.nval (Dec.mag l) : Int) else Dec.nval (Dec.mag l)) := by show _ = _; unfold Dec.dval; rw [if_pos hv]
      have HRv := Lib.hid (Dec.revDigs_limbs hd hh)
      have HDg := Lib.hid hd
      have hlp : 0 < l.length := by
        rcases Nat.eq_zero_or_pos l.length with e | e
        · obtain ⟨c, r, e2, _⟩ := hh
          have := Dec.mag_length_le l
          rw [e2, List.length_cons] at this
          omega
        · exact e
      have hpos : 0 < D.size := by rw [HSz.out]; exact hlp
      obtain ⟨_, e0⟩ := byte_at HT.out 0 hpos
      obtain ⟨c0, r0, hcr⟩ := cons_of_pos hlp
      have ec : D[0] = c0 := by rw [e0]; simp [hcr]
      clear hv h0 hd hh e0
      by_cases h45 : c0 = 45
      · have HM : Hid (Dec.mag l = l.drop 1) := by show _ = _; rw [hcr, h45, Dec.mag_cons45]; rfl
        have hng : Dec.neg l = true := by rw [hcr, h45]; rfl
        have HN : Hid (decide (Dec.dval l < 0) = true ∧ (Dec.dval l).natAbs = Dec.nval (Dec.mag l)) := by show _ ∧ _; rw [HDv.out, hng, if_pos rfl]; exact ⟨decide_eq_true (by omega), by omega⟩
        have hb45 : ((D[0].toNat : Int) == 45) = true := by rw [ec, h45]; rfl
        clear h45 ec hcr hng hz
        go_enter Tryz.func90, Tryz.ntmps90
        go_wp2_with fail
        refine HV.out.mono ?_
        rintro e w' ⟨rfl, rfl⟩
        go_wp2
        go_loopw [6, 7] (fun out ix wr => ∃ (j c2 m : Nat) (A2 : Option Addr), 1 ≤ j ∧ j ≤ D.size ∧ ix = .int .i64 ((j : Int) - 1) ∧ out = .slice A2 m c2 ∧ m + j = D.size ∧ Own wr w.heap.size 3 .i64 A2 m c2 (Dec.revDigs (l.drop j)) ∧ Below w.heap.size w wr) (fun _ ix _ => (intOf ix + 1).toNat)
        case atStart => exact ⟨D.size, 0, 0, none, by omega, Nat.le_refl _, rfl, rfl, by omega, by rw [List.drop_of_length_le (by rw [HSz.out]; exact Nat.le_refl _)]; exact Own.nil _ _ _ _, Below.refl _ _⟩
        case round =>
          obtain ⟨j, c2, m, A2, hfj, hj, rfl, rfl, hmj, hown, hb⟩ := hrel
          have HMJ := Lib.hid hmj
          have hmle : m ≤ 2500000 := by omega
          clear hmj
          by_cases hlt : 1 < j
          · have hj1 : j - 1 < D.size := by omega
            obtain ⟨hkl, ek⟩ := byte_at HT.out (j - 1) hj1
            have hdg := List.all_eq_true.1 HDg.out D[j - 1] (by rw [HM.out, ek]; exact List.mem_drop_iff_getElem.2 ⟨j - 1 - 1, by omega, by congr 1; omega⟩)
            simp only [Dec.dig, Bool.and_eq_true, decide_eq_true_eq] at hdg
            obtain ⟨g1, g2⟩ := hdg
            have HRD := Lib.hid (revDigs_drop l j (by omega) (by rw [← HSz.out]; exact hj))
            have EK := Lib.hid ek
            clear ek
            have hi1 : (0 : Int) ≤ (j : Int) - 1 := by omega
            have hi2 : (j : Int) - 1 < D.size := by omega
            have hi3 : ((j : Int) - 1).toNat = j - 1 := by omega
            go_wp2_with (at_builtin; refine wpList_app (w0 := w) rfl _ _ _ rfl 3 .i64 8 Tryz.underlying102 infoInt (by omega) _ _ _ _ rfl hown _ (D[j - 1].toNat - 48) (by omega) rfl (by omega) hb ?_; intro A3 c3 w2 hown2 hb2 _ _ _)
            go_roundw
            case rel => exact ⟨j - 1, c3, m + 1, A3, by omega, by omega, by go_num, rfl, by have := HMJ.out; omega, by rw [HRD.out, ← EK.out]; exact hown2, hb2⟩
            case measure => simp only [intOf]; omega
          · obtain rfl : j = 1 := by omega
            go_wp2
            go_ret2
            refine ⟨A2, m, c2, by rw [HN.out.1]; rfl, ?_, by have := HMJ.out; have := HSz.out; omega, hb⟩
            rw [HN.out.2, ← HRv.out, HM.out]
            exact hown.sl
      · have HM : Hid (Dec.mag l = l.drop 0) := by show _ = _; rw [hcr]; simp [Dec.mag, h45]
        have hng : Dec.neg l = false := by rw [hcr]; simp [Dec.neg, h45]
        have HN : Hid (decide (Dec.dval l < 0) = false ∧ (Dec.dval l).natAbs = Dec.nval (Dec.mag l)) := by show _ ∧ _; rw [HDv.out, hng, if_neg (by simp)]; exact ⟨decide_eq_false (by omega), by omega⟩
        have hb45 : ((D[0].toNat : Int) == 45) = false := by
          rw [ec, beq_eq_false_iff_ne]; intro e
          exact h45 (UInt8.toNat_inj.1 (by have : c0.toNat = 45 := by omega
                                           simpa using this))
        clear h45 ec hcr hng hz
        go_enter Tryz.func90, Tryz.ntmps90
        go_wp2_with fail
        refine HV.out.mono ?_
        rintro e w' ⟨rfl, rfl⟩
        go_wp2
        go_loopw [6, 7] (fun out ix wr => ∃ (j c2 m : Nat) (A2 : Option Addr), 0 ≤ j ∧ j ≤ D.size ∧ ix = .int .i64 ((j : Int) - 1) ∧ out = .slice A2 m c2 ∧ m + j = D.size ∧ Own wr w.heap.size 3 .i64 A2 m c2 (Dec.revDigs (l.drop j)) ∧ Below w.heap.size w wr) (fun _ ix _ => (intOf ix + 1).toNat)
        case atStart => exact ⟨D.size, 0, 0, none, by omega, Nat.le_refl _, rfl, rfl, by omega, by rw [List.drop_of_length_le (by rw [HSz.out]; exact Nat.le_refl _)]; exact Own.nil _ _ _ _, Below.refl _ _⟩
        case round =>
          obtain ⟨j, c2, m, A2, hfj, hj, rfl, rfl, hmj, hown, hb⟩ := hrel
          have HMJ := Lib.hid hmj
          have hmle : m ≤ 2500000 := by omega
          clear hmj
          by_cases hlt : 0 < j
          · have hj1 : j - 1 < D.size := by omega
            obtain ⟨hkl, ek⟩ := byte_at HT.out (j - 1) hj1
            have hdg := List.all_eq_true.1 HDg.out D[j - 1] (by rw [HM.out, ek]; exact List.mem_drop_iff_getElem.2 ⟨j - 1 - 0, by omega, by congr 1; omega⟩)
            simp only [Dec.dig, Bool.and_eq_true, decide_eq_true_eq] at hdg
            obtain ⟨g1, g2⟩ := hdg
            have HRD := Lib.hid (revDigs_drop l j (by omega) (by rw [← HSz.out]; exact hj))
            have EK := Lib.hid ek
            clear ek
            have hi1 : (0 : Int) ≤ (j : Int) - 1 := by omega
            have hi2 : (j : Int) - 1 < D.size := by omega
            have hi3 : ((j : Int) - 1).toNat = j - 1 := by omega
            go_wp2_with (at_builtin; refine wpList_app (w0 := w) rfl _ _ _ rfl 3 .i64 8 Tryz.underlying102 infoInt (by omega) _ _ _ _ rfl hown _ (D[j - 1].toNat - 48) (by omega) rfl (by omega) hb ?_; intro A3 c3 w2 hown2 hb2 _ _ _)
            go_roundw
            case rel => exact ⟨j - 1, c3, m + 1, A3, by omega, by omega, by go_num, rfl, by have := HMJ.out; omega, by rw [HRD.out, ← EK.out]; exact hown2, hb2⟩
            case measure => simp only [intOf]; omega
          · obtain rfl : j = 0 := by omega
            go_wp2
            go_ret2
            refine ⟨A2, m, c2, by rw [HN.out.1]; rfl, ?_, by have := HMJ.out; have := HSz.out; omega, hb⟩
            rw [HN.out.2, ← HRv.out, HM.out]
            exact hown.sl
end Go.Proofs.YtlbbfmijemnjdaaGreatDoor
/- lispproverref1.order: compares the values of two lists of digits. -/
namespace Go.Proofs.YtlbbfmijemnjdaaGreatDoor
open Go.RowKit

set_option maxHeartbeats 400000 in
theorem order_same (B : Nat) (hB : 2 ≤ B) (A A' : Option Addr) (n c c' : Nat) (x y : List Nat) (w : World) (hx : Sl w .i64 A n c x) (hy : Sl w .i64 A' n c' y) (hn : n ≤ 1000000000)
    (hsx : Dec.Small B x) (hsy : Dec.Small B y) :
    Calls Tryz.prog 108 #[.slice A n c, .slice A' n c'] w (Cmp (Dec.lval B x) (Dec.lval B y) w) := by
  have hlx := hx.len
  have hly := hy.len
  have HX := Lib.hid hlx
  have HY := Lib.hid hly
  clear hlx hly
  go_enter Tryz.func108, Tryz.ntmps108
  go_wp2
  go_loopw [5] (fun i wr => ∃ k q : Nat, k ≤ n ∧ i = .int .i64 ((k : Int) - 1) ∧ Hid (x.drop k = y.drop k) ∧ wr = w.drewN q) (fun i _ => (intOf i + 1).toNat)
  case atStart => exact ⟨n, 0, Nat.le_refl _, rfl, (by rw [List.drop_of_length_le (by rw [HX.out]; exact Nat.le_refl _), List.drop_of_length_le (by rw [HY.out]; exact Nat.le_refl _)] : x.drop n = y.drop n), rfl⟩
  case round =>
    obtain ⟨k, q, hk, rfl, HD, rfl⟩ := hrel
    by_cases h0 : 0 < k
    · obtain ⟨b, o, rfl, hb, hc⟩ := hx.cells (by omega)
      obtain ⟨b', o', rfl, hb', hc'⟩ := hy.cells (by omega)
      have hcm := hc (k - 1) (by omega)
      have hcm' := hc' (k - 1) (by omega)
      clear hc hc' hb hb'
      have hi1 : (0 : Int) ≤ (k : Int) - 1 := by omega
      have hi2 : (k : Int) - 1 < n := by omega
      have hi3 : ((k : Int) - 1).toNat = k - 1 := by omega
      generalize hu : x.getD (k - 1) 0 = u at hcm
      generalize hv : y.getD (k - 1) 0 = v at hcm'
      have HU := Lib.hid hu
      have HV := Lib.hid hv
      clear hu hv
      rcases Nat.lt_trichotomy u v with hlt | heq | hgt
      · have e2 : decide ((u : Int) < v) = true := by simp; omega
        go_wp2
        go_quiet (fail)
        go_wp2
        go_ret
        refine ⟨?_, ex_drew2 _ _ _⟩
        rw [ordI_lt (Dec.lval_lt_of_top (i := k - 1) hsx hB (by rw [HX.out]; omega) (by rw [HX.out, HY.out]) (by rw [Nat.sub_add_cancel h0]; exact HD.out) (by rw [HU.out, HV.out]; exact hlt))]
        rfl
      · have e2 : decide ((u : Int) < v) = false := by simp; omega
        have e3 : decide ((v : Int) < u) = false := by simp; omega
        go_wp2
        go_quiet (fail)
        go_wp2
        go_quiet (fail)
        go_wp2
        go_roundw
        case rel => exact ⟨k - 1, _, by omega, by go_num, drop_pred h0 (by rw [HX.out]; exact hk) (by rw [HX.out, HY.out]) HD.out (by rw [HU.out, HV.out, heq]), rfl⟩
        case measure => simp only [intOf]; omega
      · have e2 : decide ((u : Int) < v) = false := by simp; omega
        have e3 : decide ((v : Int) < u) = true := by simp; omega
        go_wp2
        go_quiet (fail)
        go_wp2
        go_quiet (fail)
        go_wp2
        go_ret
        refine ⟨?_, ex_drew3 _ _ _ _⟩
        rw [ordI_gt (Dec.lval_lt_of_top (i := k - 1) hsy hB (by rw [HY.out]; omega) (by rw [HX.out, HY.out]) (by rw [Nat.sub_add_cancel h0]; exact HD.out.symm) (by rw [HU.out, HV.out]; exact hgt))]
        rfl
    · have hk0 : k = 0 := by omega
      subst hk0
      go_wp2
      go_ret
      refine ⟨?_, _, rfl⟩
      have e : x = y := by simpa using HD.out
      rw [e, ordI_eq]
      rfl

set_option maxHeartbeats 400000 in
theorem orderR_any (B : Nat) (hB : 2 ≤ B) (A A' : Option Addr) (n n' c c' a b : Nat) (w : World) (hx : Sl w .i64 A n c (Dec.limbs B a)) (hy : Sl w .i64 A' n' c' (Dec.limbs B b)) (hn : n ≤ 1000000000) (hn' : n' ≤ 1000000000) :
    Calls Tryz.prog 108 #[.slice A n c, .slice A' n' c'] w (Cmp a b w) := by
  rcases Nat.lt_trichotomy n n' with hlt | heq | hgt
  · have e1 : ((n : Int) != n') = true := by rw [bne_iff_ne]; omega
    have hv : a < b := Dec.lt_of_length_lt hB (by rw [hx.len, hy.len]; exact hlt)
    have HV := Lib.hid (ordI_lt hv)
    clear hv hx hy
    go_enter Tryz.func108, Tryz.ntmps108
    go_wp2
    go_ret
    refine ⟨?_, 0, rfl⟩
    rw [HV.out]
    rfl
  · subst heq
    have := order_same B hB A A' n c c' _ _ w hx hy hn (Dec.limbs_small hB a) (Dec.limbs_small hB b)
    rwa [Dec.lval_limbs hB, Dec.lval_limbs hB] at this
  · have e1 : ((n : Int) != n') = true := by rw [bne_iff_ne]; omega
    have e2 : decide (n < n') = false := by simp; omega
    have hv : b < a := Dec.lt_of_length_lt hB (by rw [hx.len, hy.len]; exact hgt)
    have HV := Lib.hid (ordI_gt hv)
    clear hv hx hy
    go_enter Tryz.func108, Tryz.ntmps108
    go_wp2
    go_ret
    refine ⟨?_, 0, rfl⟩
    rw [HV.out]
    rfl
end Go.Proofs.YtlbbfmijemnjdaaGreatDoor
/- lispproverref1.plus and minus: digits of the sum and of the difference. -/
namespace Go.Proofs.YtlbbfmijemnjdaaGreatDoor
open Go.RowKit

theorem getD_out {l : List Nat} {k n : Nat} (h : l.length = n) (hk : ¬ k < n) : l.getD k 0 = 0 := by
  rw [List.getD_eq_getElem?_getD, List.getElem?_eq_none (by omega)]; rfl

end Go.Proofs.YtlbbfmijemnjdaaGreatDoor
/- lispproverref1.minus: the digits of the difference. -/
namespace Go.Proofs.YtlbbfmijemnjdaaGreatDoor
open Go.RowKit

set_option maxHeartbeats 2000000 in
theorem refMinus_any (A A' : Option Addr) (n n' c c' : Nat) (x y : List Nat) (w : World) (hx : Sl w .i64 A n c x) (hy : Sl w .i64 A' n' c' y) (hn : n ≤ 100000000) (hnn : n' ≤ n)
    (hsx : Dec.Small 10 x) (hsy : Dec.Small 10 y) (hle : Dec.lval 10 y ≤ Dec.lval 10 x) :
    Calls Tryz.prog 109 #[.slice A n c, .slice A' n' c'] w (RetSl .i64 (Dec.limbs 10 (Dec.lval 10 x - Dec.lval 10 y)) w) := by
  go_enter Tryz.func109, Tryz.ntmps109
  go_wp2
  go_loopw [5, 6, 7] (fun out br ix wr => ∃ (k : Nat) (A2 : Option Addr) (c2 : Nat) (o : List Nat) (bw : Nat), k ≤ n ∧ ix = .int .i64 k ∧ out = .slice A2 k c2 ∧ br = .int .i64 bw ∧ bw ≤ 1 ∧ Own wr w.heap.size 3 .i64 A2 k c2 o ∧ Dec.Small 10 o ∧ Hid (Dec.lval 10 (x.take k) + 10 ^ k * bw = Dec.lval 10 o + Dec.lval 10 (y.take k)) ∧ Below w.heap.size w wr) (fun _ _ ix _ => n - (intOf ix).toNat)
  case atStart => exact ⟨0, none, 0, [], 0, by omega, rfl, rfl, rfl, by omega, Own.nil _ _ _ _, Dec.Small.nil, Lib.hid (by simp [Dec.lval]), Below.refl _ _⟩
  case round =>
    obtain ⟨k, A2, c2, o, bw, hk, rfl, rfl, rfl, hbw, hown, hso, HV, hb⟩ := hrel
    have HO := Lib.hid hown.len
    by_cases hkn : k < n
    · obtain ⟨b, off, rfl, _, hcx⟩ := (hx.below hb).cells (by omega)
      have hcu := hcx k hkn
      clear hcx
      have hu := getD_lt (l := x) hsx (by omega) k
      have HR := fun d t => Lib.hid (Dec.minus_round (B := 10) (a := x) (b := y) (d := d) (n := t) HO.out HV.out)
      by_cases hkm : k < n'
      · obtain ⟨b', off', rfl, _, hcy'⟩ := (hy.below hb).cells (by omega)
        have hcv := hcy' k hkm
        clear hcy'
        have hv := getD_lt (l := y) hsy (by omega) k
        generalize x.getD k 0 = u at hcu hu HR
        generalize y.getD k 0 = v at hcv hv HR
        by_cases hneg : (u : Int) - bw - v < 0
        · have HR1 := Lib.hid ((HR 1 (u + 10 - bw - v)).out (by omega))
          clear HR
          go_wp2_with (at_builtin; refine wpList_app (w0 := w) rfl _ _ _ rfl 3 .i64 8 Tryz.underlying102 infoInt (by omega) _ _ _ o rfl hown _ (u + 10 - bw - v) (by omega) rfl (by omega) hb ?_; intro A3 c3 w2 hown2 hb2 _ _ _)
          go_roundw
          case rel => exact ⟨k + 1, A3, c3, o ++ [u + 10 - bw - v], 1, by omega, by go_num, rfl, rfl, by omega, hown2, hso.append (Dec.Small.cons (by omega) Dec.Small.nil), HR1, hb2⟩
          case measure => simp only [intOf]; omega
        · have HR1 := Lib.hid ((HR 0 (u - bw - v)).out (by omega))
          clear HR
          go_wp2_with (at_builtin; refine wpList_app (w0 := w) rfl _ _ _ rfl 3 .i64 8 Tryz.underlying102 infoInt (by omega) _ _ _ o rfl hown _ (u - bw - v) (by omega) rfl (by omega) hb ?_; intro A3 c3 w2 hown2 hb2 _ _ _)
          go_roundw
          case rel => exact ⟨k + 1, A3, c3, o ++ [u - bw - v], 0, by omega, by go_num, rfl, rfl, by omega, hown2, hso.append (Dec.Small.cons (by omega) Dec.Small.nil), HR1, hb2⟩
          case measure => simp only [intOf]; omega
      · have hv := getD_out hy.len hkm
        rw [hv] at HR
        clear hv
        generalize x.getD k 0 = u at hcu hu HR
        by_cases hneg : (u : Int) - bw < 0
        · have HR1 := Lib.hid ((HR 1 (u + 10 - bw)).out (by omega))
          clear HR
          go_wp2_with (at_builtin; refine wpList_app (w0 := w) rfl _ _ _ rfl 3 .i64 8 Tryz.underlying102 infoInt (by omega) _ _ _ o rfl hown _ (u + 10 - bw) (by omega) rfl (by omega) hb ?_; intro A3 c3 w2 hown2 hb2 _ _ _)
          go_roundw
          case rel => exact ⟨k + 1, A3, c3, o ++ [u + 10 - bw], 1, by omega, by go_num, rfl, rfl, by omega, hown2, hso.append (Dec.Small.cons (by omega) Dec.Small.nil), HR1, hb2⟩
          case measure => simp only [intOf]; omega
        · have HR1 := Lib.hid ((HR 0 (u - bw)).out (by omega))
          clear HR
          go_wp2_with (at_builtin; refine wpList_app (w0 := w) rfl _ _ _ rfl 3 .i64 8 Tryz.underlying102 infoInt (by omega) _ _ _ o rfl hown _ (u - bw) (by omega) rfl (by omega) hb ?_; intro A3 c3 w2 hown2 hb2 _ _ _)
          go_roundw
          case rel => exact ⟨k + 1, A3, c3, o ++ [u - bw], 0, by omega, by go_num, rfl, rfl, by omega, hown2, hso.append (Dec.Small.cons (by omega) Dec.Small.nil), HR1, hb2⟩
          case measure => simp only [intOf]; omega
    · have hkk : k = n := by omega
      subst hkk
      have HF : Hid (Dec.lval 10 o = Dec.lval 10 x - Dec.lval 10 y) := by
        have h := HV.out
        rw [List.take_of_length_le (by rw [hx.len]; omega), List.take_of_length_le (by rw [hy.len]; omega)] at h
        have hlt := Dec.lval_lt (B := 10) (by omega) hso
        rw [HO.out] at hlt
        show _ = _
        rcases Nat.eq_zero_or_pos bw with e | e
        · subst e; omega
        · obtain rfl : bw = 1 := by omega
          omega
      have hsl := hown.sl
      go_wp2_with fail
      refine (refTrim_any _ _ _ _ _ hsl (by omega)).mono ?_
      rintro e w' ⟨rfl, rfl⟩
      go_wp2
      go_ret
      refine ⟨_, _, _, rfl, ?_, hb, hown.fresh⟩
      have := hsl.trimmed (B := 10) (by omega) hso
      rw [HF.out] at this
      exact this
end Go.Proofs.YtlbbfmijemnjdaaGreatDoor
