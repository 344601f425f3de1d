/- lispproverref1.Valid: which strings are decimals. -/
import Derived.Test.YtgphkgmhcmffnaaGreatDoorJD
import Derived.Test.YtgphkgmhcmffnaaGreatDoorJH
import Derived.Test.YtgphkgmhcmffnaaGreatDoorJB
namespace Go.Proofs.YtgphkgmhcmffnaaGreatDoor
open Go.RowKit

theorem isDec_nil {l : List UInt8} (h0 : (l == [48]) = false) (h : Dec.mag l = []) : Dec.isDec l = false := by
  unfold Dec.isDec; rw [h0, h]; rfl
theorem isDec_48 {l : List UInt8} {c : UInt8} {r : List UInt8} (h0 : (l == [48]) = false) (h : Dec.mag l = c :: r) (hc : c.toNat = 48) : Dec.isDec l = false := by
  rw [isDec_head48 h hc, h0]
theorem byte_drop {D : ByteArray} {l : List UInt8} (h : D.data.toList = l) (f k : Nat) (hf : f ≤ k) (hk : k < D.size) : ∃ hl : k - f < (l.drop f).length, D[k] = (l.drop f)[k - f] := by
  obtain ⟨h1, e⟩ := byte_at h k hk
  refine ⟨by rw [List.length_drop]; omega, ?_⟩
  rw [e]
  simp only [List.getElem_drop]
  congr 1
  omega
theorem cons_of_pos {l : List UInt8} (h : 0 < l.length) : ∃ c r, l = c :: r := by
  cases l with
  | nil => simp at h
  | cons c r => exact ⟨c, r, rfl⟩

set_option maxHeartbeats 1000000 in
theorem refValid_any (l : List UInt8) (w : World) (hl : l.length ≤ 9223372036854775807) :
    Calls Tryz.prog 128 #[.string ⟨l.toArray⟩] w fun e w' => e = .returned (.bool (Dec.isDec l)) ∧ w = w' := by
  obtain ⟨D, hD⟩ : ∃ D : ByteArray, D = ⟨l.toArray⟩ := ⟨_, rfl⟩
  rw [← hD]
  have HT : Hid (D.data.toList = l) := by rw [hD]; exact (rfl : l.toArray.toList = l)
  clear hD
  have hsz : D.size ≤ 9223372036854775807 := by rw [Lib.size_eq, HT.out]; exact hl
  cases h48 : (l == [48]) with
  | true =>
    have hE : (D.toList == [48]) = true := by rw [Lib.toList_data, HT.out]; exact h48
    have HR : Hid (Dec.isDec l = true) := by show _ = _; unfold Dec.isDec; rw [h48]; rfl
    clear h48
    go_enter Tryz.func128, Tryz.ntmps128
    go_wp2
    go_ret
    exact ⟨by rw [HR.out]; rfl, rfl⟩
  | false =>
    have hE : (D.toList == [48]) = false := by rw [Lib.toList_data, HT.out]; exact h48
    have H48 := Lib.hid h48
    clear h48
    by_cases h0 : D.size = 0
    · have HR := Lib.hid (isDec_nil H48.out (by rw [← HT.out, List.eq_nil_of_length_eq_zero (l := D.data.toList) (by rw [← Lib.size_eq]; exact h0)]; rfl))
      go_enter Tryz.func128, Tryz.ntmps128
      go_wp2
      go_ret
      exact ⟨by rw [HR.out]; rfl, rfl⟩
    · have hpos : 0 < D.size := by omega
      obtain ⟨hl0, e0⟩ := byte_at HT.out 0 hpos
      obtain ⟨c0, r0, hcr⟩ := cons_of_pos hl0
      have ec : D[0] = c0 := by rw [e0]; simp [hcr]
      by_cases h45 : c0 = 45
      · have HM : Hid (Dec.mag l = l.drop 1) := by show _ = _; rw [hcr, h45, Dec.mag_cons45]; rfl
        have hb45 : ((D[0].toNat : Int) == 45) = true := by rw [ec, h45]; rfl
        clear h45 e0 ec hcr hl0
        by_cases hf : D.size ≤ 1
        · have HR := Lib.hid (isDec_nil H48.out (by rw [HM.out, List.drop_of_length_le (by rw [← HT.out, ← Lib.size_eq]; exact hf)]))
          go_enter Tryz.func128, Tryz.ntmps128
          go_wp2
          go_ret
          exact ⟨by rw [HR.out]; rfl, rfl⟩
        · have hfs : 1 < D.size := by omega
          obtain ⟨hlf, ef⟩ := byte_drop HT.out 1 1 (Nat.le_refl _) hfs
          obtain ⟨c, r, hcr⟩ := cons_of_pos (l := l.drop 1) (by omega)
          have ec : D[1] = c := by rw [ef]; simp [hcr]
          by_cases h8 : D[1].toNat = 48
          · have HR := Lib.hid (isDec_48 H48.out (HM.out.trans hcr) (by rw [← ec]; exact h8))
            have hb48 : ((D[1].toNat : Int) == 48) = true := by rw [beq_iff_eq]; omega
            clear h8 ef ec hcr hlf
            go_enter Tryz.func128, Tryz.ntmps128
            go_wp2
            go_ret
            exact ⟨by rw [HR.out]; rfl, rfl⟩
          · have HF := Lib.hid (isDec_head (HM.out.trans hcr) (by rw [← ec]; exact h8))
            have hb48 : ((D[1].toNat : Int) == 48) = false := by rw [beq_eq_false_iff_ne]; omega
            clear h8 ef ec hcr hlf
            go_enter Tryz.func128, Tryz.ntmps128
            go_wp2
            go_loop [4] (fun ix => ∃ k : Nat, 1 ≤ k ∧ k ≤ D.size ∧ ix = .int .i64 k ∧ Hid (Dec.digs ((Dec.mag l).take (k - 1)) = true)) (fun ix => D.size - (intOf ix).toNat)
            case atStart => exact ⟨1, Nat.le_refl _, by omega, rfl, (rfl : Dec.digs ((Dec.mag l).take 0) = true)⟩
            case round =>
              obtain ⟨k, hfk, hk, rfl, HK⟩ := hrel
              by_cases hlt : k < D.size
              · obtain ⟨hkl, ek⟩ := byte_drop HT.out 1 k hfk hlt
                have EK := Lib.hid ek
                clear ek
                rcases Nat.lt_or_ge D[k].toNat 48 with h1 | h1
                · have HR : Hid (Dec.isDec l = false) := by show _ = _; rw [HF.out, HM.out]; exact digs_not hkl (.inl (by rw [← EK.out]; exact h1))
                  go_wp2
                  go_ret
                  exact ⟨by rw [HR.out]; rfl, rfl⟩
                · rcases Nat.lt_or_ge 57 D[k].toNat with h2 | h2
                  · have HR : Hid (Dec.isDec l = false) := by show _ = _; rw [HF.out, HM.out]; exact digs_not hkl (.inr (by rw [← EK.out]; exact h2))
                    go_wp2
                    go_ret
                    exact ⟨by rw [HR.out]; rfl, rfl⟩
                  · go_wp2
                    go_round
                    case rel => exact ⟨k + 1, by omega, by omega, by go_num, Lib.hid (by
                      have h3 := HK.out
                      rw [HM.out] at h3 ⊢
                      rw [show k + 1 - 1 = (k - 1) + 1 by omega]
                      exact digs_take_succ hkl h3 (by rw [← EK.out]; exact h1) (by rw [← EK.out]; exact h2))⟩
                    case measure => simp only [intOf]; omega
              · have HR : Hid (Dec.isDec l = true) := by
                  show _ = _
                  rw [HF.out]
                  have := HK.out
                  rwa [List.take_of_length_le (by rw [HM.out, List.length_drop, ← HT.out, ← Lib.size_eq]; omega)] at this
                go_wp2
                go_ret
                exact ⟨by rw [HR.out]; rfl, rfl⟩
      · have HM : Hid (Dec.mag l = l.drop 0) := by show _ = _; rw [hcr]; simp [Dec.mag, h45]
        have hb45 : ((D[0].toNat : Int) == 45) = false := by
          rw [ec, beq_eq_false_iff_ne]; intro e
          exact h45 (UInt8.toNat_inj.1 (by have : c0.toNat = 45 := by omega
                                           simpa using this))
        clear h45 e0 ec hcr hl0
        by_cases hf : D.size ≤ 0
        · omega
        · have hfs : 0 < D.size := by omega
          obtain ⟨hlf, ef⟩ := byte_drop HT.out 0 0 (Nat.le_refl _) hfs
          obtain ⟨c, r, hcr⟩ := cons_of_pos (l := l.drop 0) (by omega)
          have ec : D[0] = c := by rw [ef]; simp [hcr]
          by_cases h8 : D[0].toNat = 48
          · have HR := Lib.hid (isDec_48 H48.out (HM.out.trans hcr) (by rw [← ec]; exact h8))
            have hb48 : ((D[0].toNat : Int) == 48) = true := by rw [beq_iff_eq]; omega
            clear h8 ef ec hcr hlf
            go_enter Tryz.func128, Tryz.ntmps128
            go_wp2
            go_ret
            exact ⟨by rw [HR.out]; rfl, rfl⟩
          · have HF := Lib.hid (isDec_head (HM.out.trans hcr) (by rw [← ec]; exact h8))
            have hb48 : ((D[0].toNat : Int) == 48) = false := by rw [beq_eq_false_iff_ne]; omega
            clear h8 ef ec hcr hlf
            go_enter Tryz.func128, Tryz.ntmps128
            go_wp2
            go_loop [4] (fun ix => ∃ k : Nat, 0 ≤ k ∧ k ≤ D.size ∧ ix = .int .i64 k ∧ Hid (Dec.digs ((Dec.mag l).take (k - 0)) = true)) (fun ix => D.size - (intOf ix).toNat)
            case atStart => exact ⟨0, Nat.le_refl _, by omega, rfl, (rfl : Dec.digs ((Dec.mag l).take 0) = true)⟩
            case round =>
              obtain ⟨k, hfk, hk, rfl, HK⟩ := hrel
              by_cases hlt : k < D.size
              · obtain ⟨hkl, ek⟩ := byte_drop HT.out 0 k hfk hlt
                have EK := Lib.hid ek
                clear ek
                rcases Nat.lt_or_ge D[k].toNat 48 with h1 | h1
                · have HR : Hid (Dec.isDec l = false) := by show _ = _; rw [HF.out, HM.out]; exact digs_not hkl (.inl (by rw [← EK.out]; exact h1))
                  go_wp2
                  go_ret
                  exact ⟨by rw [HR.out]; rfl, rfl⟩
                · rcases Nat.lt_or_ge 57 D[k].toNat with h2 | h2
                  · have HR : Hid (Dec.isDec l = false) := by show _ = _; rw [HF.out, HM.out]; exact digs_not hkl (.inr (by rw [← EK.out]; exact h2))
                    go_wp2
                    go_ret
                    exact ⟨by rw [HR.out]; rfl, rfl⟩
                  · go_wp2
                    go_round
                    case rel => exact ⟨k + 1, by omega, by omega, by go_num, Lib.hid (by
                      have h3 := HK.out
                      rw [HM.out] at h3 ⊢
                      rw [show k + 1 - 0 = (k - 0) + 1 by omega]
                      exact digs_take_succ hkl h3 (by rw [← EK.out]; exact h1) (by rw [← EK.out]; exact h2))⟩
                    case measure => simp only [intOf]; omega
              · have HR : Hid (Dec.isDec l = true) := by
                  show _ = _
                  rw [HF.out]
                  have := HK.out
                  rwa [List.take_of_length_le (by rw [HM.out, List.length_drop, ← HT.out, ← Lib.size_eq]; omega)] at this
                go_wp2
                go_ret
                exact ⟨by rw [HR.out]; rfl, rfl⟩
theorem refv (l : List UInt8) (z : Bool) (hz : Dec.isDec l = z) (hl : l.length ≤ 9223372036854775807) (w : World) : Calls Tryz.prog 128 #[.string ⟨l.toArray⟩] w fun e w' => e = .returned (.bool z) ∧ w = w' := by
  have := refValid_any l w hl
  rwa [hz] at this

end Go.Proofs.YtgphkgmhcmffnaaGreatDoor
/- lispproverref1.trim, digits: the digits of a decimal. -/
namespace Go.Proofs.YtgphkgmhcmffnaaGreatDoor
open Go.RowKit

theorem infoInt : (Tryz.prog.info? 3).map (fun i => (i.zero, i.size, i.bytes)) = some (some (.int .i64 0), 1, 8) := by kernel_rfl

set_option maxHeartbeats 400000 in
theorem refTrim_any (A : Option Addr) (n c : Nat) (l : List Nat) (w : World) (h : Sl w .i64 A n c l) (hn : n ≤ 1000000000) :
    Calls Tryz.prog 129 #[.slice A n c] w fun e w' => e = .returned (.slice A (Dec.trimZ l).length c) ∧ w = w' := by
  have hlen := h.len
  have hcap := h.cap
  go_enter Tryz.func129, Tryz.ntmps129
  go_wp2
  go_loop [3] (fun v => ∃ m : Nat, v = .int .i64 m ∧ m ≤ n ∧ Hid (Dec.trimZ (l.take m) = Dec.trimZ l)) (fun v => (intOf v).toNat)
  case atStart => exact ⟨n, rfl, Nat.le_refl _, Lib.hid (by rw [List.take_of_length_le (by omega)])⟩
  case round =>
    obtain ⟨m, rfl, hm, HT⟩ := hrel
    by_cases h0 : 0 < m
    · obtain ⟨b, o, rfl, hb, hc⟩ := h.cells (by omega)
      have hcm := hc (m - 1) (by omega)
      clear hc
      go_wp2
      · have hz : l.getD (m - 1) 0 = 0 := by simpa using ‹((l[m - 1]?.getD 0 : Nat) == (0 : Int)) = true›
        go_round
        case rel => exact ⟨m - 1, by go_num, by omega, Lib.hid (by rw [trimZ_step h0 (by omega) hz]; exact HT.out)⟩
        case measure => simp only [intOf]; omega
      · have hz : l.getD (m - 1) 0 ≠ 0 := by simpa using ‹((l[m - 1]?.getD 0 : Nat) == (0 : Int)) = false›
        go_ret
        refine ⟨?_, rfl⟩
        have e : (Dec.trimZ l).length = m := by
          rw [← HT.out, trimZ_stop h0 (by omega) hz, List.length_take]; omega
        rw [e]; rfl
    · have e : (Dec.trimZ l).length = m := by
        rw [← HT.out, show m = 0 by omega]; rfl
      have HE := Lib.hid e
      clear e
      go_wp2
      go_ret
      refine ⟨?_, rfl⟩
      rw [HE.out]; rfl

def RetDig (K : Nat) (v : Int) (w : World) (e : Ending) (w' : World) : Prop :=
  ∃ A n c, e = .returned (.tuple #[.bool (decide (v < 0)), .slice A n c]) ∧ Sl w' .i64 A n c (Dec.limbs 10 v.natAbs) ∧ n ≤ K ∧ Below w.heap.size w w'
theorem revDigs_cons (c : UInt8) (r : List UInt8) : Dec.revDigs (c :: r) = Dec.revDigs r ++ [c.toNat - 48] := by simp [Dec.revDigs]
theorem revDigs_drop (l : List UInt8) (j : Nat) (h0 : 0 < j) (hj : j ≤ l.length) : Dec.revDigs (l.drop (j - 1)) = Dec.revDigs (l.drop j) ++ [(l[j - 1]'(by omega)).toNat - 48] := by
  obtain ⟨m, rfl⟩ : ∃ m, j = m + 1 := ⟨j - 1, by omega⟩
  simp only [Nat.add_sub_cancel]
  rw [List.drop_eq_getElem_cons (by omega), revDigs_cons]

set_option maxHeartbeats 1000000 in
theorem refDigits_any (l : List UInt8) (w : World) (hl : l.length ≤ 2500000) :
    Calls Tryz.prog 106 #[.string ⟨l.toArray⟩] w (RetDig (l.length + 1) (Dec.dval l) w) := by
  cases hv : Dec.isDec l with
  | false =>
    have HV := Lib.hid (refv l false hv (by omega) w)
    have HD : Hid (Dec.dval l = 0) := by show _ = _; unfold Dec.dval; rw [hv]; rfl
    clear hv
    go_enter Tryz.func106, Tryz.ntmps106
    go_wp2_with fail
    refine HV.out.mono ?_
    rintro e w' ⟨rfl, rfl⟩
    go_wp2
    go_ret2
    exact ⟨none, 0, 0, by rw [HD.out]; rfl, by rw [HD.out]; exact Sl.nil _ _ _ _, by omega, Below.refl _ _⟩
  | true =>
    have HV := Lib.hid (refv l true hv (by omega) w)
    obtain ⟨D, hD⟩ : ∃ D : ByteArray, D = ⟨l.toArray⟩ := ⟨_, rfl⟩
    rw [← hD] at HV
    rw [← hD]
    have HT : Hid (D.data.toList = l) := by rw [hD]; exact (rfl : l.toArray.toList = l)
    clear hD
    have hsz : D.size ≤ 2500000 := by rw [Lib.size_eq, HT.out]; exact hl
    have HSz : Hid (D.size = l.length) := by show _ = _; rw [Lib.size_eq, HT.out]
    by_cases h0 : l = [48]
    · have hE : (D.toList == [48]) = true := by rw [Lib.toList_data, HT.out, h0]; rfl
      have HD : Hid (Dec.dval l = 0) := by rw [h0]; exact Dec.dval_zero
      clear hv h0
      go_enter Tryz.func106, Tryz.ntmps106
      go_wp2_with fail
      refine HV.out.mono ?_
      rintro e w' ⟨rfl, rfl⟩
      go_wp2
      go_ret2
      exact ⟨none, 0, 0, by rw [HD.out]; rfl, by rw [HD.out]; exact Sl.nil _ _ _ _, by omega, Below.refl _ _⟩
    · have hE : (D.toList == [48]) = false := by rw [Lib.toList_data, HT.out]; simpa using h0
      obtain ⟨hd, hh⟩ := (Dec.isDec_iff h0).1 hv
      have hz := (Dec.decDigits_nval _ hd hh).2
      have HDv : Hid (Dec.dval l = if Dec.neg l then -(Dec.nval (Dec.mag l) : Int) else Dec.nval (Dec.mag l)) := by show _ = _; unfold Dec.dval; rw [if_pos hv]
      have HRv := Lib.hid (Dec.revDigs_limbs hd hh)
      have HDg := Lib.hid hd
      have hlp : 0 < l.length := by
        rcases Nat.eq_zero_or_pos l.length with e | e
        · obtain ⟨c, r, e2, _⟩ := hh
          have := Dec.mag_length_le l
          rw [e2, List.length_cons] at this
          omega
        · exact e
      have hpos : 0 < D.size := by rw [HSz.out]; exact hlp
      obtain ⟨_, e0⟩ := byte_at HT.out 0 hpos
      obtain ⟨c0, r0, hcr⟩ := cons_of_pos hlp
      have ec : D[0] = c0 := by rw [e0]; simp [hcr]
      clear hv h0 hd hh e0
      by_cases h45 : c0 = 45
      · have HM : Hid (Dec.mag l = l.drop 1) := by show _ = _; rw [hcr, h45, Dec.mag_cons45]; rfl
        have hng : Dec.neg l = true := by rw [hcr, h45]; rfl
        have HN : Hid (decide (Dec.dval l < 0) = true ∧ (Dec.dval l).natAbs = Dec.nval (Dec.mag l)) := by show _ ∧ _; rw [HDv.out, hng, if_pos rfl]; exact ⟨decide_eq_true (by omega), by omega⟩
        have hb45 : ((D[0].toNat : Int) == 45) = true := by rw [ec, h45]; rfl
        clear h45 ec hcr hng hz
        go_enter Tryz.func106, Tryz.ntmps106
        go_wp2_with fail
        refine HV.out.mono ?_
        rintro e w' ⟨rfl, rfl⟩
        go_wp2
        go_loopw [6, 7] (fun out ix wr => ∃ (j c2 m : Nat) (A2 : Option Addr), 1 ≤ j ∧ j ≤ D.size ∧ ix = .int .i64 ((j : Int) - 1) ∧ out = .slice A2 m c2 ∧ m + j = D.size ∧ Own wr w.heap.size 3 .i64 A2 m c2 (Dec.revDigs (l.drop j)) ∧ Below w.heap.size w wr) (fun _ ix _ => (intOf ix + 1).toNat)
        case atStart => exact ⟨D.size, 0, 0, none, by omega, Nat.le_refl _, rfl, rfl, by omega, by rw [List.drop_of_length_le (by rw [HSz.out]; exact Nat.le_refl _)]; exact Own.nil _ _ _ _, Below.refl _ _⟩
        case round =>
          obtain ⟨j, c2, m, A2, hfj, hj, rfl, rfl, hmj, hown, hb⟩ := hrel
          have HMJ := Lib.hid hmj
          have hmle : m ≤ 2500000 := by omega
          clear hmj
          by_cases hlt : 1 < j
          · have hj1 : j - 1 < D.size := by omega
            obtain ⟨hkl, ek⟩ := byte_at HT.out (j - 1) hj1
            have hdg := List.all_eq_true.1 HDg.out D[j - 1] (by rw [HM.out, ek]; exact List.mem_drop_iff_getElem.2 ⟨j - 1 - 1, by omega, by congr 1; omega⟩)
            simp only [Dec.dig, Bool.and_eq_true, decide_eq_true_eq] at hdg
            obtain ⟨g1, g2⟩ := hdg
            have HRD := Lib.hid (revDigs_drop l j (by omega) (by rw [← HSz.out]; exact hj))
            have EK := Lib.hid ek
            clear ek
            have hi1 : (0 : Int) ≤ (j : Int) - 1 := by omega
            have hi2 : (j : Int) - 1 < D.size := by omega
            have hi3 : ((j : Int) - 1).toNat = j - 1 := by omega
            go_wp2_with (at_builtin; refine wpList_app (w0 := w) rfl _ _ _ rfl 3 .i64 8 Tryz.underlying75 infoInt (by omega) _ _ _ _ rfl hown _ (D[j - 1].toNat - 48) (by omega) rfl (by omega) hb ?_; intro A3 c3 w2 hown2 hb2 _ _ _)
            go_roundw
            case rel => exact ⟨j - 1, c3, m + 1, A3, by omega, by omega, by go_num, rfl, by have := HMJ.out; omega, by rw [HRD.out, ← EK.out]; exact hown2, hb2⟩
            case measure => simp only [intOf]; omega
          · obtain rfl : j = 1 := by omega
            go_wp2
            go_ret2
            refine ⟨A2, m, c2, by rw [HN.out.1]; rfl, ?_, by have := HMJ.out; have := HSz.out; omega, hb⟩
            rw [HN.out.2, ← HRv.out, HM.out]
            exact hown.sl
      · have HM : Hid (Dec.mag l = l.drop 0) := by show _ = _; rw [hcr]; simp [Dec.mag, h45]
        have hng : Dec.neg l = false := by rw [hcr]; simp [Dec.neg, h45]
        have HN : Hid (decide (Dec.dval l < 0) = false ∧ (Dec.dval l).natAbs = Dec.nval (Dec.mag l)) := by show _ ∧ _; rw [HDv.out, hng, if_neg (by simp)]; exact ⟨decide_eq_false (by omega), by omega⟩
        have hb45 : ((D[0].toNat : Int) == 45) = false := by
          rw [ec, beq_eq_false_iff_ne]; intro e
          exact h45 (UInt8.toNat_inj.1 (by have : c0.toNat = 45 := by omega
                                           simpa using this))
        clear h45 ec hcr hng hz
        go_enter Tryz.func106, Tryz.ntmps106
        go_wp2_with fail
        refine HV.out.mono ?_
        rintro e w' ⟨rfl, rfl⟩
        go_wp2
        go_loopw [6, 7] (fun out ix wr => ∃ (j c2 m : Nat) (A2 : Option Addr), 0 ≤ j ∧ j ≤ D.size ∧ ix = .int .i64 ((j : Int) - 1) ∧ out = .slice A2 m c2 ∧ m + j = D.size ∧ Own wr w.heap.size 3 .i64 A2 m c2 (Dec.revDigs (l.drop j)) ∧ Below w.heap.size w wr) (fun _ ix _ => (intOf ix + 1).toNat)
        case atStart => exact ⟨D.size, 0, 0, none, by omega, Nat.le_refl _, rfl, rfl, by omega, by rw [List.drop_of_length_le (by rw [HSz.out]; exact Nat.le_refl _)]; exact Own.nil _ _ _ _, Below.refl _ _⟩
        case round =>
          obtain ⟨j, c2, m, A2, hfj, hj, rfl, rfl, hmj, hown, hb⟩ := hrel
          have HMJ := Lib.hid hmj
          have hmle : m ≤ 2500000 := by omega
          clear hmj
          by_cases hlt : 0 < j
          · have hj1 : j - 1 < D.size := by omega
            obtain ⟨hkl, ek⟩ := byte_at HT.out (j - 1) hj1
            have hdg := List.all_eq_true.1 HDg.out D[j - 1] (by rw [HM.out, ek]; exact List.mem_drop_iff_getElem.2 ⟨j - 1 - 0, by omega, by congr 1; omega⟩)
            simp only [Dec.dig, Bool.and_eq_true, decide_eq_true_eq] at hdg
            obtain ⟨g1, g2⟩ := hdg
            have HRD := Lib.hid (revDigs_drop l j (by omega) (by rw [← HSz.out]; exact hj))
            have EK := Lib.hid ek
            clear ek
            have hi1 : (0 : Int) ≤ (j : Int) - 1 := by omega
            have hi2 : (j : Int) - 1 < D.size := by omega
            have hi3 : ((j : Int) - 1).toNat = j - 1 := by omega
            go_wp2_with (at_builtin; refine wpList_app (w0 := w) rfl _ _ _ rfl 3 .i64 8 Tryz.underlying75 infoInt (by omega) _ _ _ _ rfl hown _ (D[j - 1].toNat - 48) (by omega) rfl (by omega) hb ?_; intro A3 c3 w2 hown2 hb2 _ _ _)
            go_roundw
            case rel => exact ⟨j - 1, c3, m + 1, A3, by omega, by omega, by go_num, rfl, by have := HMJ.out; omega, by rw [HRD.out, ← EK.out]; exact hown2, hb2⟩
            case measure => simp only [intOf]; omega
          · obtain rfl : j = 0 := by omega
            go_wp2
            go_ret2
            refine ⟨A2, m, c2, by rw [HN.out.1]; rfl, ?_, by have := HMJ.out; have := HSz.out; omega, hb⟩
            rw [HN.out.2, ← HRv.out, HM.out]
            exact hown.sl
end Go.Proofs.YtgphkgmhcmffnaaGreatDoor
/- lispproverref1.order: compares the values of two lists of digits. -/
namespace Go.Proofs.YtgphkgmhcmffnaaGreatDoor
open Go.RowKit

set_option maxHeartbeats 400000 in
theorem order_same (B : Nat) (hB : 2 ≤ B) (A A' : Option Addr) (n c c' : Nat) (x y : List Nat) (w : World) (hx : Sl w .i64 A n c x) (hy : Sl w .i64 A' n c' y) (hn : n ≤ 1000000000)
    (hsx : Dec.Small B x) (hsy : Dec.Small B y) :
    Calls Tryz.prog 122 #[.slice A n c, .slice A' n c'] w (Cmp (Dec.lval B x) (Dec.lval B y) w) := by
  have hlx := hx.len
  have hly := hy.len
  have HX := Lib.hid hlx
  have HY := Lib.hid hly
  clear hlx hly
  go_enter Tryz.func122, Tryz.ntmps122
  go_wp2
  go_loopw [5] (fun i wr => ∃ k q : Nat, k ≤ n ∧ i = .int .i64 ((k : Int) - 1) ∧ Hid (x.drop k = y.drop k) ∧ wr = w.drewN q) (fun i _ => (intOf i + 1).toNat)
  case atStart => exact ⟨n, 0, Nat.le_refl _, rfl, (by rw [List.drop_of_length_le (by rw [HX.out]; exact Nat.le_refl _), List.drop_of_length_le (by rw [HY.out]; exact Nat.le_refl _)] : x.drop n = y.drop n), rfl⟩
  case round =>
    obtain ⟨k, q, hk, rfl, HD, rfl⟩ := hrel
    by_cases h0 : 0 < k
    · obtain ⟨b, o, rfl, hb, hc⟩ := hx.cells (by omega)
      obtain ⟨b', o', rfl, hb', hc'⟩ := hy.cells (by omega)
      have hcm := hc (k - 1) (by omega)
      have hcm' := hc' (k - 1) (by omega)
      clear hc hc' hb hb'
      have hi1 : (0 : Int) ≤ (k : Int) - 1 := by omega
      have hi2 : (k : Int) - 1 < n := by omega
      have hi3 : ((k : Int) - 1).toNat = k - 1 := by omega
      generalize hu : x.getD (k - 1) 0 = u at hcm
      generalize hv : y.getD (k - 1) 0 = v at hcm'
      have HU := Lib.hid hu
      have HV := Lib.hid hv
      clear hu hv
      rcases Nat.lt_trichotomy u v with hlt | heq | hgt
      · have e2 : decide ((u : Int) < v) = true := by simp; omega
        go_wp2
        go_quiet (fail)
        go_wp2
        go_ret
        refine ⟨?_, ex_drew2 _ _ _⟩
        rw [ordI_lt (Dec.lval_lt_of_top (i := k - 1) hsx hB (by rw [HX.out]; omega) (by rw [HX.out, HY.out]) (by rw [Nat.sub_add_cancel h0]; exact HD.out) (by rw [HU.out, HV.out]; exact hlt))]
        rfl
      · have e2 : decide ((u : Int) < v) = false := by simp; omega
        have e3 : decide ((v : Int) < u) = false := by simp; omega
        go_wp2
        go_quiet (fail)
        go_wp2
        go_quiet (fail)
        go_wp2
        go_roundw
        case rel => exact ⟨k - 1, _, by omega, by go_num, drop_pred h0 (by rw [HX.out]; exact hk) (by rw [HX.out, HY.out]) HD.out (by rw [HU.out, HV.out, heq]), rfl⟩
        case measure => simp only [intOf]; omega
      · have e2 : decide ((u : Int) < v) = false := by simp; omega
        have e3 : decide ((v : Int) < u) = true := by simp; omega
        go_wp2
        go_quiet (fail)
        go_wp2
        go_quiet (fail)
        go_wp2
        go_ret
        refine ⟨?_, ex_drew3 _ _ _ _⟩
        rw [ordI_gt (Dec.lval_lt_of_top (i := k - 1) hsy hB (by rw [HY.out]; omega) (by rw [HX.out, HY.out]) (by rw [Nat.sub_add_cancel h0]; exact HD.out.symm) (by rw [HU.out, HV.out]; exact hgt))]
        rfl
    · have hk0 : k = 0 := by omega
      subst hk0
      go_wp2
      go_ret
      refine ⟨?_, _, rfl⟩
      have e : x = y := by simpa using HD.out
      rw [e, ordI_eq]
      rfl

set_option maxHeartbeats 400000 in
theorem orderR_any (B : Nat) (hB : 2 ≤ B) (A A' : Option Addr) (n n' c c' a b : Nat) (w : World) (hx : Sl w .i64 A n c (Dec.limbs B a)) (hy : Sl w .i64 A' n' c' (Dec.limbs B b)) (hn : n ≤ 1000000000) (hn' : n' ≤ 1000000000) :
    Calls Tryz.prog 122 #[.slice A n c, .slice A' n' c'] w (Cmp a b w) := by
  rcases Nat.lt_trichotomy n n' with hlt | heq | hgt
  · have e1 : ((n : Int) != n') = true := by rw [bne_iff_ne]; omega
    have hv : a < b := Dec.lt_of_length_lt hB (by rw [hx.len, hy.len]; exact hlt)
    have HV := Lib.hid (ordI_lt hv)
    clear hv hx hy
    go_enter Tryz.func122, Tryz.ntmps122
    go_wp2
    go_ret
    refine ⟨?_, 0, rfl⟩
    rw [HV.out]
    rfl
  · subst heq
    have := order_same B hB A A' n c c' _ _ w hx hy hn (Dec.limbs_small hB a) (Dec.limbs_small hB b)
    rwa [Dec.lval_limbs hB, Dec.lval_limbs hB] at this
  · have e1 : ((n : Int) != n') = true := by rw [bne_iff_ne]; omega
    have e2 : decide (n < n') = false := by simp; omega
    have hv : b < a := Dec.lt_of_length_lt hB (by rw [hx.len, hy.len]; exact hgt)
    have HV := Lib.hid (ordI_gt hv)
    clear hv hx hy
    go_enter Tryz.func122, Tryz.ntmps122
    go_wp2
    go_ret
    refine ⟨?_, 0, rfl⟩
    rw [HV.out]
    rfl
end Go.Proofs.YtgphkgmhcmffnaaGreatDoor
/- lispproverref1.plus and minus: digits of the sum and of the difference. -/
namespace Go.Proofs.YtgphkgmhcmffnaaGreatDoor
open Go.RowKit

/-- a call hands back digits of the value v, zeros at the end let in -/
def RetSm (K v : Nat) (w : World) (e : Ending) (w' : World) : Prop := ∃ A n c o, e = .returned (.slice A n c) ∧ n ≤ K ∧ Sl w' .i64 A n c o ∧ Dec.Small 10 o ∧ Dec.lval 10 o = v ∧ Below w.heap.size w w' ∧ ∀ b o, A = some ⟨b, o, none⟩ → w.heap.size ≤ b
theorem getD_out {l : List Nat} {k n : Nat} (h : l.length = n) (hk : ¬ k < n) : l.getD k 0 = 0 := by
  rw [List.getD_eq_getElem?_getD, List.getElem?_eq_none (by omega)]; rfl

set_option maxHeartbeats 2000000 in
theorem refPlus_any (A A' : Option Addr) (n n' c c' : Nat) (x y : List Nat) (w : World) (hx : Sl w .i64 A n c x) (hy : Sl w .i64 A' n' c' y) (hn : n ≤ 100000000) (hn' : n' ≤ 100000000)
    (hsx : Dec.Small 10 x) (hsy : Dec.Small 10 y) :
    Calls Tryz.prog 121 #[.slice A n c, .slice A' n' c'] w (RetSm (max n n' + 1) (Dec.lval 10 x + Dec.lval 10 y) w) := by
  go_enter Tryz.func121, Tryz.ntmps121
  go_wp2
  go_loopg [5, 6, 7] (2 * max n n') (fun gx out cr ix wr => ∃ (k : Nat) (A2 : Option Addr) (c2 : Nat) (o : List Nat) (cy : Nat), k + cy ≤ max n n' + 1 ∧ ix = .int .i64 k ∧ out = .slice A2 k c2 ∧ cr = .int .i64 cy ∧ cy ≤ 1 ∧ Own wr w.heap.size 3 .i64 A2 k c2 o ∧ Dec.Small 10 o ∧ Hid (Dec.lval 10 o + 10 ^ k * cy = Dec.lval 10 (x.take k) + Dec.lval 10 (y.take k)) ∧ Below w.heap.size w wr ∧ 2 * (max n n' - k) + cy ≤ gx)
  case atStart => exact ⟨0, none, 0, [], 0, by omega, rfl, rfl, rfl, by omega, Own.nil _ _ _ _, Dec.Small.nil, Lib.hid (by simp [Dec.lval]), Below.refl _ _, by omega⟩
  case round =>
    obtain ⟨k, A2, c2, o, cy, hk, rfl, rfl, rfl, hcy, hown, hso, HV, hb, hg⟩ := hrel
    have HO := Lib.hid hown.len
    by_cases hkn : k < n
    · obtain ⟨b, off, rfl, _, hcx⟩ := (hx.below hb).cells (by omega)
      have hcu := hcx k hkn
      clear hcx
      have hu := getD_lt (l := x) hsx (by omega) k
      by_cases hkm : k < n'
      · obtain ⟨b', off', rfl, _, hcy'⟩ := (hy.below hb).cells (by omega)
        have hcv := hcy' k hkm
        clear hcy'
        have hv := getD_lt (l := y) hsy (by omega) k
        have HR := Lib.hid (Dec.plus_round (B := 10) (a := x) (b := y) (n := cy + x.getD k 0 + y.getD k 0) HO.out HV.out (by omega))
        generalize x.getD k 0 = u at hcu hu HR
        generalize y.getD k 0 = v at hcv hv HR
        go_wp2_with (at_builtin; refine wpList_app (w0 := w) rfl _ _ _ rfl 3 .i64 8 Tryz.underlying75 infoInt (by omega) _ _ _ o rfl hown _ ((cy + u + v) % 10) (by omega) rfl (by omega) hb ?_; intro A3 c3 w2 hown2 hb2 _ _ _)
        go_roundg (2 * (max n n' - (k + 1)) + (cy + u + v) / 10)
        case measure => omega
        case rel => exact ⟨k + 1, A3, c3, o ++ [(cy + u + v) % 10], (cy + u + v) / 10, by omega, by go_num, rfl, by go_num, by omega, hown2, hso.append (Dec.Small.cons (by omega) Dec.Small.nil), HR, hb2, Nat.le_refl _⟩
      · have hv := getD_out hy.len hkm
        have HR := Lib.hid (Dec.plus_round (B := 10) (a := x) (b := y) (n := cy + x.getD k 0) HO.out HV.out (by omega))
        clear hv
        generalize x.getD k 0 = u at hcu hu HR
        go_wp2_with (at_builtin; refine wpList_app (w0 := w) rfl _ _ _ rfl 3 .i64 8 Tryz.underlying75 infoInt (by omega) _ _ _ o rfl hown _ ((cy + u) % 10) (by omega) rfl (by omega) hb ?_; intro A3 c3 w2 hown2 hb2 _ _ _)
        go_roundg (2 * (max n n' - (k + 1)) + (cy + u) / 10)
        case measure => omega
        case rel => exact ⟨k + 1, A3, c3, o ++ [(cy + u) % 10], (cy + u) / 10, by omega, by go_num, rfl, by go_num, by omega, hown2, hso.append (Dec.Small.cons (by omega) Dec.Small.nil), HR, hb2, Nat.le_refl _⟩
    · have hu := getD_out hx.len hkn
      by_cases hkm : k < n'
      · obtain ⟨b', off', rfl, _, hcy'⟩ := (hy.below hb).cells (by omega)
        have hcv := hcy' k hkm
        clear hcy'
        have hv := getD_lt (l := y) hsy (by omega) k
        have HR := Lib.hid (Dec.plus_round (B := 10) (a := x) (b := y) (n := cy + y.getD k 0) HO.out HV.out (by omega))
        clear hu
        generalize y.getD k 0 = v at hcv hv HR
        go_wp2_with (at_builtin; refine wpList_app (w0 := w) rfl _ _ _ rfl 3 .i64 8 Tryz.underlying75 infoInt (by omega) _ _ _ o rfl hown _ ((cy + v) % 10) (by omega) rfl (by omega) hb ?_; intro A3 c3 w2 hown2 hb2 _ _ _)
        go_roundg (2 * (max n n' - (k + 1)) + (cy + v) / 10)
        case measure => omega
        case rel => exact ⟨k + 1, A3, c3, o ++ [(cy + v) % 10], (cy + v) / 10, by omega, by go_num, rfl, by go_num, by omega, hown2, hso.append (Dec.Small.cons (by omega) Dec.Small.nil), HR, hb2, Nat.le_refl _⟩
      · have hv := getD_out hy.len hkm
        have HR := Lib.hid (Dec.plus_round (B := 10) (a := x) (b := y) (n := cy) HO.out HV.out (by omega))
        clear hu hv
        have HX : Hid (x.take k = x) := Lib.hid (List.take_of_length_le (by rw [hx.len]; omega))
        have HY : Hid (y.take k = y) := Lib.hid (List.take_of_length_le (by rw [hy.len]; omega))
        by_cases hc0 : 0 < cy
        · obtain rfl : cy = 1 := by omega
          have HF : Hid (Dec.lval 10 (o ++ [1 % 10]) + 10 ^ (k + 1) * (1 / 10) = Dec.lval 10 (x.take (k + 1)) + Dec.lval 10 (y.take (k + 1))) := HR
          go_wp2_with (at_builtin; refine wpList_app (w0 := w) rfl _ _ _ rfl 3 .i64 8 Tryz.underlying75 infoInt (by omega) _ _ _ o rfl hown _ 1 (by omega) rfl (by omega) hb ?_; intro A3 c3 w2 hown2 hb2 _ _ _)
          go_roundg 0
          case measure => omega
          case rel => exact ⟨k + 1, A3, c3, o ++ [1], 0, by omega, by go_num, rfl, rfl, by omega, hown2, hso.append (Dec.Small.cons (by omega) Dec.Small.nil), HF, hb2, by omega⟩
        · obtain rfl : cy = 0 := by omega
          have HF : Hid (Dec.lval 10 o = Dec.lval 10 x + Dec.lval 10 y) := by
            have h := HV.out
            rw [HX.out, HY.out] at h
            show _ = _
            omega
          go_wp2
          go_ret
          exact ⟨A2, k, c2, o, rfl, by omega, hown.sl, hso, HF.out, hb, hown.fresh⟩
end Go.Proofs.YtgphkgmhcmffnaaGreatDoor
/- lispproverref1.minus: the digits of the difference. -/
namespace Go.Proofs.YtgphkgmhcmffnaaGreatDoor
open Go.RowKit

set_option maxHeartbeats 2000000 in
theorem refMinus_any (A A' : Option Addr) (n n' c c' : Nat) (x y : List Nat) (w : World) (hx : Sl w .i64 A n c x) (hy : Sl w .i64 A' n' c' y) (hn : n ≤ 100000000) (hnn : n' ≤ n)
    (hsx : Dec.Small 10 x) (hsy : Dec.Small 10 y) (hle : Dec.lval 10 y ≤ Dec.lval 10 x) :
    Calls Tryz.prog 123 #[.slice A n c, .slice A' n' c'] w (RetSl .i64 (Dec.limbs 10 (Dec.lval 10 x - Dec.lval 10 y)) w) := by
  go_enter Tryz.func123, Tryz.ntmps123
  go_wp2
  go_loopw [5, 6, 7] (fun out br ix wr => ∃ (k : Nat) (A2 : Option Addr) (c2 : Nat) (o : List Nat) (bw : Nat), k ≤ n ∧ ix = .int .i64 k ∧ out = .slice A2 k c2 ∧ br = .int .i64 bw ∧ bw ≤ 1 ∧ Own wr w.heap.size 3 .i64 A2 k c2 o ∧ Dec.Small 10 o ∧ Hid (Dec.lval 10 (x.take k) + 10 ^ k * bw = Dec.lval 10 o + Dec.lval 10 (y.take k)) ∧ Below w.heap.size w wr) (fun _ _ ix _ => n - (intOf ix).toNat)
  case atStart => exact ⟨0, none, 0, [], 0, by omega, rfl, rfl, rfl, by omega, Own.nil _ _ _ _, Dec.Small.nil, Lib.hid (by simp [Dec.lval]), Below.refl _ _⟩
  case round =>
    obtain ⟨k, A2, c2, o, bw, hk, rfl, rfl, rfl, hbw, hown, hso, HV, hb⟩ := hrel
    have HO := Lib.hid hown.len
    by_cases hkn : k < n
    · obtain ⟨b, off, rfl, _, hcx⟩ := (hx.below hb).cells (by omega)
      have hcu := hcx k hkn
      clear hcx
      have hu := getD_lt (l := x) hsx (by omega) k
      have HR := fun d t => Lib.hid (Dec.minus_round (B := 10) (a := x) (b := y) (d := d) (n := t) HO.out HV.out)
      by_cases hkm : k < n'
      · obtain ⟨b', off', rfl, _, hcy'⟩ := (hy.below hb).cells (by omega)
        have hcv := hcy' k hkm
        clear hcy'
        have hv := getD_lt (l := y) hsy (by omega) k
        generalize x.getD k 0 = u at hcu hu HR
        generalize y.getD k 0 = v at hcv hv HR
        by_cases hneg : (u : Int) - bw - v < 0
        · have HR1 := Lib.hid ((HR 1 (u + 10 - bw - v)).out (by omega))
          clear HR
          go_wp2_with (at_builtin; refine wpList_app (w0 := w) rfl _ _ _ rfl 3 .i64 8 Tryz.underlying75 infoInt (by omega) _ _ _ o rfl hown _ (u + 10 - bw - v) (by omega) rfl (by omega) hb ?_; intro A3 c3 w2 hown2 hb2 _ _ _)
          go_roundw
          case rel => exact ⟨k + 1, A3, c3, o ++ [u + 10 - bw - v], 1, by omega, by go_num, rfl, rfl, by omega, hown2, hso.append (Dec.Small.cons (by omega) Dec.Small.nil), HR1, hb2⟩
          case measure => simp only [intOf]; omega
        · have HR1 := Lib.hid ((HR 0 (u - bw - v)).out (by omega))
          clear HR
          go_wp2_with (at_builtin; refine wpList_app (w0 := w) rfl _ _ _ rfl 3 .i64 8 Tryz.underlying75 infoInt (by omega) _ _ _ o rfl hown _ (u - bw - v) (by omega) rfl (by omega) hb ?_; intro A3 c3 w2 hown2 hb2 _ _ _)
          go_roundw
          case rel => exact ⟨k + 1, A3, c3, o ++ [u - bw - v], 0, by omega, by go_num, rfl, rfl, by omega, hown2, hso.append (Dec.Small.cons (by omega) Dec.Small.nil), HR1, hb2⟩
          case measure => simp only [intOf]; omega
      · have hv := getD_out hy.len hkm
        rw [hv] at HR
        clear hv
        generalize x.getD k 0 = u at hcu hu HR
        by_cases hneg : (u : Int) - bw < 0
        · have HR1 := Lib.hid ((HR 1 (u + 10 - bw)).out (by omega))
          clear HR
          go_wp2_with (at_builtin; refine wpList_app (w0 := w) rfl _ _ _ rfl 3 .i64 8 Tryz.underlying75 infoInt (by omega) _ _ _ o rfl hown _ (u + 10 - bw) (by omega) rfl (by omega) hb ?_; intro A3 c3 w2 hown2 hb2 _ _ _)
          go_roundw
          case rel => exact ⟨k + 1, A3, c3, o ++ [u + 10 - bw], 1, by omega, by go_num, rfl, rfl, by omega, hown2, hso.append (Dec.Small.cons (by omega) Dec.Small.nil), HR1, hb2⟩
          case measure => simp only [intOf]; omega
        · have HR1 := Lib.hid ((HR 0 (u - bw)).out (by omega))
          clear HR
          go_wp2_with (at_builtin; refine wpList_app (w0 := w) rfl _ _ _ rfl 3 .i64 8 Tryz.underlying75 infoInt (by omega) _ _ _ o rfl hown _ (u - bw) (by omega) rfl (by omega) hb ?_; intro A3 c3 w2 hown2 hb2 _ _ _)
          go_roundw
          case rel => exact ⟨k + 1, A3, c3, o ++ [u - bw], 0, by omega, by go_num, rfl, rfl, by omega, hown2, hso.append (Dec.Small.cons (by omega) Dec.Small.nil), HR1, hb2⟩
          case measure => simp only [intOf]; omega
    · have hkk : k = n := by omega
      subst hkk
      have HF : Hid (Dec.lval 10 o = Dec.lval 10 x - Dec.lval 10 y) := by
        have h := HV.out
        rw [List.take_of_length_le (by rw [hx.len]; omega), List.take_of_length_le (by rw [hy.len]; omega)] at h
        have hlt := Dec.lval_lt (B := 10) (by omega) hso
        rw [HO.out] at hlt
        show _ = _
        rcases Nat.eq_zero_or_pos bw with e | e
        · subst e; omega
        · obtain rfl : bw = 1 := by omega
          omega
      have hsl := hown.sl
      go_wp2_with fail
      refine (refTrim_any _ _ _ _ _ hsl (by omega)).mono ?_
      rintro e w' ⟨rfl, rfl⟩
      go_wp2
      go_ret
      refine ⟨_, _, _, rfl, ?_, hb, hown.fresh⟩
      have := hsl.trimmed (B := 10) (by omega) hso
      rw [HF.out] at this
      exact this
end Go.Proofs.YtgphkgmhcmffnaaGreatDoor
