/- lispproverref1.Valid: which strings are decimals. -/
import Derived.Test.YtmkcnjfhdfanoaaGreatDoorKB
import Derived.Test.YtmkcnjfhdfanoaaGreatDoorKC
import Derived.Test.YtmkcnjfhdfanoaaGreatDoorKA
import Derived.Laws.BytesArg
import Derived.IntWalk
import Derived.Deep.QuietTactic
import Derived.BigQuiet
import Derived.Deep.DeepCutAuto
import Derived.Deep.LoopGhost
namespace Go.Proofs.YtmkcnjfhdfanoaaGreatDoor
open Go.RowKit

theorem isDec_nil {l : List UInt8} (h0 : (l == [48]) = false) (h : Dec.mag l = []) : Dec.isDec l = false := by
  unfold Dec.isDec; rw [h0, h]; rfl
theorem isDec_48 {l : List UInt8} {c : UInt8} {r : List UInt8} (h0 : (l == [48]) = false) (h : Dec.mag l = c :: r) (hc : c.toNat = 48) : Dec.isDec l = false := by
  rw [isDec_head48 h hc, h0]
theorem byte_drop {D : ByteArray} {l : List UInt8} (h : D.data.toList = l) (f k : Nat) (hf : f ≤ k) (hk : k < D.size) : ∃ hl : k - f < (l.drop f).length, D[k] = (l.drop f)[k - f] := by
  obtain ⟨h1, e⟩ := byte_at h k hk
  refine ⟨by rw [List.length_drop]; omega, ?_⟩
  rw [e]
  simp only [List.getElem_drop]
  congr 1
  omega
theorem cons_of_pos {l : List UInt8} (h : 0 < l.length) : ∃ c r, l = c :: r := by
  cases l with
  | nil => simp at h
  | cons c r => exact ⟨c, r, rfl⟩

set_option maxHeartbeats 1000000 in
theorem refValid_any (l : List UInt8) (w : World) (hl : l.length ≤ 9223372036854775807) :
    Calls Tryz.prog 148 #[.string ⟨l.toArray⟩] w fun e w' => e = .returned (.bool (Dec.isDec l)) ∧ w = w' := by
  obtain ⟨D, hD⟩ : ∃ D : ByteArray, D = ⟨l.toArray⟩ := ⟨_, rfl⟩
  rw [← hD]
  have HT : Hid (D.data.toList = l) := by rw [hD]; exact (rfl : l.toArray.toList = l)
  clear hD
  have hsz : D.size ≤ 9223372036854775807 := by rw [Lib.size_eq, HT.out]; exact hl
  cases h48 : (l == [48]) with
  | true =>
    have hE : (D.toList == [48]) = true := by rw [Lib.toList_data, HT.out]; exact h48
    have HR : Hid (Dec.isDec l = true) := by show _ = _; unfold Dec.isDec; rw [h48]; rfl
    clear h48
    go_enter Tryz.func148, Tryz.ntmps148
    go_wp2
    go_ret
    exact ⟨by rw [HR.out]; rfl, rfl⟩
  | false =>
    have hE : (D.toList == [48]) = false := by rw [Lib.toList_data, HT.out]; exact h48
    have H48 := Lib.hid h48
    clear h48
    by_cases h0 : D.size = 0
    · have HR := Lib.hid (isDec_nil H48.out (by rw [← HT.out, List.eq_nil_of_length_eq_zero (l := D.data.toList) (by rw [← Lib.size_eq]; exact h0)]; rfl))
      go_enter Tryz.func148, Tryz.ntmps148
      go_wp2
      go_ret
      exact ⟨by rw [HR.out]; rfl, rfl⟩
    · have hpos : 0 < D.size := by omega
      obtain ⟨hl0, e0⟩ := byte_at HT.out 0 hpos
      obtain ⟨c0, r0, hcr⟩ := cons_of_pos hl0
      have ec : D[0] = c0 := by rw [e0]; simp [hcr]
      by_cases h45 : c0 = 45
      · have HM : Hid (Dec.mag l = l.drop 1) := by show _ = _; rw [hcr, h45, Dec.mag_cons45]; rfl
        have hb45 : ((D[0].toNat : Int) == 45) = true := by rw [ec, h45]; rfl
        clear h45 e0 ec hcr hl0
        by_cases hf : D.size ≤ 1
        · have HR := Lib.hid (isDec_nil H48.out (by rw [HM.out, List.drop_of_length_le (by rw [← HT.out, ← Lib.size_eq]; exact hf)]))
          go_enter Tryz.func148, Tryz.ntmps148
          go_wp2
          go_ret
          exact ⟨by rw [HR.out]; rfl, rfl⟩
        · have hfs : 1 < D.size := by omega
          obtain ⟨hlf, ef⟩ := byte_drop HT.out 1 1 (Nat.le_refl _) hfs
          obtain ⟨c, r, hcr⟩ := cons_of_pos (l := l.drop 1) (by omega)
          have ec : D[1] = c := by rw [ef]; simp [hcr]
          by_cases h8 : D[1].toNat = 48
          · have HR := Lib.hid (isDec_48 H48.out (HM.out.trans hcr) (by rw [← ec]; exact h8))
            have hb48 : ((D[1].toNat : Int) == 48) = true := by rw [beq_iff_eq]; omega
            clear h8 ef ec hcr hlf
            go_enter Tryz.func148, Tryz.ntmps148
            go_wp2
            go_ret
            exact ⟨by rw [HR.out]; rfl, rfl⟩
          · have HF := Lib.hid (isDec_head (HM.out.trans hcr) (by rw [← ec]; exact h8))
            have hb48 : ((D[1].toNat : Int) == 48) = false := by rw [beq_eq_false_iff_ne]; omega
            clear h8 ef ec hcr hlf
            go_enter Tryz.func148, Tryz.ntmps148
            go_wp2
            go_loop [4] (fun ix => ∃ k : Nat, 1 ≤ k ∧ k ≤ D.size ∧ ix = .int .i64 k ∧ Hid (Dec.digs ((Dec.mag l).take (k - 1)) = true)) (fun ix => D.size - (intOf ix).toNat)
            case atStart => exact ⟨1, Nat.le_refl _, by omega, rfl, (rfl : Dec.digs ((Dec.mag l).take 0) = true)⟩
            case round =>
              obtain ⟨k, hfk, hk, rfl, HK⟩ := hrel
              by_cases hlt : k < D.size
              · obtain ⟨hkl, ek⟩ := byte_drop HT.out 1 k hfk hlt
                have EK := Lib.hid ek
                clear ek
                rcases Nat.lt_or_ge D[k].toNat 48 with h1 | h1
                · have HR : Hid (Dec.isDec l = false) := by show _ = _; rw [HF.out, HM.out]; exact digs_not hkl (.inl (by rw [← EK.out]; exact h1))
                  go_wp2
                  go_ret
                  exact ⟨by rw [HR.out]; rfl, rfl⟩
                · rcases Nat.lt_or_ge 57 D[k].toNat with h2 | h2
                  · have HR : Hid (Dec.isDec l = false) := by show _ = _; rw [HF.out, HM.out]; exact digs_not hkl (.inr (by rw [← EK.out]; exact h2))
                    go_wp2
                    go_ret
                    exact ⟨by rw [HR.out]; rfl, rfl⟩
                  · go_wp2
                    go_round
                    case rel => exact ⟨k + 1, by omega, by omega, by go_num, Lib.hid (by
                      have h3 := HK.out
                      rw [HM.out] at h3 ⊢
                      rw [show k + 1 - 1 = (k - 1) + 1 by omega]
                      exact digs_take_succ hkl h3 (by rw [← EK.out]; exact h1) (by rw [← EK.out]; exact h2))⟩
                    case measure => simp only [intOf]; omega
              · have HR : Hid (Dec.isDec l = true) := by
                  show _ = _
                  rw [HF.out]
                  have := HK.out
                  rwa [List.take_of_length_le (by rw [HM.out, List.length_drop, ← HT.out, ← Lib.size_eq]; omega)] at this
                go_wp2
                go_ret
                exact ⟨by rw [HR.out]; rfl, rfl⟩
      · have HM : Hid (Dec.mag l = l.drop 0) := by show _ = _; rw [hcr]; simp [Dec.mag, h45]
        have hb45 : ((D[0].toNat : Int) == 45) = false := by
          rw [ec, beq_eq_false_iff_ne]; intro e
          exact h45 (UInt8.toNat_inj.1 (by have : c0.toNat = 45 := by omega
                                           simpa using this))
        clear h45 e0 ec hcr hl0
        by_cases hf : D.size ≤ 0
        · omega
        · have hfs : 0 < D.size := by omega
          obtain ⟨hlf, ef⟩ := byte_drop HT.out 0 0 (Nat.le_refl _) hfs
          obtain ⟨c, r, hcr⟩ := cons_of_pos (l := l.drop 0) (by omega)
          have ec : D[0] = c := by rw [ef]; simp [hcr]
          by_cases h8 : D[0].toNat = 48
          · have HR := Lib.hid (isDec_48 H48.out (HM.out.trans hcr) (by rw [← ec]; exact h8))
            have hb48 : ((D[0].toNat : Int) == 48) = true := by rw [beq_iff_eq]; omega
            clear h8 ef ec hcr hlf
            go_enter Tryz.func148, Tryz.ntmps148
            go_wp2
            go_ret
            exact ⟨by rw [HR.out]; rfl, rfl⟩
          · have HF := Lib.hid (isDec_head (HM.out.trans hcr) (by rw [← ec]; exact h8))
            have hb48 : ((D[0].toNat : Int) == 48) = false := by rw [beq_eq_false_iff_ne]; omega
            clear h8 ef ec hcr hlf
            go_enter Tryz.func148, Tryz.ntmps148
            go_wp2
            go_loop [4] (fun ix => ∃ k : Nat, 0 ≤ k ∧ k ≤ D.size ∧ ix = .int .i64 k ∧ Hid (Dec.digs ((Dec.mag l).take (k - 0)) = true)) (fun ix => D.size - (intOf ix).toNat)
            case atStart => exact ⟨0, Nat.le_refl _, by omega, rfl, (rfl : Dec.digs ((Dec.mag l).take 0) = true)⟩
            case round =>
              obtain ⟨k, hfk, hk, rfl, HK⟩ := hrel
              by_cases hlt : k < D.size
              · obtain ⟨hkl, ek⟩ := byte_drop HT.out 0 k hfk hlt
                have EK := Lib.hid ek
                clear ek
                rcases Nat.lt_or_ge D[k].toNat 48 with h1 | h1
                · have HR : Hid (Dec.isDec l = false) := by show _ = _; rw [HF.out, HM.out]; exact digs_not hkl (.inl (by rw [← EK.out]; exact h1))
                  go_wp2
                  go_ret
                  exact ⟨by rw [HR.out]; rfl, rfl⟩
                · rcases Nat.lt_or_ge 57 D[k].toNat with h2 | h2
                  · have HR : Hid (Dec.isDec l = false) := by show _ = _; rw [HF.out, HM.out]; exact digs_not hkl (.inr (by rw [← EK.out]; exact h2))
                    go_wp2
                    go_ret
                    exact ⟨by rw [HR.out]; rfl, rfl⟩
                  · go_wp2
                    go_round
                    case rel => exact ⟨k + 1, by omega, by omega, by go_num, Lib.hid (by
                      have h3 := HK.out
                      rw [HM.out] at h3 ⊢
                      rw [show k + 1 - 0 = (k - 0) + 1 by omega]
                      exact digs_take_succ hkl h3 (by rw [← EK.out]; exact h1) (by rw [← EK.out]; exact h2))⟩
                    case measure => simp only [intOf]; omega
              · have HR : Hid (Dec.isDec l = true) := by
                  show _ = _
                  rw [HF.out]
                  have := HK.out
                  rwa [List.take_of_length_le (by rw [HM.out, List.length_drop, ← HT.out, ← Lib.size_eq]; omega)] at this
                go_wp2
                go_ret
                exact ⟨by rw [HR.out]; rfl, rfl⟩
theorem refv (l : List UInt8) (z : Bool) (hz : Dec.isDec l = z) (hl : l.length ≤ 9223372036854775807) (w : World) : Calls Tryz.prog 148 #[.string ⟨l.toArray⟩] w fun e w' => e = .returned (.bool z) ∧ w = w' := by
  have := refValid_any l w hl
  rwa [hz] at this

end Go.Proofs.YtmkcnjfhdfanoaaGreatDoor
/- lispproverref1.trim, digits: the digits of a decimal. -/
namespace Go.Proofs.YtmkcnjfhdfanoaaGreatDoor
open Go.RowKit

theorem infoInt : (Tryz.prog.info? 3).map (fun i => (i.zero, i.size, i.bytes)) = some (some (.int .i64 0), 1, 8) := by kernel_rfl

set_option maxHeartbeats 400000 in
theorem refTrim_any (A : Option Addr) (n c : Nat) (l : List Nat) (w : World) (h : Sl w .i64 A n c l) (hn : n ≤ 1000000000) :
    Calls Tryz.prog 149 #[.slice A n c] w fun e w' => e = .returned (.slice A (Dec.trimZ l).length c) ∧ w = w' := by
  have hlen := h.len
  have hcap := h.cap
  go_enter Tryz.func149, Tryz.ntmps149
  go_wp2
  go_loop [3] (fun v => ∃ m : Nat, v = .int .i64 m ∧ m ≤ n ∧ Hid (Dec.trimZ (l.take m) = Dec.trimZ l)) (fun v => (intOf v).toNat)
  case atStart => exact ⟨n, rfl, Nat.le_refl _, Lib.hid (by rw [List.take_of_length_le (by omega)])⟩
  case round =>
    obtain ⟨m, rfl, hm, HT⟩ := hrel
    by_cases h0 : 0 < m
    · obtain ⟨b, o, rfl, hb, hc⟩ := h.cells (by omega)
      have hcm := hc (m - 1) (by omega)
      clear hc
      go_wp2
      · have hz : l.getD (m - 1) 0 = 0 := by simpa using ‹((l[m - 1]?.getD 0 : Nat) == (0 : Int)) = true›
        go_round
        case rel => exact ⟨m - 1, by go_num, by omega, Lib.hid (by rw [trimZ_step h0 (by omega) hz]; exact HT.out)⟩
        case measure => simp only [intOf]; omega
      · have hz : l.getD (m - 1) 0 ≠ 0 := by simpa using ‹((l[m - 1]?.getD 0 : Nat) == (0 : Int)) = false›
        go_ret
        refine ⟨?_, rfl⟩
        have e : (Dec.trimZ l).length = m := by
          rw [← HT.out, trimZ_stop h0 (by omega) hz, List.length_take]; omega
        rw [e]; rfl
    · have e : (Dec.trimZ l).length = m := by
        rw [← HT.out, show m = 0 by omega]; rfl
      have HE := Lib.hid e
      clear e
      go_wp2
      go_ret
      refine ⟨?_, rfl⟩
      rw [HE.out]; rfl

def RetDig (K : Nat) (v : Int) (w : World) (e : Ending) (w' : World) : Prop :=
  ∃ A n c, e = .returned (.tuple #[.bool (decide (v < 0)), .slice A n c]) ∧ Sl w' .i64 A n c (Dec.limbs 10 v.natAbs) ∧ n ≤ K ∧ Below w.heap.size w w'
theorem revDigs_cons (c : UInt8) (r : List UInt8) : Dec.revDigs (c :: r) = Dec.revDigs r ++ [c.toNat - 48] := by simp [Dec.revDigs]
theorem revDigs_drop (l : List UInt8) (j : Nat) (h0 : 0 < j) (hj : j ≤ l.length) : Dec.revDigs (l.drop (j - 1)) = Dec.revDigs (l.drop j) ++ [(l[j - 1]'(by omega)).toNat - 48] := by
  obtain ⟨m, rfl⟩ : ∃ m, j = m + 1 := ⟨j - 1, by omega⟩
  simp only [Nat.add_sub_cancel]
  rw [List.drop_eq_getElem_cons (by omega), revDigs_cons]

set_option maxHeartbeats 1000000 in
theorem refDigits_any (l : List UInt8) (w : World) (hl : l.length ≤ 2500000) :
    Calls Tryz.prog 116 #[.string ⟨l.toArray⟩] w (RetDig (l.length + 1) (Dec.dval l) w) := by
  cases hv : Dec.isDec l with
  | false =>
    have HV := Lib.hid (refv l false hv (by omega) w)
    have HD : Hid (Dec.dval l = 0) := by show _ = _; unfold Dec.dval; rw [hv]; rfl
    clear hv
    go_enter Tryz.func116, Tryz.ntmps116
    go_wp2_with fail
    refine HV.out.mono ?_
    rintro e w' ⟨rfl, rfl⟩
    go_wp2
    go_ret2
    exact ⟨none, 0, 0, by rw [HD.out]; rfl, by rw [HD.out]; exact Sl.nil _ _ _ _, by omega, Below.refl _ _⟩
  | true =>
    have HV := Lib.hid (refv l true hv (by omega) w)
    obtain ⟨D, hD⟩ : ∃ D : ByteArray, D = ⟨l.toArray⟩ := ⟨_, rfl⟩
    rw [← hD] at HV
    rw [← hD]
    have HT : Hid (D.data.toList = l) := by rw [hD]; exact (rfl : l.toArray.toList = l)
    clear hD
    have hsz : D.size ≤ 2500000 := by rw [Lib.size_eq, HT.out]; exact hl
    have HSz : Hid (D.size = l.length) := by show _ = _; rw [Lib.size_eq, HT.out]
    by_cases h0 : l = [48]
    · have hE : (D.toList == [48]) = true := by rw [Lib.toList_data, HT.out, h0]; rfl
      have HD : Hid (Dec.dval l = 0) := by rw [h0]; exact Dec.dval_zero
      clear hv h0
      go_enter Tryz.func116, Tryz.ntmps116
      go_wp2_with fail
      refine HV.out.mono ?_
      rintro e w' ⟨rfl, rfl⟩
      go_wp2
      go_ret2
      exact ⟨none, 0, 0, by rw [HD.out]; rfl, by rw [HD.out]; exact Sl.nil _ _ _ _, by omega, Below.refl _ _⟩
    · have hE : (D.toList == [48]) = false := by rw [Lib.toList_data, HT.out]; simpa using h0
      obtain ⟨hd, hh⟩ := (Dec.isDec_iff h0).1 hv
      have hz := (Dec.decDigits_nval _ hd hh).2
      have HDv : Hid (Dec.dval l = if Dec.neg l then -(Dec.nval (Dec.mag l) : Int) else Dec.nval (Dec.mag l)) := by show _ = _; unfold Dec.dval; rw [if_pos hv]
      have HRv := Lib.hid (Dec.revDigs_limbs hd hh)
      have HDg := Lib.hid hd
      have hlp : 0 < l.length := by
        rcases Nat.eq_zero_or_pos l.length with e | e
        · obtain ⟨c, r, e2, _⟩ := hh
          have := Dec.mag_length_le l
          rw [e2, List.length_cons] at this
          omega
        · exact e
      have hpos : 0 < D.size := by rw [HSz.out]; exact hlp
      obtain ⟨_, e0⟩ := byte_at HT.out 0 hpos
      obtain ⟨c0, r0, hcr⟩ := cons_of_pos hlp
      have ec : D[0] = c0 := by rw [e0]; simp [hcr]
      clear hv h0 hd hh e0
      by_cases h45 : c0 = 45
      · have HM : Hid (Dec.mag l = l.drop 1) := by show _ = _; rw [hcr, h45, Dec.mag_cons45]; rfl
        have hng : Dec.neg l = true := by rw [hcr, h45]; rfl
        have HN : Hid (decide (Dec.dval l < 0) = true ∧ (Dec.dval l).natAbs = Dec.nval (Dec.mag l)) := by show _ ∧ _; rw [HDv.out, hng, if_pos rfl]; exact ⟨decide_eq_true (by omega), by omega⟩
        have hb45 : ((D[0].toNat : Int) == 45) = true := by rw [ec, h45]; rfl
        clear h45 ec hcr hng hz
        go_enter Tryz.func116, Tryz.ntmps116
        go_wp2_with fail
        refine HV.out.mono ?_
        rintro e w' ⟨rfl, rfl⟩
        go_wp2
        go_loopw [6, 7] (fun out ix wr => ∃ (j c2 m : Nat) (A2 : Option Addr), 1 ≤ j ∧ j ≤ D.size ∧ ix = .int .i64 ((j : Int) - 1) ∧ out = .slice A2 m c2 ∧ m + j = D.size ∧ Own wr w.heap.size 3 .i64 A2 m c2 (Dec.revDigs (l.drop j)) ∧ Below w.heap.size w wr) (fun _ ix _ => (intOf ix + 1).toNat)
        case atStart => exact ⟨D.size, 0, 0, none, by omega, Nat.le_refl _, rfl, rfl, by omega, by rw [List.drop_of_length_le (by rw [HSz.out]; exact Nat.le_refl _)]; exact Own.nil _ _ _ _, Below.refl _ _⟩
        case round =>
          obtain ⟨j, c2, m, A2, hfj, hj, rfl, rfl, hmj, hown, hb⟩ := hrel
          have HMJ := Lib.hid hmj
          have hmle : m ≤ 2500000 := by omega
          clear hmj
          by_cases hlt : 1 < j
          · have hj1 : j - 1 < D.size := by omega
            obtain ⟨hkl, ek⟩ := byte_at HT.out (j - 1) hj1
            have hdg := List.all_eq_true.1 HDg.out D[j - 1] (by rw [HM.out, ek]; exact List.mem_drop_iff_getElem.2 ⟨j - 1 - 1, by omega, by congr 1; omega⟩)
            simp only [Dec.dig, Bool.and_eq_true, decide_eq_true_eq] at hdg
            obtain ⟨g1, g2⟩ := hdg
            have HRD := Lib.hid (revDigs_drop l j (by omega) (by rw [← HSz.out]; exact hj))
            have EK := Lib.hid ek
            clear ek
            have hi1 : (0 : Int) ≤ (j : Int) - 1 := by omega
            have hi2 : (j : Int) - 1 < D.size := by omega
            have hi3 : ((j : Int) - 1).toNat = j - 1 := by omega
            go_wp2_with (at_builtin; refine wpList_app (w0 := w) rfl _ _ _ rfl 3 .i64 8 Tryz.underlying100 infoInt (by omega) _ _ _ _ rfl hown _ (D[j - 1].toNat - 48) (by omega) rfl (by omega) hb ?_; intro A3 c3 w2 hown2 hb2 _ _ _)
            go_roundw
            case rel => exact ⟨j - 1, c3, m + 1, A3, by omega, by omega, by go_num, rfl, by have := HMJ.out; omega, by rw [HRD.out, ← EK.out]; exact hown2, hb2⟩
            case measure => simp only [intOf]; omega
          · obtain rfl : j = 1 := by omega
            go_wp2
            go_ret2
            refine ⟨A2, m, c2, by rw [HN.out.1]; rfl, ?_, by have := HMJ.out; have := HSz.out; omega, hb⟩
            rw [HN.out.2, ← HRv.out, HM.out]
            exact hown.sl
      · have HM : Hid (Dec.mag l = l.drop 0) := by show _ = _; rw [hcr]; simp [Dec.mag, h45]
        have hng : Dec.neg l = false := by rw [hcr]; simp [Dec.neg, h45]
        have HN : Hid (decide (Dec.dval l < 0) = false ∧ (Dec.dval l).natAbs = Dec.nval (Dec.mag l)) := by show _ ∧ _; rw [HDv.out, hng, if_neg (by simp)]; exact ⟨decide_eq_false (by omega), by omega⟩
        have hb45 : ((D[0].toNat : Int) == 45) = false := by
          rw [ec, beq_eq_false_iff_ne]; intro e
          exact h45 (UInt8.toNat_inj.1 (by have : c0.toNat = 45 := by omega
                                           simpa using this))
        clear h45 ec hcr hng hz
        go_enter Tryz.func116, Tryz.ntmps116
        go_wp2_with fail
        refine HV.out.mono ?_
        rintro e w' ⟨rfl, rfl⟩
        go_wp2
        go_loopw [6, 7] (fun out ix wr => ∃ (j c2 m : Nat) (A2 : Option Addr), 0 ≤ j ∧ j ≤ D.size ∧ ix = .int .i64 ((j : Int) - 1) ∧ out = .slice A2 m c2 ∧ m + j = D.size ∧ Own wr w.heap.size 3 .i64 A2 m c2 (Dec.revDigs (l.drop j)) ∧ Below w.heap.size w wr) (fun _ ix _ => (intOf ix + 1).toNat)
        case atStart => exact ⟨D.size, 0, 0, none, by omega, Nat.le_refl _, rfl, rfl, by omega, by rw [List.drop_of_length_le (by rw [HSz.out]; exact Nat.le_refl _)]; exact Own.nil _ _ _ _, Below.refl _ _⟩
        case round =>
          obtain ⟨j, c2, m, A2, hfj, hj, rfl, rfl, hmj, hown, hb⟩ := hrel
          have HMJ := Lib.hid hmj
          have hmle : m ≤ 2500000 := by omega
          clear hmj
          by_cases hlt : 0 < j
          · have hj1 : j - 1 < D.size := by omega
            obtain ⟨hkl, ek⟩ := byte_at HT.out (j - 1) hj1
            have hdg := List.all_eq_true.1 HDg.out D[j - 1] (by rw [HM.out, ek]; exact List.mem_drop_iff_getElem.2 ⟨j - 1 - 0, by omega, by congr 1; omega⟩)
            simp only [Dec.dig, Bool.and_eq_true, decide_eq_true_eq] at hdg
            obtain ⟨g1, g2⟩ := hdg
            have HRD := Lib.hid (revDigs_drop l j (by omega) (by rw [← HSz.out]; exact hj))
            have EK := Lib.hid ek
            clear ek
            have hi1 : (0 : Int) ≤ (j : Int) - 1 := by omega
            have hi2 : (j : Int) - 1 < D.size := by omega
            have hi3 : ((j : Int) - 1).toNat = j - 1 := by omega
            go_wp2_with (at_builtin; refine wpList_app (w0 := w) rfl _ _ _ rfl 3 .i64 8 Tryz.underlying100 infoInt (by omega) _ _ _ _ rfl hown _ (D[j - 1].toNat - 48) (by omega) rfl (by omega) hb ?_; intro A3 c3 w2 hown2 hb2 _ _ _)
            go_roundw
            case rel => exact ⟨j - 1, c3, m + 1, A3, by omega, by omega, by go_num, rfl, by have := HMJ.out; omega, by rw [HRD.out, ← EK.out]; exact hown2, hb2⟩
            case measure => simp only [intOf]; omega
          · obtain rfl : j = 0 := by omega
            go_wp2
            go_ret2
            refine ⟨A2, m, c2, by rw [HN.out.1]; rfl, ?_, by have := HMJ.out; have := HSz.out; omega, hb⟩
            rw [HN.out.2, ← HRv.out, HM.out]
            exact hown.sl
end Go.Proofs.YtmkcnjfhdfanoaaGreatDoor
/- lispproverref1.order: compares the values of two lists of digits. -/
namespace Go.Proofs.YtmkcnjfhdfanoaaGreatDoor
open Go.RowKit

set_option maxHeartbeats 400000 in
theorem order_same (B : Nat) (hB : 2 ≤ B) (A A' : Option Addr) (n c c' : Nat) (x y : List Nat) (w : World) (hx : Sl w .i64 A n c x) (hy : Sl w .i64 A' n c' y) (hn : n ≤ 1000000000)
    (hsx : Dec.Small B x) (hsy : Dec.Small B y) :
    Calls Tryz.prog 150 #[.slice A n c, .slice A' n c'] w (Cmp (Dec.lval B x) (Dec.lval B y) w) := by
  have hlx := hx.len
  have hly := hy.len
  have HX := Lib.hid hlx
  have HY := Lib.hid hly
  clear hlx hly
  go_enter Tryz.func150, Tryz.ntmps150
  go_wp2
  go_loopw [5] (fun i wr => ∃ k q : Nat, k ≤ n ∧ i = .int .i64 ((k : Int) - 1) ∧ Hid (x.drop k = y.drop k) ∧ wr = w.drewN q) (fun i _ => (intOf i + 1).toNat)
  case atStart => exact ⟨n, 0, Nat.le_refl _, rfl, (by rw [List.drop_of_length_le (by rw [HX.out]; exact Nat.le_refl _), List.drop_of_length_le (by rw [HY.out]; exact Nat.le_refl _)] : x.drop n = y.drop n), rfl⟩
  case round =>
    obtain ⟨k, q, hk, rfl, HD, rfl⟩ := hrel
    by_cases h0 : 0 < k
    · obtain ⟨b, o, rfl, hb, hc⟩ := hx.cells (by omega)
      obtain ⟨b', o', rfl, hb', hc'⟩ := hy.cells (by omega)
      have hcm := hc (k - 1) (by omega)
      have hcm' := hc' (k - 1) (by omega)
      clear hc hc' hb hb'
      have hi1 : (0 : Int) ≤ (k : Int) - 1 := by omega
      have hi2 : (k : Int) - 1 < n := by omega
      have hi3 : ((k : Int) - 1).toNat = k - 1 := by omega
      generalize hu : x.getD (k - 1) 0 = u at hcm
      generalize hv : y.getD (k - 1) 0 = v at hcm'
      have HU := Lib.hid hu
      have HV := Lib.hid hv
      clear hu hv
      rcases Nat.lt_trichotomy u v with hlt | heq | hgt
      · have e2 : decide ((u : Int) < v) = true := by simp; omega
        go_wp2
        go_quiet (fail)
        go_wp2
        go_ret
        refine ⟨?_, ex_drew2 _ _ _⟩
        rw [ordI_lt (Dec.lval_lt_of_top (i := k - 1) hsx hB (by rw [HX.out]; omega) (by rw [HX.out, HY.out]) (by rw [Nat.sub_add_cancel h0]; exact HD.out) (by rw [HU.out, HV.out]; exact hlt))]
        rfl
      · have e2 : decide ((u : Int) < v) = false := by simp; omega
        have e3 : decide ((v : Int) < u) = false := by simp; omega
        go_wp2
        go_quiet (fail)
        go_wp2
        go_quiet (fail)
        go_wp2
        go_roundw
        case rel => exact ⟨k - 1, _, by omega, by go_num, drop_pred h0 (by rw [HX.out]; exact hk) (by rw [HX.out, HY.out]) HD.out (by rw [HU.out, HV.out, heq]), rfl⟩
        case measure => simp only [intOf]; omega
      · have e2 : decide ((u : Int) < v) = false := by simp; omega
        have e3 : decide ((v : Int) < u) = true := by simp; omega
        go_wp2
        go_quiet (fail)
        go_wp2
        go_quiet (fail)
        go_wp2
        go_ret
        refine ⟨?_, ex_drew3 _ _ _ _⟩
        rw [ordI_gt (Dec.lval_lt_of_top (i := k - 1) hsy hB (by rw [HY.out]; omega) (by rw [HX.out, HY.out]) (by rw [Nat.sub_add_cancel h0]; exact HD.out.symm) (by rw [HU.out, HV.out]; exact hgt))]
        rfl
    · have hk0 : k = 0 := by omega
      subst hk0
      go_wp2
      go_ret
      refine ⟨?_, _, rfl⟩
      have e : x = y := by simpa using HD.out
      rw [e, ordI_eq]
      rfl

set_option maxHeartbeats 400000 in
theorem orderR_any (B : Nat) (hB : 2 ≤ B) (A A' : Option Addr) (n n' c c' a b : Nat) (w : World) (hx : Sl w .i64 A n c (Dec.limbs B a)) (hy : Sl w .i64 A' n' c' (Dec.limbs B b)) (hn : n ≤ 1000000000) (hn' : n' ≤ 1000000000) :
    Calls Tryz.prog 150 #[.slice A n c, .slice A' n' c'] w (Cmp a b w) := by
  rcases Nat.lt_trichotomy n n' with hlt | heq | hgt
  · have e1 : ((n : Int) != n') = true := by rw [bne_iff_ne]; omega
    have hv : a < b := Dec.lt_of_length_lt hB (by rw [hx.len, hy.len]; exact hlt)
    have HV := Lib.hid (ordI_lt hv)
    clear hv hx hy
    go_enter Tryz.func150, Tryz.ntmps150
    go_wp2
    go_ret
    refine ⟨?_, 0, rfl⟩
    rw [HV.out]
    rfl
  · subst heq
    have := order_same B hB A A' n c c' _ _ w hx hy hn (Dec.limbs_small hB a) (Dec.limbs_small hB b)
    rwa [Dec.lval_limbs hB, Dec.lval_limbs hB] at this
  · have e1 : ((n : Int) != n') = true := by rw [bne_iff_ne]; omega
    have e2 : decide (n < n') = false := by simp; omega
    have hv : b < a := Dec.lt_of_length_lt hB (by rw [hx.len, hy.len]; exact hgt)
    have HV := Lib.hid (ordI_gt hv)
    clear hv hx hy
    go_enter Tryz.func150, Tryz.ntmps150
    go_wp2
    go_ret
    refine ⟨?_, 0, rfl⟩
    rw [HV.out]
    rfl
end Go.Proofs.YtmkcnjfhdfanoaaGreatDoor
/- lispproverref1.plus and minus: digits of the sum and of the difference. -/
namespace Go.Proofs.YtmkcnjfhdfanoaaGreatDoor
open Go.RowKit

/-- a call hands back digits of the value v, zeros at the end let in -/
def RetSm (K v : Nat) (w : World) (e : Ending) (w' : World) : Prop := ∃ A n c o, e = .returned (.slice A n c) ∧ n ≤ K ∧ Sl w' .i64 A n c o ∧ Dec.Small 10 o ∧ Dec.lval 10 o = v ∧ Below w.heap.size w w' ∧ ∀ b o, A = some ⟨b, o, none⟩ → w.heap.size ≤ b
theorem getD_out {l : List Nat} {k n : Nat} (h : l.length = n) (hk : ¬ k < n) : l.getD k 0 = 0 := by
  rw [List.getD_eq_getElem?_getD, List.getElem?_eq_none (by omega)]; rfl

set_option maxHeartbeats 2000000 in
theorem refPlus_any (A A' : Option Addr) (n n' c c' : Nat) (x y : List Nat) (w : World) (hx : Sl w .i64 A n c x) (hy : Sl w .i64 A' n' c' y) (hn : n ≤ 100000000) (hn' : n' ≤ 100000000)
    (hsx : Dec.Small 10 x) (hsy : Dec.Small 10 y) :
    Calls Tryz.prog 143 #[.slice A n c, .slice A' n' c'] w (RetSm (max n n' + 1) (Dec.lval 10 x + Dec.lval 10 y) w) := by
  go_enter Tryz.func143, Tryz.ntmps143
  go_wp2
  go_loopg [5, 6, 7] (2 * max n n') (fun gx out cr ix wr => ∃ (k : Nat) (A2 : Option Addr) (c2 : Nat) (o : List Nat) (cy : Nat), k + cy ≤ max n n' + 1 ∧ ix = .int .i64 k ∧ out = .slice A2 k c2 ∧ cr = .int .i64 cy ∧ cy ≤ 1 ∧ Own wr w.heap.size 3 .i64 A2 k c2 o ∧ Dec.Small 10 o ∧ Hid (Dec.lval 10 o + 10 ^ k * cy = Dec.lval 10 (x.take k) + Dec.lval 10 (y.take k)) ∧ Below w.heap.size w wr ∧ 2 * (max n n' - k) + cy ≤ gx)
  case atStart => exact ⟨0, none, 0, [], 0, by omega, rfl, rfl, rfl, by omega, Own.nil _ _ _ _, Dec.Small.nil, Lib.hid (by simp [Dec.lval]), Below.refl _ _, by omega⟩
  case round =>
    obtain ⟨k, A2, c2, o, cy, hk, rfl, rfl, rfl, hcy, hown, hso, HV, hb, hg⟩ := hrel
    have HO := Lib.hid hown.len
    by_cases hkn : k < n
    · obtain ⟨b, off, rfl, _, hcx⟩ := (hx.below hb).cells (by omega)
      have hcu := hcx k hkn
      clear hcx
      have hu := getD_lt (l := x) hsx (by omega) k
      by_cases hkm : k < n'
      · obtain ⟨b', off', rfl, _, hcy'⟩ := (hy.below hb).cells (by omega)
        have hcv := hcy' k hkm
        clear hcy'
        have hv := getD_lt (l := y) hsy (by omega) k
        have HR := Lib.hid (Dec.plus_round (B := 10) (a := x) (b := y) (n := cy + x.getD k 0 + y.getD k 0) HO.out HV.out (by omega))
        generalize x.getD k 0 = u at hcu hu HR
        generalize y.getD k 0 = v at hcv hv HR
        go_wp2_with (at_builtin; refine wpList_app (w0 := w) rfl _ _ _ rfl 3 .i64 8 Tryz.underlying100 infoInt (by omega) _ _ _ o rfl hown _ ((cy + u + v) % 10) (by omega) rfl (by omega) hb ?_; intro A3 c3 w2 hown2 hb2 _ _ _)
        go_roundg (2 * (max n n' - (k + 1)) + (cy + u + v) / 10)
        case measure => omega
        case rel => exact ⟨k + 1, A3, c3, o ++ [(cy + u + v) % 10], (cy + u + v) / 10, by omega, by go_num, rfl, by go_num, by omega, hown2, hso.append (Dec.Small.cons (by omega) Dec.Small.nil), HR, hb2, Nat.le_refl _⟩
      · have hv := getD_out hy.len hkm
        have HR := Lib.hid (Dec.plus_round (B := 10) (a := x) (b := y) (n := cy + x.getD k 0) HO.out HV.out (by omega))
        clear hv
        generalize x.getD k 0 = u at hcu hu HR
        go_wp2_with (at_builtin; refine wpList_app (w0 := w) rfl _ _ _ rfl 3 .i64 8 Tryz.underlying100 infoInt (by omega) _ _ _ o rfl hown _ ((cy + u) % 10) (by omega) rfl (by omega) hb ?_; intro A3 c3 w2 hown2 hb2 _ _ _)
        go_roundg (2 * (max n n' - (k + 1)) + (cy + u) / 10)
        case measure => omega
        case rel => exact ⟨k + 1, A3, c3, o ++ [(cy + u) % 10], (cy + u) / 10, by omega, by go_num, rfl, by go_num, by omega, hown2, hso.append (Dec.Small.cons (by omega) Dec.Small.nil), HR, hb2, Nat.le_refl _⟩
    · have hu := getD_out hx.len hkn
      by_cases hkm : k < n'
      · obtain ⟨b', off', rfl, _, hcy'⟩ := (hy.below hb).cells (by omega)
        have hcv := hcy' k hkm
        clear hcy'
        have hv := getD_lt (l := y) hsy (by omega) k
        have HR := Lib.hid (Dec.plus_round (B := 10) (a := x) (b := y) (n := cy + y.getD k 0) HO.out HV.out (by omega))
        clear hu
        generalize y.getD k 0 = v at hcv hv HR
        go_wp2_with (at_builtin; refine wpList_app (w0 := w) rfl _ _ _ rfl 3 .i64 8 Tryz.underlying100 infoInt (by omega) _ _ _ o rfl hown _ ((cy + v) % 10) (by omega) rfl (by omega) hb ?_; intro A3 c3 w2 hown2 hb2 _ _ _)
        go_roundg (2 * (max n n' - (k + 1)) + (cy + v) / 10)
        case measure => omega
        case rel => exact ⟨k + 1, A3, c3, o ++ [(cy + v) % 10], (cy + v) / 10, by omega, by go_num, rfl, by go_num, by omega, hown2, hso.append (Dec.Small.cons (by omega) Dec.Small.nil), HR, hb2, Nat.le_refl _⟩
      · have hv := getD_out hy.len hkm
        have HR := Lib.hid (Dec.plus_round (B := 10) (a := x) (b := y) (n := cy) HO.out HV.out (by omega))
        clear hu hv
        have HX : Hid (x.take k = x) := Lib.hid (List.take_of_length_le (by rw [hx.len]; omega))
        have HY : Hid (y.take k = y) := Lib.hid (List.take_of_length_le (by rw [hy.len]; omega))
        by_cases hc0 : 0 < cy
        · obtain rfl : cy = 1 := by omega
          have HF : Hid (Dec.lval 10 (o ++ [1 % 10]) + 10 ^ (k + 1) * (1 / 10) = Dec.lval 10 (x.take (k + 1)) + Dec.lval 10 (y.take (k + 1))) := HR
          go_wp2_with (at_builtin; refine wpList_app (w0 := w) rfl _ _ _ rfl 3 .i64 8 Tryz.underlying100 infoInt (by omega) _ _ _ o rfl hown _ 1 (by omega) rfl (by omega) hb ?_; intro A3 c3 w2 hown2 hb2 _ _ _)
          go_roundg 0
          case measure => omega
          case rel => exact ⟨k + 1, A3, c3, o ++ [1], 0, by omega, by go_num, rfl, rfl, by omega, hown2, hso.append (Dec.Small.cons (by omega) Dec.Small.nil), HF, hb2, by omega⟩
        · obtain rfl : cy = 0 := by omega
          have HF : Hid (Dec.lval 10 o = Dec.lval 10 x + Dec.lval 10 y) := by
            have h := HV.out
            rw [HX.out, HY.out] at h
            show _ = _
            omega
          go_wp2
          go_ret
          exact ⟨A2, k, c2, o, rfl, by omega, hown.sl, hso, HF.out, hb, hown.fresh⟩
end Go.Proofs.YtmkcnjfhdfanoaaGreatDoor
/- lispproverref1.minus: the digits of the difference. -/
namespace Go.Proofs.YtmkcnjfhdfanoaaGreatDoor
open Go.RowKit

set_option maxHeartbeats 2000000 in
theorem refMinus_any (A A' : Option Addr) (n n' c c' : Nat) (x y : List Nat) (w : World) (hx : Sl w .i64 A n c x) (hy : Sl w .i64 A' n' c' y) (hn : n ≤ 100000000) (hnn : n' ≤ n)
    (hsx : Dec.Small 10 x) (hsy : Dec.Small 10 y) (hle : Dec.lval 10 y ≤ Dec.lval 10 x) :
    Calls Tryz.prog 144 #[.slice A n c, .slice A' n' c'] w (RetSl .i64 (Dec.limbs 10 (Dec.lval 10 x - Dec.lval 10 y)) w) := by
  go_enter Tryz.func144, Tryz.ntmps144
  go_wp2
  go_loopw [5, 6, 7] (fun out br ix wr => ∃ (k : Nat) (A2 : Option Addr) (c2 : Nat) (o : List Nat) (bw : Nat), k ≤ n ∧ ix = .int .i64 k ∧ out = .slice A2 k c2 ∧ br = .int .i64 bw ∧ bw ≤ 1 ∧ Own wr w.heap.size 3 .i64 A2 k c2 o ∧ Dec.Small 10 o ∧ Hid (Dec.lval 10 (x.take k) + 10 ^ k * bw = Dec.lval 10 o + Dec.lval 10 (y.take k)) ∧ Below w.heap.size w wr) (fun _ _ ix _ => n - (intOf ix).toNat)
  case atStart => exact ⟨0, none, 0, [], 0, by omega, rfl, rfl, rfl, by omega, Own.nil _ _ _ _, Dec.Small.nil, Lib.hid (by simp [Dec.lval]), Below.refl _ _⟩
  case round =>
    obtain ⟨k, A2, c2, o, bw, hk, rfl, rfl, rfl, hbw, hown, hso, HV, hb⟩ := hrel
    have HO := Lib.hid hown.len
    by_cases hkn : k < n
    · obtain ⟨b, off, rfl, _, hcx⟩ := (hx.below hb).cells (by omega)
      have hcu := hcx k hkn
      clear hcx
      have hu := getD_lt (l := x) hsx (by omega) k
      have HR := fun d t => Lib.hid (Dec.minus_round (B := 10) (a := x) (b := y) (d := d) (n := t) HO.out HV.out)
      by_cases hkm : k < n'
      · obtain ⟨b', off', rfl, _, hcy'⟩ := (hy.below hb).cells (by omega)
        have hcv := hcy' k hkm
        clear hcy'
        have hv := getD_lt (l := y) hsy (by omega) k
        generalize x.getD k 0 = u at hcu hu HR
        generalize y.getD k 0 = v at hcv hv HR
        by_cases hneg : (u : Int) - bw - v < 0
        · have HR1 := Lib.hid ((HR 1 (u + 10 - bw - v)).out (by omega))
          clear HR
          go_wp2_with (at_builtin; refine wpList_app (w0 := w) rfl _ _ _ rfl 3 .i64 8 Tryz.underlying100 infoInt (by omega) _ _ _ o rfl hown _ (u + 10 - bw - v) (by omega) rfl (by omega) hb ?_; intro A3 c3 w2 hown2 hb2 _ _ _)
          go_roundw
          case rel => exact ⟨k + 1, A3, c3, o ++ [u + 10 - bw - v], 1, by omega, by go_num, rfl, rfl, by omega, hown2, hso.append (Dec.Small.cons (by omega) Dec.Small.nil), HR1, hb2⟩
          case measure => simp only [intOf]; omega
        · have HR1 := Lib.hid ((HR 0 (u - bw - v)).out (by omega))
          clear HR
          go_wp2_with (at_builtin; refine wpList_app (w0 := w) rfl _ _ _ rfl 3 .i64 8 Tryz.underlying100 infoInt (by omega) _ _ _ o rfl hown _ (u - bw - v) (by omega) rfl (by omega) hb ?_; intro A3 c3 w2 hown2 hb2 _ _ _)
          go_roundw
          case rel => exact ⟨k + 1, A3, c3, o ++ [u - bw - v], 0, by omega, by go_num, rfl, rfl, by omega, hown2, hso.append (Dec.Small.cons (by omega) Dec.Small.nil), HR1, hb2⟩
          case measure => simp only [intOf]; omega
      · have hv := getD_out hy.len hkm
        rw [hv] at HR
        clear hv
        generalize x.getD k 0 = u at hcu hu HR
        by_cases hneg : (u : Int) - bw < 0
        · have HR1 := Lib.hid ((HR 1 (u + 10 - bw)).out (by omega))
          clear HR
          go_wp2_with (at_builtin; refine wpList_app (w0 := w) rfl _ _ _ rfl 3 .i64 8 Tryz.underlying100 infoInt (by omega) _ _ _ o rfl hown _ (u + 10 - bw) (by omega) rfl (by omega) hb ?_; intro A3 c3 w2 hown2 hb2 _ _ _)
          go_roundw
          case rel => exact ⟨k + 1, A3, c3, o ++ [u + 10 - bw], 1, by omega, by go_num, rfl, rfl, by omega, hown2, hso.append (Dec.Small.cons (by omega) Dec.Small.nil), HR1, hb2⟩
          case measure => simp only [intOf]; omega
        · have HR1 := Lib.hid ((HR 0 (u - bw)).out (by omega))
          clear HR
          go_wp2_with (at_builtin; refine wpList_app (w0 := w) rfl _ _ _ rfl 3 .i64 8 Tryz.underlying100 infoInt (by omega) _ _ _ o rfl hown _ (u - bw) (by omega) rfl (by omega) hb ?_; intro A3 c3 w2 hown2 hb2 _ _ _)
          go_roundw
          case rel => exact ⟨k + 1, A3, c3, o ++ [u - bw], 0, by omega, by go_num, rfl, rfl, by omega, hown2, hso.append (Dec.Small.cons (by omega) Dec.Small.nil), HR1, hb2⟩
          case measure => simp only [intOf]; omega
    · have hkk : k = n := by omega
      subst hkk
      have HF : Hid (Dec.lval 10 o = Dec.lval 10 x - Dec.lval 10 y) := by
        have h := HV.out
        rw [List.take_of_length_le (by rw [hx.len]; omega), List.take_of_length_le (by rw [hy.len]; omega)] at h
        have hlt := Dec.lval_lt (B := 10) (by omega) hso
        rw [HO.out] at hlt
        show _ = _
        rcases Nat.eq_zero_or_pos bw with e | e
        · subst e; omega
        · obtain rfl : bw = 1 := by omega
          omega
      have hsl := hown.sl
      go_wp2_with fail
      refine (refTrim_any _ _ _ _ _ hsl (by omega)).mono ?_
      rintro e w' ⟨rfl, rfl⟩
      go_wp2
      go_ret
      refine ⟨_, _, _, rfl, ?_, hb, hown.fresh⟩
      have := hsl.trimmed (B := 10) (by omega) hso
      rw [HF.out] at this
      exact this
end Go.Proofs.YtmkcnjfhdfanoaaGreatDoor
/- lispproverref1.text: the decimal of a sign and digits. -/
namespace Go.Proofs.YtmkcnjfhdfanoaaGreatDoor
open Go.RowKit

theorem Sl.str {P : Program} {w : World} {A : Option Addr} {n c : Nat} {l : List Nat} (h : Sl w .u8 A n c l) (hn : 0 < n) (src e dst : TypeId) (hs : P.underlying src = some (.slice e)) (he : P.underlying e = some (.int .u8)) (hd : P.underlying dst = some .string) :
    (convert src dst (.slice A n c)).run P w = .ok (.string ⟨(l.map UInt8.ofNat).toArray⟩) w := by
  obtain ⟨b, o, rfl, _, hc⟩ := h.cells hn
  have := run_convert_bytes_arg (P := P) w src e hs he b o n c (l.map fun (x : Nat) => (x : Int)) (by rw [List.length_map, h.len]) (fun i hi => by
    rw [hc i hi, List.getD_eq_getElem?_getD, List.getD_eq_getElem?_getD, List.getElem?_map, List.getElem?_eq_getElem (by rw [h.len]; exact hi)]; rfl) dst hd
  rw [this]
  simp [strOfNums]

theorem text_bytes (ng : Bool) {v : Nat} (hv : v ≠ 0) : ((if ng then [45] else []) ++ ((Dec.limbs 10 v).drop 0).reverse.map (fun d => 48 + d)).map UInt8.ofNat = numStr ng v := by
  unfold numStr
  rw [itoa_sign ng hv, List.map_append, List.drop_zero, List.map_map, ← Dec.limbs10_decDigits hv]
  cases ng <;> rfl
theorem drop_rev {l : List Nat} {j : Nat} (h0 : 0 < j) (hj : j ≤ l.length) : ((l.drop (j - 1)).reverse.map fun d => 48 + d) = ((l.drop j).reverse.map fun d => 48 + d) ++ [48 + l.getD (j - 1) 0] := by
  obtain ⟨m, rfl⟩ : ∃ m, j = m + 1 := ⟨j - 1, by omega⟩
  rw [Nat.add_sub_cancel, List.drop_eq_getElem_cons (by omega), List.reverse_cons, List.map_append, List.getD_eq_getElem?_getD, List.getElem?_eq_getElem (by omega)]
  rfl

set_option maxHeartbeats 1000000 in
set_option maxRecDepth 100000 in
theorem refText_any (ng : Bool) (A : Option Addr) (n c : Nat) (x : List Nat) (w : World) (hx : Sl w .i64 A n c x) (hn : n ≤ 100000000) (hs : Dec.Small 10 x) :
    Calls Tryz.prog 119 #[.bool ng, .slice A n c] w (RetStr (numStr ng (Dec.lval 10 x)) w) := by
  have HT := Lib.hid (refTrim_any A n c x w hx (by omega))
  have hsl := hx.trimmed (B := 10) (by omega) hs
  have htl := trimZ_length_le x
  have hxl := hx.len
  have HL := Lib.hid hsl.len
  generalize (Dec.trimZ x).length = m at HT hsl htl HL
  generalize Dec.lval 10 x = v at hsl HL
  have hm : m ≤ 100000000 := by omega
  clear htl hxl
  by_cases h0 : v = 0
  · subst h0
    have hm0 : m = 0 := by rw [← HL.out]; rfl
    subst hm0
    rw [numStr_zero]
    go_enter Tryz.func119, Tryz.ntmps119
    go_wp2_with fail
    refine HT.out.mono ?_
    rintro e w' ⟨rfl, rfl⟩
    go_wp2
    go_ret
    exact ⟨rfl, Below.refl _ _⟩
  · have hmp : 0 < m := by
      rcases Nat.eq_zero_or_pos m with e | e
      · exact absurd ((Dec.limbs_eq_nil (B := 10) (by omega)).1 (List.eq_nil_of_length_eq_zero (by rw [HL.out]; exact e))) h0
      · exact e
    have hm0 : ((m : Int) == 0) = false := by rw [beq_eq_false_iff_ne]; omega
    have HF := Lib.hid h0
    clear h0
    have hsm := Dec.limbs_small (B := 10) (by omega) v
    cases ng with
    | true =>
      have HG : Hid (([45] ++ ((Dec.limbs 10 v).drop 0).reverse.map (fun d => 48 + d)).map UInt8.ofNat = numStr true v) := text_bytes true HF.out
      go_enter Tryz.func119, Tryz.ntmps119
      go_wp2_with fail
      refine HT.out.mono ?_
      rintro e w' ⟨rfl, rfl⟩
      go_wp2_with (at_builtin; refine wpList_app (w0 := w) rfl _ _ _ rfl 5 .u8 1 Tryz.underlying52 infoByte (by omega) _ _ _ [] rfl (Own.nil _ _ _ _) _ 45 (by omega) rfl (by omega) (Below.refl _ _) ?_; intro A1 c1 w1 hown1 hb1 _ _ _)
      go_loopw [5, 6] (fun out ix wr => ∃ (j c2 : Nat) (A2 : Option Addr), j ≤ m ∧ ix = .int .i64 ((j : Int) - 1) ∧ out = .slice A2 (1 + (m - j)) c2 ∧ Own wr w.heap.size 5 .u8 A2 (1 + (m - j)) c2 ([45] ++ ((Dec.limbs 10 v).drop j).reverse.map (fun d => 48 + d)) ∧ Below w.heap.size w wr) (fun _ ix _ => (intOf ix + 1).toNat)
      case atStart => exact ⟨m, c1, A1, Nat.le_refl _, rfl, by rw [Nat.sub_self], by rw [Nat.sub_self, List.drop_of_length_le (by rw [HL.out]; exact Nat.le_refl _)]; exact hown1, hb1⟩
      case round =>
        obtain ⟨j, c2, A2, hj, rfl, rfl, hown, hb⟩ := hrel
        by_cases hj0 : 0 < j
        · obtain ⟨b, o, rfl, _, hcx⟩ := (hsl.below hb).cells (by omega)
          have hcu := hcx (j - 1) (by omega)
          clear hcx
          have hu := getD_lt hsm (by omega) (j - 1)
          have HR := Lib.hid (drop_rev (l := Dec.limbs 10 v) hj0 (by rw [HL.out]; exact hj))
          generalize (Dec.limbs 10 v).getD (j - 1) 0 = u at hcu hu HR
          have hi1 : (0 : Int) ≤ (j : Int) - 1 := by omega
          have hi2 : (j : Int) - 1 < m := by omega
          have hi3 : ((j : Int) - 1).toNat = j - 1 := by omega
          have hw8 : IntKind.u8.wrap (48 + (u : Int)) = 48 + u := by rw [IntKind.wrap_u8]; omega
          go_wp2_with (at_builtin; refine wpList_app (w0 := w) rfl _ _ _ rfl 5 .u8 1 Tryz.underlying52 infoByte (by omega) _ _ _ _ rfl hown _ (48 + u) (by omega) rfl (by omega) hb ?_; intro A3 c3 w2 hown2 hb2 _ _ _)
          go_roundw
          case rel => exact ⟨j - 1, c3, A3, by omega, by go_num, by congr 1; omega, by rw [HR.out, ← List.append_assoc, show 1 + (m - (j - 1)) = 1 + (m - j) + 1 by omega]; exact hown2, hb2⟩
          case measure => simp only [intOf]; omega
        · have hjz : j = 0 := by omega
          subst hjz
          have hst := hown.sl.str (P := Tryz.prog) (by omega) 52 5 9 Tryz.underlying52 Tryz.underlying5 Tryz.underlying9
          rw [HG.out] at hst
          obtain ⟨S, hS⟩ : ∃ S : ByteArray, S = ⟨(numStr true v).toArray⟩ := ⟨_, rfl⟩
          rw [← hS] at hst
          have HS := Lib.hid hS
          clear hS
          simp only [Nat.sub_zero] at hst
          go_wp2
          go_ret
          exact ⟨by rw [← HS.out]; rfl, hb⟩
    | false =>
      have HG : Hid (([] ++ ((Dec.limbs 10 v).drop 0).reverse.map (fun d => 48 + d)).map UInt8.ofNat = numStr false v) := text_bytes false HF.out
      go_enter Tryz.func119, Tryz.ntmps119
      go_wp2_with fail
      refine HT.out.mono ?_
      rintro e w' ⟨rfl, rfl⟩
      go_wp2
      go_loopw [5, 6] (fun out ix wr => ∃ (j c2 : Nat) (A2 : Option Addr), j ≤ m ∧ ix = .int .i64 ((j : Int) - 1) ∧ out = .slice A2 (m - j) c2 ∧ Own wr w.heap.size 5 .u8 A2 (m - j) c2 ([] ++ ((Dec.limbs 10 v).drop j).reverse.map (fun d => 48 + d)) ∧ Below w.heap.size w wr) (fun _ ix _ => (intOf ix + 1).toNat)
      case atStart => exact ⟨m, 0, none, Nat.le_refl _, rfl, by rw [Nat.sub_self], by rw [Nat.sub_self, List.drop_of_length_le (by rw [HL.out]; exact Nat.le_refl _)]; exact Own.nil _ _ _ _, Below.refl _ _⟩
      case round =>
        obtain ⟨j, c2, A2, hj, rfl, rfl, hown, hb⟩ := hrel
        by_cases hj0 : 0 < j
        · obtain ⟨b, o, rfl, _, hcx⟩ := (hsl.below hb).cells (by omega)
          have hcu := hcx (j - 1) (by omega)
          clear hcx
          have hu := getD_lt hsm (by omega) (j - 1)
          have HR := Lib.hid (drop_rev (l := Dec.limbs 10 v) hj0 (by rw [HL.out]; exact hj))
          generalize (Dec.limbs 10 v).getD (j - 1) 0 = u at hcu hu HR
          have hi1 : (0 : Int) ≤ (j : Int) - 1 := by omega
          have hi2 : (j : Int) - 1 < m := by omega
          have hi3 : ((j : Int) - 1).toNat = j - 1 := by omega
          have hw8 : IntKind.u8.wrap (48 + (u : Int)) = 48 + u := by rw [IntKind.wrap_u8]; omega
          go_wp2_with (at_builtin; refine wpList_app (w0 := w) rfl _ _ _ rfl 5 .u8 1 Tryz.underlying52 infoByte (by omega) _ _ _ _ rfl hown _ (48 + u) (by omega) rfl (by omega) hb ?_; intro A3 c3 w2 hown2 hb2 _ _ _)
          go_roundw
          case rel => exact ⟨j - 1, c3, A3, by omega, by go_num, by congr 1; omega, by rw [HR.out, ← List.append_assoc, show m - (j - 1) = m - j + 1 by omega]; exact hown2, hb2⟩
          case measure => simp only [intOf]; omega
        · have hjz : j = 0 := by omega
          subst hjz
          have hst := hown.sl.str (P := Tryz.prog) (by omega) 52 5 9 Tryz.underlying52 Tryz.underlying5 Tryz.underlying9
          rw [HG.out] at hst
          obtain ⟨S, hS⟩ : ∃ S : ByteArray, S = ⟨(numStr false v).toArray⟩ := ⟨_, rfl⟩
          rw [← hS] at hst
          have HS := Lib.hid hS
          clear hS
          simp only [Nat.sub_zero] at hst
          go_wp2
          go_ret
          exact ⟨by rw [← HS.out]; rfl, hb⟩
end Go.Proofs.YtmkcnjfhdfanoaaGreatDoor
/- lispproverref1.times: the digits of the product. -/
namespace Go.Proofs.YtmkcnjfhdfanoaaGreatDoor
open Go.RowKit

theorem digit_mul {u v : Nat} (hu : u < 10) (hv : v < 10) : (0 : Int) ≤ (u : Int) * v ∧ (u : Int) * v ≤ 81 := by
  have h : u * v ≤ 9 * 9 := Nat.mul_le_mul (by omega) (by omega)
  have e : ((u * v : Nat) : Int) = (u : Int) * v := by rw [Int.natCast_mul]
  omega
theorem cast_mod10 {z u v c : Nat} : ((z : Int) + c + (u : Int) * v) % 10 = (((z + u * v + c) % 10 : Nat) : Int) := by
  rw [Int.natCast_emod, Int.natCast_add, Int.natCast_add, Int.natCast_mul]
  congr 1; omega
theorem cast_div10 {z u v c : Nat} : ((z : Int) + c + (u : Int) * v) / 10 = (((z + u * v + c) / 10 : Nat) : Int) := by
  rw [Int.natCast_ediv, Int.natCast_add, Int.natCast_add, Int.natCast_mul]
  congr 1; omega

set_option maxHeartbeats 2000000 in
theorem refTimes_any (A A' : Option Addr) (n n' c c' : Nat) (x y : List Nat) (w : World) (hx : Sl w .i64 A n c x) (hy : Sl w .i64 A' n' c' y) (hn : n ≤ 100000000) (hn' : n' ≤ 100000000)
    (hsx : Dec.Small 10 x) (hsy : Dec.Small 10 y) :
    Calls Tryz.prog 168 #[.slice A n c, .slice A' n' c'] w (RetSl .i64 (Dec.limbs 10 (Dec.lval 10 x * Dec.lval 10 y)) w) := by
  go_enter Tryz.func168, Tryz.ntmps168
  go_wp2_with (at_make; refine wpList_mk (w0 := w) rfl _ _ _ rfl 3 .i64 8 Tryz.underlying100 infoInt (by omega) _ _ _ _ (n + n' + 1) rfl rfl (by omega) (by omega) (by omega) (Below.refl _ _) ?_; intro w1 hown1 hb1 _ _)
  go_loopw [6] (fun ix wr => ∃ (k : Nat) (L : List Nat), k ≤ n ∧ ix = .int .i64 k ∧ Own wr w.heap.size 3 .i64 (some ⟨w.heap.size, 0, none⟩) (n + n' + 1) (n + n' + 1) L ∧ Dec.Small 10 L ∧ Hid (Dec.lval 10 L = Dec.lval 10 (x.take k) * Dec.lval 10 y) ∧ Hid (∀ j, k + n' ≤ j → L.getD j 0 = 0) ∧ Below w.heap.size w wr) (fun ix _ => n - (intOf ix).toNat)
  case atStart => exact ⟨0, _, Nat.zero_le _, rfl, hown1, small_replicate _ _ (by omega), (by rw [lval_replicate, List.take_zero]; simp [Dec.lval] : Dec.lval 10 (List.replicate (n + n' + 1) 0) = Dec.lval 10 (x.take 0) * Dec.lval 10 y), (fun j _ => getD_replicate _ j : ∀ j, 0 + n' ≤ j → (List.replicate (n + n' + 1) 0).getD j 0 = 0), hb1⟩
  case round =>
    obtain ⟨k, L, hk, rfl, hown, hsL, HV, HZ, hb⟩ := hrel
    obtain ⟨wo, rfl⟩ : ∃ wo : World, wo = wr := ⟨_, rfl⟩
    by_cases hkn : k < n
    · obtain ⟨b, off, rfl, _, hcx⟩ := hx.cells (by omega)
      clear hcx
      have hu := getD_lt (l := x) hsx (by omega) k
      have HT := Lib.hid (Dec.times_outer (B := 10) (a := x) (b := y) (i := k) HV.out)
      generalize hu0 : x.getD k 0 = u at hu HT
      have HU0 := Lib.hid hu0
      clear hu0
      go_wp2
      go_loopw [7, 8] (fun cr jx wr => ∃ (m cy : Nat) (M : List Nat), m ≤ n' + 1 ∧ jx = .int .i64 m ∧ cr = .int .i64 cy ∧ cy < 10 ∧ (m = n' + 1 → cy = 0) ∧ Own wr w.heap.size 3 .i64 (some ⟨w.heap.size, 0, none⟩) (n + n' + 1) (n + n' + 1) M ∧ Dec.Small 10 M ∧ Hid (Dec.lval 10 M + 10 ^ (k + m) * cy = Dec.lval 10 L + 10 ^ k * (u * Dec.lval 10 (y.take m))) ∧ Hid (∀ j, k + n' ≤ j → k + m ≤ j → M.getD j 0 = 0) ∧ Below w.heap.size w wr) (fun _ jx _ => n' + 1 - (intOf jx).toNat)
      case atStart => exact ⟨0, 0, L, Nat.zero_le _, rfl, rfl, by omega, by omega, hown, hsL, (by simp [Dec.lval] : Dec.lval 10 L + 10 ^ (k + 0) * 0 = Dec.lval 10 L + 10 ^ k * (u * Dec.lval 10 (y.take 0))), (fun j hj _ => HZ.out j hj : ∀ j, k + n' ≤ j → k + 0 ≤ j → L.getD j 0 = 0), hb⟩
      case round =>
        obtain ⟨m, cy, M, hm, rfl, rfl, hcy, hmc, hownM, hsM, HM, HZM, hbM⟩ := hrel
        have HMC := Lib.hid hmc
        clear hmc
        have HLM := Lib.hid hownM.len
        by_cases hmn : m < n'
        · obtain ⟨b', off', rfl, _, hcy'⟩ := (hy.below hbM).cells (by omega)
          have hcv := hcy' m hmn
          clear hcy'
          obtain ⟨b2, off2, e2, _, hcx⟩ := (hx.below hbM).cells (by omega)
          have hcu := hcx k hkn
          rw [HU0.out] at hcu
          injection e2 with e2
          injection e2 with e21 e22
          subst e21 e22
          clear hcx
          have hv := getD_lt (l := y) hsy (by omega) m
          obtain ⟨hco, hfo, _, hgl⟩ := hownM.cellAt (i := k + m) (by omega)
          have hz := getD_lt (l := M) hsM (by omega) (k + m)
          have HR := Lib.hid (Dec.times_round (B := 10) (o := M) (b := y) (x := u) (i := k) (j := m) (by rw [HLM.out]; omega) HM.out rfl rfl)
          generalize M.getD (k + m) 0 = z at hco hz HR
          generalize y.getD m 0 = v at hcv hv HR
          obtain ⟨hp1, hp2⟩ := digit_mul hu hv
          have hfit := Dec.times_fits (B := 10) (by omega) hz hu hv hcy
          have v1 : IntKind.i64.wrap ((u : Int) * v) = (u : Int) * v := IntWalk.i64_in _ (by omega)
          have v2 : IntKind.i64.wrap ((z : Int) + cy + (u : Int) * v) = (z : Int) + cy + (u : Int) * v := IntWalk.i64_in _ (by omega)
          go_upto_region 11 with (fail)
          go_quiet (fail)
          clear v1 v2
          go_wp2
          go_roundw
          case rel =>
            refine ⟨m + 1, (z + u * v + cy) / 10, M.set (k + m) ((z + u * v + cy) % 10), by omega, by go_num, ?_, by omega, by omega, (hownM.drewN _).setInt ?_ rfl, hsM.set (by omega), HR.out, (fun j hj hj2 => by rw [getD_set_ne _ _ _ _ (by omega)]; exact HZM.out j hj (by omega) : ∀ j, k + n' ≤ j → k + (m + 1) ≤ j → (M.set (k + m) ((z + u * v + cy) % 10)).getD j 0 = 0), (below_drewN hbM _).setCell (p := ⟨w.heap.size, k + m, none⟩) (Nat.le_refl _) _⟩
            · rw [cast_div10]
            · rw [cast_mod10]
          case measure => simp only [intOf]; omega
        · by_cases hc0 : 0 < cy
          · have hmm : m = n' := by
              rcases Nat.lt_or_ge n' m with h | h
              · have := HMC.out (by omega); omega
              · omega
            subst hmm
            obtain ⟨hco, hfo, _, hgl⟩ := hownM.cellAt (i := k + m) (by omega)
            have HR : Hid (Dec.lval 10 (M.set (k + m) cy) + 10 ^ (k + (m + 1)) * 0 = Dec.lval 10 L + 10 ^ k * (u * Dec.lval 10 (y.take (m + 1)))) := by
              have hly := hy.len
              subst hly
              have h := Dec.times_row (B := 10) (s := Dec.lval 10 L) (by rw [HLM.out]; omega) (HZM.out _ (Nat.le_refl _) (Nat.le_refl _)) HM.out
              show _ = _
              rw [List.take_of_length_le (by omega), Nat.mul_zero, Nat.add_zero]
              exact h
            rw [HZM.out _ (Nat.le_refl _) (Nat.le_refl _)] at hco
            go_wp2
            go_roundw
            case rel =>
              refine ⟨m + 1, 0, M.set (k + m) cy, by omega, by go_num, ?_, by omega, fun _ => rfl, hownM.setInt ?_ rfl, hsM.set hcy, HR.out, (fun j hj hj2 => by rw [getD_set_ne _ _ _ _ (by omega)]; exact HZM.out j hj (by omega) : ∀ j, k + m ≤ j → k + (m + 1) ≤ j → (M.set (k + m) cy).getD j 0 = 0), hbM.setCell (p := ⟨w.heap.size, k + m, none⟩) (Nat.le_refl _) _⟩
              · congr 1; omega
              · omega
            case measure => simp only [intOf]; omega
          · have hcz : cy = 0 := by omega
            subst hcz
            have HR : Hid (Dec.lval 10 M = Dec.lval 10 (x.take (k + 1)) * Dec.lval 10 y) := by
              have h := HM.out
              rw [List.take_of_length_le (by rw [hy.len]; omega), Nat.mul_zero, Nat.add_zero] at h
              exact h.trans HT.out
            go_wp2
            go_roundw
            case rel => exact ⟨k + 1, M, by omega, by go_num, hownM, hsM, HR.out, (fun j hj => HZM.out j (by omega) (by omega) : ∀ j, k + 1 + n' ≤ j → M.getD j 0 = 0), hbM⟩
            case measure => simp only [intOf]; omega
    · have hkk : k = n := by omega
      subst hkk
      have hsl := hown.sl
      go_wp2_with fail
      refine (refTrim_any _ _ _ _ _ hsl (by omega)).mono ?_
      rintro e w' ⟨rfl, rfl⟩
      go_wp2
      go_ret
      refine ⟨_, _, _, rfl, ?_, hb, hown.fresh⟩
      have := hsl.trimmed (B := 10) (by omega) hsL
      rw [HV.out, List.take_of_length_le (by rw [hx.len]; omega)] at this
      exact this
end Go.Proofs.YtmkcnjfhdfanoaaGreatDoor
/- lispproverref1.over: quotient and remainder of two absolute values. -/
namespace Go.Proofs.YtmkcnjfhdfanoaaGreatDoor
open Go.RowKit

theorem lval_cons10 (u R : Nat) : Dec.lval 10 ([u] ++ Dec.limbs 10 R) = u + 10 * R := by
  show u + 10 * Dec.lval 10 (Dec.limbs 10 R) = _
  rw [Dec.lval_limbs (by omega)]
theorem small_cons10 {u : Nat} (hu : u < 10) (R : Nat) : Dec.Small 10 ([u] ++ Dec.limbs 10 R) := Dec.Small.cons hu (Dec.limbs_small (by omega) R)
theorem div_step10 {a b R u j : Nat} {q : List Nat} (hj : 0 < j) (hja : j ≤ (Dec.limbs 10 a).length) (hjq : j ≤ q.length) (hu : (Dec.limbs 10 a).getD (j - 1) 0 = u)
    (h : Dec.lval 10 ((Dec.limbs 10 a).drop j) = Dec.lval 10 (q.drop j) * b + R) :
    Dec.lval 10 ((Dec.limbs 10 a).drop (j - 1)) = Dec.lval 10 ((q.set (j - 1) ((u + 10 * R) / b)).drop (j - 1)) * b + (u + 10 * R) % b := by
  obtain ⟨m, rfl⟩ : ∃ m, j = m + 1 := ⟨j - 1, by omega⟩
  rw [Nat.add_sub_cancel] at hu ⊢
  rw [set_drop _ _ _ (by omega), Dec.lval_drop _ _ m (by omega), hu, Dec.lval]
  exact Dec.div_round h
def RetOver (a b : Nat) (w : World) (e : Ending) (w' : World) : Prop :=
  ∃ A n c A' n' c', e = .returned (.tuple #[.slice A n c, .slice A' n' c']) ∧ Sl w' .i64 A n c (Dec.limbs 10 (a / b)) ∧ Sl w' .i64 A' n' c' (Dec.limbs 10 (a % b)) ∧ Below w.heap.size w w'

theorem set_zero {q : List Nat} {i : Nat} (hz : q.getD i 0 = 0) : q.set i 0 = q := by
  apply List.ext_getElem?
  intro k
  by_cases h : i = k
  · subst h
    by_cases hi : i < q.length
    · rw [List.getElem?_set_self hi, List.getElem?_eq_getElem hi]
      rw [List.getD_eq_getElem?_getD, List.getElem?_eq_getElem hi] at hz
      simpa using hz.symm
    · rw [List.getElem?_eq_none (by simpa using hi), List.getElem?_eq_none (by omega)]
  · rw [List.getElem?_set_ne h]
theorem below_apps1 {wr w2 : World} {o : Obj} (hblk : ∀ g, g < (wr.alloc o).heap.size → (some ⟨wr.heap.size, 0, none⟩ : Option Addr) ≠ some ⟨g, 0, none⟩ → w2.heap[g]? = (wr.alloc o).heap[g]?) (hsz : (wr.alloc o).heap.size ≤ w2.heap.size)
    (hos : w2.os = (wr.alloc o).os) (htp : w2.tape = (wr.alloc o).tape) (hou : w2.output = (wr.alloc o).output) : Below wr.heap.size wr w2 :=
  ⟨hos, htp, hou, by have : (wr.alloc o).heap.size = wr.heap.size + 1 := by simp
                     omega, fun g hg => (hblk g (by simp; omega) (by intro e; injection e with e; injection e with e; omega)).trans (Below.heap_alloc wr _ g hg)⟩
theorem over_step {R' R2 b t : Nat} (hb0 : 0 < b) (h : R2 + t * b = R') (hlt : R2 < b) : t = R' / b ∧ R2 = R' % b := by
  subst h
  exact ⟨by rw [Nat.add_mul_div_right _ _ hb0, Nat.div_eq_of_lt hlt, Nat.zero_add], by rw [Nat.add_mul_mod_self_right, Nat.mod_eq_of_lt hlt]⟩
theorem set_set (q : List Nat) (i x y : Nat) : (q.set i x).set i y = q.set i y := List.set_set x
theorem getD_set_self {q : List Nat} {i x : Nat} (h : i < q.length) : (q.set i x).getD i 0 = x := by
  rw [List.getD_eq_getElem?_getD, List.getElem?_set_self h]; rfl

set_option maxHeartbeats 2000000 in
set_option maxRecDepth 100000 in
theorem refOver_any (A A' : Option Addr) (n n' c c' a b : Nat) (w : World) (hx : Sl w .i64 A n c (Dec.limbs 10 a)) (hy : Sl w .i64 A' n' c' (Dec.limbs 10 b)) (hn : n ≤ 2500000) (hn' : n' ≤ 2500000) (hb0 : 0 < b) :
    Calls Tryz.prog 118 #[.slice A n c, .slice A' n' c'] w (RetOver a b w) := by
  have HLx := Lib.hid hx.len
  have HLy := Lib.hid hy.len
  go_enter Tryz.func118, Tryz.ntmps118
  go_wp2_with (at_make; refine wpList_mk (w0 := w) rfl _ _ _ rfl 3 .i64 8 Tryz.underlying100 infoInt (by omega) _ _ _ _ n rfl rfl (by omega) (by omega) (by omega) (Below.refl _ _) ?_; intro w1 hown1 hb1 hbW1 hsz1)
  go_loopw [7, 8] (fun rv ix wr => ∃ (j R nr cr : Nat) (Ar : Option Addr) (q : List Nat), j ≤ n ∧ ix = .int .i64 ((j : Int) - 1) ∧ rv = .slice Ar nr cr ∧ Sl wr .i64 Ar nr cr (Dec.limbs 10 R) ∧ Hid (∀ b o, Ar = some ⟨b, o, none⟩ → b ≠ w.heap.size) ∧ R < b ∧ Own wr w.heap.size 3 .i64 (some ⟨w.heap.size, 0, none⟩) n n q ∧ Dec.Small 10 q ∧ Hid (∀ i, i < j → q.getD i 0 = 0) ∧ Hid (Dec.lval 10 ((Dec.limbs 10 a).drop j) = Dec.lval 10 (q.drop j) * b + R) ∧ Below w.heap.size w wr) (fun _ ix _ => (intOf ix + 1).toNat)
  case atStart =>
    refine ⟨n, 0, 0, 0, none, List.replicate n 0, Nat.le_refl _, rfl, rfl, Sl.nil _ _ _ _, Lib.hid (fun _ _ e => by cases e), hb0, hown1, small_replicate _ _ (by omega), Lib.hid (fun i _ => getD_replicate n i), Lib.hid ?_, hb1⟩
    rw [List.drop_of_length_le (by rw [HLx.out]; exact Nat.le_refl _), List.drop_of_length_le (by simp)]; simp [Dec.lval]
  case round =>
    obtain ⟨j, R, nr, cr, Ar, q, hj, rfl, rfl, hsr, HA, hR, hown, hsq, HZ, HV, hb⟩ := hrel
    obtain ⟨wo, rfl⟩ : ∃ wo : World, wo = wr := ⟨_, rfl⟩
    have HLr := Lib.hid hsr.len
    have hnr : nr ≤ n' := by
      rw [← HLr.out, ← HLy.out]; exact Dec.limbs_length_mono (by omega) (by omega)
    by_cases hj0 : 0 < j
    · obtain ⟨bx, ox, rfl, hbx, hcx⟩ := (hx.below hb).cells (by omega)
      have hcu := hcx (j - 1) (by omega)
      clear hcx
      have hu := getD_lt (l := Dec.limbs 10 a) (Dec.limbs_small (by omega) a) (by omega) (j - 1)
      generalize hu0 : (Dec.limbs 10 a).getD (j - 1) 0 = u at hcu hu
      have HU0 := Lib.hid hu0
      clear hu0
      have HQL := Lib.hid hown.len
      have HST := Lib.hid (div_step10 (b := b) hj0 (by rw [HLx.out]; exact hj) (by rw [HQL.out]; exact hj) HU0.out HV.out)
      have hdg : (u + 10 * R) / b < 10 := Dec.div_digit hu hR
      obtain ⟨R', hR'⟩ : ∃ R', R' = u + 10 * R := ⟨_, rfl⟩
      rw [← hR'] at HST hdg
      have HR' := Lib.hid hR'
      clear hR'
      have hi1 : (0 : Int) ≤ (j : Int) - 1 := by omega
      have hi2 : (j : Int) - 1 < n := by omega
      have hi3 : ((j : Int) - 1).toNat = j - 1 := by omega
      have hoW : Own (wo.alloc (.cells #[.int .i64 (u : Int)] 3)) wo.heap.size 3 .i64 (some ⟨wo.heap.size, 0, none⟩) 1 1 [u] := ⟨⟨rfl, .inr ⟨wo.heap.size, 1, #[.int .i64 (u : Int)], rfl, Nat.le_refl _, heap_alloc_new wo _, Nat.le_refl _, by unfold maxLen; omega, rfl, rfl⟩⟩⟩
      have hsW : Sl (wo.alloc (.cells #[.int .i64 (u : Int)] 3)) .i64 Ar nr cr (Dec.limbs 10 R) := hsr.alloc _
      go_wp2_with (at_builtin; refine wpList_apps rfl _ _ _ rfl wo.heap.size 3 .i64 8 Tryz.underlying100 infoInt (by omega) _ _ _ [u] rfl hoW _ _ _ _ rfl hsW (by omega) (by simp) ?_; intro A2 cc2 w2 hown2 hblk2 hsz2 hos2 htp2 hou2)
      have hbw2 := below_apps1 hblk2 hsz2 hos2 htp2 hou2
      clear hblk2 hsz2 hos2 htp2 hou2
      refine (refTrim_any A2 (1 + nr) cc2 _ w2 hown2.sl (by omega)).mono ?_
      rintro e w3 ⟨rfl, rfl⟩
      have hsl2 := hown2.sl.trimmed (B := 10) (by omega) (small_cons10 hu R)
      rw [lval_cons10, ← HR'.out] at hsl2
      have hfr := hown2.fresh
      have hq1 := (hown.lt rfl).2
      have htl := trimZ_length_le ([u] ++ Dec.limbs 10 R)
      rw [List.length_append, HLr.out, List.length_singleton] at htl
      generalize (Dec.trimZ ([u] ++ Dec.limbs 10 R)).length = n2 at hsl2 htl
      have hw2 := hb.trans (hbw2.mono hb.size)
      have hownx := hown.below hbw2
      have HQ0 := Lib.hid (set_zero (HZ.out (j - 1) (by omega)))
      rw [← HQ0.out] at hownx
      have HA2 : Hid (∀ b o, A2 = some ⟨b, o, none⟩ → b ≠ w.heap.size) := fun b o e => by have := hfr b o e; omega
      clear hfr hown2 hoW hsW HA hsr hcu
      go_wp2_with fail
      go_loopg [7] R' (fun kx rv wr => ∃ (t R2 n3 c3 : Nat) (A3 : Option Addr), t ≤ R' / b ∧ Hid (R2 + t * b = R') ∧ rv = .slice A3 n3 c3 ∧ Sl wr .i64 A3 n3 c3 (Dec.limbs 10 R2) ∧ n3 ≤ n' + 1 ∧ Hid (∀ b o, A3 = some ⟨b, o, none⟩ → b ≠ w.heap.size) ∧ Own wr w.heap.size 3 .i64 (some ⟨w.heap.size, 0, none⟩) n n (q.set (j - 1) t) ∧ R2 ≤ kx ∧ Below w.heap.size w wr)
      case atStart => exact ⟨0, R', n2, cc2, A2, Nat.zero_le _, Lib.hid (by omega), rfl, hsl2, by omega, HA2, hownx, Nat.le_refl _, hw2⟩
      case round =>
        obtain ⟨t, R2, n3, c3, A3, ht, HT, rfl, hs3, hn3, HA3, hown3, hk3, hb3⟩ := hrel
        have HCm := Lib.hid (orderR_any 10 (by omega) A3 A' n3 n' c3 c' R2 b wr hs3 (hy.below hb3) (by omega) (by omega))
        by_cases hge : R2 < b
        · have HO := Lib.hid (ordI_lt hge)
          have HE := Lib.hid (over_step hb0 HT.out hge)
          go_wp2_with (go_at_call 150; refine HCm.out.mono ?_; rintro e w2 ⟨rfl, qq, rfl⟩; rw [HO.out])
          go_roundw
          case rel =>
            refine ⟨j - 1, R2, n3, c3, A3, q.set (j - 1) t, by omega, by go_num, rfl, hs3.drew qq, HA3, hge, hown3.drewN qq, hsq.set (by omega), Lib.hid (fun i hi => by rw [getD_set_ne _ _ _ _ (by omega)]; exact HZ.out i (by omega)), ?_, below_drewN hb3 qq⟩
            have h := HST.out
            rw [← HE.out.1, ← HE.out.2] at h
            exact Lib.hid h
          case measure => simp only [intOf]; omega
        · have hz : 0 ≤ ordI R2 b := by
            rcases Nat.lt_or_ge b R2 with h | h
            · rw [ordI_gt h]; omega
            · obtain rfl : R2 = b := by omega
              rw [ordI_eq]; omega
          have ht1 : t + 1 ≤ R' / b := by
            rw [Nat.le_div_iff_mul_le hb0, ← HT.out, Nat.add_mul]; omega
          have hln : n' ≤ n3 := by rw [← HLy.out, ← hs3.len]; exact Dec.limbs_length_mono (by omega) (by omega)
          have HM : Hid (∀ qq : Nat, Calls Tryz.prog 144 #[.slice A3 n3 c3, .slice A' n' c'] (wr.drewN qq) (RetSl .i64 (Dec.limbs 10 (R2 - b)) (wr.drewN qq))) := fun qq => by
            have := refMinus_any A3 A' n3 n' c3 c' _ _ (wr.drewN qq) (hs3.drew qq) ((hy.below hb3).drew qq) (by omega) hln (Dec.limbs_small (by omega) _) (Dec.limbs_small (by omega) _) (by rw [Dec.lval_limbs (by omega), Dec.lval_limbs (by omega)]; omega)
            rwa [Dec.lval_limbs (by omega), Dec.lval_limbs (by omega)] at this
          have hll : (Dec.limbs 10 (R2 - b)).length ≤ n3 := by rw [← hs3.len]; exact Dec.limbs_length_mono (by omega) (by omega)
          have HOr := Lib.hid hown3
          have hl3 := (hown3.lt rfl).2
          go_wp2_with (go_at_call 150; refine HCm.out.mono ?_; rintro e w2 ⟨rfl, qq, rfl⟩)
          refine (HM.out _).mono ?_
          rintro e w4 ⟨A4, n4, c4, rfl, hs4, hb4, hf4⟩
          have hn4 : n4 ≤ n3 := by rw [← hs4.len]; exact hll
          have hb4' := (below_drewN hb3 qq).trans (hb4.mono (below_drewN hb3 qq).size)
          have hown4 := (HOr.out.drewN qq).below hb4
          obtain ⟨hco, hfo, _, hgl⟩ := hown4.cellAt (i := j - 1) (by omega)
          rw [getD_set_self (by rw [HQL.out]; omega)] at hco
          have HA4 : Hid (∀ b o, A4 = some ⟨b, o, none⟩ → b ≠ w.heap.size) := fun b o e => by have h1 := hf4 b o e; have h2 : (wr.drewN qq).heap.size = wr.heap.size := rfl; omega
          clear hf4
          go_wp2
          go_roundg (R2 - b)
          case measure => omega
          case rel =>
            refine ⟨t + 1, R2 - b, n4, c4, A4, ht1, Lib.hid (by have := HT.out; rw [Nat.add_mul]; omega), rfl, hs4.far (p := ⟨w.heap.size, j - 1, none⟩) (fun b o e => HA4.out b o e) _, by omega, HA4, ?_, Nat.le_refl _, hb4'.setCell (p := ⟨w.heap.size, j - 1, none⟩) (Nat.le_refl _) _⟩
            exact hown4.setInt (y := t + 1) (by omega) (set_set _ _ _ _)
    · have hjz : j = 0 := by omega
      subst hjz
      have HQ : Hid (Dec.lval 10 q = a / b ∧ R = a % b) := by
        have h := HV.out
        rw [List.drop_zero, List.drop_zero, Dec.lval_limbs (by omega)] at h
        show _ ∧ _
        rw [h]
        exact ⟨by rw [Nat.add_comm, Nat.add_mul_div_right _ _ hb0, Nat.div_eq_of_lt hR, Nat.zero_add], by rw [Nat.add_comm, Nat.add_mul_mod_self_right, Nat.mod_eq_of_lt hR]⟩
      have hslq := hown.sl
      go_wp2_with fail
      refine (refTrim_any _ _ _ _ _ hslq (by omega)).mono ?_
      rintro e w3 ⟨rfl, rfl⟩
      go_wp2
      go_ret2
      refine ⟨_, _, _, _, _, _, rfl, ?_, ?_, hb⟩
      · have := hslq.trimmed (B := 10) (by omega) hsq
        rw [HQ.out.1] at this
        exact this
      · rw [← HQ.out.2]; exact hsr
end Go.Proofs.YtmkcnjfhdfanoaaGreatDoor
/- lispproverref1.Compare, Negate, Add, Subtract, Multiply. -/
namespace Go.Proofs.YtmkcnjfhdfanoaaGreatDoor
open Go.RowKit

theorem length10_mul {a b n n' : Nat} (h : (Dec.limbs 10 a).length = n) (h' : (Dec.limbs 10 b).length = n') : (Dec.limbs 10 (a * b)).length ≤ n + n' := by
  apply Dec.limbs_lt_length (by omega)
  rw [Nat.pow_add]
  have h1 := Dec.lval_lt (B := 10) (by omega) (Dec.limbs_small (by omega) a)
  have h2 := Dec.lval_lt (B := 10) (by omega) (Dec.limbs_small (by omega) b)
  rw [Dec.lval_limbs (by omega), h] at h1
  rw [Dec.lval_limbs (by omega), h'] at h2
  rcases Nat.eq_zero_or_pos b with e | e
  · subst e; rw [Nat.mul_zero]; exact Nat.mul_pos (Nat.pow_pos (by omega)) (Nat.pow_pos (by omega))
  · exact Nat.mul_lt_mul'' h1 h2
theorem neg_sign (x : Int) : (if (!decide (x < 0)) = true then -(x.natAbs : Int) else x.natAbs) = -x := by
  by_cases h : x < 0
  · rw [if_neg (by simpa using h)]; omega
  · rw [if_pos (by simpa using h)]; omega
theorem refDigW (l : List UInt8) (hl : l.length ≤ 2500000) (w : World) : Calls Tryz.prog 116 #[.string ⟨l.toArray⟩] w (RetDig (l.length + 1) (Dec.dval l) w) := refDigits_any l w hl

/-- text of the digits of a number -/
theorem refTextV (ng : Bool) (A : Option Addr) (n c v : Nat) (r : Int) (w : World) (hx : Sl w .i64 A n c (Dec.limbs 10 v)) (hn : n ≤ 100000000) (hv : (if ng then -(v : Int) else v) = r) :
    Calls Tryz.prog 119 #[.bool ng, .slice A n c] w (RetStr (Lib.itoa r) w) := by
  have := refText_any ng A n c _ w hx hn (Dec.limbs_small (by omega) v)
  rw [Dec.lval_limbs (by omega), numStr_eq hv] at this
  exact this

set_option maxHeartbeats 1000000 in
theorem refNegate_any (l : List UInt8) (w : World) (hl : l.length ≤ 2500000) :
    Calls Tryz.prog 142 #[.string ⟨l.toArray⟩] w (RetStr (Lib.itoa (-(Dec.dval l))) w) := by
  have HD := Lib.hid (refDigW l hl w)
  generalize Dec.dval l = x at *
  have HN := Lib.hid (neg_sign x)
  obtain ⟨s, hs⟩ : ∃ s, s = decide (x < 0) := ⟨_, rfl⟩
  have HS := Lib.hid hs
  rw [← hs] at HN
  clear hs
  go_enter Tryz.func142, Tryz.ntmps142
  go_wp2_with fail
  refine HD.out.mono ?_
  rintro e w1 ⟨A1, n1, c1, rfl, hs1, hn1, hb1⟩
  rw [← HS.out]
  go_wp2_with fail
  refine (refTextV _ A1 n1 c1 _ _ _ hs1 (by omega) HN.out).mono ?_
  rintro e w2 ⟨rfl, hb2⟩
  go_wp2
  go_ret
  exact ⟨rfl, hb1.trans (hb2.mono hb1.size)⟩

set_option maxHeartbeats 1000000 in
theorem refCompare_any (a b : List UInt8) (w : World) (ha : a.length ≤ 2500000) (hb : b.length ≤ 2500000) :
    Calls Tryz.prog 170 #[.string ⟨a.toArray⟩, .string ⟨b.toArray⟩] w (RetI64 (cmpI (Dec.dval a) (Dec.dval b)) w) := by
  have HP1 : Hid (∀ w' : World, Calls Tryz.prog 116 #[.string ⟨a.toArray⟩] w' (RetDig (a.length + 1) (Dec.dval a) w')) := fun w' => refDigW a ha w'
  have HP2 : Hid (∀ w' : World, Calls Tryz.prog 116 #[.string ⟨b.toArray⟩] w' (RetDig (b.length + 1) (Dec.dval b) w')) := fun w' => refDigW b hb w'
  generalize Dec.dval a = x at HP1
  generalize Dec.dval b = y at HP2
  by_cases hx : x < 0 <;> by_cases hy : y < 0
  · have HF := Lib.hid (cmpI_neg hx hy)
    go_enter Tryz.func170, Tryz.ntmps170
    go_wp2_with fail
    refine (HP1.out _).mono ?_
    rintro e w1 ⟨A1, n1, c1, rfl, hs1, hn1, hb1⟩
    rw [decide_eq_true hx]
    go_wp2_with fail
    refine (HP2.out _).mono ?_
    rintro e w2 ⟨A2, n2, c2, rfl, hs2, hn2, hb2⟩
    rw [decide_eq_true hy]
    have hbw2 : Below w.heap.size w w2 := hb1.trans (hb2.mono hb1.size)
    have HC := Lib.hid (orderR_any 10 (by omega) A2 A1 n2 n1 c2 c1 _ _ w2 hs2 (hs1.below hb2) (by omega) (by omega))
    go_wp2_with (go_at_call 150; refine HC.out.mono ?_; rintro e w3 ⟨rfl, q, rfl⟩)
    go_ret
    exact ⟨by rw [← HF.out]; rfl, below_drewN hbw2 q⟩
  · have HF := Lib.hid (cmpI_lt (a := x) (b := y) (by omega))
    go_enter Tryz.func170, Tryz.ntmps170
    go_wp2_with fail
    refine (HP1.out _).mono ?_
    rintro e w1 ⟨A1, n1, c1, rfl, hs1, hn1, hb1⟩
    rw [decide_eq_true hx]
    go_wp2_with fail
    refine (HP2.out _).mono ?_
    rintro e w2 ⟨A2, n2, c2, rfl, hs2, hn2, hb2⟩
    rw [decide_eq_false (by omega)]
    have hbw2 : Below w.heap.size w w2 := hb1.trans (hb2.mono hb1.size)
    go_wp2
    go_ret
    exact ⟨by rw [HF.out]; rfl, hbw2⟩
  · have HF := Lib.hid (cmpI_gt (a := x) (b := y) (by omega))
    go_enter Tryz.func170, Tryz.ntmps170
    go_wp2_with fail
    refine (HP1.out _).mono ?_
    rintro e w1 ⟨A1, n1, c1, rfl, hs1, hn1, hb1⟩
    rw [decide_eq_false (by omega)]
    go_wp2_with fail
    refine (HP2.out _).mono ?_
    rintro e w2 ⟨A2, n2, c2, rfl, hs2, hn2, hb2⟩
    rw [decide_eq_true hy]
    have hbw2 : Below w.heap.size w w2 := hb1.trans (hb2.mono hb1.size)
    go_wp2
    go_ret
    exact ⟨by rw [HF.out]; rfl, hbw2⟩
  · have HF := Lib.hid (cmpI_pos hx hy)
    go_enter Tryz.func170, Tryz.ntmps170
    go_wp2_with fail
    refine (HP1.out _).mono ?_
    rintro e w1 ⟨A1, n1, c1, rfl, hs1, hn1, hb1⟩
    rw [decide_eq_false (by omega)]
    go_wp2_with fail
    refine (HP2.out _).mono ?_
    rintro e w2 ⟨A2, n2, c2, rfl, hs2, hn2, hb2⟩
    rw [decide_eq_false (by omega)]
    have hbw2 : Below w.heap.size w w2 := hb1.trans (hb2.mono hb1.size)
    have HC := Lib.hid (orderR_any 10 (by omega) A1 A2 n1 n2 c1 c2 _ _ w2 (hs1.below hb2) hs2 (by omega) (by omega))
    go_wp2_with (go_at_call 150; refine HC.out.mono ?_; rintro e w3 ⟨rfl, q, rfl⟩)
    go_ret
    exact ⟨by rw [← HF.out]; rfl, below_drewN hbw2 q⟩

set_option maxHeartbeats 2000000 in
theorem refAdd_any (a b : List UInt8) (w : World) (ha : a.length ≤ 2500000) (hb : b.length ≤ 2500000) :
    Calls Tryz.prog 145 #[.string ⟨a.toArray⟩, .string ⟨b.toArray⟩] w (RetStr (Lib.itoa (Dec.dval a + Dec.dval b)) w) := by
  have HP1 : Hid (∀ w' : World, Calls Tryz.prog 116 #[.string ⟨a.toArray⟩] w' (RetDig (a.length + 1) (Dec.dval a) w')) := fun w' => refDigW a ha w'
  have HP2 : Hid (∀ w' : World, Calls Tryz.prog 116 #[.string ⟨b.toArray⟩] w' (RetDig (b.length + 1) (Dec.dval b) w')) := fun w' => refDigW b hb w'
  generalize Dec.dval a = x at HP1
  generalize Dec.dval b = y at HP2
  by_cases hx : x < 0 <;> by_cases hy : y < 0
  · go_enter Tryz.func145, Tryz.ntmps145
    go_wp2_with fail
    refine (HP1.out _).mono ?_
    rintro e w1 ⟨A1, n1, c1, rfl, hs1, hn1, hb1⟩
    rw [decide_eq_true hx]
    go_wp2_with fail
    refine (HP2.out _).mono ?_
    rintro e w2 ⟨A2, n2, c2, rfl, hs2, hn2, hb2⟩
    rw [decide_eq_true hy]
    have hbw2 : Below w.heap.size w w2 := hb1.trans (hb2.mono hb1.size)
    have hP := refPlus_any A1 A2 n1 n2 c1 c2 _ _ w2 (hs1.below hb2) hs2 (by omega) (by omega) (Dec.limbs_small (by omega) _) (Dec.limbs_small (by omega) _)
    rw [Dec.lval_limbs (by omega), Dec.lval_limbs (by omega)] at hP
    have HP := Lib.hid hP
    clear hP
    go_wp2_with fail
    refine HP.out.mono ?_
    rintro e w3 ⟨A3, n3, c3, o3, rfl, hn3, hs3, hso3, hv3, hb3, _⟩
    have hbw3 := hbw2.trans (hb3.mono hbw2.size)
    have hX := refText_any true A3 n3 c3 o3 w3 hs3 (by omega) hso3
    rw [hv3, numStr_eq (v := x + y) (by simp; omega)] at hX
    have HX := Lib.hid hX
    clear hX hv3
    go_wp2_with fail
    refine HX.out.mono ?_
    rintro e w4 ⟨rfl, hb4⟩
    go_wp2
    go_ret
    exact ⟨rfl, hbw3.trans (hb4.mono hbw3.size)⟩
  · go_enter Tryz.func145, Tryz.ntmps145
    go_wp2_with fail
    refine (HP1.out _).mono ?_
    rintro e w1 ⟨A1, n1, c1, rfl, hs1, hn1, hb1⟩
    rw [decide_eq_true hx]
    go_wp2_with fail
    refine (HP2.out _).mono ?_
    rintro e w2 ⟨A2, n2, c2, rfl, hs2, hn2, hb2⟩
    rw [decide_eq_false (by omega)]
    have hbw2 : Below w.heap.size w w2 := hb1.trans (hb2.mono hb1.size)
    have HC := Lib.hid (orderR_any 10 (by omega) A1 A2 n1 n2 c1 c2 _ _ w2 (hs1.below hb2) hs2 (by omega) (by omega))
    rcases Nat.lt_or_ge x.natAbs y.natAbs with h | h
    · have HO := Lib.hid (ordI_lt h)
      have hln : n1 ≤ n2 := by rw [← hs1.len, ← hs2.len]; exact Dec.limbs_length_mono (by omega) (by omega)
      have hM : ∀ qq : Nat, Calls Tryz.prog 144 #[.slice A2 n2 c2, .slice A1 n1 c1] (w2.drewN qq) (RetSl .i64 (Dec.limbs 10 (y.natAbs - x.natAbs)) (w2.drewN qq)) := fun qq => by
        have := refMinus_any A2 A1 n2 n1 c2 c1 _ _ (w2.drewN qq) (hs2.drew qq) ((hs1.below hb2).drew qq) (by omega) hln (Dec.limbs_small (by omega) _) (Dec.limbs_small (by omega) _) (by rw [Dec.lval_limbs (by omega), Dec.lval_limbs (by omega)]; omega)
        rwa [Dec.lval_limbs (by omega), Dec.lval_limbs (by omega)] at this
      have HM := Lib.hid hM
      clear hM
      have hll : (Dec.limbs 10 (y.natAbs - x.natAbs)).length ≤ n2 := by rw [← hs2.len]; exact Dec.limbs_length_mono (by omega) (by omega)
      go_wp2_with (go_at_call 150; refine HC.out.mono ?_; rintro e w3 ⟨rfl, q, rfl⟩; rw [HO.out])
      refine (HM.out _).mono ?_
      rintro e w3 ⟨A3, n3, c3, rfl, hs3, hb3, _⟩
      have hbw3 := (below_drewN hbw2 q).trans (hb3.mono (below_drewN hbw2 q).size)
      have hn3 : n3 ≤ n2 := by rw [← hs3.len]; exact hll
      go_wp2_with fail
      refine (refTextV false A3 n3 c3 _ (x + y) _ hs3 (by omega) (by simp; omega)).mono ?_
      rintro e w4 ⟨rfl, hb4⟩
      go_wp2
      go_ret
      exact ⟨rfl, hbw3.trans (hb4.mono hbw3.size)⟩
    · rcases Nat.lt_or_eq_of_le h with h2 | h2
      · have HO := Lib.hid (ordI_gt h2)
        have hln : n2 ≤ n1 := by rw [← hs2.len, ← hs1.len]; exact Dec.limbs_length_mono (by omega) (by omega)
        have hM : ∀ qq : Nat, Calls Tryz.prog 144 #[.slice A1 n1 c1, .slice A2 n2 c2] (w2.drewN qq) (RetSl .i64 (Dec.limbs 10 (x.natAbs - y.natAbs)) (w2.drewN qq)) := fun qq => by
          have := refMinus_any A1 A2 n1 n2 c1 c2 _ _ (w2.drewN qq) ((hs1.below hb2).drew qq) (hs2.drew qq) (by omega) hln (Dec.limbs_small (by omega) _) (Dec.limbs_small (by omega) _) (by rw [Dec.lval_limbs (by omega), Dec.lval_limbs (by omega)]; omega)
          rwa [Dec.lval_limbs (by omega), Dec.lval_limbs (by omega)] at this
        have HM := Lib.hid hM
        clear hM
        have hll : (Dec.limbs 10 (x.natAbs - y.natAbs)).length ≤ n1 := by rw [← hs1.len]; exact Dec.limbs_length_mono (by omega) (by omega)
        go_wp2_with (go_at_call 150; refine HC.out.mono ?_; rintro e w3 ⟨rfl, q, rfl⟩; rw [HO.out])
        refine (HM.out _).mono ?_
        rintro e w3 ⟨A3, n3, c3, rfl, hs3, hb3, _⟩
        have hbw3 := (below_drewN hbw2 q).trans (hb3.mono (below_drewN hbw2 q).size)
        have hn3 : n3 ≤ n1 := by rw [← hs3.len]; exact hll
        go_wp2_with fail
        refine (refTextV true A3 n3 c3 _ (x + y) _ hs3 (by omega) (by simp; omega)).mono ?_
        rintro e w4 ⟨rfl, hb4⟩
        go_wp2
        go_ret
        exact ⟨rfl, hbw3.trans (hb4.mono hbw3.size)⟩
      · have HO : Hid (ordI x.natAbs y.natAbs = 0) := by rw [h2]; exact ordI_eq _
        have HH := Lib.hid h2
        clear h2
        have hln : n2 ≤ n1 := by rw [← hs2.len, ← hs1.len]; exact Dec.limbs_length_mono (by omega) (by omega)
        have hM : ∀ qq : Nat, Calls Tryz.prog 144 #[.slice A1 n1 c1, .slice A2 n2 c2] (w2.drewN qq) (RetSl .i64 (Dec.limbs 10 (x.natAbs - y.natAbs)) (w2.drewN qq)) := fun qq => by
          have := refMinus_any A1 A2 n1 n2 c1 c2 _ _ (w2.drewN qq) ((hs1.below hb2).drew qq) (hs2.drew qq) (by omega) hln (Dec.limbs_small (by omega) _) (Dec.limbs_small (by omega) _) (by rw [Dec.lval_limbs (by omega), Dec.lval_limbs (by omega)]; omega)
          rwa [Dec.lval_limbs (by omega), Dec.lval_limbs (by omega)] at this
        have HM := Lib.hid hM
        clear hM
        have hll : (Dec.limbs 10 (x.natAbs - y.natAbs)).length ≤ n1 := by rw [← hs1.len]; exact Dec.limbs_length_mono (by omega) (by omega)
        go_wp2_with (go_at_call 150; refine HC.out.mono ?_; rintro e w3 ⟨rfl, q, rfl⟩; rw [HO.out])
        refine (HM.out _).mono ?_
        rintro e w3 ⟨A3, n3, c3, rfl, hs3, hb3, _⟩
        have hbw3 := (below_drewN hbw2 q).trans (hb3.mono (below_drewN hbw2 q).size)
        have hn3 : n3 ≤ n1 := by rw [← hs3.len]; exact hll
        go_wp2_with fail
        refine (refTextV true A3 n3 c3 _ (x + y) _ hs3 (by omega) (by have := HH.out; simp; omega)).mono ?_
        rintro e w4 ⟨rfl, hb4⟩
        go_wp2
        go_ret
        exact ⟨rfl, hbw3.trans (hb4.mono hbw3.size)⟩
  · go_enter Tryz.func145, Tryz.ntmps145
    go_wp2_with fail
    refine (HP1.out _).mono ?_
    rintro e w1 ⟨A1, n1, c1, rfl, hs1, hn1, hb1⟩
    rw [decide_eq_false (by omega)]
    go_wp2_with fail
    refine (HP2.out _).mono ?_
    rintro e w2 ⟨A2, n2, c2, rfl, hs2, hn2, hb2⟩
    rw [decide_eq_true hy]
    have hbw2 : Below w.heap.size w w2 := hb1.trans (hb2.mono hb1.size)
    have HC := Lib.hid (orderR_any 10 (by omega) A1 A2 n1 n2 c1 c2 _ _ w2 (hs1.below hb2) hs2 (by omega) (by omega))
    rcases Nat.lt_or_ge x.natAbs y.natAbs with h | h
    · have HO := Lib.hid (ordI_lt h)
      have hln : n1 ≤ n2 := by rw [← hs1.len, ← hs2.len]; exact Dec.limbs_length_mono (by omega) (by omega)
      have hM : ∀ qq : Nat, Calls Tryz.prog 144 #[.slice A2 n2 c2, .slice A1 n1 c1] (w2.drewN qq) (RetSl .i64 (Dec.limbs 10 (y.natAbs - x.natAbs)) (w2.drewN qq)) := fun qq => by
        have := refMinus_any A2 A1 n2 n1 c2 c1 _ _ (w2.drewN qq) (hs2.drew qq) ((hs1.below hb2).drew qq) (by omega) hln (Dec.limbs_small (by omega) _) (Dec.limbs_small (by omega) _) (by rw [Dec.lval_limbs (by omega), Dec.lval_limbs (by omega)]; omega)
        rwa [Dec.lval_limbs (by omega), Dec.lval_limbs (by omega)] at this
      have HM := Lib.hid hM
      clear hM
      have hll : (Dec.limbs 10 (y.natAbs - x.natAbs)).length ≤ n2 := by rw [← hs2.len]; exact Dec.limbs_length_mono (by omega) (by omega)
      go_wp2_with (go_at_call 150; refine HC.out.mono ?_; rintro e w3 ⟨rfl, q, rfl⟩; rw [HO.out])
      refine (HM.out _).mono ?_
      rintro e w3 ⟨A3, n3, c3, rfl, hs3, hb3, _⟩
      have hbw3 := (below_drewN hbw2 q).trans (hb3.mono (below_drewN hbw2 q).size)
      have hn3 : n3 ≤ n2 := by rw [← hs3.len]; exact hll
      go_wp2_with fail
      refine (refTextV true A3 n3 c3 _ (x + y) _ hs3 (by omega) (by simp; omega)).mono ?_
      rintro e w4 ⟨rfl, hb4⟩
      go_wp2
      go_ret
      exact ⟨rfl, hbw3.trans (hb4.mono hbw3.size)⟩
    · rcases Nat.lt_or_eq_of_le h with h2 | h2
      · have HO := Lib.hid (ordI_gt h2)
        have hln : n2 ≤ n1 := by rw [← hs2.len, ← hs1.len]; exact Dec.limbs_length_mono (by omega) (by omega)
        have hM : ∀ qq : Nat, Calls Tryz.prog 144 #[.slice A1 n1 c1, .slice A2 n2 c2] (w2.drewN qq) (RetSl .i64 (Dec.limbs 10 (x.natAbs - y.natAbs)) (w2.drewN qq)) := fun qq => by
          have := refMinus_any A1 A2 n1 n2 c1 c2 _ _ (w2.drewN qq) ((hs1.below hb2).drew qq) (hs2.drew qq) (by omega) hln (Dec.limbs_small (by omega) _) (Dec.limbs_small (by omega) _) (by rw [Dec.lval_limbs (by omega), Dec.lval_limbs (by omega)]; omega)
          rwa [Dec.lval_limbs (by omega), Dec.lval_limbs (by omega)] at this
        have HM := Lib.hid hM
        clear hM
        have hll : (Dec.limbs 10 (x.natAbs - y.natAbs)).length ≤ n1 := by rw [← hs1.len]; exact Dec.limbs_length_mono (by omega) (by omega)
        go_wp2_with (go_at_call 150; refine HC.out.mono ?_; rintro e w3 ⟨rfl, q, rfl⟩; rw [HO.out])
        refine (HM.out _).mono ?_
        rintro e w3 ⟨A3, n3, c3, rfl, hs3, hb3, _⟩
        have hbw3 := (below_drewN hbw2 q).trans (hb3.mono (below_drewN hbw2 q).size)
        have hn3 : n3 ≤ n1 := by rw [← hs3.len]; exact hll
        go_wp2_with fail
        refine (refTextV false A3 n3 c3 _ (x + y) _ hs3 (by omega) (by simp; omega)).mono ?_
        rintro e w4 ⟨rfl, hb4⟩
        go_wp2
        go_ret
        exact ⟨rfl, hbw3.trans (hb4.mono hbw3.size)⟩
      · have HO : Hid (ordI x.natAbs y.natAbs = 0) := by rw [h2]; exact ordI_eq _
        have HH := Lib.hid h2
        clear h2
        have hln : n2 ≤ n1 := by rw [← hs2.len, ← hs1.len]; exact Dec.limbs_length_mono (by omega) (by omega)
        have hM : ∀ qq : Nat, Calls Tryz.prog 144 #[.slice A1 n1 c1, .slice A2 n2 c2] (w2.drewN qq) (RetSl .i64 (Dec.limbs 10 (x.natAbs - y.natAbs)) (w2.drewN qq)) := fun qq => by
          have := refMinus_any A1 A2 n1 n2 c1 c2 _ _ (w2.drewN qq) ((hs1.below hb2).drew qq) (hs2.drew qq) (by omega) hln (Dec.limbs_small (by omega) _) (Dec.limbs_small (by omega) _) (by rw [Dec.lval_limbs (by omega), Dec.lval_limbs (by omega)]; omega)
          rwa [Dec.lval_limbs (by omega), Dec.lval_limbs (by omega)] at this
        have HM := Lib.hid hM
        clear hM
        have hll : (Dec.limbs 10 (x.natAbs - y.natAbs)).length ≤ n1 := by rw [← hs1.len]; exact Dec.limbs_length_mono (by omega) (by omega)
        go_wp2_with (go_at_call 150; refine HC.out.mono ?_; rintro e w3 ⟨rfl, q, rfl⟩; rw [HO.out])
        refine (HM.out _).mono ?_
        rintro e w3 ⟨A3, n3, c3, rfl, hs3, hb3, _⟩
        have hbw3 := (below_drewN hbw2 q).trans (hb3.mono (below_drewN hbw2 q).size)
        have hn3 : n3 ≤ n1 := by rw [← hs3.len]; exact hll
        go_wp2_with fail
        refine (refTextV false A3 n3 c3 _ (x + y) _ hs3 (by omega) (by have := HH.out; simp; omega)).mono ?_
        rintro e w4 ⟨rfl, hb4⟩
        go_wp2
        go_ret
        exact ⟨rfl, hbw3.trans (hb4.mono hbw3.size)⟩
  · go_enter Tryz.func145, Tryz.ntmps145
    go_wp2_with fail
    refine (HP1.out _).mono ?_
    rintro e w1 ⟨A1, n1, c1, rfl, hs1, hn1, hb1⟩
    rw [decide_eq_false (by omega)]
    go_wp2_with fail
    refine (HP2.out _).mono ?_
    rintro e w2 ⟨A2, n2, c2, rfl, hs2, hn2, hb2⟩
    rw [decide_eq_false (by omega)]
    have hbw2 : Below w.heap.size w w2 := hb1.trans (hb2.mono hb1.size)
    have hP := refPlus_any A1 A2 n1 n2 c1 c2 _ _ w2 (hs1.below hb2) hs2 (by omega) (by omega) (Dec.limbs_small (by omega) _) (Dec.limbs_small (by omega) _)
    rw [Dec.lval_limbs (by omega), Dec.lval_limbs (by omega)] at hP
    have HP := Lib.hid hP
    clear hP
    go_wp2_with fail
    refine HP.out.mono ?_
    rintro e w3 ⟨A3, n3, c3, o3, rfl, hn3, hs3, hso3, hv3, hb3, _⟩
    have hbw3 := hbw2.trans (hb3.mono hbw2.size)
    have hX := refText_any false A3 n3 c3 o3 w3 hs3 (by omega) hso3
    rw [hv3, numStr_eq (v := x + y) (by simp; omega)] at hX
    have HX := Lib.hid hX
    clear hX hv3
    go_wp2_with fail
    refine HX.out.mono ?_
    rintro e w4 ⟨rfl, hb4⟩
    go_wp2
    go_ret
    exact ⟨rfl, hbw3.trans (hb4.mono hbw3.size)⟩

set_option maxHeartbeats 2000000 in
theorem refMul_any (a b : List UInt8) (w : World) (ha : a.length ≤ 2500000) (hb : b.length ≤ 2500000) :
    Calls Tryz.prog 146 #[.string ⟨a.toArray⟩, .string ⟨b.toArray⟩] w (RetStr (Lib.itoa (Dec.dval a * Dec.dval b)) w) := by
  have HP1 : Hid (∀ w' : World, Calls Tryz.prog 116 #[.string ⟨a.toArray⟩] w' (RetDig (a.length + 1) (Dec.dval a) w')) := fun w' => refDigW a ha w'
  have HP2 : Hid (∀ w' : World, Calls Tryz.prog 116 #[.string ⟨b.toArray⟩] w' (RetDig (b.length + 1) (Dec.dval b) w')) := fun w' => refDigW b hb w'
  generalize Dec.dval a = x at HP1
  generalize Dec.dval b = y at HP2
  have hms : (if (!(decide (x < 0) == decide (y < 0))) = true then -((x.natAbs * y.natAbs : Nat) : Int) else ((x.natAbs * y.natAbs : Nat) : Int)) = x * y := mul_sign x y
  obtain ⟨s, hsd⟩ : ∃ s, s = decide (x < 0) := ⟨_, rfl⟩
  obtain ⟨s', hsd'⟩ : ∃ s', s' = decide (y < 0) := ⟨_, rfl⟩
  rw [← hsd, ← hsd'] at hms
  have HSD := Lib.hid hsd
  have HSD' := Lib.hid hsd'
  clear hsd hsd'
  obtain ⟨z, hz⟩ : ∃ z, z = (!(s == s')) := ⟨_, rfl⟩
  rw [← hz] at hms
  have HMS := Lib.hid hms
  have hz' : (!(s == s')) = z := hz.symm
  clear hz hms
  go_enter Tryz.func146, Tryz.ntmps146
  go_wp2_with fail
  refine (HP1.out _).mono ?_
  rintro e w1 ⟨A1, n1, c1, rfl, hs1, hn1, hb1⟩
  rw [← HSD.out]
  go_wp2_with fail
  refine (HP2.out _).mono ?_
  rintro e w2 ⟨A2, n2, c2, rfl, hs2, hn2, hb2⟩
  rw [← HSD'.out]
  have hbw2 : Below w.heap.size w w2 := hb1.trans (hb2.mono hb1.size)
  have hl := length10_mul hs1.len hs2.len
  have hT := refTimes_any A1 A2 n1 n2 c1 c2 _ _ w2 (hs1.below hb2) hs2 (by omega) (by omega) (Dec.limbs_small (by omega) _) (Dec.limbs_small (by omega) _)
  rw [Dec.lval_limbs (by omega), Dec.lval_limbs (by omega)] at hT
  have HT := Lib.hid hT
  clear hT
  go_wp2_with fail
  refine HT.out.mono ?_
  rintro e w3 ⟨A3, n3, c3, rfl, hs3, hb3, _⟩
  have hbw3 := hbw2.trans (hb3.mono hbw2.size)
  have hn3 : n3 ≤ n1 + n2 := by rw [← hs3.len]; exact hl
  go_wp2_with fail
  refine (refTextV z A3 n3 c3 _ _ _ hs3 (by omega) HMS.out).mono ?_
  rintro e w4 ⟨rfl, hb4⟩
  go_wp2
  go_ret
  exact ⟨rfl, hbw3.trans (hb4.mono hbw3.size)⟩
end Go.Proofs.YtmkcnjfhdfanoaaGreatDoor
