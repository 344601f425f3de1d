/- number.Negate, Digits, FromInt, Small. -/
import Derived.Test.YtcdgckbdplkdbaaDoorNumA
namespace Go.Proofs.YtcdgckbdplkdbaaDoor
open Go.RowKit

def RetPure (v : Value) (w : World) (e : Ending) (w' : World) : Prop := e = .returned v ∧ w = w'
theorem str_of {D : ByteArray} {l : List UInt8} (h : D.data.toList = l) : D = ⟨l.toArray⟩ := by
  subst h; rw [Lib.mk_data]
theorem itoa_natNeg {v : Int} (h : v < 0) : Lib.itoa v = 45 :: Lib.decDigits v.natAbs := by
  obtain ⟨u, rfl⟩ : ∃ u : Nat, v = -(u : Int) := ⟨v.natAbs, by omega⟩
  rw [Dec.itoa_neg' (by omega)]; simp
theorem itoa_natPos {v : Int} (h : 0 ≤ v) : Lib.itoa v = Lib.decDigits v.natAbs := by
  obtain ⟨u, rfl⟩ : ∃ u : Nat, v = (u : Int) := ⟨v.natAbs, by omega⟩
  rw [Dec.itoa_pos]; simp
theorem itoa_ne_zero {v : Int} (h : v ≠ 0) : Lib.itoa v ≠ [48] := fun e => h (Dec.itoa_inj (e.trans Dec.itoa_zero.symm))
theorem first_byte {D : ByteArray} {c : UInt8} {r : List UInt8} (h : D.data.toList = c :: r) : ∃ hp : 0 < D.size, D[0] = c := by
  have hp : 0 < D.size := by rw [Lib.size_eq, h]; simp
  obtain ⟨hl, e⟩ := byte_at h 0 hp
  exact ⟨hp, by rw [e]; rfl⟩

set_option maxHeartbeats 1000000 in
theorem negate_any (l : List UInt8) (w : World) (hl : l.length ≤ 1000000) :
    Calls Tryd.prog 28 #[.string ⟨l.toArray⟩] w (RetPure (.string ⟨(Lib.itoa (-(Dec.dval l))).toArray⟩) w) := by
  have HD := Lib.hid (decimal_any l w (by omega))
  obtain ⟨D, hD⟩ : ∃ D : ByteArray, D = ⟨(norm l).toArray⟩ := ⟨_, rfl⟩
  rw [← hD] at HD
  have HT : Hid (D.data.toList = Lib.itoa (Dec.dval l)) := by rw [hD]; exact norm_eq l
  have hsz : D.size ≤ 1000001 := by rw [hD, Lib.size_eq]; have := norm_length l; show (norm l).length ≤ _; omega
  clear hD
  generalize Dec.dval l = v at HT
  by_cases h0 : v = 0
  · subst h0
    have hE : D.toList = [48] := by rw [Lib.toList_data, HT.out, Dec.itoa_zero]
    have hE2 : (D.toList == [48]) = true := by rw [hE]; rfl
    have HR : Hid (D = ⟨(Lib.itoa (-0)).toArray⟩) := str_of HT.out
    clear hE
    go_enter Tryd.func28, Tryd.ntmps28
    go_wp2_with fail
    refine HD.out.mono ?_
    rintro e w' ⟨rfl, rfl⟩
    go_wp2
    go_ret
    exact ⟨by rw [← HR.out]; rfl, rfl⟩
  · have hE2 : (D.toList == [48]) = false := by rw [Lib.toList_data, HT.out]; simpa using itoa_ne_zero h0
    by_cases hn : v < 0
    · obtain ⟨hp, e0⟩ := first_byte (HT.out.trans (itoa_natNeg hn))
      have hb : ((D[0].toNat : Int) == 45) = true := by rw [e0]; rfl
      have HR : Hid (D.extract 1 D.size = ⟨(Lib.itoa (-v)).toArray⟩) := by
        apply str_of
        rw [Lib.extract_data, HT.out, itoa_natNeg hn, List.drop_succ_cons, List.drop_zero, itoa_natPos (by omega), List.take_of_length_le]
        · congr 1; omega
        · rw [Lib.size_eq, HT.out, itoa_natNeg hn]; simp
      clear e0
      go_enter Tryd.func28, Tryd.ntmps28
      go_wp2_with fail
      refine HD.out.mono ?_
      rintro e w' ⟨rfl, rfl⟩
      go_wp2
      go_ret
      exact ⟨by rw [← HR.out]; rfl, rfl⟩
    · obtain ⟨c, r, hcr, _⟩ := Dec.decDigits_head (u := v.natAbs) (by omega)
      have hD2 : D.data.toList = c :: r := by rw [HT.out, itoa_natPos (by omega), hcr]
      obtain ⟨hp, e0⟩ := first_byte hD2
      have h45 : c ≠ 45 := Dec.head_ne45 (r := r) (by rw [← hcr]; exact Dec.digs_decDigits _)
      have hb : ((D[0].toNat : Int) == 45) = false := by
        rw [e0, beq_eq_false_iff_ne]
        intro e
        exact h45 (UInt8.toNat_inj.1 (by have : c.toNat = 45 := by omega
                                         simpa using this))
      have HR : Hid ((⟨#[45]⟩ : ByteArray) ++ D = ⟨(Lib.itoa (-v)).toArray⟩) := by
        apply str_of
        rw [itoa_natNeg (by omega), Int.natAbs_neg, ← itoa_natPos (v := v) (by omega), ← HT.out]
        simp
      clear e0 hD2 h45 hcr
      go_enter Tryd.func28, Tryd.ntmps28
      go_wp2_with fail
      refine HD.out.mono ?_
      rintro e w' ⟨rfl, rfl⟩
      go_wp2
      go_ret
      exact ⟨by rw [← HR.out]; rfl, rfl⟩

theorem digits_any (l : List UInt8) (w : World) (hl : l.length ≤ 1000000) :
    Calls Tryd.prog 66 #[.string ⟨l.toArray⟩] w (RetPure (.int .i64 ((Dec.mag (norm l)).length : Nat)) w) := by
  have HD := Lib.hid (decimal_any l w (by omega))
  have hnl := norm_length l
  have hml := Dec.mag_length_le (norm l)
  go_enter Tryd.func66, Tryd.ntmps66
  go_wp2_with fail
  refine HD.out.mono ?_
  rintro e w' ⟨rfl, rfl⟩
  go_wp2_with fail
  refine (trimPrefix_any (norm l) _).mono ?_
  rintro e w' ⟨rfl, rfl⟩
  go_wp2
  go_ret
  exact ⟨rfl, rfl⟩
theorem fromInt_any (n : Int) (w : World) (ht : Tab w) (h0 : -9223372036854775808 ≤ n) (h1 : n ≤ 9223372036854775807) :
    Calls Tryd.prog 24 #[.int .i64 n] w (RetStr (Lib.itoa n) w) := by
  have HI := Lib.hid (itoa_any n w ht h0 h1)
  clear h0 h1
  go_enter Tryd.func24, Tryd.ntmps24
  go_wp2_with fail
  refine HI.out.mono ?_
  rintro e w' ⟨rfl, hb⟩
  go_wp2
  go_ret
  exact ⟨rfl, hb⟩
end Go.Proofs.YtcdgckbdplkdbaaDoor
