/- number.Small: the value of a decimal of at most 9 digits. -/
import Derived.Test.YtjefhgmnjfclaaaDoorNumB
namespace Go.Proofs.YtjefhgmnjfclaaaDoor
open Go.RowKit

theorem decFrom_digs : ∀ (l : List UInt8) (a : Nat), Dec.digs l = true → Lib.decFrom a l = some (l.foldl (fun a c => a * 10 + (c.toNat - 48)) a)
  | [], _, _ => rfl
  | c :: r, a, h => by
    simp only [Dec.digs, List.all_cons, Bool.and_eq_true, Dec.dig, decide_eq_true_eq] at h
    have hd : Lib.digitVal c = some (c.toNat - 48) := by simp [Lib.digitVal, h.1]
    simp only [Lib.decFrom, hd, List.foldl_cons]
    exact decFrom_digs r _ (by simp only [Dec.digs]; exact h.2)
theorem decNat_digs {l : List UInt8} (h : Dec.digs l = true) (h0 : l ≠ []) : Lib.decNat l = some (Dec.nval l) := by
  have : l.isEmpty = false := by cases l with
    | nil => exact absurd rfl h0
    | cons => rfl
  simp only [Lib.decNat, this, Bool.false_eq_true, if_false]
  exact decFrom_digs l 0 h
theorem atoi_norm (l : List UInt8) : Lib.atoi (norm l) = some (Dec.dval l) := by
  have h1 := (mag_norm l).1
  have h2 := (mag_norm l).2.1
  have hd := norm_dec l
  rw [← dval_norm l]
  generalize norm l = s at h1 h2 hd
  have hn := decNat_digs h1 h2
  simp only [Dec.dval, hd, if_true]
  cases hng : Dec.neg s with
  | true =>
    have he := Dec.cons_of_neg hng
    generalize Dec.mag s = m at he hn
    subst he
    simp [Lib.atoi, hn]
  | false =>
    have he := Dec.mag_of_not hng
    rw [he] at hn h1 h2 ⊢
    cases s with
    | nil => exact absurd rfl h2
    | cons c r =>
      have h45 : c ≠ 45 := Dec.head_ne45 h1
      have h43 : c ≠ 43 := by
        rintro rfl
        simp [Dec.digs, Dec.dig] at h1
      simp [Lib.atoi, hn, h45, h43]
theorem norm_mag_len (l : List UInt8) : (norm l).length ≤ (Dec.mag (norm l)).length + 1 := by
  cases h : Dec.neg (norm l) with
  | true => have := congrArg List.length (Dec.cons_of_neg h); simp only [List.length_cons] at this; omega
  | false => rw [Dec.mag_of_not h]; omega

/-- a call hands back a number and a truth value -/
def RetSmall (n : Int) (b : Bool) (w : World) (e : Ending) (w' : World) : Prop := e = .returned (.tuple #[.int .i64 n, .bool b]) ∧ Below w.heap.size w w'

theorem small_no (l : List UInt8) (w : World) (hl : l.length ≤ 1000000) (h9 : 9 < (Dec.mag (norm l)).length) :
    Calls Tryd.prog 32 #[.string ⟨l.toArray⟩] w (RetSmall 0 false w) := by
  have HD := Lib.hid (digits_any l w hl)
  have hnl := norm_length l
  have hml := Dec.mag_length_le (norm l)
  generalize (Dec.mag (norm l)).length = k at HD h9 hml
  go_enter Tryd.func32, Tryd.ntmps32
  go_wp2_with fail
  refine HD.out.mono ?_
  rintro e w' ⟨rfl, rfl⟩
  go_wp2
  go_ret2
  exact ⟨rfl, Below.refl _ _⟩
theorem small_yes (l : List UInt8) (w : World) (hl : l.length ≤ 1000000) (h9 : (Dec.mag (norm l)).length ≤ 9) :
    Calls Tryd.prog 32 #[.string ⟨l.toArray⟩] w (RetSmall (Dec.dval l) true w) := by
  have HD := Lib.hid (digits_any l w hl)
  have HE := Lib.hid (decimal_any l w (by omega))
  have hln := norm_mag_len l
  have HA := Lib.hid (Tryd.strconv_Atoi ⟨(norm l).toArray⟩ (Dec.dval l) (by rw [Lib.size_eq]; show (norm l).length ≤ _; omega) (atoi_norm l) w)
  generalize (Dec.mag (norm l)).length = k at HD h9
  go_enter Tryd.func32, Tryd.ntmps32
  go_wp2_with fail
  refine HD.out.mono ?_
  rintro e w' ⟨rfl, rfl⟩
  go_wp2_with fail
  refine HE.out.mono ?_
  rintro e w' ⟨rfl, rfl⟩
  go_wp2_with fail
  refine HA.out.mono ?_
  rintro e w' ⟨rfl, t, rfl⟩
  go_wp2
  go_ret2
  exact ⟨rfl, Lib.bytesWorld_below _ _ _⟩
end Go.Proofs.YtjefhgmnjfclaaaDoor
