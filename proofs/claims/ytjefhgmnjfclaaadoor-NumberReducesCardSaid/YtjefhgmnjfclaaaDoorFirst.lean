/- lispproverlaw1.first returns true; lispproverlaw1.short; numerals of known length. -/
import Derived.Test.YtjefhgmnjfclaaaDoorNumI
namespace Go.Proofs.YtjefhgmnjfclaaaDoor
open Go.RowKit

def RetTrue (w : World) (e : Ending) (w' : World) : Prop := e = .returned (.bool true) ∧ Below w.heap.size w w'
def RetBool (b : Bool) (w : World) (e : Ending) (w' : World) : Prop := e = .returned (.bool b) ∧ Below w.heap.size w w'

theorem first_div (w : World) (ht : Tab w) : Calls Tryd.prog 17 #[.string ⟨#[45, 55]⟩, .string ⟨#[50]⟩] w (RetStr2 [45, 52] [49] w) := by
  have := divN_any [45, 55] [50] w (by decide) (by decide) ht
  rwa [show Lib.itoa (qd (Dec.dval [45, 55]) (Dec.dval [50])) = [45, 52] by decide +kernel, show Lib.itoa (rm (Dec.dval [45, 55]) (Dec.dval [50])) = [49] by decide +kernel] at this
theorem first_red (w : World) (ht : Tab w) : Calls Tryd.prog 21 #[.string ⟨#[54]⟩, .string ⟨#[45, 52]⟩] w (RetStr2 [45, 51] [50] w) := by
  have := reduceN_any [54] [45, 52] w (by decide) (by decide) ht
  rwa [show Lib.itoa (rdN (Dec.dval [54]) (Dec.dval [45, 52])) = [45, 51] by decide +kernel, show Lib.itoa (rdD (Dec.dval [54]) (Dec.dval [45, 52])) = [50] by decide +kernel] at this
theorem first_add (w : World) (ht : Tab w) : Calls Tryd.prog 24 #[.string ⟨#[57, 57, 57]⟩, .string ⟨#[50]⟩] w (RetStr [49, 48, 48, 49] w) := by
  have := addN_any [57, 57, 57] [50] w (by decide) (by decide) ht
  rwa [show Lib.itoa (Dec.dval [57, 57, 57] + Dec.dval [50]) = [49, 48, 48, 49] by decide +kernel] at this
theorem first_mul (w : World) (ht : Tab w) : Calls Tryd.prog 15 #[.string ⟨#[45, 49, 50]⟩, .string ⟨#[49, 50]⟩] w (RetStr [45, 49, 52, 52] w) := by
  have := mulN_any [45, 49, 50] [49, 50] w (by decide) (by decide) ht
  rwa [show Lib.itoa (Dec.dval [45, 49, 50] * Dec.dval [49, 50]) = [45, 49, 52, 52] by decide +kernel] at this
theorem first_val (w : World) : Calls Tryd.prog 34 #[.string ⟨#[48]⟩] w fun e w' => e = .returned (.bool true) ∧ w = w' := by
  have := valid_any [48] w (by decide)
  rwa [show Dec.isDec [48] = true by decide] at this
theorem first_five (w : World) (ht : Tab w) : Calls Tryd.prog 37 #[.int .i64 5] w (RetStr [53] w) := by
  have := fromInt_any 5 w ht (by decide) (by decide)
  rwa [show Lib.itoa 5 = [53] by decide +kernel] at this

set_option maxHeartbeats 1000000 in
set_option maxRecDepth 100000 in
theorem first_any (w : World) (ht : Tab w) : Calls Tryd.prog 13 #[] w (RetTrue w) := by
  go_enter Tryd.func13, Tryd.ntmps13
  go_wp2_with fail
  refine (first_div _ ht).mono ?_
  rintro e w1 ⟨rfl, hb1⟩
  go_wp2_with fail
  refine (first_red _ (ht.below hb1)).mono ?_
  rintro e w2 ⟨rfl, hb2⟩
  have hbw2 := hb1.trans (hb2.mono hb1.size)
  go_wp2_with fail
  refine (first_add _ (ht.below hbw2)).mono ?_
  rintro e w3 ⟨rfl, hb3⟩
  have hbw3 := hbw2.trans (hb3.mono hbw2.size)
  go_wp2_with fail
  refine (first_mul _ (ht.below hbw3)).mono ?_
  rintro e w4 ⟨rfl, hb4⟩
  have hbw4 := hbw3.trans (hb4.mono hbw3.size)
  go_wp2_with fail
  refine (first_val _).mono ?_
  rintro e w' ⟨rfl, rfl⟩
  go_wp2_with fail
  refine (first_five _ (ht.below hbw4)).mono ?_
  rintro e w5 ⟨rfl, hb5⟩
  go_wp2
  go_ret
  exact ⟨rfl, hbw4.trans (hb5.mono hbw4.size)⟩

/-! ### a string of at most k bytes that stands for X -/
structure Num (k : Nat) (l : List UInt8) (X : Int) : Prop where
  val : Dec.dval l = X
  len : l.length ≤ k
theorem Num.of (l : List UInt8) {k : Nat} (h : l.length ≤ k) : Num k l (Dec.dval l) := ⟨rfl, h⟩
theorem Num.abs {k : Nat} {l : List UInt8} {X : Int} (h : Num k l X) : X.natAbs < 10 ^ k := by rw [← h.val]; exact dval_lt18 h.len
theorem pow_sum (k m : Nat) : 10 ^ k + 10 ^ m ≤ 10 ^ (k + m + 1) := by
  have h3 : 10 ^ k ≤ 10 ^ (k + m) := Nat.pow_le_pow_right (by omega) (by omega)
  have h4 : 10 ^ m ≤ 10 ^ (k + m) := Nat.pow_le_pow_right (by omega) (by omega)
  rw [Nat.pow_succ]; omega
theorem Num.add {k m : Nat} {l r : List UInt8} {X Y : Int} (h : Num k l X) (h' : Num m r Y) : Num (k + m + 2) (Lib.itoa (X + Y)) (X + Y) :=
  ⟨Dec.dval_itoa _, itoa_length_any _ (k := k + m + 1) (by omega) (by have := h.abs; have := h'.abs; have := pow_sum k m; omega)⟩
theorem Num.mul {k m : Nat} {l r : List UInt8} {X Y : Int} (h : Num k l X) (h' : Num m r Y) : Num (k + m + 2) (Lib.itoa (X * Y)) (X * Y) := by
  refine ⟨Dec.dval_itoa _, itoa_length_any _ (k := k + m + 1) (by omega) ?_⟩
  rw [Int.natAbs_mul, Nat.pow_succ, Nat.pow_add]
  have h1 := h.abs
  have h2 := h'.abs
  have : X.natAbs * Y.natAbs ≤ 10 ^ k * 10 ^ m := Nat.mul_le_mul (by omega) (by omega)
  have : 0 < 10 ^ k * 10 ^ m := Nat.mul_pos (Nat.pow_pos (by omega)) (Nat.pow_pos (by omega))
  omega
theorem addZ {k m : Nat} {l r : List UInt8} {X Y : Int} (h : Num k l X) (h' : Num m r Y) (hk : k ≤ 100000) (hm : m ≤ 100000) (w : World) (ht : Tab w) :
    Calls Tryd.prog 24 #[.string ⟨l.toArray⟩, .string ⟨r.toArray⟩] w (RetStr (Lib.itoa (X + Y)) w) := by
  have := addN_any l r w (by have := h.len; omega) (by have := h'.len; omega) ht
  rwa [h.val, h'.val] at this
theorem mulZ {k m : Nat} {l r : List UInt8} {X Y : Int} (h : Num k l X) (h' : Num m r Y) (hk : k ≤ 100000) (hm : m ≤ 100000) (w : World) (ht : Tab w) :
    Calls Tryd.prog 15 #[.string ⟨l.toArray⟩, .string ⟨r.toArray⟩] w (RetStr (Lib.itoa (X * Y)) w) := by
  have := mulN_any l r w (by have := h.len; omega) (by have := h'.len; omega) ht
  rwa [h.val, h'.val] at this

/-! ### short -/
/-- cells of a slice of strings -/
structure Strs (w : World) (g : Nat) (ls : List (List UInt8)) : Prop where
  lt : g < w.heap.size
  cells : ∀ i (h : i < ls.length), w.cell? ⟨g, i, none⟩ = some (.string ⟨(ls[i]).toArray⟩)
set_option maxHeartbeats 1000000 in
theorem shortL_any (g n : Nat) (ls : List (List UInt8)) (w : World) (h : Strs w g ls) (hn : ls.length = n) (hm : n ≤ 100) (hl : ∀ l ∈ ls, l.length ≤ 9223372036854775807) :
    Calls Tryd.prog 14 #[.slice (some ⟨g, 0, none⟩) n n] w (RetPure (.bool (ls.all fun l => decide (l.length ≤ 60))) w) := by
  have HN := Lib.hid hn
  have HL := Lib.hid hl
  clear hn hl
  go_enter Tryd.func14, Tryd.ntmps14
  go_wp2
  go_loop [3] (fun ix => ∃ k : Nat, k ≤ n ∧ ix = .int .i64 k ∧ Hid (∀ i (h : i < ls.length), i < k → (ls[i]).length ≤ 60)) (fun ix => n - (intOf ix).toNat)
  case atStart => exact ⟨0, Nat.zero_le _, rfl, Lib.hid (fun i _ h => absurd h (by omega))⟩
  case round =>
    obtain ⟨k, hk, rfl, HK⟩ := hrel
    by_cases hkn : k < n
    · have hc := h.cells k (by rw [HN.out]; exact hkn)
      have hlk := HL.out _ (List.getElem_mem (show k < ls.length by rw [HN.out]; exact hkn))
      obtain ⟨D, hD⟩ : ∃ D : ByteArray, D = ⟨(ls[k]'(by rw [HN.out]; exact hkn)).toArray⟩ := ⟨_, rfl⟩
      rw [← hD] at hc
      have HS : Hid (D.size = (ls[k]'(by rw [HN.out]; exact hkn)).length) := by rw [hD]; exact (Lib.size_eq _ : _)
      have hsz : D.size ≤ 9223372036854775807 := by rw [HS.out]; exact hlk
      clear hD hlk
      by_cases h60 : D.size ≤ 60
      · go_wp2
        go_round
        case rel => exact ⟨k + 1, by omega, by go_num, Lib.hid (fun i hi hlt => by
          rcases Nat.lt_or_ge i k with h1 | h1
          · exact HK.out i hi h1
          · obtain rfl : i = k := by omega
            rw [← HS.out]; exact h60)⟩
        case measure => simp only [intOf]; omega
      · have HF : Hid ((ls.all fun l => decide (l.length ≤ 60)) = false) := by
          show _ = _
          rw [List.all_eq_false]
          exact ⟨_, List.getElem_mem (show k < ls.length by rw [HN.out]; exact hkn), by rw [← HS.out]; simpa using h60⟩
        go_wp2
        go_ret
        exact ⟨by rw [HF.out]; rfl, rfl⟩
    · have HF : Hid ((ls.all fun l => decide (l.length ≤ 60)) = true) := by
        show _ = _
        rw [List.all_eq_true]
        intro l hl
        obtain ⟨i, hi, rfl⟩ := List.getElem_of_mem hl
        exact decide_eq_true (HK.out i hi (by have := HN.out; omega))
      go_wp2
      go_ret
      exact ⟨by rw [HF.out]; rfl, rfl⟩
end Go.Proofs.YtjefhgmnjfclaaaDoor
