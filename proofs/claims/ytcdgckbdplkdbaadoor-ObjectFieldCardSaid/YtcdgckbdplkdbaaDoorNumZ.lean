/- The arithmetic of decimals in words of integers. -/
import Derived.Test.YtcdgckbdplkdbaaDoorNumI
namespace Go.Proofs.YtcdgckbdplkdbaaDoor
open Go.RowKit

structure Num (k : Nat) (l : List UInt8) (X : Int) : Prop where
  val : Dec.dval l = X
  len : l.length ≤ k
theorem Num.of (l : List UInt8) {k : Nat} (h : l.length ≤ k) : Num k l (Dec.dval l) := ⟨rfl, h⟩
theorem Num.abs {k : Nat} {l : List UInt8} {X : Int} (h : Num k l X) : X.natAbs < 10 ^ k := by rw [← h.val]; exact dval_lt18 h.len
theorem pow_sum (k m : Nat) : 10 ^ k + 10 ^ m ≤ 10 ^ (k + m + 1) := by
  have h3 : 10 ^ k ≤ 10 ^ (k + m) := Nat.pow_le_pow_right (by omega) (by omega)
  have h4 : 10 ^ m ≤ 10 ^ (k + m) := Nat.pow_le_pow_right (by omega) (by omega)
  rw [Nat.pow_succ]; omega
theorem Num.add {k m : Nat} {l r : List UInt8} {X Y : Int} (h : Num k l X) (h' : Num m r Y) : Num (k + m + 2) (Lib.itoa (X + Y)) (X + Y) :=
  ⟨Dec.dval_itoa _, itoa_length_any _ (k := k + m + 1) (by omega) (by have := h.abs; have := h'.abs; have := pow_sum k m; omega)⟩
theorem Num.mul {k m : Nat} {l r : List UInt8} {X Y : Int} (h : Num k l X) (h' : Num m r Y) : Num (k + m + 2) (Lib.itoa (X * Y)) (X * Y) := by
  refine ⟨Dec.dval_itoa _, itoa_length_any _ (k := k + m + 1) (by omega) ?_⟩
  rw [Int.natAbs_mul, Nat.pow_succ, Nat.pow_add]
  have h1 := h.abs
  have h2 := h'.abs
  have : X.natAbs * Y.natAbs ≤ 10 ^ k * 10 ^ m := Nat.mul_le_mul (by omega) (by omega)
  have : 0 < 10 ^ k * 10 ^ m := Nat.mul_pos (Nat.pow_pos (by omega)) (Nat.pow_pos (by omega))
  omega
theorem addZ {k m : Nat} {l r : List UInt8} {X Y : Int} (h : Num k l X) (h' : Num m r Y) (hk : k ≤ 100000) (hm : m ≤ 100000) (w : World) (ht : Tab w) :
    Calls Tryd.prog 27 #[.string ⟨l.toArray⟩, .string ⟨r.toArray⟩] w (RetStr (Lib.itoa (X + Y)) w) := by
  have := addN_any l r w (by have := h.len; omega) (by have := h'.len; omega) ht
  rwa [h.val, h'.val] at this
theorem mulZ {k m : Nat} {l r : List UInt8} {X Y : Int} (h : Num k l X) (h' : Num m r Y) (hk : k ≤ 100000) (hm : m ≤ 100000) (w : World) (ht : Tab w) :
    Calls Tryd.prog 26 #[.string ⟨l.toArray⟩, .string ⟨r.toArray⟩] w (RetStr (Lib.itoa (X * Y)) w) := by
  have := mulN_any l r w (by have := h.len; omega) (by have := h'.len; omega) ht
  rwa [h.val, h'.val] at this

theorem compareZ {k m : Nat} {l r : List UInt8} {X Y V : Int} (h : Num k l X) (h' : Num m r Y) (hk : k ≤ 100000) (hm : m ≤ 100000) (hv : cmpI X Y = V) (w : World) :
    Calls Tryd.prog 47 #[.string ⟨l.toArray⟩, .string ⟨r.toArray⟩] w (RetI64 V w) := by
  have := compareN_any l r w (by have := h.len; omega) (by have := h'.len; omega)
  rwa [h.val, h'.val, hv] at this
theorem divZ {k m : Nat} {l r : List UInt8} {X Y : Int} (h : Num k l X) (h' : Num m r Y) (hk : k ≤ 100000) (hm : m ≤ 100000) (w : World) (ht : Tab w) :
    Calls Tryd.prog 39 #[.string ⟨l.toArray⟩, .string ⟨r.toArray⟩] w (RetStr2 (Lib.itoa (qd X Y)) (Lib.itoa (rm X Y)) w) := by
  have := divN_any l r w (by have := h.len; omega) (by have := h'.len; omega) ht
  rwa [h.val, h'.val] at this
theorem rm_abs (X Y : Int) : (rm X Y).natAbs ≤ X.natAbs + Y.natAbs := by
  by_cases hy : Y = 0
  · subst hy; rw [rm_zero]; omega
  · obtain ⟨h1, h2⟩ := rm_bounds (x := X) hy
    rcases Int.lt_trichotomy Y 0 with h | h | h
    · have := h2 h; omega
    · exact absurd h hy
    · have := h1 h; omega
theorem qd_abs (X Y : Int) : (qd X Y).natAbs ≤ X.natAbs := by
  unfold qd
  split
  · simp
  · split
    · exact Int.natAbs_ediv_le_natAbs X Y
    · have := Int.natAbs_ediv_le_natAbs (-X) (-Y)
      rwa [Int.natAbs_neg] at this
theorem Num.rm {k m : Nat} {l r : List UInt8} {X Y : Int} (h : Num k l X) (h' : Num m r Y) : Num (k + m + 2) (Lib.itoa (rm X Y)) (rm X Y) :=
  ⟨Dec.dval_itoa _, itoa_length_any _ (k := k + m + 1) (by omega) (by have := h.abs; have := h'.abs; have := pow_sum k m; have := rm_abs X Y; omega)⟩
theorem Num.qd {k m : Nat} {l r : List UInt8} {X Y : Int} (h : Num k l X) (_h' : Num m r Y) : Num (k + m + 2) (Lib.itoa (qd X Y)) (qd X Y) :=
  ⟨Dec.dval_itoa _, itoa_length_any _ (k := k + m + 1) (by omega) (by
    have h1 := h.abs
    have h2 := qd_abs X Y
    have h3 : 10 ^ k ≤ 10 ^ (k + m + 1) := Nat.pow_le_pow_right (by omega) (by omega)
    omega)⟩
theorem zeroNum : Num 1 [48] 0 := ⟨by decide, by decide⟩
end Go.Proofs.YtcdgckbdplkdbaaDoor
