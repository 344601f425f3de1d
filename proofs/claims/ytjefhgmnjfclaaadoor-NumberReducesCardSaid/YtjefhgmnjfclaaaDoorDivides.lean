/- lispproverlaw1.NumberDivides returns true. -/
import Derived.Test.YtjefhgmnjfclaaaDoorFirst
import Derived.Test.YtjefhgmnjfclaaaDoorRefValid
namespace Go.Proofs.YtjefhgmnjfclaaaDoor
open Go.RowKit

theorem strs2 (w : World) (t : TypeId) (a b : List UInt8) : Strs (w.alloc (.cells #[.string ⟨a.toArray⟩, .string ⟨b.toArray⟩] t)) w.heap.size [a, b] :=
  ⟨by simp, fun i h => by
    have hk := BlkIs.new w t #[.string ⟨a.toArray⟩, .string ⟨b.toArray⟩]
    have h3 : i < 2 := h
    rcases i with _ | _ | i
    · exact hk.cell 0
    · exact hk.cell 1
    · omega⟩
theorem compareZ {k m : Nat} {l r : List UInt8} {X Y V : Int} (h : Num k l X) (h' : Num m r Y) (hk : k ≤ 100000) (hm : m ≤ 100000) (hv : cmpI X Y = V) (w : World) :
    Calls Tryd.prog 25 #[.string ⟨l.toArray⟩, .string ⟨r.toArray⟩] w (RetI64 V w) := by
  have := compareN_any l r w (by have := h.len; omega) (by have := h'.len; omega)
  rwa [h.val, h'.val, hv] at this
theorem divZ {k m : Nat} {l r : List UInt8} {X Y : Int} (h : Num k l X) (h' : Num m r Y) (hk : k ≤ 100000) (hm : m ≤ 100000) (w : World) (ht : Tab w) :
    Calls Tryd.prog 17 #[.string ⟨l.toArray⟩, .string ⟨r.toArray⟩] w (RetStr2 (Lib.itoa (qd X Y)) (Lib.itoa (rm X Y)) w) := by
  have := divN_any l r w (by have := h.len; omega) (by have := h'.len; omega) ht
  rwa [h.val, h'.val] at this
theorem rm_abs (X Y : Int) : (rm X Y).natAbs ≤ X.natAbs + Y.natAbs := by
  by_cases hy : Y = 0
  · subst hy; rw [rm_zero]; omega
  · obtain ⟨h1, h2⟩ := rm_bounds (x := X) hy
    rcases Int.lt_trichotomy Y 0 with h | h | h
    · have := h2 h; omega
    · exact absurd h hy
    · have := h1 h; omega
theorem qd_abs (X Y : Int) : (qd X Y).natAbs ≤ X.natAbs := by
  unfold qd
  split
  · simp
  · split
    · exact Int.natAbs_ediv_le_natAbs X Y
    · have := Int.natAbs_ediv_le_natAbs (-X) (-Y)
      rwa [Int.natAbs_neg] at this
theorem Num.rm {k m : Nat} {l r : List UInt8} {X Y : Int} (h : Num k l X) (h' : Num m r Y) : Num (k + m + 2) (Lib.itoa (rm X Y)) (rm X Y) :=
  ⟨Dec.dval_itoa _, itoa_length_any _ (k := k + m + 1) (by omega) (by have := h.abs; have := h'.abs; have := pow_sum k m; have := rm_abs X Y; omega)⟩
theorem Num.qd {k m : Nat} {l r : List UInt8} {X Y : Int} (h : Num k l X) (_h' : Num m r Y) : Num (k + m + 2) (Lib.itoa (qd X Y)) (qd X Y) :=
  ⟨Dec.dval_itoa _, itoa_length_any _ (k := k + m + 1) (by omega) (by
    have h1 := h.abs
    have h2 := qd_abs X Y
    have h3 : 10 ^ k ≤ 10 ^ (k + m + 1) := Nat.pow_le_pow_right (by omega) (by omega)
    omega)⟩
theorem zeroNum : Num 1 [48] 0 := ⟨by decide, by decide⟩
theorem short2 (a b : List UInt8) (ha : a.length ≤ 9223372036854775807) (hb : b.length ≤ 9223372036854775807) (z : Bool) (hz : ([a, b].all fun l => decide (l.length ≤ 60)) = z) (w' : World) :
    Calls Tryd.prog 14 #[.slice (some ⟨w'.heap.size, 0, none⟩) 2 2] (w'.alloc (.cells #[.string ⟨a.toArray⟩, .string ⟨b.toArray⟩] 9)) (RetPure (.bool z) (w'.alloc (.cells #[.string ⟨a.toArray⟩, .string ⟨b.toArray⟩] 9))) := by
  have := shortL_any w'.heap.size 2 [a, b] _ (strs2 w' 9 a b) rfl (by omega) (by
      intro l hl
      simp only [List.mem_cons, List.not_mem_nil, or_false] at hl
      rcases hl with rfl | rfl <;> assumption)
  rwa [hz] at this
theorem refv (l : List UInt8) (z : Bool) (hz : Dec.isDec l = z) (hl : l.length ≤ 9223372036854775807) (w : World) : Calls Tryd.prog 23 #[.string ⟨l.toArray⟩] w fun e w' => e = .returned (.bool z) ∧ w = w' := by
  have := refValid_any l w hl
  rwa [hz] at this

set_option maxHeartbeats 2000000 in
set_option maxRecDepth 100000 in
theorem divides_main (a b : List UInt8) (w : World) (ht : Tab w) (ha : a.length ≤ 9223372036854775807) (hb : b.length ≤ 9223372036854775807) (HZ : Hid (([a, b].all fun l => decide (l.length ≤ 60)) = true)) (HVa : Hid (Dec.isDec a = true)) (HVb : Hid (Dec.isDec b = true))
    (hb0 : (b == [48]) = false) (s t v : Int) (HS : Hid (cmpI (Dec.dval b) 0 = s)) (HT : Hid (cmpI (rm (Dec.dval a) (Dec.dval b)) 0 = t)) (HC : Hid (cmpI (rm (Dec.dval a) (Dec.dval b)) (Dec.dval b) = v))
    (hcase : (t = 0 ∧ s = s) ∨ (t = 1 ∧ s = 1 ∧ v = -1) ∨ (t = -1 ∧ s = -1 ∧ v = 1)) :
    Calls Tryd.prog 8 #[.string ⟨a.toArray⟩, .string ⟨b.toArray⟩] w (RetTrue w) := by
  have hsh := HZ.out
  simp only [List.all_cons, List.all_nil, Bool.and_true, Bool.and_eq_true, decide_eq_true_eq] at hsh
  obtain ⟨la, lb⟩ := hsh
  have na := Num.of a la
  have nb := Num.of b lb
  have HI := Lib.hid (Dec.itoa_dval HVa.out)
  generalize Dec.dval a = x at *
  generalize Dec.dval b = y at *
  rcases hcase with ⟨rfl, _⟩ | ⟨rfl, rfl, rfl⟩ | ⟨rfl, rfl, rfl⟩
  all_goals
    go_enter Tryd.func8, Tryd.ntmps8
    go_wp2_with fail
    refine (first_any _ ht).mono ?_
    rintro e w1 ⟨rfl, hb1⟩
    go_wp2_with fail
    refine (short2 a b ha hb _ HZ.out _).mono ?_
    rintro e w' ⟨rfl, rfl⟩
    go_wp2_with fail
    refine (refv a _ HVa.out ha _).mono ?_
    rintro e w' ⟨rfl, rfl⟩
    go_wp2_with fail
    refine (refv b _ HVb.out hb _).mono ?_
    rintro e w' ⟨rfl, rfl⟩
    have hbw0 : Below w.heap.size w (w1.alloc (.cells #[.string ⟨a.toArray⟩, .string ⟨b.toArray⟩] 9)) := hb1.alloc hb1.size _
    generalize w1.alloc (.cells #[.string ⟨a.toArray⟩, .string ⟨b.toArray⟩] 9) = v0 at *
    go_wp2_with fail
    refine (divZ na nb (by omega) (by omega) _ (ht.below hbw0)).mono ?_
    rintro e v1 ⟨rfl, hb2⟩
    have hbw1 := hbw0.trans (hb2.mono hbw0.size)
    go_wp2_with fail
    refine (compareZ nb zeroNum (by omega) (by omega) HS.out _).mono ?_
    rintro e v2 ⟨rfl, hb3⟩
    have hbw2 := hbw1.trans (hb3.mono hbw1.size)
    go_wp2_with fail
    refine (compareZ (na.rm nb) zeroNum (by omega) (by omega) HT.out _).mono ?_
    rintro e v3 ⟨rfl, hb4⟩
    have hbw3 := hbw2.trans (hb4.mono hbw2.size)
    go_wp2_with fail
    refine (mulZ (na.qd nb) nb (by omega) (by omega) _ (ht.below hbw3)).mono ?_
    rintro e v4 ⟨rfl, hb5⟩
    have hbw4 := hbw3.trans (hb5.mono hbw3.size)
    go_wp2_with fail
    refine (addZ ((na.qd nb).mul nb) (na.rm nb) (by omega) (by omega) _ (ht.below hbw4)).mono ?_
    rintro e v5 ⟨rfl, hb6⟩
    have hbw5 := hbw4.trans (hb6.mono hbw4.size)
    rw [← qr x y, HI.out]
    clear hb2 hb3 hb4 hb5 hb6
  · go_wp2
    go_ret
    exact ⟨rfl, hbw5⟩
  · go_wp2_with fail
    refine (compareZ (na.rm nb) nb (by omega) (by omega) HC.out _).mono ?_
    rintro e v6 ⟨rfl, hb7⟩
    go_wp2
    go_ret
    exact ⟨rfl, hbw5.trans (hb7.mono hbw5.size)⟩
  · go_wp2_with fail
    refine (compareZ (na.rm nb) nb (by omega) (by omega) HC.out _).mono ?_
    rintro e v6 ⟨rfl, hb7⟩
    go_wp2
    go_ret
    exact ⟨rfl, hbw5.trans (hb7.mono hbw5.size)⟩
set_option maxHeartbeats 2000000 in
set_option maxRecDepth 100000 in
theorem divides_any (a b : List UInt8) (w : World) (ht : Tab w) (ha : a.length ≤ 9223372036854775807) (hb : b.length ≤ 9223372036854775807) :
    Calls Tryd.prog 8 #[.string ⟨a.toArray⟩, .string ⟨b.toArray⟩] w (RetTrue w) := by
  cases hz : ([a, b].all fun l => decide (l.length ≤ 60)) with
  | false =>
    have HZ := Lib.hid hz
    clear hz
    go_enter Tryd.func8, Tryd.ntmps8
    go_wp2_with fail
    refine (first_any _ ht).mono ?_
    rintro e w1 ⟨rfl, hb1⟩
    go_wp2_with fail
    refine (short2 a b ha hb _ HZ.out _).mono ?_
    rintro e w' ⟨rfl, rfl⟩
    go_wp2
    go_ret
    exact ⟨rfl, hb1.alloc hb1.size _⟩
  | true =>
  have HZ := Lib.hid hz
  clear hz
  cases hva : Dec.isDec a with
  | false =>
    have HVa := Lib.hid hva
    clear hva
    go_enter Tryd.func8, Tryd.ntmps8
    go_wp2_with fail
    refine (first_any _ ht).mono ?_
    rintro e w1 ⟨rfl, hb1⟩
    go_wp2_with fail
    refine (short2 a b ha hb _ HZ.out _).mono ?_
    rintro e w' ⟨rfl, rfl⟩
    go_wp2_with fail
    refine (refv a _ HVa.out ha _).mono ?_
    rintro e w' ⟨rfl, rfl⟩
    go_wp2
    go_ret
    exact ⟨rfl, hb1.alloc hb1.size _⟩
  | true =>
  have HVa := Lib.hid hva
  clear hva
  cases hvb : Dec.isDec b with
  | false =>
    have HVb := Lib.hid hvb
    clear hvb
    go_enter Tryd.func8, Tryd.ntmps8
    go_wp2_with fail
    refine (first_any _ ht).mono ?_
    rintro e w1 ⟨rfl, hb1⟩
    go_wp2_with fail
    refine (short2 a b ha hb _ HZ.out _).mono ?_
    rintro e w' ⟨rfl, rfl⟩
    go_wp2_with fail
    refine (refv a _ HVa.out ha _).mono ?_
    rintro e w' ⟨rfl, rfl⟩
    go_wp2_with fail
    refine (refv b _ HVb.out hb _).mono ?_
    rintro e w' ⟨rfl, rfl⟩
    go_wp2
    go_ret
    exact ⟨rfl, hb1.alloc hb1.size _⟩
  | true =>
  have HVb := Lib.hid hvb
  clear hvb
  cases hb0 : (b == [48]) with
  | true =>
    go_enter Tryd.func8, Tryd.ntmps8
    go_wp2_with fail
    refine (first_any _ ht).mono ?_
    rintro e w1 ⟨rfl, hb1⟩
    go_wp2_with fail
    refine (short2 a b ha hb _ HZ.out _).mono ?_
    rintro e w' ⟨rfl, rfl⟩
    go_wp2_with fail
    refine (refv a _ HVa.out ha _).mono ?_
    rintro e w' ⟨rfl, rfl⟩
    go_wp2_with fail
    refine (refv b _ HVb.out hb _).mono ?_
    rintro e w' ⟨rfl, rfl⟩
    go_wp2
    go_ret
    exact ⟨rfl, hb1.alloc hb1.size _⟩
  | false =>
    have hy : Dec.dval b ≠ 0 := fun e => by
      have := Dec.itoa_dval HVb.out
      rw [e, Dec.itoa_zero] at this
      rw [← this] at hb0
      cases hb0
    obtain ⟨r1, r2⟩ := rm_bounds (x := Dec.dval a) hy
    refine divides_main a b w ht ha hb HZ HVa HVb hb0 _ _ _ (Lib.hid rfl) (Lib.hid rfl) (Lib.hid rfl) ?_
    generalize Dec.dval b = y at *
    generalize rm (Dec.dval a) y = r at *
    by_cases h0 : r = 0
    · left; subst h0; exact ⟨cmpI_eq 0, rfl⟩
    · right
      rcases Int.lt_trichotomy y 0 with h | h | h
      · right; have := r2 h; exact ⟨cmpI_lt (by omega), cmpI_lt h, cmpI_gt (by omega)⟩
      · exact absurd h hy
      · left; have := r1 h; exact ⟨cmpI_gt (by omega), cmpI_gt h, cmpI_lt (by omega)⟩
end Go.Proofs.YtjefhgmnjfclaaaDoor
