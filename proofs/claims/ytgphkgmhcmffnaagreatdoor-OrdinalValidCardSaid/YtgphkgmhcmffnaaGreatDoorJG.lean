/- number.short, Compare, Negate. -/
import Derived.Test.YtgphkgmhcmffnaaGreatDoorJF
namespace Go.Proofs.YtgphkgmhcmffnaaGreatDoor
open Go.RowKit

def cmpI (a b : Int) : Int := if a < b then -1 else if b < a then 1 else 0
theorem cmpI_lt {a b : Int} (h : a < b) : cmpI a b = -1 := by simp [cmpI, h]
theorem cmpI_gt {a b : Int} (h : b < a) : cmpI a b = 1 := by simp [cmpI, h]; omega
theorem cmpI_eq (a : Int) : cmpI a a = 0 := by simp [cmpI]
theorem cmpI_pos {a b : Int} (ha : ¬ a < 0) (hb : ¬ b < 0) : ordI a.natAbs b.natAbs = cmpI a b := by
  unfold ordI cmpI
  by_cases h1 : a < b
  · rw [if_pos (by omega), if_pos h1]
  · rw [if_neg (by omega), if_neg h1]
    by_cases h2 : b < a
    · rw [if_pos (by omega), if_pos h2]
    · rw [if_neg (by omega), if_neg h2]
theorem cmpI_neg {a b : Int} (ha : a < 0) (hb : b < 0) : ordI b.natAbs a.natAbs = cmpI a b := by
  unfold ordI cmpI
  by_cases h1 : a < b
  · rw [if_pos (by omega), if_pos h1]
  · rw [if_neg (by omega), if_neg h1]
    by_cases h2 : b < a
    · rw [if_pos (by omega), if_pos h2]
    · rw [if_neg (by omega), if_neg h2]
def RetI64 (v : Int) (w : World) (e : Ending) (w' : World) : Prop := e = .returned (.int .i64 v) ∧ Below w.heap.size w w'

set_option maxHeartbeats 1000000 in
set_option maxRecDepth 100000 in
theorem compareN_any (a b : List UInt8) (w : World) (ha : a.length ≤ 2500000) (hb : b.length ≤ 2500000) :
    Calls Tryz.prog 134 #[.string ⟨a.toArray⟩, .string ⟨b.toArray⟩] w (RetI64 (cmpI (Dec.dval a) (Dec.dval b)) w) := by
  have HP1 := Lib.hid (parse_any a w ha)
  have HP2 : Hid (∀ w', Calls Tryz.prog 142 #[.string ⟨b.toArray⟩] w' (RetInt (b.length + 1) (Dec.dval b) w')) := fun w' => parse_any b w' hb
  generalize Dec.dval a = x at HP1
  generalize Dec.dval b = y at HP2
  by_cases hx : x < 0 <;> by_cases hy : y < 0
  · have HF := Lib.hid (cmpI_neg hx hy)
    go_enter Tryz.func134, Tryz.ntmps134
    go_wp2_with fail
    refine HP1.out.mono ?_
    rintro e w1 ⟨A1, n1, c1, rfl, hs1, hn1, hb1⟩
    rw [decide_eq_true hx]
    go_wp2_with fail
    refine (HP2.out _).mono ?_
    rintro e w2 ⟨A2, n2, c2, rfl, hs2, hn2, hb2⟩
    rw [decide_eq_true hy]
    have hbw2 : Below w.heap.size w w2 := hb1.trans (hb2.mono hb1.size)
    have HC : Hid (∀ o1 o2, Calls Tryz.prog 155 #[.slice A2 n2 c2, .slice A1 n1 c1] ((w2.alloc o1).alloc o2) (Cmp y.natAbs x.natAbs ((w2.alloc o1).alloc o2))) :=
      fun o1 o2 => compare_any 1000000000 (by omega) A2 A1 n2 n1 c2 c1 _ _ _ ((hs2.alloc o1).alloc o2) (((hs1.below hb2).alloc o1).alloc o2) (by omega) (by omega)
    go_wp2_with (go_at_call 155; refine (HC.out _ _).mono ?_; rintro e w3 ⟨rfl, q, rfl⟩)
    go_ret
    refine ⟨?_, below_drewN ((hbw2.alloc hbw2.size _).alloc (by rw [World.size_alloc]; have := hbw2.size; omega) _) q⟩
    rw [← HF.out]; rfl
  · have HF := Lib.hid (cmpI_lt (a := x) (b := y) (by omega))
    go_enter Tryz.func134, Tryz.ntmps134
    go_wp2_with fail
    refine HP1.out.mono ?_
    rintro e w1 ⟨A1, n1, c1, rfl, hs1, hn1, hb1⟩
    rw [decide_eq_true hx]
    go_wp2_with fail
    refine (HP2.out _).mono ?_
    rintro e w2 ⟨A2, n2, c2, rfl, hs2, hn2, hb2⟩
    rw [decide_eq_false (by omega)]
    have hbw2 : Below w.heap.size w w2 := hb1.trans (hb2.mono hb1.size)
    go_wp2
    go_ret
    refine ⟨?_, (hbw2.alloc hbw2.size _).alloc (by rw [World.size_alloc]; have := hbw2.size; omega) _⟩
    rw [HF.out]; rfl
  · have HF := Lib.hid (cmpI_gt (a := x) (b := y) (by omega))
    go_enter Tryz.func134, Tryz.ntmps134
    go_wp2_with fail
    refine HP1.out.mono ?_
    rintro e w1 ⟨A1, n1, c1, rfl, hs1, hn1, hb1⟩
    rw [decide_eq_false (by omega)]
    go_wp2_with fail
    refine (HP2.out _).mono ?_
    rintro e w2 ⟨A2, n2, c2, rfl, hs2, hn2, hb2⟩
    rw [decide_eq_true hy]
    have hbw2 : Below w.heap.size w w2 := hb1.trans (hb2.mono hb1.size)
    go_wp2
    go_ret
    refine ⟨?_, (hbw2.alloc hbw2.size _).alloc (by rw [World.size_alloc]; have := hbw2.size; omega) _⟩
    rw [HF.out]; rfl
  · have HF := Lib.hid (cmpI_pos hx hy)
    go_enter Tryz.func134, Tryz.ntmps134
    go_wp2_with fail
    refine HP1.out.mono ?_
    rintro e w1 ⟨A1, n1, c1, rfl, hs1, hn1, hb1⟩
    rw [decide_eq_false (by omega)]
    go_wp2_with fail
    refine (HP2.out _).mono ?_
    rintro e w2 ⟨A2, n2, c2, rfl, hs2, hn2, hb2⟩
    rw [decide_eq_false (by omega)]
    have hbw2 : Below w.heap.size w w2 := hb1.trans (hb2.mono hb1.size)
    have HC : Hid (∀ o1 o2, Calls Tryz.prog 155 #[.slice A1 n1 c1, .slice A2 n2 c2] ((w2.alloc o1).alloc o2) (Cmp x.natAbs y.natAbs ((w2.alloc o1).alloc o2))) :=
      fun o1 o2 => compare_any 1000000000 (by omega) A1 A2 n1 n2 c1 c2 _ _ _ (((hs1.below hb2).alloc o1).alloc o2) ((hs2.alloc o1).alloc o2) (by omega) (by omega)
    go_wp2_with (go_at_call 155; refine (HC.out _ _).mono ?_; rintro e w3 ⟨rfl, q, rfl⟩)
    go_ret
    refine ⟨?_, below_drewN ((hbw2.alloc hbw2.size _).alloc (by rw [World.size_alloc]; have := hbw2.size; omega) _) q⟩
    rw [← HF.out]; rfl

/-! ### short -/
def ShortYes (x y : Int) (w : World) (e : Ending) (w' : World) : Prop := e = .returned (.tuple #[.int .i64 x, .int .i64 y, .bool true]) ∧ Below w.heap.size w w'
def ShortNo (w : World) (e : Ending) (w' : World) : Prop := e = .returned (.tuple #[.int .i64 0, .int .i64 0, .bool false]) ∧ w = w'
set_option maxHeartbeats 1000000 in
theorem short_yes (a b : List UInt8) (m : Int) (w : World) (hm : m ≤ 18) (ha : (a.length : Int) ≤ m) (hb : (b.length : Int) ≤ m) (hva : Dec.isDec a = true) (hvb : Dec.isDec b = true) :
    Calls Tryz.prog 139 #[.string ⟨a.toArray⟩, .string ⟨b.toArray⟩, .int .i64 m] w (ShortYes (Dec.dval a) (Dec.dval b) w) := by
  have HV1 : Hid (∀ w', Calls Tryz.prog 131 #[.string ⟨a.toArray⟩] w' fun e w'' => e = .returned (.bool true) ∧ w' = w'') := fun w' => by
    have := valid_any a w' (by omega); rwa [hva] at this
  have HV2 : Hid (∀ w', Calls Tryz.prog 131 #[.string ⟨b.toArray⟩] w' fun e w'' => e = .returned (.bool true) ∧ w' = w'') := fun w' => by
    have := valid_any b w' (by omega); rwa [hvb] at this
  have HP1 := Lib.hid (parseInt_any a w hva (by omega))
  have HP2 : Hid (∀ w', Calls Tryz.prog 156 #[.string ⟨b.toArray⟩, .int .i64 10, .int .i64 64] w' fun e w'' => e = .returned (.tuple #[.int .i64 (Dec.dval b), .nilIface]) ∧ Below w'.heap.size w' w'') := fun w' => parseInt_any b w' hvb (by omega)
  clear hva hvb
  go_enter Tryz.func139, Tryz.ntmps139
  go_wp2_with fail
  refine (HV1.out _).mono ?_
  rintro e w' ⟨rfl, rfl⟩
  go_wp2_with fail
  refine (HV2.out _).mono ?_
  rintro e w' ⟨rfl, rfl⟩
  go_wp2_with fail
  refine HP1.out.mono ?_
  rintro e w1 ⟨rfl, hb1⟩
  go_wp2_with fail
  refine (HP2.out _).mono ?_
  rintro e w2 ⟨rfl, hb2⟩
  go_wp2
  go_ret3
  exact ⟨rfl, hb1.trans (hb2.mono hb1.size)⟩
set_option maxHeartbeats 1000000 in
theorem short_no (a b : List UInt8) (m : Int) (w : World) (hla : a.length ≤ 2500000) (hlb : b.length ≤ 2500000) (h : ¬ ((a.length : Int) ≤ m ∧ (b.length : Int) ≤ m ∧ Dec.isDec a = true ∧ Dec.isDec b = true)) :
    Calls Tryz.prog 139 #[.string ⟨a.toArray⟩, .string ⟨b.toArray⟩, .int .i64 m] w (ShortNo w) := by
  by_cases h1 : (a.length : Int) ≤ m
  · by_cases h2 : (b.length : Int) ≤ m
    · cases h3 : Dec.isDec a with
      | true =>
        have h4 : Dec.isDec b = false := by
          cases h4 : Dec.isDec b with
          | false => rfl
          | true => exact absurd ⟨h1, h2, h3, h4⟩ h
        have HV1 : Hid (∀ w', Calls Tryz.prog 131 #[.string ⟨a.toArray⟩] w' fun e w'' => e = .returned (.bool true) ∧ w' = w'') := fun w' => by
          have := valid_any a w' (by omega); rwa [h3] at this
        have HV2 : Hid (∀ w', Calls Tryz.prog 131 #[.string ⟨b.toArray⟩] w' fun e w'' => e = .returned (.bool false) ∧ w' = w'') := fun w' => by
          have := valid_any b w' (by omega); rwa [h4] at this
        clear h h3 h4
        go_enter Tryz.func139, Tryz.ntmps139
        go_wp2_with fail
        refine (HV1.out _).mono ?_
        rintro e w' ⟨rfl, rfl⟩
        go_wp2_with fail
        refine (HV2.out _).mono ?_
        rintro e w' ⟨rfl, rfl⟩
        go_wp2
        go_ret3
        exact ⟨rfl, rfl⟩
      | false =>
        have HV1 : Hid (∀ w', Calls Tryz.prog 131 #[.string ⟨a.toArray⟩] w' fun e w'' => e = .returned (.bool false) ∧ w' = w'') := fun w' => by
          have := valid_any a w' (by omega); rwa [h3] at this
        clear h h3
        go_enter Tryz.func139, Tryz.ntmps139
        go_wp2_with fail
        refine (HV1.out _).mono ?_
        rintro e w' ⟨rfl, rfl⟩
        go_wp2
        go_ret3
        exact ⟨rfl, rfl⟩
    · clear h
      have d1 : decide (m < (b.length : Int)) = true := by simp; omega
      go_enter Tryz.func139, Tryz.ntmps139
      go_wp2
      go_ret3
      exact ⟨rfl, rfl⟩
  · clear h
    have d1 : decide (m < (a.length : Int)) = true := by simp; omega
    go_enter Tryz.func139, Tryz.ntmps139
    go_wp2
    go_ret3
    exact ⟨rfl, rfl⟩
end Go.Proofs.YtgphkgmhcmffnaaGreatDoor
/- number.Negate, Digits, FromInt, Small. -/
namespace Go.Proofs.YtgphkgmhcmffnaaGreatDoor
open Go.RowKit

def RetPure (v : Value) (w : World) (e : Ending) (w' : World) : Prop := e = .returned v ∧ w = w'
theorem str_of {D : ByteArray} {l : List UInt8} (h : D.data.toList = l) : D = ⟨l.toArray⟩ := by
  subst h; rw [Lib.mk_data]
theorem itoa_natNeg {v : Int} (h : v < 0) : Lib.itoa v = 45 :: Lib.decDigits v.natAbs := by
  obtain ⟨u, rfl⟩ : ∃ u : Nat, v = -(u : Int) := ⟨v.natAbs, by omega⟩
  rw [Dec.itoa_neg' (by omega)]; simp
theorem itoa_natPos {v : Int} (h : 0 ≤ v) : Lib.itoa v = Lib.decDigits v.natAbs := by
  obtain ⟨u, rfl⟩ : ∃ u : Nat, v = (u : Int) := ⟨v.natAbs, by omega⟩
  rw [Dec.itoa_pos]; simp
theorem itoa_ne_zero {v : Int} (h : v ≠ 0) : Lib.itoa v ≠ [48] := fun e => h (Dec.itoa_inj (e.trans Dec.itoa_zero.symm))
theorem first_byte {D : ByteArray} {c : UInt8} {r : List UInt8} (h : D.data.toList = c :: r) : ∃ hp : 0 < D.size, D[0] = c := by
  have hp : 0 < D.size := by rw [Lib.size_eq, h]; simp
  obtain ⟨hl, e⟩ := byte_at h 0 hp
  exact ⟨hp, by rw [e]; rfl⟩

set_option maxHeartbeats 1000000 in
theorem negate_any (l : List UInt8) (w : World) (hl : l.length ≤ 2500000) :
    Calls Tryz.prog 152 #[.string ⟨l.toArray⟩] w (RetPure (.string ⟨(Lib.itoa (-(Dec.dval l))).toArray⟩) w) := by
  have HD := Lib.hid (decimal_any l w (by omega))
  obtain ⟨D, hD⟩ : ∃ D : ByteArray, D = ⟨(norm l).toArray⟩ := ⟨_, rfl⟩
  rw [← hD] at HD
  have HT : Hid (D.data.toList = Lib.itoa (Dec.dval l)) := by rw [hD]; exact norm_eq l
  have hsz : D.size ≤ 2500001 := by rw [hD, Lib.size_eq]; have := norm_length l; show (norm l).length ≤ _; omega
  clear hD
  generalize Dec.dval l = v at HT
  by_cases h0 : v = 0
  · subst h0
    have hE : D.toList = [48] := by rw [Lib.toList_data, HT.out, Dec.itoa_zero]
    have hE2 : (D.toList == [48]) = true := by rw [hE]; rfl
    have HR : Hid (D = ⟨(Lib.itoa (-0)).toArray⟩) := str_of HT.out
    clear hE
    go_enter Tryz.func152, Tryz.ntmps152
    go_wp2_with fail
    refine HD.out.mono ?_
    rintro e w' ⟨rfl, rfl⟩
    go_wp2
    go_ret
    exact ⟨by rw [← HR.out]; rfl, rfl⟩
  · have hE2 : (D.toList == [48]) = false := by rw [Lib.toList_data, HT.out]; simpa using itoa_ne_zero h0
    by_cases hn : v < 0
    · obtain ⟨hp, e0⟩ := first_byte (HT.out.trans (itoa_natNeg hn))
      have hb : ((D[0].toNat : Int) == 45) = true := by rw [e0]; rfl
      have HR : Hid (D.extract 1 D.size = ⟨(Lib.itoa (-v)).toArray⟩) := by
        apply str_of
        rw [Lib.extract_data, HT.out, itoa_natNeg hn, List.drop_succ_cons, List.drop_zero, itoa_natPos (by omega), List.take_of_length_le]
        · congr 1; omega
        · rw [Lib.size_eq, HT.out, itoa_natNeg hn]; simp
      clear e0
      go_enter Tryz.func152, Tryz.ntmps152
      go_wp2_with fail
      refine HD.out.mono ?_
      rintro e w' ⟨rfl, rfl⟩
      go_wp2
      go_ret
      exact ⟨by rw [← HR.out]; rfl, rfl⟩
    · obtain ⟨c, r, hcr, _⟩ := Dec.decDigits_head (u := v.natAbs) (by omega)
      have hD2 : D.data.toList = c :: r := by rw [HT.out, itoa_natPos (by omega), hcr]
      obtain ⟨hp, e0⟩ := first_byte hD2
      have h45 : c ≠ 45 := Dec.head_ne45 (r := r) (by rw [← hcr]; exact Dec.digs_decDigits _)
      have hb : ((D[0].toNat : Int) == 45) = false := by
        rw [e0, beq_eq_false_iff_ne]
        intro e
        exact h45 (UInt8.toNat_inj.1 (by have : c.toNat = 45 := by omega
                                         simpa using this))
      have HR : Hid ((⟨#[45]⟩ : ByteArray) ++ D = ⟨(Lib.itoa (-v)).toArray⟩) := by
        apply str_of
        rw [itoa_natNeg (by omega), Int.natAbs_neg, ← itoa_natPos (v := v) (by omega), ← HT.out]
        simp
      clear e0 hD2 h45 hcr
      go_enter Tryz.func152, Tryz.ntmps152
      go_wp2_with fail
      refine HD.out.mono ?_
      rintro e w' ⟨rfl, rfl⟩
      go_wp2
      go_ret
      exact ⟨by rw [← HR.out]; rfl, rfl⟩

theorem digits_any (l : List UInt8) (w : World) (hl : l.length ≤ 2500000) :
    Calls Tryz.prog 132 #[.string ⟨l.toArray⟩] w (RetPure (.int .i64 ((Dec.mag (norm l)).length : Nat)) w) := by
  have HD := Lib.hid (decimal_any l w (by omega))
  have hnl := norm_length l
  have hml := Dec.mag_length_le (norm l)
  go_enter Tryz.func132, Tryz.ntmps132
  go_wp2_with fail
  refine HD.out.mono ?_
  rintro e w' ⟨rfl, rfl⟩
  go_wp2_with fail
  refine (trimPrefix_any (norm l) _).mono ?_
  rintro e w' ⟨rfl, rfl⟩
  go_wp2
  go_ret
  exact ⟨rfl, rfl⟩
theorem fromInt_any (n : Int) (w : World) (ht : Tab w) (h0 : -9223372036854775808 ≤ n) (h1 : n ≤ 9223372036854775807) :
    Calls Tryz.prog 100 #[.int .i64 n] w (RetStr (Lib.itoa n) w) := by
  have HI := Lib.hid (itoa_any n w ht h0 h1)
  clear h0 h1
  go_enter Tryz.func100, Tryz.ntmps100
  go_wp2_with fail
  refine HI.out.mono ?_
  rintro e w' ⟨rfl, hb⟩
  go_wp2
  go_ret
  exact ⟨rfl, hb⟩
end Go.Proofs.YtgphkgmhcmffnaaGreatDoor
