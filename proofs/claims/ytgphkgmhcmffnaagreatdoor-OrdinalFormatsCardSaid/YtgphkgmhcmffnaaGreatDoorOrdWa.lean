/- Ordinals: natural, zero, infinite; of package ordinal and of the reference, on plain trees. -/
import Derived.Test.YtgphkgmhcmffnaaGreatDoorOrdD
import Derived.Test.YtgphkgmhcmffnaaGreatDoorRit
namespace Go.Proofs.YtgphkgmhcmffnaaGreatDoor
open Go.RowKit

theorem itoa_head_neg {n : Int} (h : n < 0) : ∃ r, Lib.itoa n = 45 :: r := ⟨_, itoa_natNeg h⟩
theorem itoa_head_pos {n : Int} (h : 0 ≤ n) : ∃ c r, Lib.itoa n = c :: r ∧ c.toNat ≠ 45 := by
  rw [itoa_natPos h]
  have h1 := Dec.digs_decDigits n.natAbs
  cases hd : Lib.decDigits n.natAbs with
  | nil => exact absurd hd (Dec.decDigits_ne_nil _)
  | cons c r =>
    refine ⟨c, r, rfl, fun e => ?_⟩
    rw [hd] at h1
    simp only [Dec.digs, List.all_cons, Bool.and_eq_true, Dec.dig] at h1
    simp only [decide_eq_true_eq] at h1
    omega
set_option maxHeartbeats 1000000 in
theorem oNatural_t (t : Tr) (A : Option Addr) (n c : Nat) (w : World) : Calls Tryz.prog 74 #[objV t.ob (.slice A n c)] w (RetBel (.bool t.isNat) w) := by
  have HI : Hid (∀ w' : World, Calls Tryz.prog 103 #[objV t.ob (.slice A n c)] w' (RetBel (.bool (decide (t.ob.kind = 1 ∧ t.ob.den = [49]))) w')) := fun w' => oIsInteger_any t.ob A n c w'
  by_cases hb : t.ob.kind = 1 ∧ t.ob.den = [49]
  · rw [decide_eq_true hb] at HI
    cases t with
    | num q =>
      have hq : q.den = 1 := den_one.1 hb.2
      have hN : Tr.isNat (.num q) = decide (0 ≤ q.num) := by
        show (decide (q.den = 1) && decide (0 ≤ q.num)) = _
        rw [decide_eq_true hq, Bool.true_and]
      rw [hN]
      replace HI : Hid (∀ w' : World, Calls Tryz.prog 103 #[objV (numO (Lib.itoa q.num) (Lib.itoa (q.den : Int))) (.slice A n c)] w' (RetBel (.bool true) w')) := HI
      show Calls Tryz.prog 74 #[objV (numO (Lib.itoa q.num) (Lib.itoa (q.den : Int))) (.slice A n c)] w (RetBel (.bool (decide (0 ≤ q.num))) w)
      clear hb hN
      by_cases h0 : 0 ≤ q.num
      · rw [decide_eq_true h0]
        obtain ⟨ch, r, hl, hc⟩ := itoa_head_pos h0
        rw [hl] at HI ⊢
        have hz : ((ch.toNat : Int) != 45) = true := by rw [bne_iff_ne]; omega
        generalize Lib.itoa (q.den : Int) = l2 at *
        clear hl hc h0 hq
        go_enter Tryz.func74, Tryz.ntmps74
        go_wp2_with fail
        refine (HI.out _).mono ?_
        rintro e w1 ⟨rfl, hb1⟩
        have X1 := Lib.hid (BlkIs.via hb1)
        obtain ⟨x0, x1, x2, x3, x4, x5, x6, xl⟩ := X1.out.seven
        go_wp2
        go_ret
        refine ⟨?_, via hb1⟩
        show Ending.returned (.bool ((ch.toNat : Int) != 45)) = _
        rw [hz]
      · rw [decide_eq_false h0]
        obtain ⟨r, hl⟩ := itoa_head_neg (n := q.num) (by omega)
        rw [hl] at HI ⊢
        generalize Lib.itoa (q.den : Int) = l2 at *
        clear hl h0 hq
        go_enter Tryz.func74, Tryz.ntmps74
        go_wp2_with fail
        refine (HI.out _).mono ?_
        rintro e w1 ⟨rfl, hb1⟩
        have X1 := Lib.hid (BlkIs.via hb1)
        obtain ⟨x0, x1, x2, x3, x4, x5, x6, xl⟩ := X1.out.seven
        go_wp2
        go_ret
        exact ⟨rfl, via hb1⟩
    | txt q => exact absurd hb.1 (by show ¬ ((3 : Int) = 1); decide)
    | sym p q => exact absurd hb.1 (by show ¬ ((2 : Int) = 1); decide)
    | cons a d => exact absurd hb.1 (by show ¬ ((4 : Int) = 1); decide)
  · rw [decide_eq_false hb] at HI
    have hN : t.isNat = false := by
      cases t with
      | num q =>
        show (decide (q.den = 1) && decide (0 ≤ q.num)) = false
        rw [decide_eq_false (fun h => hb ⟨rfl, den_one.2 h⟩), Bool.false_and]
      | txt q => rfl
      | sym p q => rfl
      | cons a d => rfl
    rw [hN]
    generalize t.ob = o at *
    clear hb hN
    go_enter Tryz.func74, Tryz.ntmps74
    go_wp2_with fail
    refine (HI.out _).mono ?_
    rintro e w1 ⟨rfl, hb1⟩
    go_wp2
    go_ret
    exact ⟨rfl, via hb1⟩
set_option maxHeartbeats 1000000 in
theorem rNatural_t (t : Tr) (A : Option Addr) (n c : Nat) (w : World) : Calls Tryz.prog 75 #[objV t.ob (.slice A n c)] w (RetBel (.bool t.isNat) w) := by
  have HI : Hid (∀ w' : World, Calls Tryz.prog 104 #[objV t.ob (.slice A n c)] w' (RetBel (.bool (decide (t.ob.kind = 1 ∧ t.ob.den = [49]))) w')) := fun w' => rIsInteger_any t.ob A n c w'
  by_cases hb : t.ob.kind = 1 ∧ t.ob.den = [49]
  · rw [decide_eq_true hb] at HI
    cases t with
    | num q =>
      have hq : q.den = 1 := den_one.1 hb.2
      have hN : Tr.isNat (.num q) = decide (0 ≤ q.num) := by
        show (decide (q.den = 1) && decide (0 ≤ q.num)) = _
        rw [decide_eq_true hq, Bool.true_and]
      rw [hN]
      replace HI : Hid (∀ w' : World, Calls Tryz.prog 104 #[objV (numO (Lib.itoa q.num) (Lib.itoa (q.den : Int))) (.slice A n c)] w' (RetBel (.bool true) w')) := HI
      show Calls Tryz.prog 75 #[objV (numO (Lib.itoa q.num) (Lib.itoa (q.den : Int))) (.slice A n c)] w (RetBel (.bool (decide (0 ≤ q.num))) w)
      clear hb hN
      by_cases h0 : 0 ≤ q.num
      · rw [decide_eq_true h0]
        obtain ⟨ch, r, hl, hc⟩ := itoa_head_pos h0
        rw [hl] at HI ⊢
        have hz : ((ch.toNat : Int) != 45) = true := by rw [bne_iff_ne]; omega
        generalize Lib.itoa (q.den : Int) = l2 at *
        clear hl hc h0 hq
        go_enter Tryz.func75, Tryz.ntmps75
        go_wp2_with fail
        refine (HI.out _).mono ?_
        rintro e w1 ⟨rfl, hb1⟩
        have X1 := Lib.hid (BlkIs.via hb1)
        obtain ⟨x0, x1, x2, x3, x4, x5, x6, xl⟩ := X1.out.seven
        go_wp2
        go_ret
        refine ⟨?_, via hb1⟩
        show Ending.returned (.bool ((ch.toNat : Int) != 45)) = _
        rw [hz]
      · rw [decide_eq_false h0]
        obtain ⟨r, hl⟩ := itoa_head_neg (n := q.num) (by omega)
        rw [hl] at HI ⊢
        generalize Lib.itoa (q.den : Int) = l2 at *
        clear hl h0 hq
        go_enter Tryz.func75, Tryz.ntmps75
        go_wp2_with fail
        refine (HI.out _).mono ?_
        rintro e w1 ⟨rfl, hb1⟩
        have X1 := Lib.hid (BlkIs.via hb1)
        obtain ⟨x0, x1, x2, x3, x4, x5, x6, xl⟩ := X1.out.seven
        go_wp2
        go_ret
        exact ⟨rfl, via hb1⟩
    | txt q => exact absurd hb.1 (by show ¬ ((3 : Int) = 1); decide)
    | sym p q => exact absurd hb.1 (by show ¬ ((2 : Int) = 1); decide)
    | cons a d => exact absurd hb.1 (by show ¬ ((4 : Int) = 1); decide)
  · rw [decide_eq_false hb] at HI
    have hN : t.isNat = false := by
      cases t with
      | num q =>
        show (decide (q.den = 1) && decide (0 ≤ q.num)) = false
        rw [decide_eq_false (fun h => hb ⟨rfl, den_one.2 h⟩), Bool.false_and]
      | txt q => rfl
      | sym p q => rfl
      | cons a d => rfl
    rw [hN]
    generalize t.ob = o at *
    clear hb hN
    go_enter Tryz.func75, Tryz.ntmps75
    go_wp2_with fail
    refine (HI.out _).mono ?_
    rintro e w1 ⟨rfl, hb1⟩
    go_wp2
    go_ret
    exact ⟨rfl, via hb1⟩
theorem isZ_nat (t : Tr) : t.isZ = (t.isNat && (match t with | .num q => decide (Lib.itoa q.num = [48]) | _ => false)) := by
  cases t with
  | num q =>
    show decide (q.num = 0) = (decide (q.den = 1) && decide (0 ≤ q.num) && decide (Lib.itoa q.num = [48]))
    by_cases h : q.num = 0
    · have h1 : q = 0 := Rat.num_eq_zero.1 h
      subst h1
      decide +kernel
    · rw [decide_eq_false h, decide_eq_false (itoa_ne_zero h), Bool.and_false]
  | txt q => rfl
  | sym p q => rfl
  | cons a d => rfl
set_option maxHeartbeats 1000000 in
theorem oZero_t (t : Tr) (A : Option Addr) (n c : Nat) (w : World) : Calls Tryz.prog 85 #[objV t.ob (.slice A n c)] w (RetBel (.bool t.isZ) w) := by
  have HI : Hid (∀ w' : World, Calls Tryz.prog 74 #[objV t.ob (.slice A n c)] w' (RetBel (.bool t.isNat) w')) := fun w' => oNatural_t t A n c w'
  rw [isZ_nat]
  cases hb : t.isNat with
  | false =>
    rw [hb] at HI
    rw [Bool.false_and]
    clear hb
    generalize t.ob = o at *
    go_enter Tryz.func85, Tryz.ntmps85
    go_wp2_with fail
    refine (HI.out _).mono ?_
    rintro e w1 ⟨rfl, hb1⟩
    go_wp2
    go_ret
    exact ⟨rfl, via hb1⟩
  | true =>
    rw [hb] at HI
    rw [Bool.true_and]
    cases t with
    | num q =>
      replace HI : Hid (∀ w' : World, Calls Tryz.prog 74 #[objV (numO (Lib.itoa q.num) (Lib.itoa (q.den : Int))) (.slice A n c)] w' (RetBel (.bool true) w')) := HI
      show Calls Tryz.prog 85 #[objV (numO (Lib.itoa q.num) (Lib.itoa (q.den : Int))) (.slice A n c)] w (RetBel (.bool (decide (Lib.itoa q.num = [48]))) w)
      generalize Lib.itoa q.num = l1 at *
      generalize Lib.itoa (q.den : Int) = l2 at *
      clear hb
      by_cases h0 : l1 = [48]
      · subst h0
        rw [decide_eq_true rfl]
        go_enter Tryz.func85, Tryz.ntmps85
        go_wp2_with fail
        refine (HI.out _).mono ?_
        rintro e w1 ⟨rfl, hb1⟩
        have X1 := Lib.hid (BlkIs.via hb1)
        obtain ⟨x0, x1, x2, x3, x4, x5, x6, xl⟩ := X1.out.seven
        go_wp2
        go_ret
        exact ⟨rfl, via hb1⟩
      · rw [decide_eq_false h0]
        have hz : (l1 == [48]) = false := by rw [beq_eq_false_iff_ne]; exact h0
        clear h0
        go_enter Tryz.func85, Tryz.ntmps85
        go_wp2_with fail
        refine (HI.out _).mono ?_
        rintro e w1 ⟨rfl, hb1⟩
        have X1 := Lib.hid (BlkIs.via hb1)
        obtain ⟨x0, x1, x2, x3, x4, x5, x6, xl⟩ := X1.out.seven
        go_wp2
        go_ret
        exact ⟨rfl, via hb1⟩
    | txt q => cases hb
    | sym p q => cases hb
    | cons a d => cases hb
set_option maxHeartbeats 1000000 in
theorem rZero_t (t : Tr) (A : Option Addr) (n c : Nat) (w : World) : Calls Tryz.prog 60 #[objV t.ob (.slice A n c)] w (RetBel (.bool t.isZ) w) := by
  cases t with
  | num q =>
    show Calls Tryz.prog 60 #[objV (numO (Lib.itoa q.num) (Lib.itoa (q.den : Int))) (.slice A n c)] w (RetBel (.bool (decide (q.num = 0))) w)
    by_cases h : q.num = 0
    · rw [decide_eq_true h, h, show Lib.itoa 0 = [48] from Dec.itoa_zero]
      generalize Lib.itoa (q.den : Int) = l2
      go_enter Tryz.func60, Tryz.ntmps60
      go_wp2
      go_ret
      exact ⟨rfl, box _ _⟩
    · rw [decide_eq_false h]
      have hz : (Lib.itoa q.num == [48]) = false := by rw [beq_eq_false_iff_ne]; exact itoa_ne_zero h
      generalize Lib.itoa q.num = l1 at *
      generalize Lib.itoa (q.den : Int) = l2
      clear h
      go_enter Tryz.func60, Tryz.ntmps60
      go_wp2
      go_ret
      exact ⟨rfl, box _ _⟩
  | txt q =>
    show Calls Tryz.prog 60 #[objV (txtO q) (.slice A n c)] w (RetBel (.bool false) w)
    go_enter Tryz.func60, Tryz.ntmps60
    go_wp2
    go_ret
    exact ⟨rfl, box _ _⟩
  | sym p q =>
    show Calls Tryz.prog 60 #[objV (symO p q) (.slice A n c)] w (RetBel (.bool false) w)
    go_enter Tryz.func60, Tryz.ntmps60
    go_wp2
    go_ret
    exact ⟨rfl, box _ _⟩
  | cons a d =>
    show Calls Tryz.prog 60 #[objV (consO a.ob d.ob) (.slice A n c)] w (RetBel (.bool false) w)
    go_enter Tryz.func60, Tryz.ntmps60
    go_wp2
    go_ret
    exact ⟨rfl, box _ _⟩
set_option maxHeartbeats 1000000 in
theorem oInfinite_t (ok : Nat → Prop) (t : Tr) (A : Option Addr) (n c : Nat) (w : World) (hP : Rd ok w (.slice A n c) (.row (t.ob.pair.map Ob.enc))) : Calls Tryz.prog 90 #[objV t.ob (.slice A n c)] w (RetBel (.bool t.inf) w) := by
  cases t with
  | num q =>
    show Calls Tryz.prog 90 #[objV (numO (Lib.itoa q.num) (Lib.itoa (q.den : Int))) (.slice A n c)] w (RetBel (.bool false) w)
    generalize Lib.itoa q.num = l1
    generalize Lib.itoa (q.den : Int) = l2
    clear hP
    go_enter Tryz.func90, Tryz.ntmps90
    go_wp2
    go_ret
    exact ⟨rfl, box _ _⟩
  | txt q =>
    show Calls Tryz.prog 90 #[objV (txtO q) (.slice A n c)] w (RetBel (.bool false) w)
    clear hP
    go_enter Tryz.func90, Tryz.ntmps90
    go_wp2
    go_ret
    exact ⟨rfl, box _ _⟩
  | sym p q =>
    show Calls Tryz.prog 90 #[objV (symO p q) (.slice A n c)] w (RetBel (.bool false) w)
    clear hP
    go_enter Tryz.func90, Tryz.ntmps90
    go_wp2
    go_ret
    exact ⟨rfl, box _ _⟩
  | cons a d =>
    replace hP : Rd ok w (.slice A n c) (.row ([a.ob, d.ob].map Ob.enc)) := hP
    obtain rfl : n = 2 := hP.len.symm
    show Calls Tryz.prog 90 #[objV (consO a.ob d.ob) (.slice A 2 c)] w (RetBel (.bool (Tr.cons a d).inf) w)
    have b0 := box w (.cells (obCells (consO a.ob d.ob) (.slice A 2 c)) 31)
    obtain ⟨b, q, _, A3, n3, c3, rfl, hbl, _, a0, _, _, _, _, _, _, _⟩ := hP.objs b0 (i := 0) (by omega)
    simp only [List.getElem_cons_zero, Nat.zero_mul, Nat.add_zero] at a0
    have hbl' := Nat.lt_of_lt_of_le hbl b0.size
    clear hP b0
    cases a with
    | num p =>
      replace a0 : _ = some (Value.int .i64 1) := a0
      show Calls Tryz.prog 90 _ w (RetBel (.bool false) w)
      generalize (Tr.num p).ob = oa at *
      go_enter Tryz.func90, Tryz.ntmps90
      go_wp2
      go_ret
      exact ⟨rfl, box _ _⟩
    | txt p =>
      replace a0 : _ = some (Value.int .i64 3) := a0
      show Calls Tryz.prog 90 _ w (RetBel (.bool false) w)
      generalize (Tr.txt p).ob = oa at *
      go_enter Tryz.func90, Tryz.ntmps90
      go_wp2
      go_ret
      exact ⟨rfl, box _ _⟩
    | sym p p' =>
      replace a0 : _ = some (Value.int .i64 2) := a0
      show Calls Tryz.prog 90 _ w (RetBel (.bool false) w)
      generalize (Tr.sym p p').ob = oa at *
      go_enter Tryz.func90, Tryz.ntmps90
      go_wp2
      go_ret
      exact ⟨rfl, box _ _⟩
    | cons x y =>
      replace a0 : _ = some (Value.int .i64 4) := a0
      show Calls Tryz.prog 90 _ w (RetBel (.bool true) w)
      generalize (Tr.cons x y).ob = oa at *
      go_enter Tryz.func90, Tryz.ntmps90
      go_wp2
      go_ret
      exact ⟨rfl, box _ _⟩
end Go.Proofs.YtgphkgmhcmffnaaGreatDoor
