/- Which objects are formed and valid, how many nodes they have: package object and the reference, for any object. -/
import Derived.Test.YtgphkgmhcmffnaaGreatDoorSymB
import Derived.Test.YtgphkgmhcmffnaaGreatDoorRcmp
namespace Go.Proofs.YtgphkgmhcmffnaaGreatDoor
open Go.RowKit

abbrev dg (l : List UInt8) : Nat := (Dec.mag (norm l)).length
/-- a fraction in lowest terms within the limits -/
def lowB (n d : List UInt8) : Bool := decide (Lib.itoa (rdN (Dec.dval n) (Dec.dval d)) = n ∧ Lib.itoa (rdD (Dec.dval n) (Dec.dval d)) = d ∧ dg n ≤ 100 ∧ dg d ≤ 100)
namespace Ob
mutual
def formB : Ob → Bool
  | ⟨k, n, d, p, s, t, l⟩ =>
    if k = 4 then decide (n = [] ∧ d = [] ∧ p = [] ∧ s = [] ∧ t = [] ∧ l.length = 2) && allB l
    else if k = 1 then decide (p = [] ∧ s = [] ∧ t = [] ∧ l.length = 0) && lowB n d
    else if k = 2 then decide (n = [] ∧ d = [] ∧ t = [] ∧ l.length = 0) && symOk ⟨p, s⟩
    else if k = 3 then decide (n = [] ∧ d = [] ∧ p = [] ∧ s = [] ∧ t.length ≤ 200 ∧ l.length = 0)
    else false
def allB : List Ob → Bool
  | [] => true
  | o :: r => formB o && allB r
end
theorem formB_eq (k : Int) (n d p s t : List UInt8) (l : List Ob) : formB ⟨k, n, d, p, s, t, l⟩ = (if k = 4 then decide (n = [] ∧ d = [] ∧ p = [] ∧ s = [] ∧ t = [] ∧ l.length = 2) && allB l
    else if k = 1 then decide (p = [] ∧ s = [] ∧ t = [] ∧ l.length = 0) && lowB n d
    else if k = 2 then decide (n = [] ∧ d = [] ∧ t = [] ∧ l.length = 0) && symOk ⟨p, s⟩
    else if k = 3 then decide (n = [] ∧ d = [] ∧ p = [] ∧ s = [] ∧ t.length ≤ 200 ∧ l.length = 0)
    else false) := by rw [formB]
/-- numerals of at most B letters, all the way down -/
inductive Sm : Ob → Prop
  | mk (o : Ob) (hn : o.num.length ≤ 1100000) (hd : o.den.length ≤ 1100000) (h : ∀ x ∈ o.pair, Sm x) : Sm o
theorem Sm.kids {o x : Ob} (h : o.Sm) (hx : x ∈ o.pair) : x.Sm := by
  cases h with
  | mk _ _ _ h => exact h x hx
theorem Sm.len {o : Ob} (h : o.Sm) : o.num.length ≤ 1100000 ∧ o.den.length ≤ 1100000 := by
  cases h with
  | mk _ a b _ => exact ⟨a, b⟩
end Ob
set_option maxHeartbeats 1000000 in
theorem bareC_any (o : Ob) (A : Option Addr) (n c : Nat) (w : World) : Calls Tryz.prog 112 #[objV o (.slice A n c), .bool false, .bool false, .bool false] w (RetBel (.bool (decide (o.num = [] ∧ o.den = [] ∧ o.sp = [] ∧ o.sn = [] ∧ o.text = []))) w) := by
  obtain ⟨k, nm, d, p, sy, t, l⟩ := o
  dsimp only
  by_cases hnm : nm = []
  case neg =>
    rw [decide_eq_false (fun h => hnm (h.1))]
    have hz : (nm == []) = false := by rw [beq_eq_false_iff_ne]; exact hnm
    clear hnm
    go_enter Tryz.func112, Tryz.ntmps112
    go_wp2
    go_ret
    exact ⟨rfl, box _ _⟩
  subst hnm
  by_cases hd : d = []
  case neg =>
    rw [decide_eq_false (fun h => hd (h.2.1))]
    have hz : (d == []) = false := by rw [beq_eq_false_iff_ne]; exact hd
    clear hd
    go_enter Tryz.func112, Tryz.ntmps112
    go_wp2
    go_ret
    exact ⟨rfl, box _ _⟩
  subst hd
  by_cases hp : p = []
  case neg =>
    rw [decide_eq_false (fun h => hp (h.2.2.1))]
    have hz : (p == []) = false := by rw [beq_eq_false_iff_ne]; exact hp
    clear hp
    go_enter Tryz.func112, Tryz.ntmps112
    go_wp2
    go_ret
    exact ⟨rfl, box _ _⟩
  subst hp
  by_cases hsy : sy = []
  case neg =>
    rw [decide_eq_false (fun h => hsy (h.2.2.2.1))]
    have hz : (sy == []) = false := by rw [beq_eq_false_iff_ne]; exact hsy
    clear hsy
    go_enter Tryz.func112, Tryz.ntmps112
    go_wp2
    go_ret
    exact ⟨rfl, box _ _⟩
  subst hsy
  by_cases ht : t = []
  case neg =>
    rw [decide_eq_false (fun h => ht (h.2.2.2.2))]
    have hz : (t == []) = false := by rw [beq_eq_false_iff_ne]; exact ht
    clear ht
    go_enter Tryz.func112, Tryz.ntmps112
    go_wp2
    go_ret
    exact ⟨rfl, box _ _⟩
  subst ht
  rw [decide_eq_true (by simp)]
  go_enter Tryz.func112, Tryz.ntmps112
  go_wp2
  go_ret
  exact ⟨rfl, box _ _⟩
set_option maxHeartbeats 1000000 in
theorem bareN_any (o : Ob) (A : Option Addr) (n c : Nat) (w : World) : Calls Tryz.prog 112 #[objV o (.slice A n c), .bool true, .bool false, .bool false] w (RetBel (.bool (decide (o.sp = [] ∧ o.sn = [] ∧ o.text = []))) w) := by
  obtain ⟨k, nm, d, p, sy, t, l⟩ := o
  dsimp only
  by_cases hp : p = []
  case neg =>
    rw [decide_eq_false (fun h => hp (h.1))]
    have hz : (p == []) = false := by rw [beq_eq_false_iff_ne]; exact hp
    clear hp
    go_enter Tryz.func112, Tryz.ntmps112
    go_wp2
    go_ret
    exact ⟨rfl, box _ _⟩
  subst hp
  by_cases hsy : sy = []
  case neg =>
    rw [decide_eq_false (fun h => hsy (h.2.1))]
    have hz : (sy == []) = false := by rw [beq_eq_false_iff_ne]; exact hsy
    clear hsy
    go_enter Tryz.func112, Tryz.ntmps112
    go_wp2
    go_ret
    exact ⟨rfl, box _ _⟩
  subst hsy
  by_cases ht : t = []
  case neg =>
    rw [decide_eq_false (fun h => ht (h.2.2))]
    have hz : (t == []) = false := by rw [beq_eq_false_iff_ne]; exact ht
    clear ht
    go_enter Tryz.func112, Tryz.ntmps112
    go_wp2
    go_ret
    exact ⟨rfl, box _ _⟩
  subst ht
  rw [decide_eq_true (by simp)]
  go_enter Tryz.func112, Tryz.ntmps112
  go_wp2
  go_ret
  exact ⟨rfl, box _ _⟩
set_option maxHeartbeats 1000000 in
theorem bareS_any (o : Ob) (A : Option Addr) (n c : Nat) (w : World) : Calls Tryz.prog 112 #[objV o (.slice A n c), .bool false, .bool true, .bool false] w (RetBel (.bool (decide (o.num = [] ∧ o.den = [] ∧ o.text = []))) w) := by
  obtain ⟨k, nm, d, p, sy, t, l⟩ := o
  dsimp only
  by_cases hnm : nm = []
  case neg =>
    rw [decide_eq_false (fun h => hnm (h.1))]
    have hz : (nm == []) = false := by rw [beq_eq_false_iff_ne]; exact hnm
    clear hnm
    go_enter Tryz.func112, Tryz.ntmps112
    go_wp2
    go_ret
    exact ⟨rfl, box _ _⟩
  subst hnm
  by_cases hd : d = []
  case neg =>
    rw [decide_eq_false (fun h => hd (h.2.1))]
    have hz : (d == []) = false := by rw [beq_eq_false_iff_ne]; exact hd
    clear hd
    go_enter Tryz.func112, Tryz.ntmps112
    go_wp2
    go_ret
    exact ⟨rfl, box _ _⟩
  subst hd
  by_cases ht : t = []
  case neg =>
    rw [decide_eq_false (fun h => ht (h.2.2))]
    have hz : (t == []) = false := by rw [beq_eq_false_iff_ne]; exact ht
    clear ht
    go_enter Tryz.func112, Tryz.ntmps112
    go_wp2
    go_ret
    exact ⟨rfl, box _ _⟩
  subst ht
  rw [decide_eq_true (by simp)]
  go_enter Tryz.func112, Tryz.ntmps112
  go_wp2
  go_ret
  exact ⟨rfl, box _ _⟩
set_option maxHeartbeats 1000000 in
theorem bareT_any (o : Ob) (A : Option Addr) (n c : Nat) (w : World) : Calls Tryz.prog 112 #[objV o (.slice A n c), .bool false, .bool false, .bool true] w (RetBel (.bool (decide (o.num = [] ∧ o.den = [] ∧ o.sp = [] ∧ o.sn = []))) w) := by
  obtain ⟨k, nm, d, p, sy, t, l⟩ := o
  dsimp only
  by_cases hnm : nm = []
  case neg =>
    rw [decide_eq_false (fun h => hnm (h.1))]
    have hz : (nm == []) = false := by rw [beq_eq_false_iff_ne]; exact hnm
    clear hnm
    go_enter Tryz.func112, Tryz.ntmps112
    go_wp2
    go_ret
    exact ⟨rfl, box _ _⟩
  subst hnm
  by_cases hd : d = []
  case neg =>
    rw [decide_eq_false (fun h => hd (h.2.1))]
    have hz : (d == []) = false := by rw [beq_eq_false_iff_ne]; exact hd
    clear hd
    go_enter Tryz.func112, Tryz.ntmps112
    go_wp2
    go_ret
    exact ⟨rfl, box _ _⟩
  subst hd
  by_cases hp : p = []
  case neg =>
    rw [decide_eq_false (fun h => hp (h.2.2.1))]
    have hz : (p == []) = false := by rw [beq_eq_false_iff_ne]; exact hp
    clear hp
    go_enter Tryz.func112, Tryz.ntmps112
    go_wp2
    go_ret
    exact ⟨rfl, box _ _⟩
  subst hp
  by_cases hsy : sy = []
  case neg =>
    rw [decide_eq_false (fun h => hsy (h.2.2.2))]
    have hz : (sy == []) = false := by rw [beq_eq_false_iff_ne]; exact hsy
    clear hsy
    go_enter Tryz.func112, Tryz.ntmps112
    go_wp2
    go_ret
    exact ⟨rfl, box _ _⟩
  subst hsy
  rw [decide_eq_true (by simp)]
  go_enter Tryz.func112, Tryz.ntmps112
  go_wp2
  go_ret
  exact ⟨rfl, box _ _⟩
theorem lowB_dec {n d : List UInt8} (h : lowB n d = true) : Dec.isDec n = true ∧ Dec.isDec d = true ∧ dg n ≤ 100 ∧ dg d ≤ 100 := by
  unfold lowB at h
  obtain ⟨h1, h2, h3, h4⟩ := of_decide_eq_true h
  exact ⟨by rw [← h1]; exact Dec.isDec_itoa _, by rw [← h2]; exact Dec.isDec_itoa _, h3, h4⟩
set_option maxHeartbeats 1000000 in
theorem lowest_any (a b : List UInt8) (w : World) (ht : Tab w) (ha : a.length ≤ 1100000) (hb : b.length ≤ 1100000) : Calls Tryz.prog 113 #[str a, str b] w (RetBel (.bool (lowB a b)) w) := by
  have HV1 : Hid (∀ w' : World, Calls Tryz.prog 131 #[str a] w' (RetPure (.bool (Dec.isDec a)) w')) := fun w' => valid_any a w' (by omega)
  have HV2 : Hid (∀ w' : World, Calls Tryz.prog 131 #[str b] w' (RetPure (.bool (Dec.isDec b)) w')) := fun w' => valid_any b w' (by omega)
  have HD1 : Hid (∀ w' : World, Calls Tryz.prog 132 #[str a] w' (RetPure (.int .i64 (dg a : Nat)) w')) := fun w' => digits_any a w' (by omega)
  have HD2 : Hid (∀ w' : World, Calls Tryz.prog 132 #[str b] w' (RetPure (.int .i64 (dg b : Nat)) w')) := fun w' => digits_any b w' (by omega)
  have HR : Hid (∀ w' : World, Below w.heap.size w w' → Calls Tryz.prog 133 #[str a, str b] w' (RetStr2 (Lib.itoa (rdN (Dec.dval a) (Dec.dval b))) (Lib.itoa (rdD (Dec.dval a) (Dec.dval b))) w')) := fun w' hb' => reduceN_any a b w' ha hb (ht.below hb')
  have hda : dg a ≤ 1100002 := by have h1 := Dec.mag_length_le (norm a); have h2 := norm_length a; show (Dec.mag (norm a)).length ≤ _; omega
  have hdb : dg b ≤ 1100002 := by have h1 := Dec.mag_length_le (norm b); have h2 := norm_length b; show (Dec.mag (norm b)).length ≤ _; omega
  have HN : Hid (∀ h : ¬ (Dec.isDec a = true ∧ Dec.isDec b = true ∧ dg a ≤ 100 ∧ dg b ≤ 100), lowB a b = false) := fun h => by
    rw [Bool.eq_false_iff]; exact fun e => h (lowB_dec e)
  have HL : Hid (lowB a b = decide (Lib.itoa (rdN (Dec.dval a) (Dec.dval b)) = a ∧ Lib.itoa (rdD (Dec.dval a) (Dec.dval b)) = b ∧ dg a ≤ 100 ∧ dg b ≤ 100)) := rfl
  generalize lowB a b = z at *
  generalize Lib.itoa (rdN (Dec.dval a) (Dec.dval b)) = x at *
  generalize Lib.itoa (rdD (Dec.dval a) (Dec.dval b)) = y at *
  generalize dg a = da at *
  generalize dg b = db at *
  cases h1 : Dec.isDec a with
  | false =>
    obtain rfl := HN.out (fun h => by rw [h1] at h; cases h.1)
    rw [h1] at HV1
    clear HL HN h1
    go_enter Tryz.func113, Tryz.ntmps113
    go_wp2_with fail
    refine (HV1.out _).mono ?_
    rintro e w' ⟨rfl, rfl⟩
    go_wp2
    go_ret
    exact ⟨rfl, Below.refl _ _⟩
  | true =>
  rw [h1] at HV1
  cases h2 : Dec.isDec b with
  | false =>
    obtain rfl := HN.out (fun h => by rw [h2] at h; cases h.2.1)
    rw [h2] at HV2
    clear HL HN h1 h2
    go_enter Tryz.func113, Tryz.ntmps113
    go_wp2_with fail
    refine (HV1.out _).mono ?_
    rintro e w' ⟨rfl, rfl⟩
    go_wp2_with fail
    refine (HV2.out _).mono ?_
    rintro e w' ⟨rfl, rfl⟩
    go_wp2
    go_ret
    exact ⟨rfl, Below.refl _ _⟩
  | true =>
  rw [h2] at HV2
  have VV : Hid (Dec.isDec a = true ∧ Dec.isDec b = true) := ⟨h1, h2⟩
  clear h1 h2
  by_cases h3 : da ≤ 100
  case neg =>
    obtain rfl := HN.out (fun h => h3 h.2.2.1)
    clear HL HN VV
    go_enter Tryz.func113, Tryz.ntmps113
    go_wp2_with fail
    refine (HV1.out _).mono ?_
    rintro e w' ⟨rfl, rfl⟩
    go_wp2_with fail
    refine (HV2.out _).mono ?_
    rintro e w' ⟨rfl, rfl⟩
    go_wp2_with fail
    refine (HD1.out _).mono ?_
    rintro e w' ⟨rfl, rfl⟩
    go_wp2
    go_ret
    exact ⟨rfl, Below.refl _ _⟩
  by_cases h4 : db ≤ 100
  case neg =>
    obtain rfl := HN.out (fun h => h4 h.2.2.2)
    clear HL HN VV
    go_enter Tryz.func113, Tryz.ntmps113
    go_wp2_with fail
    refine (HV1.out _).mono ?_
    rintro e w' ⟨rfl, rfl⟩
    go_wp2_with fail
    refine (HV2.out _).mono ?_
    rintro e w' ⟨rfl, rfl⟩
    go_wp2_with fail
    refine (HD1.out _).mono ?_
    rintro e w' ⟨rfl, rfl⟩
    go_wp2_with fail
    refine (HD2.out _).mono ?_
    rintro e w' ⟨rfl, rfl⟩
    go_wp2
    go_ret
    exact ⟨rfl, Below.refl _ _⟩
  have HZ : Hid (z = decide (x = a ∧ y = b)) := by
    show z = _
    rw [HL.out]
    exact decide_eq_decide.2 ⟨fun h => ⟨h.1, h.2.1⟩, fun h => ⟨h.1, h.2, h3, h4⟩⟩
  clear HN HL VV
  by_cases h5 : x = a
  · by_cases h6 : y = b
    · obtain rfl : z = true := by rw [HZ.out]; exact decide_eq_true ⟨h5, h6⟩
      subst h5 h6
      clear HZ
      go_enter Tryz.func113, Tryz.ntmps113
      go_wp2_with fail
      refine (HV1.out _).mono ?_
      rintro e w' ⟨rfl, rfl⟩
      go_wp2_with fail
      refine (HV2.out _).mono ?_
      rintro e w' ⟨rfl, rfl⟩
      go_wp2_with fail
      refine (HD1.out _).mono ?_
      rintro e w' ⟨rfl, rfl⟩
      go_wp2_with fail
      refine (HD2.out _).mono ?_
      rintro e w' ⟨rfl, rfl⟩
      go_wp2_with fail
      refine (HR.out _ (Below.refl _ _)).mono ?_
      rintro e w1 ⟨rfl, hb1⟩
      go_wp2
      go_ret
      exact ⟨rfl, hb1⟩
    · obtain rfl : z = false := by rw [HZ.out]; exact decide_eq_false (fun h => h6 h.2)
      subst h5
      have hz : (y == b) = false := by rw [beq_eq_false_iff_ne]; exact h6
      clear HZ h6
      go_enter Tryz.func113, Tryz.ntmps113
      go_wp2_with fail
      refine (HV1.out _).mono ?_
      rintro e w' ⟨rfl, rfl⟩
      go_wp2_with fail
      refine (HV2.out _).mono ?_
      rintro e w' ⟨rfl, rfl⟩
      go_wp2_with fail
      refine (HD1.out _).mono ?_
      rintro e w' ⟨rfl, rfl⟩
      go_wp2_with fail
      refine (HD2.out _).mono ?_
      rintro e w' ⟨rfl, rfl⟩
      go_wp2_with fail
      refine (HR.out _ (Below.refl _ _)).mono ?_
      rintro e w1 ⟨rfl, hb1⟩
      go_wp2
      go_ret
      exact ⟨rfl, hb1⟩
  · obtain rfl : z = false := by rw [HZ.out]; exact decide_eq_false (fun h => h5 h.1)
    have hz : (x == a) = false := by rw [beq_eq_false_iff_ne]; exact h5
    clear HZ h5
    go_enter Tryz.func113, Tryz.ntmps113
    go_wp2_with fail
    refine (HV1.out _).mono ?_
    rintro e w' ⟨rfl, rfl⟩
    go_wp2_with fail
    refine (HV2.out _).mono ?_
    rintro e w' ⟨rfl, rfl⟩
    go_wp2_with fail
    refine (HD1.out _).mono ?_
    rintro e w' ⟨rfl, rfl⟩
    go_wp2_with fail
    refine (HD2.out _).mono ?_
    rintro e w' ⟨rfl, rfl⟩
    go_wp2_with fail
    refine (HR.out _ (Below.refl _ _)).mono ?_
    rintro e w1 ⟨rfl, hb1⟩
    go_wp2
    go_ret
    exact ⟨rfl, hb1⟩
set_option maxHeartbeats 4000000 in
set_option maxRecDepth 100000 in
theorem formed_any (ok : Nat → Prop) : ∀ (N : Nat) (o : Ob), o.size ≤ N → o.Wf → o.Sm → ∀ (A : Option Addr) (n c : Nat) (w : World), Tab w → Rd ok w (.slice A n c) (.row (o.pair.map Ob.enc)) →
    Calls Tryz.prog 84 #[objV o (.slice A n c)] w (RetBel (.bool o.formB) w) := by
  intro N
  induction N with
  | zero => intro o h; have := Ob.size_pos o; omega
  | succ N ih =>
    intro o hN hW hS A n c w ht hP
    obtain ⟨fb, hfb⟩ : ∃ fb, fb = o.formB := ⟨_, rfl⟩
    rw [← hfb]
    have HF0 : Hid (o.formB = fb) := hfb.symm
    clear hfb
    go_enter Tryz.func84, Tryz.ntmps84
    go_wp2
    go_loopg [2] o.size (fun gx lv wr => ∃ (x : Ob) (A2 : Option Addr) (n2 c2 : Nat), lv = .bool false ∧ Hid (BlkIs wr w.heap.size 31 (obCells x (.slice A2 n2 c2))) ∧ Rd ok w (.slice A2 n2 c2) (.row (x.pair.map Ob.enc)) ∧ x.size ≤ N + 1 ∧ Hid x.Wf ∧ Hid x.Sm ∧ Hid (x.formB = fb) ∧ x.size ≤ gx ∧ Below w.heap.size w wr)
    case atStart => exact ⟨o, A, n, c, rfl, Lib.hid (BlkIs.new w _ _), hP, hN, Lib.hid hW, Lib.hid hS, HF0, Nat.le_refl _, box _ _⟩
    case round =>
      clear HF0 hW hS hP
      obtain ⟨⟨xk, xn, xd, xp, xs, xt, xl'⟩, A2, n2, c2, rfl, X, hr, hxN, HXW, HXS, HF, hgx, hb⟩ := hrel
      have hlen := hr.len
      rw [List.length_map] at hlen
      have hw1 := HXW.out.len
      have hs1 := HXS.out.len
      dsimp only at hlen hw1 hs1 hr X
      have hn2 : n2 ≤ 9223372036854775807 := by rw [← hlen]; exact hw1
      obtain ⟨hs1, hs2⟩ := hs1
      clear hw1
      obtain ⟨x0, x1, x2, x3, x4, x5, x6, xl⟩ := X.out.seven
      obtain ⟨xf0, xf1, xf2, xf3, xf4, xf5, xf6⟩ := X.out.frozen7
      by_cases h4 : xk = 4
      · subst h4
        have HBR : Hid (∀ w' : World, Calls Tryz.prog 112 #[objV ⟨4, xn, xd, xp, xs, xt, xl'⟩ (.slice A2 n2 c2), .bool false, .bool false, .bool false] w' (RetBel (.bool (decide (xn = [] ∧ xd = [] ∧ xp = [] ∧ xs = [] ∧ xt = []))) w')) := fun w' => bareC_any ⟨4, xn, xd, xp, xs, xt, xl'⟩ A2 n2 c2 w'
        by_cases h2 : n2 = 2
        case neg =>
          obtain rfl : fb = false := by rw [← HF.out, Ob.formB_eq, if_pos rfl]; rw [Bool.eq_false_iff]; intro h; simp only [Bool.and_eq_true, decide_eq_true_eq] at h; exact h2 (by rw [← hlen]; simp [h])
          have hz : ((n2 : Int) != 2) = true := by rw [bne_iff_ne]; omega
          clear HF HBR hlen
          go_wp2
          go_ret
          exact ⟨rfl, hb⟩
        subst h2
        by_cases hbr : xn = [] ∧ xd = [] ∧ xp = [] ∧ xs = [] ∧ xt = []
        case neg =>
          rw [decide_eq_false hbr] at HBR
          obtain rfl : fb = false := by rw [← HF.out, Ob.formB_eq, if_pos rfl]; rw [Bool.eq_false_iff]; intro h; simp only [Bool.and_eq_true, decide_eq_true_eq] at h; exact hbr (by simp [h])
          clear HF hbr hlen
          go_wp2_with fail
          refine (HBR.out _).mono ?_
          rintro e w1 ⟨rfl, hb1⟩
          go_wp2
          go_ret
          exact ⟨rfl, then_ hb hb1⟩
        rw [decide_eq_true hbr] at HBR
        obtain ⟨rfl, rfl, rfl, rfl, rfl⟩ := hbr
        obtain ⟨a, d, rfl⟩ := Ob.two_of_length hlen
        have hsa := Ob.size_pair (o := ⟨4, [], [], [], [], [], [a, d]⟩) (x := a) (by simp)
        have hsd := Ob.size_pair (o := ⟨4, [], [], [], [], [], [a, d]⟩) (x := d) (by simp)
        have HWa := Lib.hid (HXW.out.kids (x := a) (by simp))
        have HWd := Lib.hid (HXW.out.kids (x := d) (by simp))
        have HSa := Lib.hid (HXS.out.kids (x := a) (by simp))
        have HSd := Lib.hid (HXS.out.kids (x := d) (by simp))
        have HF2 : Hid ((a.formB && d.formB) = fb) := by
          show _ = fb
          rw [← HF.out, Ob.formB_eq, if_pos rfl]
          simp [Ob.allB]
        clear hlen HF HXW HXS
        go_wp2_with fail
        refine (HBR.out _).mono ?_
        rintro e w1 ⟨rfl, hb1⟩
        have b1 := then_ hb hb1
        have X1 := Lib.hid (X.out.below hb1)
        clear x0 xf0 x1 xf1 x2 xf2 x3 xf3 x4 xf4 x5 xf5 x6 xf6
        obtain ⟨y0, y1, y2, y3, y4, y5, y6, yl⟩ := X1.out.seven
        obtain ⟨b, q, _, A3, n3, c3', rfl, hbl, _, a0, a1, a2, a3, a4, a5, a6, ha⟩ := hr.objs b1 (i := 0) (by omega)
        simp only [List.getElem_cons_zero, Nat.zero_mul, Nat.add_zero] at a0 a1 a2 a3 a4 a5 a6 ha
        have hbl' := Nat.lt_of_lt_of_le hbl b1.size
        have HC := Lib.hid (ih a (by omega) HWa.out HSa.out A3 n3 c3' w1 (ht.below b1) (ha.under b1))
        generalize a.formB = ba at *
        go_wp2_with fail
        refine HC.out.mono ?_
        rintro e w2 ⟨rfl, hb2⟩
        have b2 := then_ b1 hb2
        have X2 := Lib.hid (X1.out.below hb2)
        clear y0 y1 y2 y3 y4 y5 y6 a0 a1 a2 a3 a4 a5 a6
        cases ba with
        | false =>
          obtain rfl : fb = false := HF2.out.symm
          clear HF2
          go_wp2
          go_ret
          exact ⟨rfl, b2⟩
        | true =>
          obtain ⟨z0, z1, z2, z3, z4, z5, z6, zl⟩ := X2.out.seven
          obtain ⟨zf0, zf1, zf2, zf3, zf4, zf5, zf6⟩ := X2.out.frozen7
          obtain ⟨b', q', _, A4, n4, c4', eA, _, _, d0, d1, d2, d3, d4, d5, d6, hd⟩ := hr.objs b2 (i := 1) (by omega)
          injection eA with eA
          injection eA with eb eq
          subst eb eq
          simp only [List.getElem_cons_zero, List.getElem_cons_succ, Nat.one_mul] at d0 d1 d2 d3 d4 d5 d6 hd
          have hbl2 := Nat.lt_of_lt_of_le hbl b2.size
          go_wp2
          go_roundg d.size
          case measure => omega
          case rel => exact ⟨d, A4, n4, c4', rfl, Lib.hid X2.out.put7, hd, by omega, HWd, HSd, Lib.hid HF2.out, Nat.le_refl _, set7 b2 (Nat.le_refl _) _ _ _ _ _ _ _⟩
      have e4 : (xk == 4) = false := by rw [beq_eq_false_iff_ne]; exact h4
      have HT := Lib.hid (HXW.out)
      by_cases h1 : xk = 1
      · subst h1
        clear h4 e4
        have HBR : Hid (∀ w' : World, Calls Tryz.prog 112 #[objV ⟨1, xn, xd, xp, xs, xt, xl'⟩ (.slice A2 n2 c2), .bool true, .bool false, .bool false] w' (RetBel (.bool (decide (xp = [] ∧ xs = [] ∧ xt = []))) w')) := fun w' => bareN_any ⟨1, xn, xd, xp, xs, xt, xl'⟩ A2 n2 c2 w'
        by_cases hbr : xp = [] ∧ xs = [] ∧ xt = []
        case neg =>
          rw [decide_eq_false hbr] at HBR
          obtain rfl : fb = false := by rw [← HF.out, Ob.formB_eq]; simp only [show ¬ ((1 : Int) = 4) by decide, if_false, if_true]; rw [Bool.eq_false_iff]; intro h; simp only [Bool.and_eq_true, decide_eq_true_eq] at h; exact hbr (by simp [h])
          clear HF hbr hlen
          go_wp2_with fail
          refine (HBR.out _).mono ?_
          rintro e w1 ⟨rfl, hb1⟩
          go_wp2
          go_ret
          exact ⟨rfl, then_ hb hb1⟩
        rw [decide_eq_true hbr] at HBR
        by_cases hn0 : n2 = 0
        case neg =>
          obtain rfl : fb = false := by rw [← HF.out, Ob.formB_eq]; simp only [show ¬ ((1 : Int) = 4) by decide, if_false, if_true]; rw [Bool.eq_false_iff]; intro h; simp only [Bool.and_eq_true, decide_eq_true_eq] at h; exact hn0 (by rw [← hlen]; simp [h])
          have hz : ((n2 : Int) == 0) = false := by rw [beq_eq_false_iff_ne]; omega
          clear HF hbr hlen
          go_wp2_with fail
          refine (HBR.out _).mono ?_
          rintro e w1 ⟨rfl, hb1⟩
          have X1 := Lib.hid (X.out.below hb1)
          clear x0 xf0 x1 xf1 x2 xf2 x3 xf3 x4 xf4 x5 xf5 x6 xf6
          obtain ⟨y0, y1, y2, y3, y4, y5, y6, yl⟩ := X1.out.seven
          go_wp2
          go_ret
          exact ⟨rfl, then_ hb hb1⟩
        subst hn0
        obtain rfl : fb = lowB xn xd := by rw [← HF.out, Ob.formB_eq]; simp [hbr, hlen]
        have HLW : Hid (∀ w' : World, Below w.heap.size w w' → Calls Tryz.prog 113 #[str xn, str xd] w' (RetBel (.bool (lowB xn xd)) w')) := fun w' hb' => lowest_any xn xd w' (ht.below hb') hs1 hs2
        generalize lowB xn xd = bl at *
        clear HF hbr hlen
        go_wp2_with fail
        refine (HBR.out _).mono ?_
        rintro e w1 ⟨rfl, hb1⟩
        have X1 := Lib.hid (X.out.below hb1)
        clear x0 xf0 x1 xf1 x2 xf2 x3 xf3 x4 xf4 x5 xf5 x6 xf6
        obtain ⟨y0, y1, y2, y3, y4, y5, y6, yl⟩ := X1.out.seven
        go_wp2_with fail
        refine (HLW.out _ (then_ hb hb1)).mono ?_
        rintro e w2 ⟨rfl, hb2⟩
        cases bl
        · go_wp2
          go_ret
          exact ⟨rfl, then_ (then_ hb hb1) hb2⟩
        · go_wp2
          go_ret
          exact ⟨rfl, then_ (then_ hb hb1) hb2⟩
      have e1 : (xk == 1) = false := by rw [beq_eq_false_iff_ne]; exact h1
      by_cases h2 : xk = 2
      · subst h2
        clear h4 e4 h1 e1
        have HBR : Hid (∀ w' : World, Calls Tryz.prog 112 #[objV ⟨2, xn, xd, xp, xs, xt, xl'⟩ (.slice A2 n2 c2), .bool false, .bool true, .bool false] w' (RetBel (.bool (decide (xn = [] ∧ xd = [] ∧ xt = []))) w')) := fun w' => bareS_any ⟨2, xn, xd, xp, xs, xt, xl'⟩ A2 n2 c2 w'
        by_cases hbr : xn = [] ∧ xd = [] ∧ xt = []
        case neg =>
          rw [decide_eq_false hbr] at HBR
          obtain rfl : fb = false := by rw [← HF.out, Ob.formB_eq]; simp only [show ¬ ((2 : Int) = 4) by decide, if_false, if_true, show ¬ ((2 : Int) = 1) by decide]; rw [Bool.eq_false_iff]; intro h; simp only [Bool.and_eq_true, decide_eq_true_eq] at h; exact hbr (by simp [h])
          clear HF hbr hlen
          go_wp2_with fail
          refine (HBR.out _).mono ?_
          rintro e w1 ⟨rfl, hb1⟩
          go_wp2
          go_ret
          exact ⟨rfl, then_ hb hb1⟩
        rw [decide_eq_true hbr] at HBR
        by_cases hn0 : n2 = 0
        case neg =>
          obtain rfl : fb = false := by rw [← HF.out, Ob.formB_eq]; simp only [show ¬ ((2 : Int) = 4) by decide, if_false, if_true, show ¬ ((2 : Int) = 1) by decide]; rw [Bool.eq_false_iff]; intro h; simp only [Bool.and_eq_true, decide_eq_true_eq] at h; exact hn0 (by rw [← hlen]; simp [h])
          have hz : ((n2 : Int) == 0) = false := by rw [beq_eq_false_iff_ne]; omega
          clear HF hbr hlen
          go_wp2_with fail
          refine (HBR.out _).mono ?_
          rintro e w1 ⟨rfl, hb1⟩
          have X1 := Lib.hid (X.out.below hb1)
          clear x0 xf0 x1 xf1 x2 xf2 x3 xf3 x4 xf4 x5 xf5 x6 xf6
          obtain ⟨y0, y1, y2, y3, y4, y5, y6, yl⟩ := X1.out.seven
          go_wp2
          go_ret
          exact ⟨rfl, then_ hb hb1⟩
        subst hn0
        obtain rfl : fb = symOk ⟨xp, xs⟩ := by rw [← HF.out, Ob.formB_eq]; simp [hbr, hlen]
        have HLW : Hid (∀ w' : World, Calls Tryz.prog 114 #[.agg #[str xp, str xs]] w' (RetBel (.bool (symOk ⟨xp, xs⟩)) w')) := fun w' => objSymbol_any ⟨xp, xs⟩ w' (by cases HT.out; assumption) (by cases HT.out; assumption)
        generalize symOk ⟨xp, xs⟩ = bl at *
        clear HF hbr hlen
        go_wp2_with fail
        refine (HBR.out _).mono ?_
        rintro e w1 ⟨rfl, hb1⟩
        have X1 := Lib.hid (X.out.below hb1)
        clear x0 xf0 x1 xf1 x2 xf2 x3 xf3 x4 xf4 x5 xf5 x6 xf6
        obtain ⟨y0, y1, y2, y3, y4, y5, y6, yl⟩ := X1.out.seven
        go_wp2_with fail
        refine (HLW.out _).mono ?_
        rintro e w2 ⟨rfl, hb2⟩
        cases bl
        · go_wp2
          go_ret
          exact ⟨rfl, then_ (then_ hb hb1) hb2⟩
        · go_wp2
          go_ret
          exact ⟨rfl, then_ (then_ hb hb1) hb2⟩
      have e2 : (xk == 2) = false := by rw [beq_eq_false_iff_ne]; exact h2
      by_cases h3 : xk = 3
      · subst h3
        clear h4 e4 h1 e1 h2 e2
        have hxt : xt.length ≤ 9223372036854775807 := by cases HT.out; assumption
        have HBR : Hid (∀ w' : World, Calls Tryz.prog 112 #[objV ⟨3, xn, xd, xp, xs, xt, xl'⟩ (.slice A2 n2 c2), .bool false, .bool false, .bool true] w' (RetBel (.bool (decide (xn = [] ∧ xd = [] ∧ xp = [] ∧ xs = []))) w')) := fun w' => bareT_any ⟨3, xn, xd, xp, xs, xt, xl'⟩ A2 n2 c2 w'
        by_cases hbr : xn = [] ∧ xd = [] ∧ xp = [] ∧ xs = []
        case neg =>
          rw [decide_eq_false hbr] at HBR
          obtain rfl : fb = false := by rw [← HF.out, Ob.formB_eq]; simp only [show ¬ ((3 : Int) = 4) by decide, if_false, if_true, show ¬ ((3 : Int) = 1) by decide, show ¬ ((3 : Int) = 2) by decide]; rw [Bool.eq_false_iff]; intro h; simp only [decide_eq_true_eq] at h; exact hbr (by simp [h])
          clear HF hbr hlen
          go_wp2_with fail
          refine (HBR.out _).mono ?_
          rintro e w1 ⟨rfl, hb1⟩
          go_wp2
          go_ret
          exact ⟨rfl, then_ hb hb1⟩
        rw [decide_eq_true hbr] at HBR
        by_cases hn0 : n2 = 0
        case neg =>
          obtain rfl : fb = false := by rw [← HF.out, Ob.formB_eq]; simp only [show ¬ ((3 : Int) = 4) by decide, if_false, if_true, show ¬ ((3 : Int) = 1) by decide, show ¬ ((3 : Int) = 2) by decide]; rw [Bool.eq_false_iff]; intro h; simp only [decide_eq_true_eq] at h; exact hn0 (by rw [← hlen]; simp [h])
          have hz : ((n2 : Int) == 0) = false := by rw [beq_eq_false_iff_ne]; omega
          clear HF hbr hlen
          go_wp2_with fail
          refine (HBR.out _).mono ?_
          rintro e w1 ⟨rfl, hb1⟩
          have X1 := Lib.hid (X.out.below hb1)
          clear x0 xf0 x1 xf1 x2 xf2 x3 xf3 x4 xf4 x5 xf5 x6 xf6
          obtain ⟨y0, y1, y2, y3, y4, y5, y6, yl⟩ := X1.out.seven
          go_wp2
          go_ret
          exact ⟨rfl, then_ hb hb1⟩
        subst hn0
        by_cases h200 : xt.length ≤ 200
        · obtain rfl : fb = true := by rw [← HF.out, Ob.formB_eq]; simp [hbr, hlen, h200]
          have hd2 : decide ((xt.length : Int) ≤ 200) = true := decide_eq_true (by omega)
          clear HF hbr hlen HXW HXS HT
          go_wp2_with fail
          refine (HBR.out _).mono ?_
          rintro e w1 ⟨rfl, hb1⟩
          have X1 := Lib.hid (X.out.below hb1)
          clear x0 xf0 x1 xf1 x2 xf2 x3 xf3 x4 xf4 x5 xf5 x6 xf6
          obtain ⟨y0, y1, y2, y3, y4, y5, y6, yl⟩ := X1.out.seven
          go_wp2
          go_ret
          exact ⟨rfl, then_ hb hb1⟩
        · obtain rfl : fb = false := by rw [← HF.out, Ob.formB_eq]; simp [h200]
          have hd2 : decide ((xt.length : Int) ≤ 200) = false := decide_eq_false (by omega)
          clear HF hbr hlen HXW HXS HT
          go_wp2_with fail
          refine (HBR.out _).mono ?_
          rintro e w1 ⟨rfl, hb1⟩
          have X1 := Lib.hid (X.out.below hb1)
          clear x0 xf0 x1 xf1 x2 xf2 x3 xf3 x4 xf4 x5 xf5 x6 xf6
          obtain ⟨y0, y1, y2, y3, y4, y5, y6, yl⟩ := X1.out.seven
          go_wp2
          go_ret
          exact ⟨rfl, then_ hb hb1⟩
      have e3 : (xk == 3) = false := by rw [beq_eq_false_iff_ne]; exact h3
      obtain rfl : fb = false := by rw [← HF.out, Ob.formB_eq, if_neg h4, if_neg h1, if_neg h2, if_neg h3]
      clear HF h1 h2 h3 h4
      go_wp2
      go_ret
      exact ⟨rfl, hb⟩
/-- valid: not too many nodes, and formed -/
def Ob.validB (o : Ob) : Bool := decide (o.nodes ≤ 3000) && o.formB
set_option maxHeartbeats 1000000 in
theorem oValid_any (ok : Nat → Prop) (o : Ob) (hW : o.Wf) (hS : o.Sm) (A : Option Addr) (n c : Nat) (w : World) (ht : Tab w) (hP : Rd ok w (.slice A n c) (.row (o.pair.map Ob.enc))) :
    Calls Tryz.prog 46 #[objV o (.slice A n c)] w (RetBel (.bool o.validB) w) := by
  have HN : Hid (∀ w' : World, Below w.heap.size w w' → Calls Tryz.prog 83 #[objV o (.slice A n c)] w' (RetBel (.int .i64 (nodesP o)) w')) := fun w' hb => oNodes_any ok o A n c w' (hP.under hb)
  have HF : Hid (∀ w' : World, Below w.heap.size w w' → Calls Tryz.prog 84 #[objV o (.slice A n c)] w' (RetBel (.bool o.formB) w')) := fun w' hb => formed_any ok o.size o (Nat.le_refl _) hW hS A n c w' (ht.below hb) (hP.under hb)
  unfold Ob.validB
  by_cases hk : o.nodes ≤ 3000
  · have hk' : nodesP o ≤ 3000 := by unfold nodesP; split <;> omega
    rw [decide_eq_true hk, Bool.true_and]
    generalize o.formB = fb at *
    generalize nodesP o = z at *
    clear hk
    go_enter Tryz.func46, Tryz.ntmps46
    go_wp2_with fail
    refine (HN.out _ (box _ _)).mono ?_
    rintro e w1 ⟨rfl, hb1⟩
    have X1 := Lib.hid (BlkIs.via hb1)
    obtain ⟨y0, y1, y2, y3, y4, y5, y6, yl⟩ := X1.out.seven
    go_wp2_with fail
    refine (HF.out _ (via hb1)).mono ?_
    rintro e w2 ⟨rfl, hb2⟩
    go_wp2
    go_ret
    exact ⟨rfl, then_ (via hb1) hb2⟩
  · have hk' : ¬ nodesP o ≤ 3000 := by unfold nodesP; split <;> omega
    rw [decide_eq_false hk, Bool.false_and]
    generalize nodesP o = z at *
    clear hk
    go_enter Tryz.func46, Tryz.ntmps46
    go_wp2_with fail
    refine (HN.out _ (box _ _)).mono ?_
    rintro e w1 ⟨rfl, hb1⟩
    go_wp2
    go_ret
    exact ⟨rfl, via hb1⟩
end Go.Proofs.YtgphkgmhcmffnaaGreatDoor
