/- The reference's count, Nodes, formed, Valid, for any object. -/
import Derived.Test.YtgphkgmhcmffnaaGreatDoorFm
import Derived.Test.YtgphkgmhcmffnaaGreatDoorSymC
namespace Go.Proofs.YtgphkgmhcmffnaaGreatDoor
open Go.RowKit

set_option maxHeartbeats 2000000 in
set_option maxRecDepth 100000 in
theorem count_any (ok : Nat → Prop) : ∀ (N : Nat) (o : Ob), o.size ≤ N → o.Wf → ∀ (A : Option Addr) (n c L : Nat) (w : World), Rd ok w (.slice A n c) (.row (o.pair.map Ob.enc)) → 1 ≤ L → L ≤ 3001 →
    Calls Tryz.prog 125 #[objV o (.slice A n c), .int .i64 L] w (RetBel (.int .i64 (min o.nodes L : Nat)) w) := by
  intro N
  induction N with
  | zero => intro o h; have := Ob.size_pos o; omega
  | succ N ih =>
    intro o hN hW A n c L w hP hL0 hL1
    have hlen := hP.len
    rw [List.length_map] at hlen
    have hn : n ≤ 9223372036854775807 := by rw [← hlen]; exact hW.len
    by_cases h2 : n = 2
    case neg =>
      have hz : ((n : Int) != 2) = true := by rw [bne_iff_ne]; omega
      have e : min o.nodes L = 1 := by rw [Ob.nodes_one (by omega)]; omega
      rw [e]
      clear hlen e h2
      go_enter Tryz.func125, Tryz.ntmps125
      go_wp2
      go_ret
      exact ⟨rfl, box _ _⟩
    subst h2
    by_cases h1 : L ≤ 1
    · have e : min o.nodes L = 1 := by have := o.nodes_pos; omega
      rw [e]
      clear hlen e
      go_enter Tryz.func125, Tryz.ntmps125
      go_wp2
      go_ret
      exact ⟨rfl, box _ _⟩
    obtain ⟨a, d, had⟩ := Ob.two_of_length hlen
    have hsa := Ob.size_pair (o := o) (x := a) (by rw [had]; simp)
    have hsd := Ob.size_pair (o := o) (x := d) (by rw [had]; simp)
    have HWa := Lib.hid (hW.kids (x := a) (by rw [had]; simp))
    have HWd := Lib.hid (hW.kids (x := d) (by rw [had]; simp))
    have HND := Lib.hid (Ob.nodes_two had)
    have pa := a.nodes_pos
    have pd := d.nodes_pos
    obtain ⟨z, hz⟩ : ∃ z : Nat, z = min o.nodes L := ⟨_, rfl⟩
    rw [← hz]
    have HZ := Lib.hid hz
    clear hz
    rw [had] at hP
    have b0 := box w (.cells (obCells o (.slice A 2 c)) 31)
    obtain ⟨b, q, _, A3, n3, c3, rfl, hbl, _, a0, a1, a2, a3, a4, a5, a6, ha⟩ := hP.objs b0 (i := 0) (by omega)
    simp only [List.getElem_cons_zero, Nat.zero_mul, Nat.add_zero] at a0 a1 a2 a3 a4 a5 a6 ha
    have hbl' := Nat.lt_of_lt_of_le hbl b0.size
    have HC : Hid (∀ w' : World, Below w.heap.size w w' → Calls Tryz.prog 125 #[objV a (.slice A3 n3 c3), .int .i64 ((L : Int) - 1)] w' (RetBel (.int .i64 (min a.nodes (L - 1) : Nat)) w')) := fun w' hb => by
      have := ih a (by omega) HWa.out A3 n3 c3 (L - 1) w' (ha.under hb) (by omega) (by omega)
      rwa [show ((L - 1 : Nat) : Int) = (L : Int) - 1 by omega] at this
    have X0 := Lib.hid (BlkIs.new w 31 (obCells o (.slice (some ⟨b, q, none⟩) 2 c)))
    clear hlen
    go_enter Tryz.func125, Tryz.ntmps125
    go_wp2_with fail
    refine (HC.out _ b0).mono ?_
    rintro e w1 ⟨rfl, hb1⟩
    have b1 := then_ b0 hb1
    have X1 := Lib.hid (X0.out.below hb1)
    clear a0 a1 a2 a3 a4 a5 a6 X0
    by_cases h3 : L - 1 ≤ a.nodes
    · have e1 : min a.nodes (L - 1) = L - 1 := by omega
      obtain rfl : z = L := by rw [HZ.out, HND.out]; omega
      have e3 : ((z - 1 : Nat) : Int) = (z : Int) - 1 := by omega
      rw [e1, e3]
      clear e1 e3 HZ HND
      go_wp2
      go_ret
      exact ⟨by go_num, b1⟩
    · have e1 : min a.nodes (L - 1) = a.nodes := by omega
      obtain ⟨md, hmd⟩ : ∃ md, md = min d.nodes (L - (1 + a.nodes)) := ⟨_, rfl⟩
      obtain rfl : z = a.nodes + 1 + md := by rw [HZ.out, HND.out]; omega
      rw [e1]
      clear e1 HZ HND
      obtain ⟨y0, y1, y2, y3, y4, y5, y6, yl⟩ := X1.out.seven
      obtain ⟨b', q', _, A4, n4, c4, eA, _, _, d0, d1, d2, d3, d4, d5, d6, hd⟩ := hP.objs b1 (i := 1) (by omega)
      injection eA with eA
      injection eA with eb eq
      subst eb eq
      simp only [List.getElem_cons_zero, List.getElem_cons_succ, Nat.one_mul] at d0 d1 d2 d3 d4 d5 d6 hd
      have hbl2 := Nat.lt_of_lt_of_le hbl b1.size
      have HC2 : Hid (Calls Tryz.prog 125 #[objV d (.slice A4 n4 c4), .int .i64 ((L : Int) - (1 + (a.nodes : Int)))] w1 (RetBel (.int .i64 (min d.nodes (L - (1 + a.nodes)) : Nat)) w1)) := by
        have := ih d (by omega) HWd.out A4 n4 c4 (L - (1 + a.nodes)) w1 (hd.under b1) (by omega) (by omega)
        rwa [show ((L - (1 + a.nodes) : Nat) : Int) = (L : Int) - (1 + (a.nodes : Int)) by omega] at this
      have hm : md ≤ 3001 := by omega
      rw [← hmd] at HC2
      clear pd hmd
      generalize a.nodes = na at *
      go_wp2_with fail
      refine HC2.out.mono ?_
      rintro e w2 ⟨rfl, hb2⟩
      go_wp2
      go_ret
      exact ⟨by go_num, then_ b1 hb2⟩
set_option maxHeartbeats 400000 in
theorem rNodes_any (ok : Nat → Prop) (o : Ob) (hW : o.Wf) (A : Option Addr) (n c : Nat) (w : World) (hP : Rd ok w (.slice A n c) (.row (o.pair.map Ob.enc))) :
    Calls Tryz.prog 101 #[objV o (.slice A n c)] w (RetBel (.int .i64 (nodesP o)) w) := by
  have HC : Hid (∀ w' : World, Below w.heap.size w w' → Calls Tryz.prog 125 #[objV o (.slice A n c), .int .i64 3001] w' (RetBel (.int .i64 (nodesP o)) w')) := fun w' hb => by
    have := count_any ok o.size o (Nat.le_refl _) hW A n c 3001 w' (hP.under hb) (by omega) (by omega)
    rwa [show ((min o.nodes 3001 : Nat) : Int) = nodesP o by unfold nodesP; split <;> omega] at this
  generalize nodesP o = z at *
  go_enter Tryz.func101, Tryz.ntmps101
  go_wp2_with fail
  refine (HC.out _ (box _ _)).mono ?_
  rintro e w1 ⟨rfl, hb⟩
  go_wp2
  go_ret
  exact ⟨rfl, via hb⟩
set_option maxHeartbeats 4000000 in
set_option maxRecDepth 100000 in
theorem rFormed_num (xn xd xp xs xt : List UInt8) (xl : List Ob) (A : Option Addr) (n c : Nat) (w : World) (hlen : xl.length = n) (hn : n ≤ 9223372036854775807) (h1 : xn.length ≤ 1100000) (h2 : xd.length ≤ 1100000) :
    Calls Tryz.prog 102 #[objV ⟨1, xn, xd, xp, xs, xt, xl⟩ (.slice A n c)] w (RetBel (.bool (Ob.formB ⟨1, xn, xd, xp, xs, xt, xl⟩)) w) := by
  have HR : Hid (∀ w' : World, Calls Tryz.prog 81 #[str xn, str xd] w' (RetStr2 (Lib.itoa (rdN (Dec.dval xn) (Dec.dval xd))) (Lib.itoa (rdD (Dec.dval xn) (Dec.dval xd))) w')) := fun w' => refReduce_any xn xd w' h1 h2
  have HD1 : Hid (∀ w' : World, Calls Tryz.prog 126 #[str xn] w' (RetI64 (dg xn : Nat) w')) := fun w' => refDigitsN_any xn w' (by omega)
  have HD2 : Hid (∀ w' : World, Calls Tryz.prog 126 #[str xd] w' (RetI64 (dg xd : Nat) w')) := fun w' => refDigitsN_any xd w' (by omega)
  have hda : dg xn ≤ 1100002 := by have h1 := Dec.mag_length_le (norm xn); have h2 := norm_length xn; show (Dec.mag (norm xn)).length ≤ _; omega
  have hdb : dg xd ≤ 1100002 := by have h1 := Dec.mag_length_le (norm xd); have h2 := norm_length xd; show (Dec.mag (norm xd)).length ≤ _; omega
  obtain ⟨fb, hfb⟩ : ∃ fb, fb = Ob.formB ⟨1, xn, xd, xp, xs, xt, xl⟩ := ⟨_, rfl⟩
  rw [← hfb]
  have HF : Hid (Ob.formB ⟨1, xn, xd, xp, xs, xt, xl⟩ = fb) := hfb.symm
  clear hfb
  have HL : Hid (lowB xn xd = decide (Lib.itoa (rdN (Dec.dval xn) (Dec.dval xd)) = xn ∧ Lib.itoa (rdD (Dec.dval xn) (Dec.dval xd)) = xd ∧ dg xn ≤ 100 ∧ dg xd ≤ 100)) := rfl
  generalize Lib.itoa (rdN (Dec.dval xn) (Dec.dval xd)) = x at *
  generalize Lib.itoa (rdD (Dec.dval xn) (Dec.dval xd)) = y at *
  generalize dg xn = da at *
  generalize dg xd = db at *
  by_cases hxp : xp = []
  case neg =>
    obtain rfl : fb = false := by rw [← HF.out, Ob.formB_eq]; simp only [show ¬ ((1 : Int) = 4) by decide, if_false, if_true]; rw [Bool.eq_false_iff]; intro h; simp only [Bool.and_eq_true, decide_eq_true_eq] at h; exact hxp (by simp [h])
    have hz : (xp == []) = false := by rw [beq_eq_false_iff_ne]; exact hxp
    clear HF hxp hlen
    go_enter Tryz.func102, Tryz.ntmps102
    go_wp2_with fail
    refine (HR.out _).mono ?_
    rintro e w1 ⟨rfl, hb1⟩
    have X1 := Lib.hid (BlkIs.via hb1)
    obtain ⟨x0, x1, x2, x3, x4, x5, x6, xl⟩ := X1.out.seven
    go_wp2
    go_ret
    exact ⟨rfl, via hb1⟩
  subst hxp
  by_cases hxs : xs = []
  case neg =>
    obtain rfl : fb = false := by rw [← HF.out, Ob.formB_eq]; simp only [show ¬ ((1 : Int) = 4) by decide, if_false, if_true]; rw [Bool.eq_false_iff]; intro h; simp only [Bool.and_eq_true, decide_eq_true_eq] at h; exact hxs (by simp [h])
    have hz : (xs == []) = false := by rw [beq_eq_false_iff_ne]; exact hxs
    clear HF hxs hlen
    go_enter Tryz.func102, Tryz.ntmps102
    go_wp2_with fail
    refine (HR.out _).mono ?_
    rintro e w1 ⟨rfl, hb1⟩
    have X1 := Lib.hid (BlkIs.via hb1)
    obtain ⟨x0, x1, x2, x3, x4, x5, x6, xl⟩ := X1.out.seven
    go_wp2
    go_ret
    exact ⟨rfl, via hb1⟩
  subst hxs
  by_cases hxt : xt = []
  case neg =>
    obtain rfl : fb = false := by rw [← HF.out, Ob.formB_eq]; simp only [show ¬ ((1 : Int) = 4) by decide, if_false, if_true]; rw [Bool.eq_false_iff]; intro h; simp only [Bool.and_eq_true, decide_eq_true_eq] at h; exact hxt (by simp [h])
    have hz : (xt == []) = false := by rw [beq_eq_false_iff_ne]; exact hxt
    clear HF hxt hlen
    go_enter Tryz.func102, Tryz.ntmps102
    go_wp2_with fail
    refine (HR.out _).mono ?_
    rintro e w1 ⟨rfl, hb1⟩
    have X1 := Lib.hid (BlkIs.via hb1)
    obtain ⟨x0, x1, x2, x3, x4, x5, x6, xl⟩ := X1.out.seven
    go_wp2
    go_ret
    exact ⟨rfl, via hb1⟩
  subst hxt
  by_cases hn0 : n = 0
  case neg =>
    obtain rfl : fb = false := by rw [← HF.out, Ob.formB_eq]; simp only [show ¬ ((1 : Int) = 4) by decide, if_false, if_true]; rw [Bool.eq_false_iff]; intro h; simp only [Bool.and_eq_true, decide_eq_true_eq] at h; exact hn0 (by rw [← hlen]; simp [h])
    have hz : ((n : Int) == 0) = false := by rw [beq_eq_false_iff_ne]; omega
    clear HF hn0 hlen
    go_enter Tryz.func102, Tryz.ntmps102
    go_wp2_with fail
    refine (HR.out _).mono ?_
    rintro e w1 ⟨rfl, hb1⟩
    have X1 := Lib.hid (BlkIs.via hb1)
    obtain ⟨x0, x1, x2, x3, x4, x5, x6, xl⟩ := X1.out.seven
    go_wp2
    go_ret
    exact ⟨rfl, via hb1⟩
  subst hn0
  have HZ : Hid (fb = decide (x = xn ∧ y = xd ∧ da ≤ 100 ∧ db ≤ 100)) := by
    show fb = _
    rw [← HF.out, Ob.formB_eq, ← HL.out]
    simp [hlen]
  clear HF HL hlen
  by_cases e1 : x = xn
  case neg =>
    obtain rfl : fb = false := by rw [HZ.out]; exact decide_eq_false (fun h => e1 h.1)
    have hz : (x == xn) = false := by rw [beq_eq_false_iff_ne]; exact e1
    clear e1
    clear HZ
    go_enter Tryz.func102, Tryz.ntmps102
    go_wp2_with fail
    refine (HR.out _).mono ?_
    rintro e w1 ⟨rfl, hb1⟩
    have X1 := Lib.hid (BlkIs.via hb1)
    obtain ⟨x0, x1, x2, x3, x4, x5, x6, xl⟩ := X1.out.seven
    go_wp2
    go_ret
    exact ⟨rfl, via hb1⟩
  subst e1
  by_cases e2 : y = xd
  case neg =>
    obtain rfl : fb = false := by rw [HZ.out]; exact decide_eq_false (fun h => e2 h.2.1)
    have hz : (y == xd) = false := by rw [beq_eq_false_iff_ne]; exact e2
    clear e2
    clear HZ
    go_enter Tryz.func102, Tryz.ntmps102
    go_wp2_with fail
    refine (HR.out _).mono ?_
    rintro e w1 ⟨rfl, hb1⟩
    have X1 := Lib.hid (BlkIs.via hb1)
    obtain ⟨x0, x1, x2, x3, x4, x5, x6, xl⟩ := X1.out.seven
    go_wp2
    go_ret
    exact ⟨rfl, via hb1⟩
  subst e2
  by_cases e3 : da ≤ 100
  case neg =>
    obtain rfl : fb = false := by rw [HZ.out]; exact decide_eq_false (fun h => e3 h.2.2.1)
    have hd3 : decide ((da : Int) ≤ 100) = false := decide_eq_false (by omega)
    clear HZ
    go_enter Tryz.func102, Tryz.ntmps102
    go_wp2_with fail
    refine (HR.out _).mono ?_
    rintro e w1 ⟨rfl, hb1⟩
    have X1 := Lib.hid (BlkIs.via hb1)
    obtain ⟨x0, x1, x2, x3, x4, x5, x6, xl⟩ := X1.out.seven
    go_wp2_with fail
    refine (HD1.out _).mono ?_
    rintro e w2 ⟨rfl, hb2⟩
    go_wp2
    go_ret
    exact ⟨rfl, then_ (via hb1) hb2⟩
  have hd3 : decide ((da : Int) ≤ 100) = true := decide_eq_true (by omega)
  by_cases e4 : db ≤ 100
  case neg =>
    obtain rfl : fb = false := by rw [HZ.out]; exact decide_eq_false (fun h => e4 h.2.2.2)
    have hd4 : decide ((db : Int) ≤ 100) = false := decide_eq_false (by omega)
    clear HZ
    go_enter Tryz.func102, Tryz.ntmps102
    go_wp2_with fail
    refine (HR.out _).mono ?_
    rintro e w1 ⟨rfl, hb1⟩
    have X1 := Lib.hid (BlkIs.via hb1)
    obtain ⟨x0, x1, x2, x3, x4, x5, x6, xl⟩ := X1.out.seven
    go_wp2_with fail
    refine (HD1.out _).mono ?_
    rintro e w2 ⟨rfl, hb2⟩
    go_wp2_with fail
    refine (HD2.out _).mono ?_
    rintro e w3 ⟨rfl, hb3⟩
    go_wp2
    go_ret
    exact ⟨rfl, then_ (then_ (via hb1) hb2) hb3⟩
  have hd4 : decide ((db : Int) ≤ 100) = true := decide_eq_true (by omega)
  obtain rfl : fb = true := by rw [HZ.out]; exact decide_eq_true ⟨rfl, rfl, e3, e4⟩
  clear HZ
  go_enter Tryz.func102, Tryz.ntmps102
  go_wp2_with fail
  refine (HR.out _).mono ?_
  rintro e w1 ⟨rfl, hb1⟩
  have X1 := Lib.hid (BlkIs.via hb1)
  obtain ⟨x0, x1, x2, x3, x4, x5, x6, xl⟩ := X1.out.seven
  go_wp2_with fail
  refine (HD1.out _).mono ?_
  rintro e w2 ⟨rfl, hb2⟩
  go_wp2_with fail
  refine (HD2.out _).mono ?_
  rintro e w3 ⟨rfl, hb3⟩
  go_wp2
  go_ret
  exact ⟨rfl, then_ (then_ (via hb1) hb2) hb3⟩
set_option maxHeartbeats 4000000 in
set_option maxRecDepth 100000 in
theorem rFormed_sym (xn xd xp xs xt : List UInt8) (xl : List Ob) (A : Option Addr) (n c : Nat) (w : World) (hlen : xl.length = n) (hn : n ≤ 9223372036854775807) (h1 : xp.length ≤ 9223372036854775807) (h2 : xs.length ≤ 9223372036854775807) :
    Calls Tryz.prog 102 #[objV ⟨2, xn, xd, xp, xs, xt, xl⟩ (.slice A n c)] w (RetBel (.bool (Ob.formB ⟨2, xn, xd, xp, xs, xt, xl⟩)) w) := by
  have HS : Hid (∀ w' : World, Calls Tryz.prog 127 #[.agg #[str xp, str xs]] w' (RetBel (.bool (symOk ⟨xp, xs⟩)) w')) := fun w' => ref2Named_any ⟨xp, xs⟩ w' h1 h2
  obtain ⟨fb, hfb⟩ : ∃ fb, fb = Ob.formB ⟨2, xn, xd, xp, xs, xt, xl⟩ := ⟨_, rfl⟩
  rw [← hfb]
  have HF : Hid (Ob.formB ⟨2, xn, xd, xp, xs, xt, xl⟩ = fb) := hfb.symm
  clear hfb h1 h2
  cases hb : symOk ⟨xp, xs⟩ with
  | false =>
    obtain rfl : fb = false := by rw [← HF.out, Ob.formB_eq]; simp [hb]
    rw [hb] at HS
    clear HF hlen hb
    by_cases hxp : xp = []
    · subst hxp
      by_cases hxs : xs = []
      · subst hxs
        go_enter Tryz.func102, Tryz.ntmps102
        go_wp2_with fail
        refine (HS.out _).mono ?_
        rintro e w1 ⟨rfl, hb1⟩
        go_wp2
        go_ret
        exact ⟨rfl, via hb1⟩
      · have hz' : (xs == []) = false := by rw [beq_eq_false_iff_ne]; exact hxs
        clear hxs
        go_enter Tryz.func102, Tryz.ntmps102
        go_wp2_with fail
        refine (HS.out _).mono ?_
        rintro e w1 ⟨rfl, hb1⟩
        go_wp2
        go_ret
        exact ⟨rfl, via hb1⟩
    · have hz' : (xp == []) = false := by rw [beq_eq_false_iff_ne]; exact hxp
      clear hxp
      go_enter Tryz.func102, Tryz.ntmps102
      go_wp2_with fail
      refine (HS.out _).mono ?_
      rintro e w1 ⟨rfl, hb1⟩
      go_wp2
      go_ret
      exact ⟨rfl, via hb1⟩
  | true =>
  have HB := Lib.hid hb
  rw [hb] at HS
  have hzp : (xp == []) = false := by
    rw [beq_eq_false_iff_ne]
    intro e
    subst e
    have h3 : symOk ⟨[], xs⟩ = false := by unfold symOk; rw [show pkgOk [] = false by decide]; rfl
    rw [h3] at hb
    cases hb
  clear hb
  by_cases hxn : xn = []
  case neg =>
    obtain rfl : fb = false := by rw [← HF.out, Ob.formB_eq]; simp only [show ¬ ((2 : Int) = 4) by decide, show ¬ ((2 : Int) = 1) by decide, if_false, if_true]; rw [Bool.eq_false_iff]; intro h; simp only [Bool.and_eq_true, decide_eq_true_eq] at h; exact hxn (by simp [h])
    have hz : (xn == []) = false := by rw [beq_eq_false_iff_ne]; exact hxn
    clear HF hxn hlen
    go_enter Tryz.func102, Tryz.ntmps102
    go_wp2_with fail
    refine (HS.out _).mono ?_
    rintro e w1 ⟨rfl, hb1⟩
    have X1 := Lib.hid (BlkIs.via hb1)
    obtain ⟨x0, x1, x2, x3, x4, x5, x6, xl⟩ := X1.out.seven
    go_wp2
    go_ret
    exact ⟨rfl, via hb1⟩
  subst hxn
  by_cases hxd : xd = []
  case neg =>
    obtain rfl : fb = false := by rw [← HF.out, Ob.formB_eq]; simp only [show ¬ ((2 : Int) = 4) by decide, show ¬ ((2 : Int) = 1) by decide, if_false, if_true]; rw [Bool.eq_false_iff]; intro h; simp only [Bool.and_eq_true, decide_eq_true_eq] at h; exact hxd (by simp [h])
    have hz : (xd == []) = false := by rw [beq_eq_false_iff_ne]; exact hxd
    clear HF hxd hlen
    go_enter Tryz.func102, Tryz.ntmps102
    go_wp2_with fail
    refine (HS.out _).mono ?_
    rintro e w1 ⟨rfl, hb1⟩
    have X1 := Lib.hid (BlkIs.via hb1)
    obtain ⟨x0, x1, x2, x3, x4, x5, x6, xl⟩ := X1.out.seven
    go_wp2
    go_ret
    exact ⟨rfl, via hb1⟩
  subst hxd
  by_cases hxt : xt = []
  case neg =>
    obtain rfl : fb = false := by rw [← HF.out, Ob.formB_eq]; simp only [show ¬ ((2 : Int) = 4) by decide, show ¬ ((2 : Int) = 1) by decide, if_false, if_true]; rw [Bool.eq_false_iff]; intro h; simp only [Bool.and_eq_true, decide_eq_true_eq] at h; exact hxt (by simp [h])
    have hz : (xt == []) = false := by rw [beq_eq_false_iff_ne]; exact hxt
    clear HF hxt hlen
    go_enter Tryz.func102, Tryz.ntmps102
    go_wp2_with fail
    refine (HS.out _).mono ?_
    rintro e w1 ⟨rfl, hb1⟩
    have X1 := Lib.hid (BlkIs.via hb1)
    obtain ⟨x0, x1, x2, x3, x4, x5, x6, xl⟩ := X1.out.seven
    go_wp2
    go_ret
    exact ⟨rfl, via hb1⟩
  subst hxt
  by_cases hn0 : n = 0
  case neg =>
    obtain rfl : fb = false := by rw [← HF.out, Ob.formB_eq]; simp only [show ¬ ((2 : Int) = 4) by decide, show ¬ ((2 : Int) = 1) by decide, if_false, if_true]; rw [Bool.eq_false_iff]; intro h; simp only [Bool.and_eq_true, decide_eq_true_eq] at h; exact hn0 (by rw [← hlen]; simp [h])
    have hz : ((n : Int) == 0) = false := by rw [beq_eq_false_iff_ne]; omega
    clear HF hn0 hlen
    go_enter Tryz.func102, Tryz.ntmps102
    go_wp2_with fail
    refine (HS.out _).mono ?_
    rintro e w1 ⟨rfl, hb1⟩
    have X1 := Lib.hid (BlkIs.via hb1)
    obtain ⟨x0, x1, x2, x3, x4, x5, x6, xl⟩ := X1.out.seven
    go_wp2
    go_ret
    exact ⟨rfl, via hb1⟩
  subst hn0
  obtain rfl : fb = true := by rw [← HF.out, Ob.formB_eq]; simp [hlen, HB.out]
  clear HF hlen
  go_enter Tryz.func102, Tryz.ntmps102
  go_wp2_with fail
  refine (HS.out _).mono ?_
  rintro e w1 ⟨rfl, hb1⟩
  have X1 := Lib.hid (BlkIs.via hb1)
  obtain ⟨x0, x1, x2, x3, x4, x5, x6, xl⟩ := X1.out.seven
  go_wp2
  go_ret
  exact ⟨rfl, via hb1⟩
set_option maxHeartbeats 4000000 in
set_option maxRecDepth 100000 in
theorem rFormed_txt (xn xd xp xs xt : List UInt8) (xl : List Ob) (A : Option Addr) (n c : Nat) (w : World) (hlen : xl.length = n) (hn : n ≤ 9223372036854775807) (h1 : xt.length ≤ 9223372036854775807) :
    Calls Tryz.prog 102 #[objV ⟨3, xn, xd, xp, xs, xt, xl⟩ (.slice A n c)] w (RetBel (.bool (Ob.formB ⟨3, xn, xd, xp, xs, xt, xl⟩)) w) := by
  obtain ⟨fb, hfb⟩ : ∃ fb, fb = Ob.formB ⟨3, xn, xd, xp, xs, xt, xl⟩ := ⟨_, rfl⟩
  rw [← hfb]
  have HF : Hid (Ob.formB ⟨3, xn, xd, xp, xs, xt, xl⟩ = fb) := hfb.symm
  clear hfb
  by_cases hxp : xp = []
  case neg =>
    obtain rfl : fb = false := by rw [← HF.out, Ob.formB_eq]; simp only [show ¬ ((3 : Int) = 4) by decide, show ¬ ((3 : Int) = 1) by decide, show ¬ ((3 : Int) = 2) by decide, if_false, if_true]; rw [Bool.eq_false_iff]; intro h; simp only [decide_eq_true_eq] at h; exact hxp (by simp [h])
    have hz : (xp == []) = false := by rw [beq_eq_false_iff_ne]; exact hxp
    clear HF hxp hlen
    go_enter Tryz.func102, Tryz.ntmps102
    go_wp2
    go_ret
    exact ⟨rfl, box _ _⟩
  subst hxp
  by_cases hxs : xs = []
  case neg =>
    obtain rfl : fb = false := by rw [← HF.out, Ob.formB_eq]; simp only [show ¬ ((3 : Int) = 4) by decide, show ¬ ((3 : Int) = 1) by decide, show ¬ ((3 : Int) = 2) by decide, if_false, if_true]; rw [Bool.eq_false_iff]; intro h; simp only [decide_eq_true_eq] at h; exact hxs (by simp [h])
    have hz : (xs == []) = false := by rw [beq_eq_false_iff_ne]; exact hxs
    clear HF hxs hlen
    go_enter Tryz.func102, Tryz.ntmps102
    go_wp2
    go_ret
    exact ⟨rfl, box _ _⟩
  subst hxs
  by_cases hxn : xn = []
  case neg =>
    obtain rfl : fb = false := by rw [← HF.out, Ob.formB_eq]; simp only [show ¬ ((3 : Int) = 4) by decide, show ¬ ((3 : Int) = 1) by decide, show ¬ ((3 : Int) = 2) by decide, if_false, if_true]; rw [Bool.eq_false_iff]; intro h; simp only [decide_eq_true_eq] at h; exact hxn (by simp [h])
    have hz : (xn == []) = false := by rw [beq_eq_false_iff_ne]; exact hxn
    clear HF hxn hlen
    go_enter Tryz.func102, Tryz.ntmps102
    go_wp2
    go_ret
    exact ⟨rfl, box _ _⟩
  subst hxn
  by_cases hxd : xd = []
  case neg =>
    obtain rfl : fb = false := by rw [← HF.out, Ob.formB_eq]; simp only [show ¬ ((3 : Int) = 4) by decide, show ¬ ((3 : Int) = 1) by decide, show ¬ ((3 : Int) = 2) by decide, if_false, if_true]; rw [Bool.eq_false_iff]; intro h; simp only [decide_eq_true_eq] at h; exact hxd (by simp [h])
    have hz : (xd == []) = false := by rw [beq_eq_false_iff_ne]; exact hxd
    clear HF hxd hlen
    go_enter Tryz.func102, Tryz.ntmps102
    go_wp2
    go_ret
    exact ⟨rfl, box _ _⟩
  subst hxd
  by_cases h200 : xt.length ≤ 200
  case neg =>
    obtain rfl : fb = false := by rw [← HF.out, Ob.formB_eq]; simp only [show ¬ ((3 : Int) = 4) by decide, show ¬ ((3 : Int) = 1) by decide, show ¬ ((3 : Int) = 2) by decide, if_false, if_true]; rw [Bool.eq_false_iff]; intro h; simp only [decide_eq_true_eq] at h; exact h200 (by simp [h])
    have hd2 : decide ((xt.length : Int) ≤ 200) = false := decide_eq_false (by omega)
    clear HF hlen
    go_enter Tryz.func102, Tryz.ntmps102
    go_wp2
    go_ret
    exact ⟨rfl, box _ _⟩
  have hd2 : decide ((xt.length : Int) ≤ 200) = true := decide_eq_true (by omega)
  by_cases hn0 : n = 0
  case neg =>
    obtain rfl : fb = false := by rw [← HF.out, Ob.formB_eq]; simp only [show ¬ ((3 : Int) = 4) by decide, show ¬ ((3 : Int) = 1) by decide, show ¬ ((3 : Int) = 2) by decide, if_false, if_true]; rw [Bool.eq_false_iff]; intro h; simp only [decide_eq_true_eq] at h; exact hn0 (by rw [← hlen]; simp [h])
    have hz : ((n : Int) == 0) = false := by rw [beq_eq_false_iff_ne]; omega
    clear HF hn0 hlen
    go_enter Tryz.func102, Tryz.ntmps102
    go_wp2
    go_ret
    exact ⟨rfl, box _ _⟩
  subst hn0
  obtain rfl : fb = true := by rw [← HF.out, Ob.formB_eq]; simp [hlen, h200]
  clear HF hlen
  go_enter Tryz.func102, Tryz.ntmps102
  go_wp2
  go_ret
  exact ⟨rfl, box _ _⟩
set_option maxHeartbeats 4000000 in
set_option maxRecDepth 100000 in
theorem rFormed_cons (ok : Nat → Prop) (xn xd xp xs xt : List UInt8) (xl : List Ob) (A : Option Addr) (n c : Nat) (w : World) (hP : Rd ok w (.slice A n c) (.row (xl.map Ob.enc))) (hn : n ≤ 9223372036854775807)
    (H : ∀ x ∈ xl, ∀ (A : Option Addr) (n c : Nat) (w' : World), Below w.heap.size w w' → Rd ok w (.slice A n c) (.row (x.pair.map Ob.enc)) → Calls Tryz.prog 102 #[objV x (.slice A n c)] w' (RetBel (.bool x.formB) w')) :
    Calls Tryz.prog 102 #[objV ⟨4, xn, xd, xp, xs, xt, xl⟩ (.slice A n c)] w (RetBel (.bool (Ob.formB ⟨4, xn, xd, xp, xs, xt, xl⟩)) w) := by
  have hlen : xl.length = n := by have := hP.len; rwa [List.length_map] at this
  have HH := Lib.hid H
  clear H
  obtain ⟨fb, hfb⟩ : ∃ fb, fb = Ob.formB ⟨4, xn, xd, xp, xs, xt, xl⟩ := ⟨_, rfl⟩
  rw [← hfb]
  have HF : Hid (Ob.formB ⟨4, xn, xd, xp, xs, xt, xl⟩ = fb) := hfb.symm
  clear hfb
  by_cases hxp : xp = []
  case neg =>
    obtain rfl : fb = false := by rw [← HF.out, Ob.formB_eq]; simp only [if_true]; rw [Bool.eq_false_iff]; intro h; simp only [Bool.and_eq_true, decide_eq_true_eq] at h; exact hxp (by simp [h])
    have hz : (xp == []) = false := by rw [beq_eq_false_iff_ne]; exact hxp
    clear HF hxp hlen
    go_enter Tryz.func102, Tryz.ntmps102
    go_wp2
    go_ret
    exact ⟨rfl, box _ _⟩
  subst hxp
  by_cases hxs : xs = []
  case neg =>
    obtain rfl : fb = false := by rw [← HF.out, Ob.formB_eq]; simp only [if_true]; rw [Bool.eq_false_iff]; intro h; simp only [Bool.and_eq_true, decide_eq_true_eq] at h; exact hxs (by simp [h])
    have hz : (xs == []) = false := by rw [beq_eq_false_iff_ne]; exact hxs
    clear HF hxs hlen
    go_enter Tryz.func102, Tryz.ntmps102
    go_wp2
    go_ret
    exact ⟨rfl, box _ _⟩
  subst hxs
  by_cases hxn : xn = []
  case neg =>
    obtain rfl : fb = false := by rw [← HF.out, Ob.formB_eq]; simp only [if_true]; rw [Bool.eq_false_iff]; intro h; simp only [Bool.and_eq_true, decide_eq_true_eq] at h; exact hxn (by simp [h])
    have hz : (xn == []) = false := by rw [beq_eq_false_iff_ne]; exact hxn
    clear HF hxn hlen
    go_enter Tryz.func102, Tryz.ntmps102
    go_wp2
    go_ret
    exact ⟨rfl, box _ _⟩
  subst hxn
  by_cases hxd : xd = []
  case neg =>
    obtain rfl : fb = false := by rw [← HF.out, Ob.formB_eq]; simp only [if_true]; rw [Bool.eq_false_iff]; intro h; simp only [Bool.and_eq_true, decide_eq_true_eq] at h; exact hxd (by simp [h])
    have hz : (xd == []) = false := by rw [beq_eq_false_iff_ne]; exact hxd
    clear HF hxd hlen
    go_enter Tryz.func102, Tryz.ntmps102
    go_wp2
    go_ret
    exact ⟨rfl, box _ _⟩
  subst hxd
  by_cases hxt : xt = []
  case neg =>
    obtain rfl : fb = false := by rw [← HF.out, Ob.formB_eq]; simp only [if_true]; rw [Bool.eq_false_iff]; intro h; simp only [Bool.and_eq_true, decide_eq_true_eq] at h; exact hxt (by simp [h])
    have hz : (xt == []) = false := by rw [beq_eq_false_iff_ne]; exact hxt
    clear HF hxt hlen
    go_enter Tryz.func102, Tryz.ntmps102
    go_wp2
    go_ret
    exact ⟨rfl, box _ _⟩
  subst hxt
  by_cases hn0 : n = 2
  case neg =>
    obtain rfl : fb = false := by rw [← HF.out, Ob.formB_eq]; simp only [if_true]; rw [Bool.eq_false_iff]; intro h; simp only [Bool.and_eq_true, decide_eq_true_eq] at h; exact hn0 (by rw [← hlen]; simp [h])
    have hz : ((n : Int) == 2) = false := by rw [beq_eq_false_iff_ne]; omega
    clear HF hn0 hlen
    go_enter Tryz.func102, Tryz.ntmps102
    go_wp2
    go_ret
    exact ⟨rfl, box _ _⟩
  subst hn0
  obtain ⟨a, d, rfl⟩ := Ob.two_of_length hlen
  have HF2 : Hid ((a.formB && d.formB) = fb) := by
    show _ = fb
    rw [← HF.out, Ob.formB_eq, if_pos rfl]
    simp [Ob.allB]
  clear HF hlen
  have b0 := box w (.cells (obCells ⟨4, [], [], [], [], [], [a, d]⟩ (.slice A 2 c)) 31)
  obtain ⟨b, q, _, A3, n3, c3, rfl, hbl, _, a0, a1, a2, a3, a4, a5, a6, ha⟩ := hP.objs b0 (i := 0) (by omega)
  simp only [List.getElem_cons_zero, Nat.zero_mul, Nat.add_zero] at a0 a1 a2 a3 a4 a5 a6 ha
  have hbl' := Nat.lt_of_lt_of_le hbl b0.size
  have HC : Hid (∀ w' : World, Below w.heap.size w w' → Calls Tryz.prog 102 #[objV a (.slice A3 n3 c3)] w' (RetBel (.bool a.formB) w')) := fun w' hb => HH.out a (by simp) A3 n3 c3 w' hb ha
  have X0 := Lib.hid (BlkIs.new w 31 (obCells ⟨4, [], [], [], [], [], [a, d]⟩ (.slice (some ⟨b, q, none⟩) 2 c)))
  generalize a.formB = ba at *
  go_enter Tryz.func102, Tryz.ntmps102
  go_wp2_with fail
  refine (HC.out _ b0).mono ?_
  rintro e w1 ⟨rfl, hb1⟩
  have b1 := then_ b0 hb1
  have X1 := Lib.hid (X0.out.below hb1)
  clear a0 a1 a2 a3 a4 a5 a6 X0
  cases ba with
  | false =>
    obtain rfl : fb = false := HF2.out.symm
    clear HF2
    go_wp2
    go_ret
    exact ⟨rfl, b1⟩
  | true =>
    obtain ⟨y0, y1, y2, y3, y4, y5, y6, yl⟩ := X1.out.seven
    obtain ⟨b', q', _, A4, n4, c4, eA, _, _, d0, d1, d2, d3, d4, d5, d6, hd⟩ := hP.objs b1 (i := 1) (by omega)
    injection eA with eA
    injection eA with eb eq
    subst eb eq
    simp only [List.getElem_cons_zero, List.getElem_cons_succ, Nat.one_mul] at d0 d1 d2 d3 d4 d5 d6 hd
    have hbl2 := Nat.lt_of_lt_of_le hbl b1.size
    have HC2 := Lib.hid (HH.out d (by simp) A4 n4 c4 w1 b1 hd)
    obtain rfl : fb = d.formB := HF2.out.symm
    generalize d.formB = bd at *
    clear HF2
    go_wp2_with fail
    refine HC2.out.mono ?_
    rintro e w2 ⟨rfl, hb2⟩
    go_wp2
    go_ret
    exact ⟨rfl, then_ b1 hb2⟩
set_option maxHeartbeats 4000000 in
theorem rFormed_else (k : Int) (xn xd xp xs xt : List UInt8) (xl : List Ob) (A : Option Addr) (n c : Nat) (w : World) (h1 : k ≠ 1) (h2 : k ≠ 2) (h3 : k ≠ 3) (h4 : k ≠ 4) :
    Calls Tryz.prog 102 #[objV ⟨k, xn, xd, xp, xs, xt, xl⟩ (.slice A n c)] w (RetBel (.bool (Ob.formB ⟨k, xn, xd, xp, xs, xt, xl⟩)) w) := by
  rw [Ob.formB_eq, if_neg h4, if_neg h1, if_neg h2, if_neg h3]
  have e1 : (k == 1) = false := by rw [beq_eq_false_iff_ne]; exact h1
  have e2 : (k == 2) = false := by rw [beq_eq_false_iff_ne]; exact h2
  have e3 : (k == 3) = false := by rw [beq_eq_false_iff_ne]; exact h3
  have e4 : (k == 4) = false := by rw [beq_eq_false_iff_ne]; exact h4
  clear h1 h2 h3 h4
  by_cases hxp : xp = []
  · subst hxp
    by_cases hxs : xs = []
    · subst hxs
      go_enter Tryz.func102, Tryz.ntmps102
      go_wp2
      go_ret
      exact ⟨rfl, box _ _⟩
    · have hz' : (xs == []) = false := by rw [beq_eq_false_iff_ne]; exact hxs
      clear hxs
      go_enter Tryz.func102, Tryz.ntmps102
      go_wp2
      go_ret
      exact ⟨rfl, box _ _⟩
  · have hz' : (xp == []) = false := by rw [beq_eq_false_iff_ne]; exact hxp
    clear hxp
    go_enter Tryz.func102, Tryz.ntmps102
    go_wp2
    go_ret
    exact ⟨rfl, box _ _⟩
theorem rFormed_any (ok : Nat → Prop) (o : Ob) : o.Wf → o.Sm → ∀ (A : Option Addr) (n c : Nat) (w : World), Rd ok w (.slice A n c) (.row (o.pair.map Ob.enc)) →
    Calls Tryz.prog 102 #[objV o (.slice A n c)] w (RetBel (.bool o.formB) w) := by
  induction o using Ob.ind with
  | step o ih =>
    intro hW hS A n c w hP
    have hlen : o.pair.length = n := by have := hP.len; rwa [List.length_map] at this
    have hn : n ≤ 9223372036854775807 := by rw [← hlen]; exact hW.len
    obtain ⟨k, xn, xd, xp, xs, xt, xl⟩ := o
    by_cases h4 : k = 4
    · subst h4
      exact rFormed_cons ok xn xd xp xs xt xl A n c w hP hn (fun x hx A n c w' hb h => ih x hx (hW.kids hx) (hS.kids hx) A n c w' (h.under hb))
    by_cases h1 : k = 1
    · subst h1
      exact rFormed_num xn xd xp xs xt xl A n c w hlen hn hS.len.1 hS.len.2
    by_cases h2 : k = 2
    · subst h2
      exact rFormed_sym xn xd xp xs xt xl A n c w hlen hn (by cases hW; assumption) (by cases hW; assumption)
    by_cases h3 : k = 3
    · subst h3
      exact rFormed_txt xn xd xp xs xt xl A n c w hlen hn (by cases hW; assumption)
    exact rFormed_else k xn xd xp xs xt xl A n c w h1 h2 h3 h4
set_option maxHeartbeats 1000000 in
theorem rValid_any (ok : Nat → Prop) (o : Ob) (hW : o.Wf) (hS : o.Sm) (A : Option Addr) (n c : Nat) (w : World) (hP : Rd ok w (.slice A n c) (.row (o.pair.map Ob.enc))) :
    Calls Tryz.prog 72 #[objV o (.slice A n c)] w (RetBel (.bool o.validB) w) := by
  have HN : Hid (∀ w' : World, Below w.heap.size w w' → Calls Tryz.prog 101 #[objV o (.slice A n c)] w' (RetBel (.int .i64 (nodesP o)) w')) := fun w' hb => rNodes_any ok o hW A n c w' (hP.under hb)
  have HF : Hid (∀ w' : World, Below w.heap.size w w' → Calls Tryz.prog 102 #[objV o (.slice A n c)] w' (RetBel (.bool o.formB) w')) := fun w' hb => rFormed_any ok o hW hS A n c w' (hP.under hb)
  unfold Ob.validB
  by_cases hk : o.nodes ≤ 3000
  · have hk' : nodesP o ≤ 3000 := by unfold nodesP; split <;> omega
    rw [decide_eq_true hk, Bool.true_and]
    generalize o.formB = fb at *
    generalize nodesP o = z at *
    clear hk
    go_enter Tryz.func72, Tryz.ntmps72
    go_wp2_with fail
    refine (HN.out _ (box _ _)).mono ?_
    rintro e w1 ⟨rfl, hb1⟩
    have X1 := Lib.hid (BlkIs.via hb1)
    obtain ⟨y0, y1, y2, y3, y4, y5, y6, yl⟩ := X1.out.seven
    go_wp2_with fail
    refine (HF.out _ (via hb1)).mono ?_
    rintro e w2 ⟨rfl, hb2⟩
    go_wp2
    go_ret
    exact ⟨rfl, then_ (via hb1) hb2⟩
  · have hk' : ¬ nodesP o ≤ 3000 := by unfold nodesP; split <;> omega
    rw [decide_eq_false hk, Bool.false_and]
    generalize nodesP o = z at *
    clear hk
    go_enter Tryz.func72, Tryz.ntmps72
    go_wp2_with fail
    refine (HN.out _ (box _ _)).mono ?_
    rintro e w1 ⟨rfl, hb1⟩
    go_wp2
    go_ret
    exact ⟨rfl, via hb1⟩
end Go.Proofs.YtgphkgmhcmffnaaGreatDoor
