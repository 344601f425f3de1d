/- The reference of objects: constructors and the small questions. -/
import Derived.Test.YtgphkgmhcmffnaaGreatDoorJU
import Derived.Test.YtgphkgmhcmffnaaGreatDoorJO
import Derived.Test.YtgphkgmhcmffnaaGreatDoorJR
namespace Go.Proofs.YtgphkgmhcmffnaaGreatDoor
open Go.RowKit

theorem divInt_one' (n : Int) : Rat.divInt n 1 = (n : Rat) := by
  have := Rat.num_divInt_den (n : Rat)
  rwa [Rat.num_intCast, Rat.den_intCast] at this
set_option maxHeartbeats 400000 in
theorem rLisp_any (l : List UInt8) (w : World) : Calls Tryz.prog 88 #[str l] w (RetBel (.agg #[str lispB, str l]) w) := by
  go_enter Tryz.func88, Tryz.ntmps88
  go_wp2
  exact bodyPost_ret (v := .agg #[str lispB, str l]) (by simp [results, Tryz.results88, go_sem]) rfl ⟨rfl, box _ _⟩
set_option maxHeartbeats 400000 in
theorem refFromInt_any (n : Int) (w : World) (ht : Tab w) (h0 : -9223372036854775808 ≤ n) (h1 : n ≤ 9223372036854775807) :
    Calls Tryz.prog 45 #[.int .i64 n] w (RetStr (Lib.itoa n) w) := by
  have HI := Lib.hid (itoa_any n w ht h0 h1)
  clear h0 h1
  go_enter Tryz.func45, Tryz.ntmps45
  go_wp2_with fail
  refine HI.out.mono ?_
  rintro e w1 ⟨rfl, hb⟩
  go_wp2
  go_ret
  exact ⟨rfl, hb⟩
set_option maxHeartbeats 400000 in
theorem rNil_any (w : World) : Calls Tryz.prog 89 #[] w (RetLeaf nilO w) := by
  go_enter Tryz.func89, Tryz.ntmps89
  go_wp2_with fail
  refine (rLisp_any nilB _).mono ?_
  rintro e w1 ⟨rfl, hb⟩
  go_wp2_with fail
  refine (rSymbol_any _ lispB nilB).mono ?_
  rintro e w2 ⟨rfl, hb2⟩
  have HB := Lib.hid ((BlkIs.via hb).below hb2)
  obtain ⟨u0, u1, u2, u3, u4, u5, u6, ul⟩ := HB.out.seven
  obtain ⟨uf0, uf1, uf2, uf3, uf4, uf5, uf6⟩ := HB.out.frozen7
  go_wp2
  exact ret_obj Tryz.results89 rfl HB.out.put7 rfl ⟨rfl, set7 (then_ (via hb) hb2) (Nat.le_refl _) _ _ _ _ _ _ _⟩
set_option maxHeartbeats 400000 in
theorem rRational_any (a b : List UInt8) (w : World) (ha : a.length ≤ 1100000) (hb : b.length ≤ 1100000) : Calls Tryz.prog 44 #[str a, str b] w (RetLeaf (numO (Lib.itoa (rdN (Dec.dval a) (Dec.dval b))) (Lib.itoa (rdD (Dec.dval a) (Dec.dval b)))) w) := by
  have HF := Lib.hid (fun w' (_ : Below w.heap.size w w') => refReduce_any a b w' ha hb)
  clear ha hb
  generalize Lib.itoa (rdN (Dec.dval a) (Dec.dval b)) = n at *
  generalize Lib.itoa (rdD (Dec.dval a) (Dec.dval b)) = d at *
  go_enter Tryz.func44, Tryz.ntmps44
  go_wp2_with fail
  refine (HF.out _ (box _ _)).mono ?_
  rintro e w1 ⟨rfl, hb⟩
  have HB := Lib.hid (BlkIs.via hb)
  obtain ⟨u0, u1, u2, u3, u4, u5, u6, hu⟩ := HB.out.seven
  obtain ⟨f0, f1, f2, f3, f4, f5, f6⟩ := HB.out.frozen7
  go_wp2
  exact ret_obj Tryz.results44 rfl HB.out.put7 rfl ⟨rfl, set7 (via hb) (Nat.le_refl _) _ _ _ _ _ _ _⟩
theorem rRationalQ (a b : List UInt8) (w : World) (ha : a.length ≤ 1100000) (hb : b.length ≤ 1100000) : Calls Tryz.prog 44 #[str a, str b] w (RetLeaf (ratO (Rat.divInt (Dec.dval a) (Dec.dval b))) w) := by
  have := rRational_any a b w ha hb
  rwa [(rd_rat _ _).1, (rd_rat _ _).2] at this
set_option maxHeartbeats 400000 in
theorem rCons_any (ok : Nat → Prop) (a d : Ob) (A A' : Option Addr) (n n' c c' : Nat) (w : World) (ha : Rd ok w (.slice A n c) (.row (a.pair.map Ob.enc))) (hd : Rd ok w (.slice A' n' c') (.row (d.pair.map Ob.enc))) :
    Calls Tryz.prog 30 #[objV a (.slice A n c), objV d (.slice A' n' c')] w (RetObj ok (consO a d) w) := by
  go_enter Tryz.func30, Tryz.ntmps30
  go_wp2
  exact ret_obj Tryz.results30 rfl ((BlkIs.new2 w _ _ _ _).alloc _) rfl (cons_ret ok a d A A' n n' c c' w ha hd)
set_option maxHeartbeats 400000 in
theorem rIsCons_any (o : Ob) (A : Option Addr) (n c : Nat) (w : World) (hn : n ≤ 9223372036854775807) :
    Calls Tryz.prog 95 #[objV o (.slice A n c)] w (RetBel (.bool (decide (o.kind = 4 ∧ n = 2))) w) := by
  by_cases hk : o.kind = 4
  · by_cases h2 : n = 2
    · rw [decide_eq_true ⟨hk, h2⟩]
      obtain ⟨k, nm, d, p, s, t, l⟩ := o
      dsimp only at hk
      subst hk h2
      go_enter Tryz.func95, Tryz.ntmps95
      go_wp2
      go_ret
      exact ⟨rfl, box _ _⟩
    · rw [decide_eq_false (fun h => h2 h.2)]
      obtain ⟨k, nm, d, p, s, t, l⟩ := o
      dsimp only at hk
      subst hk
      have hn2 : ((n : Int) == 2) = false := by rw [beq_eq_false_iff_ne]; omega
      clear h2
      go_enter Tryz.func95, Tryz.ntmps95
      go_wp2
      go_ret
      exact ⟨rfl, box _ _⟩
  · rw [decide_eq_false (fun h => hk h.1)]
    obtain ⟨k, nm, d, p, s, t, l⟩ := o
    dsimp only at hk
    have hn2 : (k == 4) = false := by rw [beq_eq_false_iff_ne]; exact hk
    clear hk
    go_enter Tryz.func95, Tryz.ntmps95
    go_wp2
    go_ret
    exact ⟨rfl, box _ _⟩
set_option maxHeartbeats 400000 in
theorem rInt_any (n : Int) (w : World) (ht : Tab w) (h0 : -9223372036854775808 ≤ n) (h1 : n ≤ 9223372036854775807) : Calls Tryz.prog 15 #[.int .i64 n] w (RetLeaf (ratO (n : Rat)) w) := by
  have HF := Lib.hid (fun w' (hb : Below w.heap.size w w') => refFromInt_any n w' (ht.below hb) h0 h1)
  have hl : (Lib.itoa n).length ≤ 20 := itoa_length_any n (k := 19) (by omega) (by omega)
  have HR : Hid (∀ w' : World, Calls Tryz.prog 44 #[str (Lib.itoa n), str [49]] w' (RetLeaf (ratO (n : Rat)) w')) := fun w' => by
    have := rRationalQ (Lib.itoa n) [49] w' (by omega) (by decide)
    rwa [Dec.dval_itoa, show Dec.dval [49] = 1 by decide +kernel, divInt_one'] at this
  unfold ratO at HR ⊢
  clear h0 h1 hl
  generalize Lib.itoa (n : Rat).num = l1 at *
  generalize Lib.itoa ((n : Rat).den : Int) = l2 at *
  generalize Lib.itoa n = ln at *
  go_enter Tryz.func15, Tryz.ntmps15
  go_wp2_with fail
  refine (HF.out _ (box _ _)).mono ?_
  rintro e w1 ⟨rfl, hb⟩
  go_wp2_with fail
  refine (HR.out _).mono ?_
  rintro e w2 ⟨rfl, hb2⟩
  have HB := Lib.hid ((BlkIs.via hb).below hb2)
  obtain ⟨u0, u1, u2, u3, u4, u5, u6, ul⟩ := HB.out.seven
  obtain ⟨uf0, uf1, uf2, uf3, uf4, uf5, uf6⟩ := HB.out.frozen7
  go_wp2
  exact ret_obj Tryz.results15 rfl HB.out.put7 rfl ⟨rfl, set7 (then_ (via hb) hb2) (Nat.le_refl _) _ _ _ _ _ _ _⟩
set_option maxHeartbeats 2000000 in
set_option maxRecDepth 100000 in
theorem rList_any (ok : Nat → Prop) (l : List Ob) (A : Option Addr) (n c : Nat) (w : World) (h : Rd ok w (.slice A n c) (.row (l.map Ob.enc))) (hn : n ≤ 1000000) :
    Calls Tryz.prog 56 #[.slice A n c] w (RetObj ok (listO l) w) := by
  have HL := Lib.hid h.len
  go_enter Tryz.func56, Tryz.ntmps56
  go_wp2_with fail
  refine (rNil_any _).mono ?_
  rintro e w1 ⟨rfl, hb1⟩
  have R1 := Lib.hid (BlkIs.via hb1)
  have b1 : Below w.heap.size w w1 := via hb1
  have hsz := R1.out.lt
  clear hb1
  go_wp2
  go_loopw [4] (fun ix wr => ∃ (j : Nat) (o : Ob) (Ao : Option Addr) (no co : Nat), j ≤ n ∧ ix = .int .i64 ((j : Int) - 1) ∧ Hid (o = listO (l.drop j)) ∧ Hid (BlkIs wr w.heap.size 31 zeroCells) ∧ Hid (BlkIs wr w1.heap.size 31 (obCells o (.slice Ao no co))) ∧ Rd (fun b => (ok b ∧ b < w.heap.size) ∨ w1.heap.size < b) wr (.slice Ao no co) (.row (o.pair.map Ob.enc)) ∧ Below w.heap.size w wr) (fun ix _ => (intOf ix + 1).toNat)
  case atStart => exact ⟨n, nilO, none, 0, 0, Nat.le_refl _, rfl, Lib.hid (by rw [List.drop_of_length_le (by have := HL.out; rw [List.length_map] at this; omega)]; rfl), Lib.hid (R1.out.alloc _), Lib.hid (BlkIs.new w1 _ _), .nil _ _, box2 b1 _⟩
  case round =>
    obtain ⟨j, o, Ao, no, co, hj, rfl, HO, R, X, hr, hb⟩ := hrel
    clear b1 R1
    have hgs := X.out.lt
    obtain ⟨x0, x1, x2, x3, x4, x5, x6, xl⟩ := X.out.seven
    obtain ⟨xf0, xf1, xf2, xf3, xf4, xf5, xf6⟩ := X.out.frozen7
    rcases Nat.eq_zero_or_pos j with h0 | h0
    · subst h0
      obtain ⟨r0, r1, r2, r3, r4, r5, r6, rl⟩ := R.out.seven
      obtain ⟨rf0, rf1, rf2, rf3, rf4, rf5, rf6⟩ := R.out.frozen7
      go_wp2
      have e : o = listO l := by rw [HO.out]; rfl
      refine ret_obj Tryz.results56 rfl R.out.put7 rfl ⟨Ao, no, co, by rw [← e], ?_, set7 hb (Nat.le_refl _) _ _ _ _ _ _ _⟩
      rw [← e]
      refine Rd.mono (hr.far7 (g := w.heap.size) (fun b hb' => by omega) _ _ _ _ _ _ _) (fun b hb' _ => ?_)
      rcases hb' with h1 | h1
      · exact .inl h1.1
      · exact .inr (by omega)
    · obtain ⟨b, q, hil, A3, n3, c3, rfl, hbl, hok, a0, a1, a2, a3, a4, a5, a6, ha⟩ := h.objs hb (i := j - 1) (by omega)
      have hbl' := Nat.lt_of_lt_of_le hbl hb.size
      have HS := Lib.hid (drop_cons hil)
      have hi1 : (0 : Int) ≤ (j : Int) - 1 := by omega
      have hi2 : (j : Int) - 1 < n := by omega
      have hi3 : ((j : Int) - 1).toNat = j - 1 := by omega
      have ha' : Rd (fun b => (ok b ∧ b < w.heap.size) ∨ w1.heap.size < b) wr.drew (.slice A3 n3 c3) (.row ((l[j - 1]).pair.map Ob.enc)) := (((ha.mono fun b h1 h2 => ⟨h1, h2⟩ : Rd (fun b => ok b ∧ b < w.heap.size) w _ _).under hb).mono fun b h1 _ => .inl h1).drew
      have HC := Lib.hid (rCons_any (fun b => (ok b ∧ b < w.heap.size) ∨ w1.heap.size < b) l[j - 1] o A3 Ao n3 no c3 co wr.drew ha' hr.drew)
      have hbd := hb.drew
      go_upto_region 5 with (fail)
      go_still_tail 5, (by kernel_rfl)
      go_wp2_with fail
      refine HC.out.mono ?_
      rintro e v ⟨A5, n5, c5, rfl, hr5, hb5⟩
      have X5 := Lib.hid (X.out.drew.below hb5)
      have R5 := Lib.hid (R.out.drew.below hb5)
      have hv := hb5.size
      have hb5' := then_ hbd hb5
      clear x0 xf0 x1 xf1 x2 xf2 x3 xf3 x4 xf4 x5 xf5 x6 xf6 a0 a1 a2 a3 a4 a5 a6
      obtain ⟨y0, y1, y2, y3, y4, y5, y6, yl⟩ := X5.out.seven
      obtain ⟨yf0, yf1, yf2, yf3, yf4, yf5, yf6⟩ := X5.out.frozen7
      go_wp2
      go_roundw
      case rel =>
        refine ⟨j - 1, consO l[j - 1] o, A5, n5, c5, by omega, by go_num, Lib.hid ?_, Lib.hid (R5.out.far7 (by omega) _ _ _ _ _ _ _), Lib.hid X5.out.put7, ?_, set7 hb5' (by omega) _ _ _ _ _ _ _⟩
        · have := HS.out
          rw [Nat.sub_add_cancel h0, ← HO.out] at this
          exact this.symm
        · refine (hr5.mono (fun b h1 _ => ?_)).far7 (fun b h1 => by omega) _ _ _ _ _ _ _
          rcases h1 with h1 | h1
          · exact h1
          · right
            have : wr.drew.heap.size = wr.heap.size := rfl
            omega
      case measure => simp only [intOf]; omega
end Go.Proofs.YtgphkgmhcmffnaaGreatDoor
/- The reference of objects: Equal, IsNil. -/
namespace Go.Proofs.YtgphkgmhcmffnaaGreatDoor
open Go.RowKit

theorem all_eq {l m : List Ob} {n : Nat} (hl : l.length = n) (hm : m.length = n) (h : ∀ j (h1 : j < l.length) (h2 : j < m.length), j < n → l[j] = m[j]) : l = m := by
  apply List.ext_getElem (by omega)
  intro i h1 h2
  exact h i h1 h2 (by omega)
set_option maxHeartbeats 8000000 in
set_option maxRecDepth 100000 in
theorem rEqual_any (ok ok' : Nat → Prop) : ∀ (N : Nat) (a b : Ob), a.size ≤ N → a.Wf → ∀ (A A' : Option Addr) (n n' c c' : Nat) (w : World), Rd ok w (.slice A n c) (.row (a.pair.map Ob.enc)) → Rd ok' w (.slice A' n' c') (.row (b.pair.map Ob.enc)) →
    Calls Tryz.prog 19 #[objV a (.slice A n c), objV b (.slice A' n' c')] w (RetEq (a = b) w) := by
  intro N
  induction N with
  | zero => intro a b h; have := Ob.size_pos a; omega
  | succ N ih =>
    intro a b hN hW A A' n n' c c' w hx hy
    obtain ⟨P, HP⟩ : ∃ P : Prop, Hid (P ↔ a = b) := ⟨_, Lib.hid Iff.rfl⟩
    rw [show (a = b) = P from propext HP.out.symm]
    obtain ⟨xk, xn, xd, xp, xs, xt, xl⟩ := a
    obtain ⟨yk, yn, yd, yp, ys, yt, yl⟩ := b
    have hxl := hx.len
    have hyl := hy.len
    rw [List.length_map] at hxl hyl
    have hw1 := hW.len
    dsimp only at hxl hyl hw1
    by_cases hk : xk = yk
    case neg =>
      have hz : (xk != yk) = true := by rw [bne_iff_ne]; exact hk
      have HF : Hid (¬ P) := fun e => hk (by have e1 := HP.out.1 e; injection e1)
      clear hk hxl hyl
      go_enter Tryz.func19, Tryz.ntmps19
      go_wp2
      go_ret
      exact ⟨false, rfl, iff_no HF.out, box2 (box _ _) _⟩
    subst hk
    by_cases hn : xn = yn
    case neg =>
      have hz : (xn == yn) = false := by rw [beq_eq_false_iff_ne]; exact hn
      have HF : Hid (¬ P) := fun e => hn (by have e1 := HP.out.1 e; injection e1)
      clear hn hxl hyl
      go_enter Tryz.func19, Tryz.ntmps19
      go_wp2
      go_ret
      exact ⟨false, rfl, iff_no HF.out, box2 (box _ _) _⟩
    subst hn
    by_cases hd : xd = yd
    case neg =>
      have hz : (xd == yd) = false := by rw [beq_eq_false_iff_ne]; exact hd
      have HF : Hid (¬ P) := fun e => hd (by have e1 := HP.out.1 e; injection e1)
      clear hd hxl hyl
      go_enter Tryz.func19, Tryz.ntmps19
      go_wp2
      go_ret
      exact ⟨false, rfl, iff_no HF.out, box2 (box _ _) _⟩
    subst hd
    by_cases hp : xp = yp
    case neg =>
      have hz : (xp == yp) = false := by rw [beq_eq_false_iff_ne]; exact hp
      have HF : Hid (¬ P) := fun e => hp (by have e1 := HP.out.1 e; injection e1)
      clear hp hxl hyl
      go_enter Tryz.func19, Tryz.ntmps19
      go_wp2
      go_ret
      exact ⟨false, rfl, iff_no HF.out, box2 (box _ _) _⟩
    subst hp
    by_cases hs : xs = ys
    case neg =>
      have hz : (xs == ys) = false := by rw [beq_eq_false_iff_ne]; exact hs
      have HF : Hid (¬ P) := fun e => hs (by have e1 := HP.out.1 e; injection e1)
      clear hs hxl hyl
      go_enter Tryz.func19, Tryz.ntmps19
      go_wp2
      go_ret
      exact ⟨false, rfl, iff_no HF.out, box2 (box _ _) _⟩
    subst hs
    by_cases ht : xt = yt
    case neg =>
      have hz : (xt == yt) = false := by rw [beq_eq_false_iff_ne]; exact ht
      have HF : Hid (¬ P) := fun e => ht (by have e1 := HP.out.1 e; injection e1)
      clear ht hxl hyl
      go_enter Tryz.func19, Tryz.ntmps19
      go_wp2
      go_ret
      exact ⟨false, rfl, iff_no HF.out, box2 (box _ _) _⟩
    subst ht
    by_cases hl : n = n'
    case neg =>
      have hz : ((n : Int) != (n' : Int)) = true := by rw [bne_iff_ne]; omega
      have HF : Hid (¬ P) := fun e => hl (by have e1 := HP.out.1 e; injection e1 with _ _ _ _ _ _ e2; rw [← hxl, ← hyl, e2])
      clear hl hxl hyl
      go_enter Tryz.func19, Tryz.ntmps19
      go_wp2
      go_ret
      exact ⟨false, rfl, iff_no HF.out, box2 (box _ _) _⟩
    subst hl
    have HXL := Lib.hid hxl
    have HYL := Lib.hid hyl
    rw [hxl] at hw1
    clear hxl hyl
    go_enter Tryz.func19, Tryz.ntmps19
    go_wp2
    go_loopw [5] (fun ix wq => ∃ i : Nat, i ≤ n ∧ ix = .int .i64 i ∧ Hid (∀ j (h1 : j < xl.length) (h2 : j < yl.length), j < i → xl[j] = yl[j]) ∧ Hid (BlkIs wq w.heap.size 31 (obCells ⟨xk, xn, xd, xp, xs, xt, xl⟩ (.slice A n c))) ∧ Hid (BlkIs wq (w.heap.size + 1) 31 (obCells ⟨xk, xn, xd, xp, xs, xt, yl⟩ (.slice A' n c'))) ∧ Below w.heap.size w wq) (fun ix _ => n - (intOf ix).toNat)
    case atStart => exact ⟨0, Nat.zero_le _, rfl, Lib.hid (fun j _ _ h => absurd h (by omega)), Lib.hid ((BlkIs.new w _ _).alloc _), Lib.hid (BlkIs.new1 w _ _ _), box2 (box _ _) _⟩
    case round =>
      obtain ⟨i, hi, rfl, HJ, HX, HY, hb⟩ := hrel
      obtain ⟨u0, u1, u2, u3, u4, u5, u6, hu⟩ := HX.out.seven
      obtain ⟨v0, v1, v2, v3, v4, v5, v6, hv⟩ := HY.out.seven
      by_cases hin : i < n
      · obtain ⟨p1, q1, hil, A4, n4, c4, rfl, hp1, _, a0, a1, a2, a3, a4, a5, a6, ha⟩ := hx.objs hb (i := i) hin
        obtain ⟨p2, q2, hil', A5, n5, c5, rfl, hp2, _, b0, b1, b2, b3, b4, b5, b6, hb'⟩ := hy.objs hb (i := i) hin
        have hp1' := Nat.lt_of_lt_of_le hp1 hb.size
        have hp2' := Nat.lt_of_lt_of_le hp2 hb.size
        have hsz := Ob.size_pair (o := ⟨xk, xn, xd, xp, xs, xt, xl⟩) (x := xl[i]) (List.getElem_mem hil)
        have hwf := hW.kids (x := xl[i]) (List.getElem_mem hil)
        have HC : Hid (∀ wd : World, Below w.heap.size w wd → Calls Tryz.prog 19 #[objV xl[i] (.slice A4 n4 c4), objV yl[i] (.slice A5 n5 c5)] wd (RetEq (xl[i] = yl[i]) wd)) := fun wd hd => ih xl[i] yl[i] (by omega) hwf A4 A5 n4 n5 c4 c5 wd (ha.under hd) (hb'.under hd)
        have hi1 : (0 : Int) ≤ (i : Int) := by omega
        have hi2 : (i : Int) < n := by omega
        have hbd := hb.drew
        go_upto_region 6 with (fail)
        go_still_tail 10, (by kernel_rfl)
        go_wp2_with fail
        refine (HC.out _ hbd).mono ?_
        rintro e w1 ⟨bb, rfl, hbb, hb1⟩
        have hbw1 := then_ hbd hb1
        cases bb with
        | false =>
          have HF : Hid (¬ P) := fun e => by
            have e1 := HP.out.1 e
            injection e1 with _ _ _ _ _ _ e2
            have := hbb.2 (by subst e2; rfl)
            cases this
          clear hbb
          go_wp2
          go_ret
          exact ⟨false, rfl, iff_no HF.out, hbw1⟩
        | true =>
          have HE := Lib.hid (hbb.1 rfl)
          clear hbb
          go_wp2
          go_roundw
          case rel => exact ⟨i + 1, by omega, by go_num, Lib.hid (fun j h1 h2 h => by
            rcases Nat.lt_or_ge j i with h3 | h3
            · exact HJ.out j h1 h2 h3
            · obtain rfl : j = i := by omega
              exact HE.out), Lib.hid (HX.out.drew.below hb1), Lib.hid (HY.out.drew.below hb1), hbw1⟩
          case measure => simp only [intOf]; omega
      · obtain rfl : i = n := by omega
        have HT : Hid P := HP.out.2 (by
          rw [all_eq HXL.out HYL.out HJ.out])
        go_wp2
        go_ret
        exact ⟨true, rfl, iff_yes HT.out, hb⟩
theorem rEqual_yes {ok ok' : Nat → Prop} {a : Ob} (hw : a.Wf) {A A' : Option Addr} {n n' c c' : Nat} {w : World} (ha : Rd ok w (.slice A n c) (.row (a.pair.map Ob.enc))) (hb : Rd ok' w (.slice A' n' c') (.row (a.pair.map Ob.enc))) :
    Calls Tryz.prog 19 #[objV a (.slice A n c), objV a (.slice A' n' c')] w (RetBel (.bool true) w) :=
  (rEqual_any ok ok' a.size a a (Nat.le_refl _) hw A A' n n' c c' w ha hb).mono fun _ _ ⟨b, h1, h2, h3⟩ => ⟨by rw [h1, h2.2 rfl], h3⟩
end Go.Proofs.YtgphkgmhcmffnaaGreatDoor
/- The reference of objects: IsNil, IsInteger, Fix. -/
namespace Go.Proofs.YtgphkgmhcmffnaaGreatDoor
open Go.RowKit

theorem nil_wf : nilO.Wf := .mk _ (by decide) (by decide) (by decide) (by decide) (by decide) (by decide) (by decide) (by decide) (fun x hx => by cases hx)
set_option maxHeartbeats 400000 in
theorem rFix_any (o : Ob) (q : Rat) (hv : Val o q) (A : Option Addr) (n c : Nat) (hn : o.pair.length = n) (w : World) (ht : Tab w) : Calls Tryz.prog 96 #[objV o (.slice A n c)] w (RetNum q w) := by
  rcases hv with ⟨hk, rfl⟩ | ⟨hk, rfl⟩
  · obtain rfl : n = 0 := by rw [← hn]; rfl
    clear hk hn
    generalize Lib.itoa q.num = ln at *
    generalize Lib.itoa (q.den : Int) = ld at *
    go_enter Tryz.func96, Tryz.ntmps96
    go_wp2
    exact ret_obj Tryz.results96 rfl (BlkIs.new1 w _ _ _) rfl ⟨A, c, rfl, box2 (box _ _) _⟩
  · obtain ⟨k, nm, d, p, s, t, l⟩ := o
    dsimp only at hk
    have hz : (k == 1) = false := by rw [beq_eq_false_iff_ne]; exact hk
    clear hk hn
    have HI : Hid (∀ w' : World, Below w.heap.size w w' → Calls Tryz.prog 15 #[.int .i64 0] w' (RetLeaf (numO (Lib.itoa (0 : Rat).num) (Lib.itoa ((0 : Rat).den : Int))) w')) := fun w' hb => by
      exact rInt_any 0 w' (ht.below hb) (by omega) (by omega)
    unfold RetNum
    generalize Lib.itoa (0 : Rat).num = ln at *
    generalize Lib.itoa ((0 : Rat).den : Int) = ld at *
    go_enter Tryz.func96, Tryz.ntmps96
    go_wp2_with fail
    refine (HI.out _ (box2 (box _ _) _)).mono ?_
    rintro e w1 ⟨rfl, hb⟩
    have HB := Lib.hid ((BlkIs.new1 w _ _ _).below hb)
    obtain ⟨u0, u1, u2, u3, u4, u5, u6, hu⟩ := HB.out.seven
    obtain ⟨f0, f1, f2, f3, f4, f5, f6⟩ := HB.out.frozen7
    go_wp2
    exact ret_obj Tryz.results96 rfl HB.out.put7 rfl ⟨none, 0, rfl, set7 (via (via hb)) (Nat.le_succ _) _ _ _ _ _ _ _⟩
end Go.Proofs.YtgphkgmhcmffnaaGreatDoor
