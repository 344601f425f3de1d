/- The reference of objects: constructors and the small questions. -/
import Derived.Test.YtendgffijciehaaGreatDoorEB
import Derived.Test.YtendgffijciehaaGreatDoorEA
import Derived.Deep.RegionHeld3
import Derived.Lib.SmallJoins
import Derived.Test.YtendgffijciehaaGreatDoorCards
import Derived.Test.YtendgffijciehaaGreatDoorTie
import Derived.ProofKit
import Derived.OpenShut
import Derived.ShutString
import Derived.Deep.DeepHandedRow
import Derived.Deep.DeepWitnessRowRef
import Derived.Lib.ItoaNum
import Derived.Lib.LaidTab
import Derived.LaidSub
import Derived.Orders
namespace Go.Proofs.YtendgffijciehaaGreatDoor
open Go.RowKit

theorem divInt_one' (n : Int) : Rat.divInt n 1 = (n : Rat) := by
  have := Rat.num_divInt_den (n : Rat)
  rwa [Rat.num_intCast, Rat.den_intCast] at this
set_option maxHeartbeats 400000 in
theorem rLisp_any (l : List UInt8) (w : World) : Calls Tryz.prog 51 #[str l] w (RetBel (.agg #[str lispB, str l]) w) := by
  go_enter Tryz.func51, Tryz.ntmps51
  go_wp2
  exact bodyPost_ret (v := .agg #[str lispB, str l]) (by simp [results, Tryz.results51, go_sem]) rfl ⟨rfl, box _ _⟩
set_option maxHeartbeats 400000 in
theorem refFromInt_any (n : Int) (w : World) (ht : Tab w) (h0 : -9223372036854775808 ≤ n) (h1 : n ≤ 9223372036854775807) :
    Calls Tryz.prog 70 #[.int .i64 n] w (RetStr (Lib.itoa n) w) := by
  have HI := Lib.hid (itoa_any n w ht h0 h1)
  clear h0 h1
  go_enter Tryz.func70, Tryz.ntmps70
  go_wp2_with fail
  refine HI.out.mono ?_
  rintro e w1 ⟨rfl, hb⟩
  go_wp2
  go_ret
  exact ⟨rfl, hb⟩
set_option maxHeartbeats 400000 in
theorem rNil_any (w : World) : Calls Tryz.prog 17 #[] w (RetLeaf nilO w) := by
  go_enter Tryz.func17, Tryz.ntmps17
  go_wp2_with fail
  refine (rLisp_any nilB _).mono ?_
  rintro e w1 ⟨rfl, hb⟩
  go_wp2_with fail
  refine (rSymbol_any _ lispB nilB).mono ?_
  rintro e w2 ⟨rfl, hb2⟩
  have HB := Lib.hid ((BlkIs.via hb).below hb2)
  obtain ⟨u0, u1, u2, u3, u4, u5, u6, ul⟩ := HB.out.seven
  obtain ⟨uf0, uf1, uf2, uf3, uf4, uf5, uf6⟩ := HB.out.frozen7
  go_wp2
  exact ret_obj Tryz.results17 rfl HB.out.put7 rfl ⟨rfl, set7 (then_ (via hb) hb2) (Nat.le_refl _) _ _ _ _ _ _ _⟩
set_option maxHeartbeats 400000 in
theorem rRational_any (a b : List UInt8) (w : World) (ha : a.length ≤ 1100000) (hb : b.length ≤ 1100000) : Calls Tryz.prog 69 #[str a, str b] w (RetLeaf (numO (Lib.itoa (rdN (Dec.dval a) (Dec.dval b))) (Lib.itoa (rdD (Dec.dval a) (Dec.dval b)))) w) := by
  have HF := Lib.hid (fun w' (_ : Below w.heap.size w w') => refReduce_any a b w' ha hb)
  clear ha hb
  generalize Lib.itoa (rdN (Dec.dval a) (Dec.dval b)) = n at *
  generalize Lib.itoa (rdD (Dec.dval a) (Dec.dval b)) = d at *
  go_enter Tryz.func69, Tryz.ntmps69
  go_wp2_with fail
  refine (HF.out _ (box _ _)).mono ?_
  rintro e w1 ⟨rfl, hb⟩
  have HB := Lib.hid (BlkIs.via hb)
  obtain ⟨u0, u1, u2, u3, u4, u5, u6, hu⟩ := HB.out.seven
  obtain ⟨f0, f1, f2, f3, f4, f5, f6⟩ := HB.out.frozen7
  go_wp2
  exact ret_obj Tryz.results69 rfl HB.out.put7 rfl ⟨rfl, set7 (via hb) (Nat.le_refl _) _ _ _ _ _ _ _⟩
theorem rRationalQ (a b : List UInt8) (w : World) (ha : a.length ≤ 1100000) (hb : b.length ≤ 1100000) : Calls Tryz.prog 69 #[str a, str b] w (RetLeaf (ratO (Rat.divInt (Dec.dval a) (Dec.dval b))) w) := by
  have := rRational_any a b w ha hb
  rwa [(rd_rat _ _).1, (rd_rat _ _).2] at this
set_option maxHeartbeats 400000 in
theorem rCons_any (ok : Nat → Prop) (a d : Ob) (A A' : Option Addr) (n n' c c' : Nat) (w : World) (ha : Rd ok w (.slice A n c) (.row (a.pair.map Ob.enc))) (hd : Rd ok w (.slice A' n' c') (.row (d.pair.map Ob.enc))) :
    Calls Tryz.prog 125 #[objV a (.slice A n c), objV d (.slice A' n' c')] w (RetObj ok (consO a d) w) := by
  go_enter Tryz.func125, Tryz.ntmps125
  go_wp2
  exact ret_obj Tryz.results125 rfl ((BlkIs.new2 w _ _ _ _).alloc _) rfl (cons_ret ok a d A A' n n' c c' w ha hd)
set_option maxHeartbeats 400000 in
theorem rIsCons_any (o : Ob) (A : Option Addr) (n c : Nat) (w : World) (hn : n ≤ 9223372036854775807) :
    Calls Tryz.prog 119 #[objV o (.slice A n c)] w (RetBel (.bool (decide (o.kind = 4 ∧ n = 2))) w) := by
  by_cases hk : o.kind = 4
  · by_cases h2 : n = 2
    · rw [decide_eq_true ⟨hk, h2⟩]
      obtain ⟨k, nm, d, p, s, t, l⟩ := o
      dsimp only at hk
      subst hk h2
      go_enter Tryz.func119, Tryz.ntmps119
      go_wp2
      go_ret
      exact ⟨rfl, box _ _⟩
    · rw [decide_eq_false (fun h => h2 h.2)]
      obtain ⟨k, nm, d, p, s, t, l⟩ := o
      dsimp only at hk
      subst hk
      have hn2 : ((n : Int) == 2) = false := by rw [beq_eq_false_iff_ne]; omega
      clear h2
      go_enter Tryz.func119, Tryz.ntmps119
      go_wp2
      go_ret
      exact ⟨rfl, box _ _⟩
  · rw [decide_eq_false (fun h => hk h.1)]
    obtain ⟨k, nm, d, p, s, t, l⟩ := o
    dsimp only at hk
    have hn2 : (k == 4) = false := by rw [beq_eq_false_iff_ne]; exact hk
    clear hk
    go_enter Tryz.func119, Tryz.ntmps119
    go_wp2
    go_ret
    exact ⟨rfl, box _ _⟩
set_option maxHeartbeats 400000 in
theorem rInt_any (n : Int) (w : World) (ht : Tab w) (h0 : -9223372036854775808 ≤ n) (h1 : n ≤ 9223372036854775807) : Calls Tryz.prog 40 #[.int .i64 n] w (RetLeaf (ratO (n : Rat)) w) := by
  have HF := Lib.hid (fun w' (hb : Below w.heap.size w w') => refFromInt_any n w' (ht.below hb) h0 h1)
  have hl : (Lib.itoa n).length ≤ 20 := itoa_length_any n (k := 19) (by omega) (by omega)
  have HR : Hid (∀ w' : World, Calls Tryz.prog 69 #[str (Lib.itoa n), str [49]] w' (RetLeaf (ratO (n : Rat)) w')) := fun w' => by
    have := rRationalQ (Lib.itoa n) [49] w' (by omega) (by decide)
    rwa [Dec.dval_itoa, show Dec.dval [49] = 1 by decide +kernel, divInt_one'] at this
  unfold ratO at HR ⊢
  clear h0 h1 hl
  generalize Lib.itoa (n : Rat).num = l1 at *
  generalize Lib.itoa ((n : Rat).den : Int) = l2 at *
  generalize Lib.itoa n = ln at *
  go_enter Tryz.func40, Tryz.ntmps40
  go_wp2_with fail
  refine (HF.out _ (box _ _)).mono ?_
  rintro e w1 ⟨rfl, hb⟩
  go_wp2_with fail
  refine (HR.out _).mono ?_
  rintro e w2 ⟨rfl, hb2⟩
  have HB := Lib.hid ((BlkIs.via hb).below hb2)
  obtain ⟨u0, u1, u2, u3, u4, u5, u6, ul⟩ := HB.out.seven
  obtain ⟨uf0, uf1, uf2, uf3, uf4, uf5, uf6⟩ := HB.out.frozen7
  go_wp2
  exact ret_obj Tryz.results40 rfl HB.out.put7 rfl ⟨rfl, set7 (then_ (via hb) hb2) (Nat.le_refl _) _ _ _ _ _ _ _⟩
set_option maxHeartbeats 2000000 in
set_option maxRecDepth 100000 in
theorem rList_any (ok : Nat → Prop) (l : List Ob) (A : Option Addr) (n c : Nat) (w : World) (h : Rd ok w (.slice A n c) (.row (l.map Ob.enc))) (hn : n ≤ 1000000) :
    Calls Tryz.prog 126 #[.slice A n c] w (RetObj ok (listO l) w) := by
  have HL := Lib.hid h.len
  go_enter Tryz.func126, Tryz.ntmps126
  go_wp2_with fail
  refine (rNil_any _).mono ?_
  rintro e w1 ⟨rfl, hb1⟩
  have R1 := Lib.hid (BlkIs.via hb1)
  have b1 : Below w.heap.size w w1 := via hb1
  have hsz := R1.out.lt
  clear hb1
  go_wp2
  go_loopw [4] (fun ix wr => ∃ (j : Nat) (o : Ob) (Ao : Option Addr) (no co : Nat), j ≤ n ∧ ix = .int .i64 ((j : Int) - 1) ∧ Hid (o = listO (l.drop j)) ∧ Hid (BlkIs wr w.heap.size 35 zeroCells) ∧ Hid (BlkIs wr w1.heap.size 35 (obCells o (.slice Ao no co))) ∧ Rd (fun b => (ok b ∧ b < w.heap.size) ∨ w1.heap.size < b) wr (.slice Ao no co) (.row (o.pair.map Ob.enc)) ∧ Below w.heap.size w wr) (fun ix _ => (intOf ix + 1).toNat)
  case atStart => exact ⟨n, nilO, none, 0, 0, Nat.le_refl _, rfl, Lib.hid (by rw [List.drop_of_length_le (by have := HL.out; rw [List.length_map] at this; omega)]; rfl), Lib.hid (R1.out.alloc _), Lib.hid (BlkIs.new w1 _ _), .nil _ _, box2 b1 _⟩
  case round =>
    obtain ⟨j, o, Ao, no, co, hj, rfl, HO, R, X, hr, hb⟩ := hrel
    clear b1 R1
    have hgs := X.out.lt
    obtain ⟨x0, x1, x2, x3, x4, x5, x6, xl⟩ := X.out.seven
    obtain ⟨xf0, xf1, xf2, xf3, xf4, xf5, xf6⟩ := X.out.frozen7
    rcases Nat.eq_zero_or_pos j with h0 | h0
    · subst h0
      obtain ⟨r0, r1, r2, r3, r4, r5, r6, rl⟩ := R.out.seven
      obtain ⟨rf0, rf1, rf2, rf3, rf4, rf5, rf6⟩ := R.out.frozen7
      go_wp2
      have e : o = listO l := by rw [HO.out]; rfl
      refine ret_obj Tryz.results126 rfl R.out.put7 rfl ⟨Ao, no, co, by rw [← e], ?_, set7 hb (Nat.le_refl _) _ _ _ _ _ _ _⟩
      rw [← e]
      refine Rd.mono (hr.far7 (g := w.heap.size) (fun b hb' => by omega) _ _ _ _ _ _ _) (fun b hb' _ => ?_)
      rcases hb' with h1 | h1
      · exact .inl h1.1
      · exact .inr (by omega)
    · obtain ⟨b, q, hil, A3, n3, c3, rfl, hbl, hok, a0, a1, a2, a3, a4, a5, a6, ha⟩ := h.objs hb (i := j - 1) (by omega)
      have hbl' := Nat.lt_of_lt_of_le hbl hb.size
      have HS := Lib.hid (drop_cons hil)
      have hi1 : (0 : Int) ≤ (j : Int) - 1 := by omega
      have hi2 : (j : Int) - 1 < n := by omega
      have hi3 : ((j : Int) - 1).toNat = j - 1 := by omega
      have ha' : Rd (fun b => (ok b ∧ b < w.heap.size) ∨ w1.heap.size < b) wr.drew (.slice A3 n3 c3) (.row ((l[j - 1]).pair.map Ob.enc)) := (((ha.mono fun b h1 h2 => ⟨h1, h2⟩ : Rd (fun b => ok b ∧ b < w.heap.size) w _ _).under hb).mono fun b h1 _ => .inl h1).drew
      have HC := Lib.hid (rCons_any (fun b => (ok b ∧ b < w.heap.size) ∨ w1.heap.size < b) l[j - 1] o A3 Ao n3 no c3 co wr.drew ha' hr.drew)
      have hbd := hb.drew
      go_upto_region 5 with (fail)
      go_still_tail 5, (by kernel_rfl)
      go_wp2_with fail
      refine HC.out.mono ?_
      rintro e v ⟨A5, n5, c5, rfl, hr5, hb5⟩
      have X5 := Lib.hid (X.out.drew.below hb5)
      have R5 := Lib.hid (R.out.drew.below hb5)
      have hv := hb5.size
      have hb5' := then_ hbd hb5
      clear x0 xf0 x1 xf1 x2 xf2 x3 xf3 x4 xf4 x5 xf5 x6 xf6 a0 a1 a2 a3 a4 a5 a6
      obtain ⟨y0, y1, y2, y3, y4, y5, y6, yl⟩ := X5.out.seven
      obtain ⟨yf0, yf1, yf2, yf3, yf4, yf5, yf6⟩ := X5.out.frozen7
      go_wp2
      go_roundw
      case rel =>
        refine ⟨j - 1, consO l[j - 1] o, A5, n5, c5, by omega, by go_num, Lib.hid ?_, Lib.hid (R5.out.far7 (by omega) _ _ _ _ _ _ _), Lib.hid X5.out.put7, ?_, set7 hb5' (by omega) _ _ _ _ _ _ _⟩
        · have := HS.out
          rw [Nat.sub_add_cancel h0, ← HO.out] at this
          exact this.symm
        · refine (hr5.mono (fun b h1 _ => ?_)).far7 (fun b h1 => by omega) _ _ _ _ _ _ _
          rcases h1 with h1 | h1
          · exact h1
          · right
            have : wr.drew.heap.size = wr.heap.size := rfl
            omega
      case measure => simp only [intOf]; omega
end Go.Proofs.YtendgffijciehaaGreatDoor
/- The reference of objects: Equal, IsNil. -/
namespace Go.Proofs.YtendgffijciehaaGreatDoor
open Go.RowKit

theorem all_eq {l m : List Ob} {n : Nat} (hl : l.length = n) (hm : m.length = n) (h : ∀ j (h1 : j < l.length) (h2 : j < m.length), j < n → l[j] = m[j]) : l = m := by
  apply List.ext_getElem (by omega)
  intro i h1 h2
  exact h i h1 h2 (by omega)
set_option maxHeartbeats 8000000 in
set_option maxRecDepth 100000 in
theorem rEqual_any (ok ok' : Nat → Prop) : ∀ (N : Nat) (a b : Ob), a.size ≤ N → a.Wf → ∀ (A A' : Option Addr) (n n' c c' : Nat) (w : World), Rd ok w (.slice A n c) (.row (a.pair.map Ob.enc)) → Rd ok' w (.slice A' n' c') (.row (b.pair.map Ob.enc)) →
    Calls Tryz.prog 60 #[objV a (.slice A n c), objV b (.slice A' n' c')] w (RetEq (a = b) w) := by
  intro N
  induction N with
  | zero => intro a b h; have := Ob.size_pos a; omega
  | succ N ih =>
    intro a b hN hW A A' n n' c c' w hx hy
    obtain ⟨P, HP⟩ : ∃ P : Prop, Hid (P ↔ a = b) := ⟨_, Lib.hid Iff.rfl⟩
    rw [show (a = b) = P from propext HP.out.symm]
    obtain ⟨xk, xn, xd, xp, xs, xt, xl⟩ := a
    obtain ⟨yk, yn, yd, yp, ys, yt, yl⟩ := b
    have hxl := hx.len
    have hyl := hy.len
    rw [List.length_map] at hxl hyl
    have hw1 := hW.len
    dsimp only at hxl hyl hw1
    by_cases hk : xk = yk
    case neg =>
      have hz : (xk != yk) = true := by rw [bne_iff_ne]; exact hk
      have HF : Hid (¬ P) := fun e => hk (by have e1 := HP.out.1 e; injection e1)
      clear hk hxl hyl
      go_enter Tryz.func60, Tryz.ntmps60
      go_wp2
      go_ret
      exact ⟨false, rfl, iff_no HF.out, box2 (box _ _) _⟩
    subst hk
    by_cases hn : xn = yn
    case neg =>
      have hz : (xn == yn) = false := by rw [beq_eq_false_iff_ne]; exact hn
      have HF : Hid (¬ P) := fun e => hn (by have e1 := HP.out.1 e; injection e1)
      clear hn hxl hyl
      go_enter Tryz.func60, Tryz.ntmps60
      go_wp2
      go_ret
      exact ⟨false, rfl, iff_no HF.out, box2 (box _ _) _⟩
    subst hn
    by_cases hd : xd = yd
    case neg =>
      have hz : (xd == yd) = false := by rw [beq_eq_false_iff_ne]; exact hd
      have HF : Hid (¬ P) := fun e => hd (by have e1 := HP.out.1 e; injection e1)
      clear hd hxl hyl
      go_enter Tryz.func60, Tryz.ntmps60
      go_wp2
      go_ret
      exact ⟨false, rfl, iff_no HF.out, box2 (box _ _) _⟩
    subst hd
    by_cases hp : xp = yp
    case neg =>
      have hz : (xp == yp) = false := by rw [beq_eq_false_iff_ne]; exact hp
      have HF : Hid (¬ P) := fun e => hp (by have e1 := HP.out.1 e; injection e1)
      clear hp hxl hyl
      go_enter Tryz.func60, Tryz.ntmps60
      go_wp2
      go_ret
      exact ⟨false, rfl, iff_no HF.out, box2 (box _ _) _⟩
    subst hp
    by_cases hs : xs = ys
    case neg =>
      have hz : (xs == ys) = false := by rw [beq_eq_false_iff_ne]; exact hs
      have HF : Hid (¬ P) := fun e => hs (by have e1 := HP.out.1 e; injection e1)
      clear hs hxl hyl
      go_enter Tryz.func60, Tryz.ntmps60
      go_wp2
      go_ret
      exact ⟨false, rfl, iff_no HF.out, box2 (box _ _) _⟩
    subst hs
    by_cases ht : xt = yt
    case neg =>
      have hz : (xt == yt) = false := by rw [beq_eq_false_iff_ne]; exact ht
      have HF : Hid (¬ P) := fun e => ht (by have e1 := HP.out.1 e; injection e1)
      clear ht hxl hyl
      go_enter Tryz.func60, Tryz.ntmps60
      go_wp2
      go_ret
      exact ⟨false, rfl, iff_no HF.out, box2 (box _ _) _⟩
    subst ht
    by_cases hl : n = n'
    case neg =>
      have hz : ((n : Int) != (n' : Int)) = true := by rw [bne_iff_ne]; omega
      have HF : Hid (¬ P) := fun e => hl (by have e1 := HP.out.1 e; injection e1 with _ _ _ _ _ _ e2; rw [← hxl, ← hyl, e2])
      clear hl hxl hyl
      go_enter Tryz.func60, Tryz.ntmps60
      go_wp2
      go_ret
      exact ⟨false, rfl, iff_no HF.out, box2 (box _ _) _⟩
    subst hl
    have HXL := Lib.hid hxl
    have HYL := Lib.hid hyl
    rw [hxl] at hw1
    clear hxl hyl
    go_enter Tryz.func60, Tryz.ntmps60
    go_wp2
    go_loopw [5] (fun ix wq => ∃ i : Nat, i ≤ n ∧ ix = .int .i64 i ∧ Hid (∀ j (h1 : j < xl.length) (h2 : j < yl.length), j < i → xl[j] = yl[j]) ∧ Hid (BlkIs wq w.heap.size 35 (obCells ⟨xk, xn, xd, xp, xs, xt, xl⟩ (.slice A n c))) ∧ Hid (BlkIs wq (w.heap.size + 1) 35 (obCells ⟨xk, xn, xd, xp, xs, xt, yl⟩ (.slice A' n c'))) ∧ Below w.heap.size w wq) (fun ix _ => n - (intOf ix).toNat)
    case atStart => exact ⟨0, Nat.zero_le _, rfl, Lib.hid (fun j _ _ h => absurd h (by omega)), Lib.hid ((BlkIs.new w _ _).alloc _), Lib.hid (BlkIs.new1 w _ _ _), box2 (box _ _) _⟩
    case round =>
      obtain ⟨i, hi, rfl, HJ, HX, HY, hb⟩ := hrel
      obtain ⟨u0, u1, u2, u3, u4, u5, u6, hu⟩ := HX.out.seven
      obtain ⟨v0, v1, v2, v3, v4, v5, v6, hv⟩ := HY.out.seven
      by_cases hin : i < n
      · obtain ⟨p1, q1, hil, A4, n4, c4, rfl, hp1, _, a0, a1, a2, a3, a4, a5, a6, ha⟩ := hx.objs hb (i := i) hin
        obtain ⟨p2, q2, hil', A5, n5, c5, rfl, hp2, _, b0, b1, b2, b3, b4, b5, b6, hb'⟩ := hy.objs hb (i := i) hin
        have hp1' := Nat.lt_of_lt_of_le hp1 hb.size
        have hp2' := Nat.lt_of_lt_of_le hp2 hb.size
        have hsz := Ob.size_pair (o := ⟨xk, xn, xd, xp, xs, xt, xl⟩) (x := xl[i]) (List.getElem_mem hil)
        have hwf := hW.kids (x := xl[i]) (List.getElem_mem hil)
        have HC : Hid (∀ wd : World, Below w.heap.size w wd → Calls Tryz.prog 60 #[objV xl[i] (.slice A4 n4 c4), objV yl[i] (.slice A5 n5 c5)] wd (RetEq (xl[i] = yl[i]) wd)) := fun wd hd => ih xl[i] yl[i] (by omega) hwf A4 A5 n4 n5 c4 c5 wd (ha.under hd) (hb'.under hd)
        have hi1 : (0 : Int) ≤ (i : Int) := by omega
        have hi2 : (i : Int) < n := by omega
        have hbd := hb.drew
        go_upto_region 6 with (fail)
        go_still_tail 10, (by kernel_rfl)
        go_wp2_with fail
        refine (HC.out _ hbd).mono ?_
        rintro e w1 ⟨bb, rfl, hbb, hb1⟩
        have hbw1 := then_ hbd hb1
        cases bb with
        | false =>
          have HF : Hid (¬ P) := fun e => by
            have e1 := HP.out.1 e
            injection e1 with _ _ _ _ _ _ e2
            have := hbb.2 (by subst e2; rfl)
            cases this
          clear hbb
          go_wp2
          go_ret
          exact ⟨false, rfl, iff_no HF.out, hbw1⟩
        | true =>
          have HE := Lib.hid (hbb.1 rfl)
          clear hbb
          go_wp2
          go_roundw
          case rel => exact ⟨i + 1, by omega, by go_num, Lib.hid (fun j h1 h2 h => by
            rcases Nat.lt_or_ge j i with h3 | h3
            · exact HJ.out j h1 h2 h3
            · obtain rfl : j = i := by omega
              exact HE.out), Lib.hid (HX.out.drew.below hb1), Lib.hid (HY.out.drew.below hb1), hbw1⟩
          case measure => simp only [intOf]; omega
      · obtain rfl : i = n := by omega
        have HT : Hid P := HP.out.2 (by
          rw [all_eq HXL.out HYL.out HJ.out])
        go_wp2
        go_ret
        exact ⟨true, rfl, iff_yes HT.out, hb⟩
end Go.Proofs.YtendgffijciehaaGreatDoor
/- The reference of objects: IsNil, IsInteger, Fix. -/
namespace Go.Proofs.YtendgffijciehaaGreatDoor
open Go.RowKit

set_option maxHeartbeats 1000000 in
set_option maxRecDepth 100000 in
theorem rIsNil_any (ok : Nat → Prop) (o : Ob) (hw : o.Wf) (A : Option Addr) (n c : Nat) (w : World) (h : Rd ok w (.slice A n c) (.row (o.pair.map Ob.enc))) : Calls Tryz.prog 59 #[objV o (.slice A n c)] w (RetEq (o = nilO) w) := by
  have HE : Hid (∀ w' : World, Below w.heap.size w w' → Calls Tryz.prog 60 #[objV o (.slice A n c), objV nilO (.slice none 0 0)] w' (RetEq (o = nilO) w')) := fun w' hb => rEqual_any ok (fun _ => True) o.size o nilO (Nat.le_refl _) hw A none n 0 c 0 w' (h.under hb) (.nil _ _)
  generalize (o = nilO) = P at *
  go_enter Tryz.func59, Tryz.ntmps59
  go_upto_region 1 with (fail)
  have X0' := Lib.hid (BlkIs.new w 35 (obCells o (.slice A n c)))
  have b0 := (box w (.cells (obCells o (.slice A n c)) 35)).drew
  generalize w.alloc (.cells (obCells o (.slice A n c)) 35) = W at *
  have X0 := Lib.hid X0'.out.drew
  obtain ⟨xs0, xs1, xs2, xs3, xs4, xs5, xs6, xsl⟩ := X0'.out.seven
  go_region_held3 (fun w' => w'.cell? ⟨w.heap.size, 0, none⟩ = some (.int .i64 o.kind) ∧ w'.cell? ⟨w.heap.size, 1, none⟩ = some (str o.num) ∧ w'.cell? ⟨w.heap.size, 2, none⟩ = some (str o.den) ∧ w'.cell? ⟨w.heap.size, 3, none⟩ = some (str o.sp) ∧ w'.cell? ⟨w.heap.size, 4, none⟩ = some (str o.sn) ∧ w'.cell? ⟨w.heap.size, 5, none⟩ = some (str o.text) ∧ w'.cell? ⟨w.heap.size, 6, none⟩ = some (.slice A n c)) (go_keep)
    (first | (go_at_call 17; ((with_reducible refine (rNil_any _).mono ?_)); rintro e v1 ⟨rfl, hb1⟩; have b1 := then_ b0 hb1; have X1 := Lib.hid (X0.out.below hb1); obtain ⟨xc1_0, xc1_1, xc1_2, xc1_3, xc1_4, xc1_5, xc1_6, xc1_l⟩ := X1.out.seven) | (go_at_call 60; ((with_reducible refine (HE.out _ b1).mono ?_)); rintro e v2 ⟨bb, rfl, hbb, hb2⟩; have b2 := then_ b1 hb2; have X2 := Lib.hid (X1.out.below hb2); obtain ⟨xc2_0, xc2_1, xc2_2, xc2_3, xc2_4, xc2_5, xc2_6, xc2_l⟩ := X2.out.seven))
  go_wp2
  go_ret
  exact ⟨bb, rfl, hbb, b2⟩
end Go.Proofs.YtendgffijciehaaGreatDoor
/- Which objects are formed and valid, how many nodes they have: package object and the reference, for any object. -/
namespace Go.Proofs.YtendgffijciehaaGreatDoor
open Go.RowKit

abbrev dg (l : List UInt8) : Nat := (Dec.mag (norm l)).length
/-- a fraction in lowest terms within the limits -/
def lowB (n d : List UInt8) : Bool := decide (Lib.itoa (rdN (Dec.dval n) (Dec.dval d)) = n ∧ Lib.itoa (rdD (Dec.dval n) (Dec.dval d)) = d ∧ dg n ≤ 100 ∧ dg d ≤ 100)
namespace Ob
mutual
def formB : Ob → Bool
  | ⟨k, n, d, p, s, t, l⟩ =>
    if k = 4 then decide (n = [] ∧ d = [] ∧ p = [] ∧ s = [] ∧ t = [] ∧ l.length = 2) && allB l
    else if k = 1 then decide (p = [] ∧ s = [] ∧ t = [] ∧ l.length = 0) && lowB n d
    else if k = 2 then decide (n = [] ∧ d = [] ∧ t = [] ∧ l.length = 0) && symOk ⟨p, s⟩
    else if k = 3 then decide (n = [] ∧ d = [] ∧ p = [] ∧ s = [] ∧ t.length ≤ 200 ∧ l.length = 0)
    else false
def allB : List Ob → Bool
  | [] => true
  | o :: r => formB o && allB r
end
theorem formB_eq (k : Int) (n d p s t : List UInt8) (l : List Ob) : formB ⟨k, n, d, p, s, t, l⟩ = (if k = 4 then decide (n = [] ∧ d = [] ∧ p = [] ∧ s = [] ∧ t = [] ∧ l.length = 2) && allB l
    else if k = 1 then decide (p = [] ∧ s = [] ∧ t = [] ∧ l.length = 0) && lowB n d
    else if k = 2 then decide (n = [] ∧ d = [] ∧ t = [] ∧ l.length = 0) && symOk ⟨p, s⟩
    else if k = 3 then decide (n = [] ∧ d = [] ∧ p = [] ∧ s = [] ∧ t.length ≤ 200 ∧ l.length = 0)
    else false) := by rw [formB]
/-- numerals of at most B letters, all the way down -/
inductive Sm : Ob → Prop
  | mk (o : Ob) (hn : o.num.length ≤ 1100000) (hd : o.den.length ≤ 1100000) (h : ∀ x ∈ o.pair, Sm x) : Sm o
theorem Sm.kids {o x : Ob} (h : o.Sm) (hx : x ∈ o.pair) : x.Sm := by
  cases h with
  | mk _ _ _ h => exact h x hx
theorem Sm.len {o : Ob} (h : o.Sm) : o.num.length ≤ 1100000 ∧ o.den.length ≤ 1100000 := by
  cases h with
  | mk _ a b _ => exact ⟨a, b⟩
end Ob
/-- valid: not too many nodes, and formed -/
def Ob.validB (o : Ob) : Bool := decide (o.nodes ≤ 3000) && o.formB
end Go.Proofs.YtendgffijciehaaGreatDoor
/- Valid symbols and package names: symbol.Valid, ValidPackage, lispproverref4.Valid, ValidPackage; what they reach of package object. -/
namespace Go.Proofs.YtendgffijciehaaGreatDoor
open Go.RowKit

abbrev symAgg (s : Sy) : Value := .agg #[str s.pkg, str s.name]

/-! ### symbol.Valid, ValidPackage -/
set_option maxHeartbeats 400000 in
theorem ref2Named_any (s : Sy) (w : World) (hp : s.pkg.length ≤ 9223372036854775807) (hn : s.name.length ≤ 9223372036854775807) : Calls Tryz.prog 185 #[symAgg s] w (RetBel (.bool (symOk s)) w) := by
  obtain ⟨l, m⟩ := s
  have HF : Hid (∀ (w' : World) (b : Bool), pkgOk l = b → Calls Tryz.prog 196 #[str l] w' (RetPureV (.bool b) w')) := fun w' b hb => by
    have := ref2Package_any l w' hp
    rwa [hb] at this
  dsimp only at hp hn ⊢
  cases h : pkgOk l with
  | false =>
    have HR : Hid (symOk ⟨l, m⟩ = false) := by show _ = _; unfold symOk; rw [h]; rfl
    have HH := Lib.hid h
    clear h
    go_enter Tryz.func185, Tryz.ntmps185
    go_wp2_with fail
    refine (HF.out _ _ HH.out).mono ?_
    rintro e w1 ⟨rfl, rfl⟩
    go_wp2
    go_ret
    exact ⟨by rw [HR.out]; rfl, box _ _⟩
  | true =>
    have HR : Hid (symOk ⟨l, m⟩ = nameOk m) := by show _ = _; unfold symOk; rw [h]; rfl
    have HH := Lib.hid h
    clear h
    by_cases h1 : 1 ≤ m.length
    · by_cases h2 : m.length ≤ 40
      · have HN : Hid (nameOk m = true) := by show _ = _; unfold nameOk; simp; omega
        have hd : decide ((m.length : Int) ≤ 40) = true := by simp; omega
        go_enter Tryz.func185, Tryz.ntmps185
        go_wp2_with fail
        refine (HF.out _ _ HH.out).mono ?_
        rintro e w1 ⟨rfl, rfl⟩
        go_wp2
        go_ret
        exact ⟨by rw [HR.out, HN.out]; rfl, box _ _⟩
      · have HN := Lib.hid (nameOk_len (l := m) (.inr (by omega)))
        have hd : decide ((m.length : Int) ≤ 40) = false := by simp; omega
        go_enter Tryz.func185, Tryz.ntmps185
        go_wp2_with fail
        refine (HF.out _ _ HH.out).mono ?_
        rintro e w1 ⟨rfl, rfl⟩
        go_wp2
        go_ret
        exact ⟨by rw [HR.out, HN.out]; rfl, box _ _⟩
    · have HN := Lib.hid (nameOk_len (l := m) (.inl (by omega)))
      have hd : decide (1 ≤ (m.length : Int)) = false := by simp; omega
      go_enter Tryz.func185, Tryz.ntmps185
      go_wp2_with fail
      refine (HF.out _ _ HH.out).mono ?_
      rintro e w1 ⟨rfl, rfl⟩
      go_wp2
      go_ret
      exact ⟨by rw [HR.out, HN.out]; rfl, box _ _⟩
set_option maxHeartbeats 400000 in
theorem ref4Valid_any (s : Sy) (w : World) (hp : s.pkg.length ≤ 9223372036854775807) (hn : s.name.length ≤ 9223372036854775807) : Calls Tryz.prog 170 #[symAgg s] w (RetBel (.bool (symOk s)) w) := by
  have HF : Hid (∀ w' : World, Calls Tryz.prog 185 #[symAgg s] w' (RetBel (.bool (symOk s)) w')) := fun w' => ref2Named_any s w' hp hn
  go_enter Tryz.func170, Tryz.ntmps170
  go_wp2_with fail
  refine (HF.out _).mono ?_
  rintro e w2 ⟨rfl, hb2⟩
  go_wp2
  go_ret
  exact ⟨rfl, via hb2⟩
end Go.Proofs.YtendgffijciehaaGreatDoor
/- The reference's count, Nodes, formed, Valid, for any object. -/
namespace Go.Proofs.YtendgffijciehaaGreatDoor
open Go.RowKit

set_option maxHeartbeats 2000000 in
set_option maxRecDepth 100000 in
theorem count_any (ok : Nat → Prop) : ∀ (N : Nat) (o : Ob), o.size ≤ N → o.Wf → ∀ (A : Option Addr) (n c L : Nat) (w : World), Rd ok w (.slice A n c) (.row (o.pair.map Ob.enc)) → 1 ≤ L → L ≤ 3001 →
    Calls Tryz.prog 140 #[objV o (.slice A n c), .int .i64 L] w (RetBel (.int .i64 (min o.nodes L : Nat)) w) := by
  intro N
  induction N with
  | zero => intro o h; have := Ob.size_pos o; omega
  | succ N ih =>
    intro o hN hW A n c L w hP hL0 hL1
    have hlen := hP.len
    rw [List.length_map] at hlen
    have hn : n ≤ 9223372036854775807 := by rw [← hlen]; exact hW.len
    by_cases h2 : n = 2
    case neg =>
      have hz : ((n : Int) != 2) = true := by rw [bne_iff_ne]; omega
      have e : min o.nodes L = 1 := by rw [Ob.nodes_one (by omega)]; omega
      rw [e]
      clear hlen e h2
      go_enter Tryz.func140, Tryz.ntmps140
      go_wp2
      go_ret
      exact ⟨rfl, box _ _⟩
    subst h2
    by_cases h1 : L ≤ 1
    · have e : min o.nodes L = 1 := by have := o.nodes_pos; omega
      rw [e]
      clear hlen e
      go_enter Tryz.func140, Tryz.ntmps140
      go_wp2
      go_ret
      exact ⟨rfl, box _ _⟩
    obtain ⟨a, d, had⟩ := Ob.two_of_length hlen
    have hsa := Ob.size_pair (o := o) (x := a) (by rw [had]; simp)
    have hsd := Ob.size_pair (o := o) (x := d) (by rw [had]; simp)
    have HWa := Lib.hid (hW.kids (x := a) (by rw [had]; simp))
    have HWd := Lib.hid (hW.kids (x := d) (by rw [had]; simp))
    have HND := Lib.hid (Ob.nodes_two had)
    have pa := a.nodes_pos
    have pd := d.nodes_pos
    obtain ⟨z, hz⟩ : ∃ z : Nat, z = min o.nodes L := ⟨_, rfl⟩
    rw [← hz]
    have HZ := Lib.hid hz
    clear hz
    rw [had] at hP
    have b0 := box w (.cells (obCells o (.slice A 2 c)) 35)
    obtain ⟨b, q, _, A3, n3, c3, rfl, hbl, _, a0, a1, a2, a3, a4, a5, a6, ha⟩ := hP.objs b0 (i := 0) (by omega)
    simp only [List.getElem_cons_zero, Nat.zero_mul, Nat.add_zero] at a0 a1 a2 a3 a4 a5 a6 ha
    have hbl' := Nat.lt_of_lt_of_le hbl b0.size
    have HC : Hid (∀ w' : World, Below w.heap.size w w' → Calls Tryz.prog 140 #[objV a (.slice A3 n3 c3), .int .i64 ((L : Int) - 1)] w' (RetBel (.int .i64 (min a.nodes (L - 1) : Nat)) w')) := fun w' hb => by
      have := ih a (by omega) HWa.out A3 n3 c3 (L - 1) w' (ha.under hb) (by omega) (by omega)
      rwa [show ((L - 1 : Nat) : Int) = (L : Int) - 1 by omega] at this
    have X0 := Lib.hid (BlkIs.new w 35 (obCells o (.slice (some ⟨b, q, none⟩) 2 c)))
    clear hlen
    go_enter Tryz.func140, Tryz.ntmps140
    go_wp2_with fail
    refine (HC.out _ b0).mono ?_
    rintro e w1 ⟨rfl, hb1⟩
    have b1 := then_ b0 hb1
    have X1 := Lib.hid (X0.out.below hb1)
    clear a0 a1 a2 a3 a4 a5 a6 X0
    by_cases h3 : L - 1 ≤ a.nodes
    · have e1 : min a.nodes (L - 1) = L - 1 := by omega
      obtain rfl : z = L := by rw [HZ.out, HND.out]; omega
      have e3 : ((z - 1 : Nat) : Int) = (z : Int) - 1 := by omega
      rw [e1, e3]
      clear e1 e3 HZ HND
      go_wp2
      go_ret
      exact ⟨by go_num, b1⟩
    · have e1 : min a.nodes (L - 1) = a.nodes := by omega
      obtain ⟨md, hmd⟩ : ∃ md, md = min d.nodes (L - (1 + a.nodes)) := ⟨_, rfl⟩
      obtain rfl : z = a.nodes + 1 + md := by rw [HZ.out, HND.out]; omega
      rw [e1]
      clear e1 HZ HND
      obtain ⟨y0, y1, y2, y3, y4, y5, y6, yl⟩ := X1.out.seven
      obtain ⟨b', q', _, A4, n4, c4, eA, _, _, d0, d1, d2, d3, d4, d5, d6, hd⟩ := hP.objs b1 (i := 1) (by omega)
      injection eA with eA
      injection eA with eb eq
      subst eb eq
      simp only [List.getElem_cons_zero, List.getElem_cons_succ, Nat.one_mul] at d0 d1 d2 d3 d4 d5 d6 hd
      have hbl2 := Nat.lt_of_lt_of_le hbl b1.size
      have HC2 : Hid (Calls Tryz.prog 140 #[objV d (.slice A4 n4 c4), .int .i64 ((L : Int) - (1 + (a.nodes : Int)))] w1 (RetBel (.int .i64 (min d.nodes (L - (1 + a.nodes)) : Nat)) w1)) := by
        have := ih d (by omega) HWd.out A4 n4 c4 (L - (1 + a.nodes)) w1 (hd.under b1) (by omega) (by omega)
        rwa [show ((L - (1 + a.nodes) : Nat) : Int) = (L : Int) - (1 + (a.nodes : Int)) by omega] at this
      have hm : md ≤ 3001 := by omega
      rw [← hmd] at HC2
      clear pd hmd
      generalize a.nodes = na at *
      go_wp2_with fail
      refine HC2.out.mono ?_
      rintro e w2 ⟨rfl, hb2⟩
      go_wp2
      go_ret
      exact ⟨by go_num, then_ b1 hb2⟩
set_option maxHeartbeats 400000 in
theorem rNodes_any (ok : Nat → Prop) (o : Ob) (hW : o.Wf) (A : Option Addr) (n c : Nat) (w : World) (hP : Rd ok w (.slice A n c) (.row (o.pair.map Ob.enc))) :
    Calls Tryz.prog 118 #[objV o (.slice A n c)] w (RetBel (.int .i64 (nodesP o)) w) := by
  have HC : Hid (∀ w' : World, Below w.heap.size w w' → Calls Tryz.prog 140 #[objV o (.slice A n c), .int .i64 3001] w' (RetBel (.int .i64 (nodesP o)) w')) := fun w' hb => by
    have := count_any ok o.size o (Nat.le_refl _) hW A n c 3001 w' (hP.under hb) (by omega) (by omega)
    rwa [show ((min o.nodes 3001 : Nat) : Int) = nodesP o by unfold nodesP; split <;> omega] at this
  generalize nodesP o = z at *
  go_enter Tryz.func118, Tryz.ntmps118
  go_wp2_with fail
  refine (HC.out _ (box _ _)).mono ?_
  rintro e w1 ⟨rfl, hb⟩
  go_wp2
  go_ret
  exact ⟨rfl, via hb⟩
set_option maxHeartbeats 4000000 in
set_option maxRecDepth 100000 in
theorem rFormed_num (xn xd xp xs xt : List UInt8) (xl : List Ob) (A : Option Addr) (n c : Nat) (w : World) (hlen : xl.length = n) (hn : n ≤ 9223372036854775807) (h1 : xn.length ≤ 1100000) (h2 : xd.length ≤ 1100000) :
    Calls Tryz.prog 193 #[objV ⟨1, xn, xd, xp, xs, xt, xl⟩ (.slice A n c)] w (RetBel (.bool (Ob.formB ⟨1, xn, xd, xp, xs, xt, xl⟩)) w) := by
  have HR : Hid (∀ w' : World, Calls Tryz.prog 90 #[str xn, str xd] w' (RetStr2 (Lib.itoa (rdN (Dec.dval xn) (Dec.dval xd))) (Lib.itoa (rdD (Dec.dval xn) (Dec.dval xd))) w')) := fun w' => refReduce_any xn xd w' h1 h2
  have HD1 : Hid (∀ w' : World, Calls Tryz.prog 168 #[str xn] w' (RetI64 (dg xn : Nat) w')) := fun w' => refDigitsN_any xn w' (by omega)
  have HD2 : Hid (∀ w' : World, Calls Tryz.prog 168 #[str xd] w' (RetI64 (dg xd : Nat) w')) := fun w' => refDigitsN_any xd w' (by omega)
  have hda : dg xn ≤ 1100002 := by have h1 := Dec.mag_length_le (norm xn); have h2 := norm_length xn; show (Dec.mag (norm xn)).length ≤ _; omega
  have hdb : dg xd ≤ 1100002 := by have h1 := Dec.mag_length_le (norm xd); have h2 := norm_length xd; show (Dec.mag (norm xd)).length ≤ _; omega
  obtain ⟨fb, hfb⟩ : ∃ fb, fb = Ob.formB ⟨1, xn, xd, xp, xs, xt, xl⟩ := ⟨_, rfl⟩
  rw [← hfb]
  have HF : Hid (Ob.formB ⟨1, xn, xd, xp, xs, xt, xl⟩ = fb) := hfb.symm
  clear hfb
  have HL : Hid (lowB xn xd = decide (Lib.itoa (rdN (Dec.dval xn) (Dec.dval xd)) = xn ∧ Lib.itoa (rdD (Dec.dval xn) (Dec.dval xd)) = xd ∧ dg xn ≤ 100 ∧ dg xd ≤ 100)) := rfl
  generalize Lib.itoa (rdN (Dec.dval xn) (Dec.dval xd)) = x at *
  generalize Lib.itoa (rdD (Dec.dval xn) (Dec.dval xd)) = y at *
  generalize dg xn = da at *
  generalize dg xd = db at *
  by_cases hxp : xp = []
  case neg =>
    obtain rfl : fb = false := by rw [← HF.out, Ob.formB_eq]; simp only [show ¬ ((1 : Int) = 4) by decide, if_false, if_true]; rw [Bool.eq_false_iff]; intro h; simp only [Bool.and_eq_true, decide_eq_true_eq] at h; exact hxp (by simp [h])
    have hz : (xp == []) = false := by rw [beq_eq_false_iff_ne]; exact hxp
    clear HF hxp hlen
    go_enter Tryz.func193, Tryz.ntmps193
    go_wp2_with fail
    refine (HR.out _).mono ?_
    rintro e w1 ⟨rfl, hb1⟩
    have X1 := Lib.hid (BlkIs.via hb1)
    obtain ⟨x0, x1, x2, x3, x4, x5, x6, xl⟩ := X1.out.seven
    go_wp2
    go_ret
    exact ⟨rfl, via hb1⟩
  subst hxp
  by_cases hxs : xs = []
  case neg =>
    obtain rfl : fb = false := by rw [← HF.out, Ob.formB_eq]; simp only [show ¬ ((1 : Int) = 4) by decide, if_false, if_true]; rw [Bool.eq_false_iff]; intro h; simp only [Bool.and_eq_true, decide_eq_true_eq] at h; exact hxs (by simp [h])
    have hz : (xs == []) = false := by rw [beq_eq_false_iff_ne]; exact hxs
    clear HF hxs hlen
    go_enter Tryz.func193, Tryz.ntmps193
    go_wp2_with fail
    refine (HR.out _).mono ?_
    rintro e w1 ⟨rfl, hb1⟩
    have X1 := Lib.hid (BlkIs.via hb1)
    obtain ⟨x0, x1, x2, x3, x4, x5, x6, xl⟩ := X1.out.seven
    go_wp2
    go_ret
    exact ⟨rfl, via hb1⟩
  subst hxs
  by_cases hxt : xt = []
  case neg =>
    obtain rfl : fb = false := by rw [← HF.out, Ob.formB_eq]; simp only [show ¬ ((1 : Int) = 4) by decide, if_false, if_true]; rw [Bool.eq_false_iff]; intro h; simp only [Bool.and_eq_true, decide_eq_true_eq] at h; exact hxt (by simp [h])
    have hz : (xt == []) = false := by rw [beq_eq_false_iff_ne]; exact hxt
    clear HF hxt hlen
    go_enter Tryz.func193, Tryz.ntmps193
    go_wp2_with fail
    refine (HR.out _).mono ?_
    rintro e w1 ⟨rfl, hb1⟩
    have X1 := Lib.hid (BlkIs.via hb1)
    obtain ⟨x0, x1, x2, x3, x4, x5, x6, xl⟩ := X1.out.seven
    go_wp2
    go_ret
    exact ⟨rfl, via hb1⟩
  subst hxt
  by_cases hn0 : n = 0
  case neg =>
    obtain rfl : fb = false := by rw [← HF.out, Ob.formB_eq]; simp only [show ¬ ((1 : Int) = 4) by decide, if_false, if_true]; rw [Bool.eq_false_iff]; intro h; simp only [Bool.and_eq_true, decide_eq_true_eq] at h; exact hn0 (by rw [← hlen]; simp [h])
    have hz : ((n : Int) == 0) = false := by rw [beq_eq_false_iff_ne]; omega
    clear HF hn0 hlen
    go_enter Tryz.func193, Tryz.ntmps193
    go_wp2_with fail
    refine (HR.out _).mono ?_
    rintro e w1 ⟨rfl, hb1⟩
    have X1 := Lib.hid (BlkIs.via hb1)
    obtain ⟨x0, x1, x2, x3, x4, x5, x6, xl⟩ := X1.out.seven
    go_wp2
    go_ret
    exact ⟨rfl, via hb1⟩
  subst hn0
  have HZ : Hid (fb = decide (x = xn ∧ y = xd ∧ da ≤ 100 ∧ db ≤ 100)) := by
    show fb = _
    rw [← HF.out, Ob.formB_eq, ← HL.out]
    simp [hlen]
  clear HF HL hlen
  by_cases e1 : x = xn
  case neg =>
    obtain rfl : fb = false := by rw [HZ.out]; exact decide_eq_false (fun h => e1 h.1)
    have hz : (x == xn) = false := by rw [beq_eq_false_iff_ne]; exact e1
    clear e1
    clear HZ
    go_enter Tryz.func193, Tryz.ntmps193
    go_wp2_with fail
    refine (HR.out _).mono ?_
    rintro e w1 ⟨rfl, hb1⟩
    have X1 := Lib.hid (BlkIs.via hb1)
    obtain ⟨x0, x1, x2, x3, x4, x5, x6, xl⟩ := X1.out.seven
    go_wp2
    go_ret
    exact ⟨rfl, via hb1⟩
  subst e1
  by_cases e2 : y = xd
  case neg =>
    obtain rfl : fb = false := by rw [HZ.out]; exact decide_eq_false (fun h => e2 h.2.1)
    have hz : (y == xd) = false := by rw [beq_eq_false_iff_ne]; exact e2
    clear e2
    clear HZ
    go_enter Tryz.func193, Tryz.ntmps193
    go_wp2_with fail
    refine (HR.out _).mono ?_
    rintro e w1 ⟨rfl, hb1⟩
    have X1 := Lib.hid (BlkIs.via hb1)
    obtain ⟨x0, x1, x2, x3, x4, x5, x6, xl⟩ := X1.out.seven
    go_wp2
    go_ret
    exact ⟨rfl, via hb1⟩
  subst e2
  by_cases e3 : da ≤ 100
  case neg =>
    obtain rfl : fb = false := by rw [HZ.out]; exact decide_eq_false (fun h => e3 h.2.2.1)
    have hd3 : decide ((da : Int) ≤ 100) = false := decide_eq_false (by omega)
    clear HZ
    go_enter Tryz.func193, Tryz.ntmps193
    go_wp2_with fail
    refine (HR.out _).mono ?_
    rintro e w1 ⟨rfl, hb1⟩
    have X1 := Lib.hid (BlkIs.via hb1)
    obtain ⟨x0, x1, x2, x3, x4, x5, x6, xl⟩ := X1.out.seven
    go_wp2_with fail
    refine (HD1.out _).mono ?_
    rintro e w2 ⟨rfl, hb2⟩
    go_wp2
    go_ret
    exact ⟨rfl, then_ (via hb1) hb2⟩
  have hd3 : decide ((da : Int) ≤ 100) = true := decide_eq_true (by omega)
  by_cases e4 : db ≤ 100
  case neg =>
    obtain rfl : fb = false := by rw [HZ.out]; exact decide_eq_false (fun h => e4 h.2.2.2)
    have hd4 : decide ((db : Int) ≤ 100) = false := decide_eq_false (by omega)
    clear HZ
    go_enter Tryz.func193, Tryz.ntmps193
    go_wp2_with fail
    refine (HR.out _).mono ?_
    rintro e w1 ⟨rfl, hb1⟩
    have X1 := Lib.hid (BlkIs.via hb1)
    obtain ⟨x0, x1, x2, x3, x4, x5, x6, xl⟩ := X1.out.seven
    go_wp2_with fail
    refine (HD1.out _).mono ?_
    rintro e w2 ⟨rfl, hb2⟩
    go_wp2_with fail
    refine (HD2.out _).mono ?_
    rintro e w3 ⟨rfl, hb3⟩
    go_wp2
    go_ret
    exact ⟨rfl, then_ (then_ (via hb1) hb2) hb3⟩
  have hd4 : decide ((db : Int) ≤ 100) = true := decide_eq_true (by omega)
  obtain rfl : fb = true := by rw [HZ.out]; exact decide_eq_true ⟨rfl, rfl, e3, e4⟩
  clear HZ
  go_enter Tryz.func193, Tryz.ntmps193
  go_wp2_with fail
  refine (HR.out _).mono ?_
  rintro e w1 ⟨rfl, hb1⟩
  have X1 := Lib.hid (BlkIs.via hb1)
  obtain ⟨x0, x1, x2, x3, x4, x5, x6, xl⟩ := X1.out.seven
  go_wp2_with fail
  refine (HD1.out _).mono ?_
  rintro e w2 ⟨rfl, hb2⟩
  go_wp2_with fail
  refine (HD2.out _).mono ?_
  rintro e w3 ⟨rfl, hb3⟩
  go_wp2
  go_ret
  exact ⟨rfl, then_ (then_ (via hb1) hb2) hb3⟩
set_option maxHeartbeats 4000000 in
set_option maxRecDepth 100000 in
theorem rFormed_sym (xn xd xp xs xt : List UInt8) (xl : List Ob) (A : Option Addr) (n c : Nat) (w : World) (hlen : xl.length = n) (hn : n ≤ 9223372036854775807) (h1 : xp.length ≤ 9223372036854775807) (h2 : xs.length ≤ 9223372036854775807) :
    Calls Tryz.prog 193 #[objV ⟨2, xn, xd, xp, xs, xt, xl⟩ (.slice A n c)] w (RetBel (.bool (Ob.formB ⟨2, xn, xd, xp, xs, xt, xl⟩)) w) := by
  have HS : Hid (∀ w' : World, Calls Tryz.prog 185 #[.agg #[str xp, str xs]] w' (RetBel (.bool (symOk ⟨xp, xs⟩)) w')) := fun w' => ref2Named_any ⟨xp, xs⟩ w' h1 h2
  obtain ⟨fb, hfb⟩ : ∃ fb, fb = Ob.formB ⟨2, xn, xd, xp, xs, xt, xl⟩ := ⟨_, rfl⟩
  rw [← hfb]
  have HF : Hid (Ob.formB ⟨2, xn, xd, xp, xs, xt, xl⟩ = fb) := hfb.symm
  clear hfb h1 h2
  cases hb : symOk ⟨xp, xs⟩ with
  | false =>
    obtain rfl : fb = false := by rw [← HF.out, Ob.formB_eq]; simp [hb]
    rw [hb] at HS
    clear HF hlen hb
    by_cases hxp : xp = []
    · subst hxp
      by_cases hxs : xs = []
      · subst hxs
        go_enter Tryz.func193, Tryz.ntmps193
        go_wp2_with fail
        refine (HS.out _).mono ?_
        rintro e w1 ⟨rfl, hb1⟩
        go_wp2
        go_ret
        exact ⟨rfl, via hb1⟩
      · have hz' : (xs == []) = false := by rw [beq_eq_false_iff_ne]; exact hxs
        clear hxs
        go_enter Tryz.func193, Tryz.ntmps193
        go_wp2_with fail
        refine (HS.out _).mono ?_
        rintro e w1 ⟨rfl, hb1⟩
        go_wp2
        go_ret
        exact ⟨rfl, via hb1⟩
    · have hz' : (xp == []) = false := by rw [beq_eq_false_iff_ne]; exact hxp
      clear hxp
      go_enter Tryz.func193, Tryz.ntmps193
      go_wp2_with fail
      refine (HS.out _).mono ?_
      rintro e w1 ⟨rfl, hb1⟩
      go_wp2
      go_ret
      exact ⟨rfl, via hb1⟩
  | true =>
  have HB := Lib.hid hb
  rw [hb] at HS
  have hzp : (xp == []) = false := by
    rw [beq_eq_false_iff_ne]
    intro e
    subst e
    have h3 : symOk ⟨[], xs⟩ = false := by unfold symOk; rw [show pkgOk [] = false by decide]; rfl
    rw [h3] at hb
    cases hb
  clear hb
  by_cases hxn : xn = []
  case neg =>
    obtain rfl : fb = false := by rw [← HF.out, Ob.formB_eq]; simp only [show ¬ ((2 : Int) = 4) by decide, show ¬ ((2 : Int) = 1) by decide, if_false, if_true]; rw [Bool.eq_false_iff]; intro h; simp only [Bool.and_eq_true, decide_eq_true_eq] at h; exact hxn (by simp [h])
    have hz : (xn == []) = false := by rw [beq_eq_false_iff_ne]; exact hxn
    clear HF hxn hlen
    go_enter Tryz.func193, Tryz.ntmps193
    go_wp2_with fail
    refine (HS.out _).mono ?_
    rintro e w1 ⟨rfl, hb1⟩
    have X1 := Lib.hid (BlkIs.via hb1)
    obtain ⟨x0, x1, x2, x3, x4, x5, x6, xl⟩ := X1.out.seven
    go_wp2
    go_ret
    exact ⟨rfl, via hb1⟩
  subst hxn
  by_cases hxd : xd = []
  case neg =>
    obtain rfl : fb = false := by rw [← HF.out, Ob.formB_eq]; simp only [show ¬ ((2 : Int) = 4) by decide, show ¬ ((2 : Int) = 1) by decide, if_false, if_true]; rw [Bool.eq_false_iff]; intro h; simp only [Bool.and_eq_true, decide_eq_true_eq] at h; exact hxd (by simp [h])
    have hz : (xd == []) = false := by rw [beq_eq_false_iff_ne]; exact hxd
    clear HF hxd hlen
    go_enter Tryz.func193, Tryz.ntmps193
    go_wp2_with fail
    refine (HS.out _).mono ?_
    rintro e w1 ⟨rfl, hb1⟩
    have X1 := Lib.hid (BlkIs.via hb1)
    obtain ⟨x0, x1, x2, x3, x4, x5, x6, xl⟩ := X1.out.seven
    go_wp2
    go_ret
    exact ⟨rfl, via hb1⟩
  subst hxd
  by_cases hxt : xt = []
  case neg =>
    obtain rfl : fb = false := by rw [← HF.out, Ob.formB_eq]; simp only [show ¬ ((2 : Int) = 4) by decide, show ¬ ((2 : Int) = 1) by decide, if_false, if_true]; rw [Bool.eq_false_iff]; intro h; simp only [Bool.and_eq_true, decide_eq_true_eq] at h; exact hxt (by simp [h])
    have hz : (xt == []) = false := by rw [beq_eq_false_iff_ne]; exact hxt
    clear HF hxt hlen
    go_enter Tryz.func193, Tryz.ntmps193
    go_wp2_with fail
    refine (HS.out _).mono ?_
    rintro e w1 ⟨rfl, hb1⟩
    have X1 := Lib.hid (BlkIs.via hb1)
    obtain ⟨x0, x1, x2, x3, x4, x5, x6, xl⟩ := X1.out.seven
    go_wp2
    go_ret
    exact ⟨rfl, via hb1⟩
  subst hxt
  by_cases hn0 : n = 0
  case neg =>
    obtain rfl : fb = false := by rw [← HF.out, Ob.formB_eq]; simp only [show ¬ ((2 : Int) = 4) by decide, show ¬ ((2 : Int) = 1) by decide, if_false, if_true]; rw [Bool.eq_false_iff]; intro h; simp only [Bool.and_eq_true, decide_eq_true_eq] at h; exact hn0 (by rw [← hlen]; simp [h])
    have hz : ((n : Int) == 0) = false := by rw [beq_eq_false_iff_ne]; omega
    clear HF hn0 hlen
    go_enter Tryz.func193, Tryz.ntmps193
    go_wp2_with fail
    refine (HS.out _).mono ?_
    rintro e w1 ⟨rfl, hb1⟩
    have X1 := Lib.hid (BlkIs.via hb1)
    obtain ⟨x0, x1, x2, x3, x4, x5, x6, xl⟩ := X1.out.seven
    go_wp2
    go_ret
    exact ⟨rfl, via hb1⟩
  subst hn0
  obtain rfl : fb = true := by rw [← HF.out, Ob.formB_eq]; simp [hlen, HB.out]
  clear HF hlen
  go_enter Tryz.func193, Tryz.ntmps193
  go_wp2_with fail
  refine (HS.out _).mono ?_
  rintro e w1 ⟨rfl, hb1⟩
  have X1 := Lib.hid (BlkIs.via hb1)
  obtain ⟨x0, x1, x2, x3, x4, x5, x6, xl⟩ := X1.out.seven
  go_wp2
  go_ret
  exact ⟨rfl, via hb1⟩
set_option maxHeartbeats 4000000 in
set_option maxRecDepth 100000 in
theorem rFormed_txt (xn xd xp xs xt : List UInt8) (xl : List Ob) (A : Option Addr) (n c : Nat) (w : World) (hlen : xl.length = n) (hn : n ≤ 9223372036854775807) (h1 : xt.length ≤ 9223372036854775807) :
    Calls Tryz.prog 193 #[objV ⟨3, xn, xd, xp, xs, xt, xl⟩ (.slice A n c)] w (RetBel (.bool (Ob.formB ⟨3, xn, xd, xp, xs, xt, xl⟩)) w) := by
  obtain ⟨fb, hfb⟩ : ∃ fb, fb = Ob.formB ⟨3, xn, xd, xp, xs, xt, xl⟩ := ⟨_, rfl⟩
  rw [← hfb]
  have HF : Hid (Ob.formB ⟨3, xn, xd, xp, xs, xt, xl⟩ = fb) := hfb.symm
  clear hfb
  by_cases hxp : xp = []
  case neg =>
    obtain rfl : fb = false := by rw [← HF.out, Ob.formB_eq]; simp only [show ¬ ((3 : Int) = 4) by decide, show ¬ ((3 : Int) = 1) by decide, show ¬ ((3 : Int) = 2) by decide, if_false, if_true]; rw [Bool.eq_false_iff]; intro h; simp only [decide_eq_true_eq] at h; exact hxp (by simp [h])
    have hz : (xp == []) = false := by rw [beq_eq_false_iff_ne]; exact hxp
    clear HF hxp hlen
    go_enter Tryz.func193, Tryz.ntmps193
    go_wp2
    go_ret
    exact ⟨rfl, box _ _⟩
  subst hxp
  by_cases hxs : xs = []
  case neg =>
    obtain rfl : fb = false := by rw [← HF.out, Ob.formB_eq]; simp only [show ¬ ((3 : Int) = 4) by decide, show ¬ ((3 : Int) = 1) by decide, show ¬ ((3 : Int) = 2) by decide, if_false, if_true]; rw [Bool.eq_false_iff]; intro h; simp only [decide_eq_true_eq] at h; exact hxs (by simp [h])
    have hz : (xs == []) = false := by rw [beq_eq_false_iff_ne]; exact hxs
    clear HF hxs hlen
    go_enter Tryz.func193, Tryz.ntmps193
    go_wp2
    go_ret
    exact ⟨rfl, box _ _⟩
  subst hxs
  by_cases hxn : xn = []
  case neg =>
    obtain rfl : fb = false := by rw [← HF.out, Ob.formB_eq]; simp only [show ¬ ((3 : Int) = 4) by decide, show ¬ ((3 : Int) = 1) by decide, show ¬ ((3 : Int) = 2) by decide, if_false, if_true]; rw [Bool.eq_false_iff]; intro h; simp only [decide_eq_true_eq] at h; exact hxn (by simp [h])
    have hz : (xn == []) = false := by rw [beq_eq_false_iff_ne]; exact hxn
    clear HF hxn hlen
    go_enter Tryz.func193, Tryz.ntmps193
    go_wp2
    go_ret
    exact ⟨rfl, box _ _⟩
  subst hxn
  by_cases hxd : xd = []
  case neg =>
    obtain rfl : fb = false := by rw [← HF.out, Ob.formB_eq]; simp only [show ¬ ((3 : Int) = 4) by decide, show ¬ ((3 : Int) = 1) by decide, show ¬ ((3 : Int) = 2) by decide, if_false, if_true]; rw [Bool.eq_false_iff]; intro h; simp only [decide_eq_true_eq] at h; exact hxd (by simp [h])
    have hz : (xd == []) = false := by rw [beq_eq_false_iff_ne]; exact hxd
    clear HF hxd hlen
    go_enter Tryz.func193, Tryz.ntmps193
    go_wp2
    go_ret
    exact ⟨rfl, box _ _⟩
  subst hxd
  by_cases h200 : xt.length ≤ 200
  case neg =>
    obtain rfl : fb = false := by rw [← HF.out, Ob.formB_eq]; simp only [show ¬ ((3 : Int) = 4) by decide, show ¬ ((3 : Int) = 1) by decide, show ¬ ((3 : Int) = 2) by decide, if_false, if_true]; rw [Bool.eq_false_iff]; intro h; simp only [decide_eq_true_eq] at h; exact h200 (by simp [h])
    have hd2 : decide ((xt.length : Int) ≤ 200) = false := decide_eq_false (by omega)
    clear HF hlen
    go_enter Tryz.func193, Tryz.ntmps193
    go_wp2
    go_ret
    exact ⟨rfl, box _ _⟩
  have hd2 : decide ((xt.length : Int) ≤ 200) = true := decide_eq_true (by omega)
  by_cases hn0 : n = 0
  case neg =>
    obtain rfl : fb = false := by rw [← HF.out, Ob.formB_eq]; simp only [show ¬ ((3 : Int) = 4) by decide, show ¬ ((3 : Int) = 1) by decide, show ¬ ((3 : Int) = 2) by decide, if_false, if_true]; rw [Bool.eq_false_iff]; intro h; simp only [decide_eq_true_eq] at h; exact hn0 (by rw [← hlen]; simp [h])
    have hz : ((n : Int) == 0) = false := by rw [beq_eq_false_iff_ne]; omega
    clear HF hn0 hlen
    go_enter Tryz.func193, Tryz.ntmps193
    go_wp2
    go_ret
    exact ⟨rfl, box _ _⟩
  subst hn0
  obtain rfl : fb = true := by rw [← HF.out, Ob.formB_eq]; simp [hlen, h200]
  clear HF hlen
  go_enter Tryz.func193, Tryz.ntmps193
  go_wp2
  go_ret
  exact ⟨rfl, box _ _⟩
set_option maxHeartbeats 4000000 in
set_option maxRecDepth 100000 in
theorem rFormed_cons (ok : Nat → Prop) (xn xd xp xs xt : List UInt8) (xl : List Ob) (A : Option Addr) (n c : Nat) (w : World) (hP : Rd ok w (.slice A n c) (.row (xl.map Ob.enc))) (hn : n ≤ 9223372036854775807)
    (H : ∀ x ∈ xl, ∀ (A : Option Addr) (n c : Nat) (w' : World), Below w.heap.size w w' → Rd ok w (.slice A n c) (.row (x.pair.map Ob.enc)) → Calls Tryz.prog 193 #[objV x (.slice A n c)] w' (RetBel (.bool x.formB) w')) :
    Calls Tryz.prog 193 #[objV ⟨4, xn, xd, xp, xs, xt, xl⟩ (.slice A n c)] w (RetBel (.bool (Ob.formB ⟨4, xn, xd, xp, xs, xt, xl⟩)) w) := by
  have hlen : xl.length = n := by have := hP.len; rwa [List.length_map] at this
  have HH := Lib.hid H
  clear H
  obtain ⟨fb, hfb⟩ : ∃ fb, fb = Ob.formB ⟨4, xn, xd, xp, xs, xt, xl⟩ := ⟨_, rfl⟩
  rw [← hfb]
  have HF : Hid (Ob.formB ⟨4, xn, xd, xp, xs, xt, xl⟩ = fb) := hfb.symm
  clear hfb
  by_cases hxp : xp = []
  case neg =>
    obtain rfl : fb = false := by rw [← HF.out, Ob.formB_eq]; simp only [if_true]; rw [Bool.eq_false_iff]; intro h; simp only [Bool.and_eq_true, decide_eq_true_eq] at h; exact hxp (by simp [h])
    have hz : (xp == []) = false := by rw [beq_eq_false_iff_ne]; exact hxp
    clear HF hxp hlen
    go_enter Tryz.func193, Tryz.ntmps193
    go_wp2
    go_ret
    exact ⟨rfl, box _ _⟩
  subst hxp
  by_cases hxs : xs = []
  case neg =>
    obtain rfl : fb = false := by rw [← HF.out, Ob.formB_eq]; simp only [if_true]; rw [Bool.eq_false_iff]; intro h; simp only [Bool.and_eq_true, decide_eq_true_eq] at h; exact hxs (by simp [h])
    have hz : (xs == []) = false := by rw [beq_eq_false_iff_ne]; exact hxs
    clear HF hxs hlen
    go_enter Tryz.func193, Tryz.ntmps193
    go_wp2
    go_ret
    exact ⟨rfl, box _ _⟩
  subst hxs
  by_cases hxn : xn = []
  case neg =>
    obtain rfl : fb = false := by rw [← HF.out, Ob.formB_eq]; simp only [if_true]; rw [Bool.eq_false_iff]; intro h; simp only [Bool.and_eq_true, decide_eq_true_eq] at h; exact hxn (by simp [h])
    have hz : (xn == []) = false := by rw [beq_eq_false_iff_ne]; exact hxn
    clear HF hxn hlen
    go_enter Tryz.func193, Tryz.ntmps193
    go_wp2
    go_ret
    exact ⟨rfl, box _ _⟩
  subst hxn
  by_cases hxd : xd = []
  case neg =>
    obtain rfl : fb = false := by rw [← HF.out, Ob.formB_eq]; simp only [if_true]; rw [Bool.eq_false_iff]; intro h; simp only [Bool.and_eq_true, decide_eq_true_eq] at h; exact hxd (by simp [h])
    have hz : (xd == []) = false := by rw [beq_eq_false_iff_ne]; exact hxd
    clear HF hxd hlen
    go_enter Tryz.func193, Tryz.ntmps193
    go_wp2
    go_ret
    exact ⟨rfl, box _ _⟩
  subst hxd
  by_cases hxt : xt = []
  case neg =>
    obtain rfl : fb = false := by rw [← HF.out, Ob.formB_eq]; simp only [if_true]; rw [Bool.eq_false_iff]; intro h; simp only [Bool.and_eq_true, decide_eq_true_eq] at h; exact hxt (by simp [h])
    have hz : (xt == []) = false := by rw [beq_eq_false_iff_ne]; exact hxt
    clear HF hxt hlen
    go_enter Tryz.func193, Tryz.ntmps193
    go_wp2
    go_ret
    exact ⟨rfl, box _ _⟩
  subst hxt
  by_cases hn0 : n = 2
  case neg =>
    obtain rfl : fb = false := by rw [← HF.out, Ob.formB_eq]; simp only [if_true]; rw [Bool.eq_false_iff]; intro h; simp only [Bool.and_eq_true, decide_eq_true_eq] at h; exact hn0 (by rw [← hlen]; simp [h])
    have hz : ((n : Int) == 2) = false := by rw [beq_eq_false_iff_ne]; omega
    clear HF hn0 hlen
    go_enter Tryz.func193, Tryz.ntmps193
    go_wp2
    go_ret
    exact ⟨rfl, box _ _⟩
  subst hn0
  obtain ⟨a, d, rfl⟩ := Ob.two_of_length hlen
  have HF2 : Hid ((a.formB && d.formB) = fb) := by
    show _ = fb
    rw [← HF.out, Ob.formB_eq, if_pos rfl]
    simp [Ob.allB]
  clear HF hlen
  have b0 := box w (.cells (obCells ⟨4, [], [], [], [], [], [a, d]⟩ (.slice A 2 c)) 35)
  obtain ⟨b, q, _, A3, n3, c3, rfl, hbl, _, a0, a1, a2, a3, a4, a5, a6, ha⟩ := hP.objs b0 (i := 0) (by omega)
  simp only [List.getElem_cons_zero, Nat.zero_mul, Nat.add_zero] at a0 a1 a2 a3 a4 a5 a6 ha
  have hbl' := Nat.lt_of_lt_of_le hbl b0.size
  have HC : Hid (∀ w' : World, Below w.heap.size w w' → Calls Tryz.prog 193 #[objV a (.slice A3 n3 c3)] w' (RetBel (.bool a.formB) w')) := fun w' hb => HH.out a (by simp) A3 n3 c3 w' hb ha
  have X0 := Lib.hid (BlkIs.new w 35 (obCells ⟨4, [], [], [], [], [], [a, d]⟩ (.slice (some ⟨b, q, none⟩) 2 c)))
  generalize a.formB = ba at *
  go_enter Tryz.func193, Tryz.ntmps193
  go_wp2_with fail
  refine (HC.out _ b0).mono ?_
  rintro e w1 ⟨rfl, hb1⟩
  have b1 := then_ b0 hb1
  have X1 := Lib.hid (X0.out.below hb1)
  clear a0 a1 a2 a3 a4 a5 a6 X0
  cases ba with
  | false =>
    obtain rfl : fb = false := HF2.out.symm
    clear HF2
    go_wp2
    go_ret
    exact ⟨rfl, b1⟩
  | true =>
    obtain ⟨y0, y1, y2, y3, y4, y5, y6, yl⟩ := X1.out.seven
    obtain ⟨b', q', _, A4, n4, c4, eA, _, _, d0, d1, d2, d3, d4, d5, d6, hd⟩ := hP.objs b1 (i := 1) (by omega)
    injection eA with eA
    injection eA with eb eq
    subst eb eq
    simp only [List.getElem_cons_zero, List.getElem_cons_succ, Nat.one_mul] at d0 d1 d2 d3 d4 d5 d6 hd
    have hbl2 := Nat.lt_of_lt_of_le hbl b1.size
    have HC2 := Lib.hid (HH.out d (by simp) A4 n4 c4 w1 b1 hd)
    obtain rfl : fb = d.formB := HF2.out.symm
    generalize d.formB = bd at *
    clear HF2
    go_wp2_with fail
    refine HC2.out.mono ?_
    rintro e w2 ⟨rfl, hb2⟩
    go_wp2
    go_ret
    exact ⟨rfl, then_ b1 hb2⟩
set_option maxHeartbeats 4000000 in
theorem rFormed_else (k : Int) (xn xd xp xs xt : List UInt8) (xl : List Ob) (A : Option Addr) (n c : Nat) (w : World) (h1 : k ≠ 1) (h2 : k ≠ 2) (h3 : k ≠ 3) (h4 : k ≠ 4) :
    Calls Tryz.prog 193 #[objV ⟨k, xn, xd, xp, xs, xt, xl⟩ (.slice A n c)] w (RetBel (.bool (Ob.formB ⟨k, xn, xd, xp, xs, xt, xl⟩)) w) := by
  rw [Ob.formB_eq, if_neg h4, if_neg h1, if_neg h2, if_neg h3]
  have e1 : (k == 1) = false := by rw [beq_eq_false_iff_ne]; exact h1
  have e2 : (k == 2) = false := by rw [beq_eq_false_iff_ne]; exact h2
  have e3 : (k == 3) = false := by rw [beq_eq_false_iff_ne]; exact h3
  have e4 : (k == 4) = false := by rw [beq_eq_false_iff_ne]; exact h4
  clear h1 h2 h3 h4
  by_cases hxp : xp = []
  · subst hxp
    by_cases hxs : xs = []
    · subst hxs
      go_enter Tryz.func193, Tryz.ntmps193
      go_wp2
      go_ret
      exact ⟨rfl, box _ _⟩
    · have hz' : (xs == []) = false := by rw [beq_eq_false_iff_ne]; exact hxs
      clear hxs
      go_enter Tryz.func193, Tryz.ntmps193
      go_wp2
      go_ret
      exact ⟨rfl, box _ _⟩
  · have hz' : (xp == []) = false := by rw [beq_eq_false_iff_ne]; exact hxp
    clear hxp
    go_enter Tryz.func193, Tryz.ntmps193
    go_wp2
    go_ret
    exact ⟨rfl, box _ _⟩
theorem rFormed_any (ok : Nat → Prop) (o : Ob) : o.Wf → o.Sm → ∀ (A : Option Addr) (n c : Nat) (w : World), Rd ok w (.slice A n c) (.row (o.pair.map Ob.enc)) →
    Calls Tryz.prog 193 #[objV o (.slice A n c)] w (RetBel (.bool o.formB) w) := by
  induction o using Ob.ind with
  | step o ih =>
    intro hW hS A n c w hP
    have hlen : o.pair.length = n := by have := hP.len; rwa [List.length_map] at this
    have hn : n ≤ 9223372036854775807 := by rw [← hlen]; exact hW.len
    obtain ⟨k, xn, xd, xp, xs, xt, xl⟩ := o
    by_cases h4 : k = 4
    · subst h4
      exact rFormed_cons ok xn xd xp xs xt xl A n c w hP hn (fun x hx A n c w' hb h => ih x hx (hW.kids hx) (hS.kids hx) A n c w' (h.under hb))
    by_cases h1 : k = 1
    · subst h1
      exact rFormed_num xn xd xp xs xt xl A n c w hlen hn hS.len.1 hS.len.2
    by_cases h2 : k = 2
    · subst h2
      exact rFormed_sym xn xd xp xs xt xl A n c w hlen hn (by cases hW; assumption) (by cases hW; assumption)
    by_cases h3 : k = 3
    · subst h3
      exact rFormed_txt xn xd xp xs xt xl A n c w hlen hn (by cases hW; assumption)
    exact rFormed_else k xn xd xp xs xt xl A n c w h1 h2 h3 h4
set_option maxHeartbeats 1000000 in
theorem rValid_any (ok : Nat → Prop) (o : Ob) (hW : o.Wf) (hS : o.Sm) (A : Option Addr) (n c : Nat) (w : World) (hP : Rd ok w (.slice A n c) (.row (o.pair.map Ob.enc))) :
    Calls Tryz.prog 178 #[objV o (.slice A n c)] w (RetBel (.bool o.validB) w) := by
  have HN : Hid (∀ w' : World, Below w.heap.size w w' → Calls Tryz.prog 118 #[objV o (.slice A n c)] w' (RetBel (.int .i64 (nodesP o)) w')) := fun w' hb => rNodes_any ok o hW A n c w' (hP.under hb)
  have HF : Hid (∀ w' : World, Below w.heap.size w w' → Calls Tryz.prog 193 #[objV o (.slice A n c)] w' (RetBel (.bool o.formB) w')) := fun w' hb => rFormed_any ok o hW hS A n c w' (hP.under hb)
  unfold Ob.validB
  by_cases hk : o.nodes ≤ 3000
  · have hk' : nodesP o ≤ 3000 := by unfold nodesP; split <;> omega
    rw [decide_eq_true hk, Bool.true_and]
    generalize o.formB = fb at *
    generalize nodesP o = z at *
    clear hk
    go_enter Tryz.func178, Tryz.ntmps178
    go_wp2_with fail
    refine (HN.out _ (box _ _)).mono ?_
    rintro e w1 ⟨rfl, hb1⟩
    have X1 := Lib.hid (BlkIs.via hb1)
    obtain ⟨y0, y1, y2, y3, y4, y5, y6, yl⟩ := X1.out.seven
    go_wp2_with fail
    refine (HF.out _ (via hb1)).mono ?_
    rintro e w2 ⟨rfl, hb2⟩
    go_wp2
    go_ret
    exact ⟨rfl, then_ (via hb1) hb2⟩
  · have hk' : ¬ nodesP o ≤ 3000 := by unfold nodesP; split <;> omega
    rw [decide_eq_false hk, Bool.false_and]
    generalize nodesP o = z at *
    clear hk
    go_enter Tryz.func178, Tryz.ntmps178
    go_wp2_with fail
    refine (HN.out _ (box _ _)).mono ?_
    rintro e w1 ⟨rfl, hb1⟩
    go_wp2
    go_ret
    exact ⟨rfl, via hb1⟩
end Go.Proofs.YtendgffijciehaaGreatDoor
/- The maker's objects as plain trees. -/
namespace Go.Proofs.YtendgffijciehaaGreatDoor
open Go.RowKit

abbrev userB : List UInt8 := [117, 115, 101, 114]
/-- the names of lispprovermake.Sym -/
def symNames : List (List UInt8) := [[97], [98], [102, 111, 111], [111, 100, 100, 32, 110, 97, 109, 101], [49], [120, 124, 121], [46], [45, 50, 47, 51], [35]]
def symTab : List (List UInt8 × List UInt8) := symNames.map (fun s => (userB, s)) ++ [(lispB, nilB), (lispB, [116]), (lispB, [99, 97, 114]), (lispB, [113, 117, 111, 116, 101])]
def symP (n : Int) : List UInt8 × List UInt8 := symTab.getD (n % 13).toNat (userB, [])
theorem symP_len (n : Int) : (symP n).1.length ≤ 12 ∧ (symP n).2.length ≤ 12 := by
  have h : ∀ x ∈ symTab, x.1.length ≤ 12 ∧ x.2.length ≤ 12 := by decide
  have hlt : (n % 13).toNat < symTab.length := by show (n % 13).toNat < 13; omega
  unfold symP
  rw [List.getD_eq_getElem?_getD, List.getElem?_eq_getElem hlt]
  exact h _ (List.getElem_mem hlt)
def zeroT : Tr := .num ((-1000 : Int) : Rat)
def mkK (k n : Int) (s : List UInt8) (l : List Tr) : Tr :=
  if k % 8 = 0 ∨ k % 8 = 1 then .num ((n % 2001 - 1000 : Int) : Rat)
  else if k % 8 = 2 then .num (Rat.divInt (n % 41 - 20) (1 + s.length))
  else if k % 8 = 3 then .sym (symP n).1 (symP n).2
  else if k % 8 = 4 then .txt s
  else if k % 8 = 5 then .cons (l.getD 0 zeroT) (l.getD 1 zeroT)
  else Tr.list l
mutual
def mkT : Raw → Tr
  | ⟨k, n, s, l⟩ => mkK k n s (mkL l)
def mkL : List Raw → List Tr
  | [] => []
  | r :: t => mkT r :: mkL t
end
theorem mkL_map (l : List Raw) : mkL l = l.map mkT := by
  induction l with
  | nil => rfl
  | cons r t ih => rw [mkL, ih]; rfl
theorem mkT_eq (r : Raw) : mkT r = mkK r.kind r.n r.s (r.l.map mkT) := by
  obtain ⟨k, n, s, l⟩ := r
  rw [mkT, mkL_map]
/-- short strings and lists, all the way down -/
inductive Fit : Raw → Prop
  | mk (o : Raw) (hs : o.s.length ≤ 12) (hl : o.l.length ≤ 6) (h : ∀ x ∈ o.l, Fit x) : Fit o
theorem Fit.s {r : Raw} (h : Fit r) : r.s.length ≤ 12 := by cases h; assumption
theorem Fit.l {r : Raw} (h : Fit r) : r.l.length ≤ 6 := by cases h; assumption
theorem Fit.kids {r x : Raw} (h : Fit r) (hx : x ∈ r.l) : Fit x := by
  cases h with
  | mk _ _ _ h => exact h x hx
theorem Raw.Wf.kids {r x : Raw} (h : r.Wf) (hx : x ∈ r.l) : x.Wf := by
  cases h with
  | mk _ _ _ _ _ _ _ h => exact h x hx
theorem Tr.list_ok {k : Nat} : ∀ {l : List Tr}, (∀ t ∈ l, t.Ok k) → (Tr.list l).Ok k
  | [], _ => ⟨by decide, by decide⟩
  | a :: r, h => ⟨h a (List.mem_cons_self ..), Tr.list_ok fun t ht => h t (List.mem_cons_of_mem _ ht)⟩
theorem rb_small {n d : Int} (hn : n.natAbs < 10 ^ 4) (hd : d.natAbs < 10 ^ 4) : Rb 4 (Rat.divInt n d) := Rb.mk' (by decide) hn hd
theorem rb_int {n : Int} (hn : n.natAbs < 10 ^ 4) : Rb 4 (n : Rat) := ⟨by rw [Rat.num_intCast]; exact hn, by rw [Rat.den_intCast]; decide, by decide⟩
theorem zeroT_ok : zeroT.Ok 4 := rb_int (by decide)
theorem getD_ok {k : Nat} {l : List Tr} {d : Tr} (h : ∀ t ∈ l, t.Ok k) (hd : d.Ok k) (i : Nat) : (l.getD i d).Ok k := by
  rw [List.getD_eq_getElem?_getD]
  rcases Nat.lt_or_ge i l.length with h1 | h1
  · rw [List.getElem?_eq_getElem h1]; exact h _ (List.getElem_mem h1)
  · rw [List.getElem?_eq_none h1]; exact hd
theorem mkT_ok (r : Raw) : Fit r → (mkT r).Ok 4 := by
  induction r using Raw.ind with
  | step r ih =>
    intro h
    have hl : ∀ t ∈ r.l.map mkT, t.Ok 4 := by
      intro t ht
      obtain ⟨x, hx, rfl⟩ := List.mem_map.1 ht
      exact ih x hx (h.kids hx)
    rw [mkT_eq]
    unfold mkK
    split
    · exact rb_int (by omega)
    · split
      · exact rb_small (by omega) (by have := h.s; omega)
      · split
        · have := symP_len r.n
          exact ⟨by omega, by omega⟩
        · split
          · have := h.s
            show r.s.length ≤ 100000
            omega
          · split
            · exact ⟨getD_ok hl zeroT_ok 0, getD_ok hl zeroT_ok 1⟩
            · exact Tr.list_ok hl
end Go.Proofs.YtendgffijciehaaGreatDoor
/- lispprovermake: Mod, left, Few, FewAll, User, Sym, part. -/
namespace Go.Proofs.YtendgffijciehaaGreatDoor
open Go.RowKit

theorem tmod_neg {n m : Int} (hm : 0 < m) (h : n.tmod m < 0) : n % m = n.tmod m + m := by
  have h1 := Int.tmod_eq_emod (a := n) (b := m)
  have h2 := Int.emod_nonneg n (by omega : m ≠ 0)
  have h3 := Int.emod_lt_of_pos n hm
  split at h1 <;> omega
theorem tmod_pos {n m : Int} (hm : 0 < m) (h : ¬ n.tmod m < 0) : n % m = n.tmod m := by
  have h1 := Int.tmod_eq_emod (a := n) (b := m)
  have h2 := Int.emod_nonneg n (by omega : m ≠ 0)
  have h3 := Int.emod_lt_of_pos n hm
  split at h1 <;> omega
set_option maxHeartbeats 400000 in
theorem mod_any (n m : Int) (w : World) (hm : 0 < m) (hm1 : m ≤ 1000000) : Calls Tryz.prog 19 #[.int .i64 n, .int .i64 m] w (RetPureV (.int .i64 (n % m)) w) := by
  have hne : ¬ m = 0 := by omega
  have hb : (m == 0) = false := by rw [beq_eq_false_iff_ne]; omega
  have hb' : (m == -1) = false := by rw [beq_eq_false_iff_ne]; omega
  have hlt : n.tmod m < m := Int.tmod_lt_of_pos n hm
  have hgt : -m < n.tmod m := by
    have h2 := Int.tmod_eq_emod (a := n) (b := m)
    have h3 := Int.emod_nonneg n hne
    have h4 := Int.emod_lt_of_pos n hm
    split at h2 <;> omega
  by_cases hn : n.tmod m < 0
  · rw [tmod_neg hm hn]
    go_enter Tryz.func19, Tryz.ntmps19
    go_wp2
    go_ret
    exact ⟨by go_num, rfl⟩
  · rw [tmod_pos hm hn]
    go_enter Tryz.func19, Tryz.ntmps19
    go_wp2
    go_ret
    exact ⟨by go_num, rfl⟩
end Go.Proofs.YtendgffijciehaaGreatDoor
/- Valid trees. -/
namespace Go.Proofs.YtendgffijciehaaGreatDoor
open Go.RowKit
namespace Tr
theorem Ok.sm {k : Nat} (hk : k ≤ 100000) : ∀ {t : Tr}, t.Ok k → t.ob.Sm
  | .num q, h => by
    have h1 := Rb.nlen h
    have h2 := Rb.dlen h
    exact .mk (ratO q) (by show (Lib.itoa q.num).length ≤ _; omega) (by show (Lib.itoa (q.den : Int)).length ≤ _; omega) (fun x hx => by cases hx)
  | .txt t, _ => .mk (txtO t) (Nat.zero_le _) (Nat.zero_le _) (fun x hx => by cases hx)
  | .sym p s, _ => .mk (symO p s) (Nat.zero_le _) (Nat.zero_le _) (fun x hx => by cases hx)
  | .cons a d, h => .mk (consO a.ob d.ob) (Nat.zero_le _) (Nat.zero_le _) (fun x hx => by
      simp only [List.mem_cons, List.not_mem_nil, or_false] at hx
      rcases hx with rfl | rfl
      · exact Ok.sm hk h.1
      · exact Ok.sm hk h.2)
end Tr
end Go.Proofs.YtendgffijciehaaGreatDoor
/- Raw trees, lists of them and symbols among the arguments: what they read as. -/
namespace Go.Proofs.YtendgffijciehaaGreatDoor
open Go.RowKit Go.ChangeShapes Go.WideShapes Go.Deep Go.Joins

section
variable {H : Type} {enc : TypeId × Value → H} {w : World} {base : Nat} {spare : Nat → Bool} {held : Bool}
set_option maxRecDepth 100000 in
theorem open_raw {r : Reach} {b0 : Nat} {v : Value} {d : DataW H} {p : List MemPlace} (hv : Value.okWide Tryz.prog w r b0 24 v) (h : DataW.Trod enc Tryz.prog w base spare held 24 v d p) :
    ∃ (s : Raw) (A : Option Addr) (n c : Nat), v = rawV s (.slice A n c) ∧ s.Wf ∧ Rd (fun _ => True) w (.slice A n c) (.row (s.l.map Raw.enc)) := by
  obtain ⟨cs, rfl, _⟩ := okWide_struct Tryz.underlying24 hv
  obtain ⟨fuel, hf⟩ := h
  have hf' : DataW.trod enc Tryz.prog w base spare held fuel 24 cs.toList = some (d, p) := hf
  obtain ⟨s, hw, hl, hr⟩ := read_raw fuel _ _ hf'
  rw [Raw.enc_len] at hl
  obtain ⟨l⟩ := cs
  match l, hl with
  | [x0, x1, x2, x3], _ =>
    simp only [Raw.enc_eq] at hr
    obtain ⟨u0, e0, r0⟩ := hr 0 (by simp)
    obtain ⟨u1, e1, r1⟩ := hr 1 (by simp)
    obtain ⟨u2, e2, r2⟩ := hr 2 (by simp)
    obtain ⟨u3, e3, r3⟩ := hr 3 (by simp)
    obtain rfl : x0 = u0 := Option.some.inj e0
    obtain rfl : x1 = u1 := Option.some.inj e1
    obtain rfl : x2 = u2 := Option.some.inj e2
    obtain rfl : x3 = u3 := Option.some.inj e3
    obtain rfl := r0.val_eq
    obtain rfl := r1.val_eq
    obtain rfl := r2.val_eq
    obtain ⟨A, n, c, rfl, _⟩ := Rd.slice r3
    exact ⟨s, A, n, c, rfl, hw, r3⟩
set_option maxRecDepth 100000 in
theorem open_raws {r : Reach} {b0 : Nat} {v : Value} {d : DataW H} {p : List MemPlace} (hv : Value.okWide Tryz.prog w r b0 22 v) (h : DataW.Trod enc Tryz.prog w base spare held 22 v d p) :
    ∃ (l : List Raw) (A : Option Addr) (n c : Nat), v = .slice A n c ∧ (∀ s ∈ l, s.Wf) ∧ n ≤ 9223372036854775807 ∧ Rd (fun _ => True) w (.slice A n c) (.row (l.map Raw.enc)) := by
  obtain ⟨a, len, cap, rfl⟩ := okWide_slice Tryz.underlying22 hv
  obtain ⟨fuel, hf⟩ := h
  obtain ⟨A, n, c, l, e, hr, hn, hg⟩ := read_rows Raw.enc Raw.Wf 4 (by omega) Raw.enc_len Tryz.underlying22 cellsRaw hf (fun n'' _ cs' y hy => read_raw n'' cs' y hy)
  simp only [Value.cells, List.cons.injEq, and_true] at e
  unfold maxLen at hn
  exact ⟨l, A, n, c, by simpa using e, hg, hn, hr⟩
end
end Go.Proofs.YtendgffijciehaaGreatDoor
/- What the rows' list of variables gives, and a world that holds them. -/
namespace Go.Proofs.YtendgffijciehaaGreatDoor
open Go.ChangeShapes Go.WideShapes Go.ChangeAt Go.RowKit

theorem own : ownKnob Tryz.prog.godebug = none := by kernel_rfl
def cellsOfTab (k : IntKind) (zs : List Int) : Array Value := (zs.map fun z => Value.int k z).toArray
def put (h : Array Obj) (g : Nat) (cs : Array Value) : Array Obj := h.modify g fun
  | .cells _ t frozen => .cells cs t frozen
  | o => o
end Go.Proofs.YtendgffijciehaaGreatDoor
/- What the rows' list of variables gives: the table of powers of ten. -/
namespace Go.Proofs.YtendgffijciehaaGreatDoor
open Go.ChangeShapes Go.WideShapes Go.ChangeAt Go.RowKit

theorem gPow : Tryz.prog.globalNamed "internal/strconv.uint64pow10" = some 0 := by kernel_rfl
theorem gPowType : (Tryz.prog.globals[0]?).map (·.type) = some 234 := by kernel_rfl
theorem cellsPow : Tryz.prog.cellsOf 234 = 20 := by kernel_rfl
theorem cellsU64 : Tryz.prog.cellsOf 107 = 1 := by kernel_rfl
theorem pow_data : (Rows.laid_internal_strconv_uint64pow10 : DataW Unit) = Lib.tabData .u64 Lib.pow10Tab := by kernel_rfl
theorem table {W : World} {l : List (String × DataW Unit)} (hl : l.filter (fun x => x.1 == "internal/strconv.uint64pow10") = [("internal/strconv.uint64pow10", Rows.laid_internal_strconv_uint64pow10)]) (h : laidMet Tryz.prog l W) : Tab W := by
  have h1 := h.filter (fun x => x.1 == "internal/strconv.uint64pow10")
  rw [hl, pow_data] at h1
  exact Lib.tabIs_of_head (rest := []) gPow gPowType Tryz.underlying234 Tryz.underlying107 cellsU64 cellsPow h1

end Go.Proofs.YtendgffijciehaaGreatDoor
/- A world that holds the tables of a seat that lists three of them. -/
namespace Go.Proofs.YtendgffijciehaaGreatDoor
open Go.ChangeShapes Go.WideShapes Go.ChangeAt Go.RowKit

/-- the settled world, and each variable as its initialiser lays it -/
noncomputable def laidWorld3 (os : Os) : World :=
  let w0 := World.holding Tryz.prog os ⟨#[], #[], []⟩
  let h1 := put w0.heap 0 (cellsOfTab .u64 Lib.pow10Tab)
  let h2 := put h1 1 (cellsOfTab .u8 [0, 1, 28, 2, 29, 14, 24, 3, 30, 22, 20, 15, 25, 17, 4, 8, 31, 27, 13, 23, 21, 19, 16, 7, 26, 12, 18, 6, 11, 5, 10, 9])
  let h3 := put h2 2 (cellsOfTab .u8 [0, 1, 56, 2, 57, 49, 28, 3, 61, 58, 42, 50, 38, 29, 17, 4, 62, 47, 59, 36, 45, 43, 51, 22, 53, 39, 33, 30, 24, 18, 12, 5, 63, 55, 48, 27, 60, 41, 37, 16, 46, 35, 44, 21, 52, 32, 23, 11, 54, 26, 40, 15, 34, 20, 31, 10, 25, 14, 19, 9, 13, 8, 7, 6])
  { w0 with heap := h3 }
end Go.Proofs.YtendgffijciehaaGreatDoor
/- A region that draws its order and assigns several struct variables at once ('x, y := f(a), g(b)'): loads, calls, allocations and stores, in whatever order. -/
namespace Go.Proofs.YtendgffijciehaaGreatDoor
open Go.RowKit

section
variable {P : Program} {ops : Array Oper} {Q : Exit → Act → World → Prop}
end

section
variable {P : Program} {ops : Array Oper} {Q : Exit → Act → World → Prop} {k : Nat} {iL iC iA iS sl sc sx : Nat → Nat} {ds : List Nat} {base : Act} {w0 : World} {T : TypeId} {vl : Nat → Value} {z : Array Value}
  {G : Nat → (Nat → Prop) → World → Value → Prop} {St : World → Nat → Value → World} {C : Value → Array Value}
abbrev ptr (g : Nat) : Value := .pointer (some ⟨g, 0, none⟩)
theorem getD_upd {listed : Array Bool} {i j : Nat} (h : (listed.setIfInBounds i true).getD j false = true) : j = i ∨ listed.getD j false = true := by
  by_cases e : i = j
  · exact .inl e.symm
  · rw [Go.getD_set_ne false e] at h; exact .inr h
end
end Go.Proofs.YtendgffijciehaaGreatDoor
