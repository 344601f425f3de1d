/- The reference of objects: constructors and the small questions. -/
import Derived.Test.YtendgffijciehaaGreatDoorFB
import Derived.Test.YtendgffijciehaaGreatDoorFA
import Derived.Deep.RegionHeld3
import Derived.Lib.SmallJoins
import Derived.Test.YtendgffijciehaaGreatDoorCards
import Derived.Test.YtendgffijciehaaGreatDoorTie
import Derived.ProofKit
import Derived.OpenShut
import Derived.ShutString
import Derived.Deep.DeepHandedRow
import Derived.Deep.DeepWitnessRowRef
import Derived.Lib.ItoaNum
import Derived.Lib.LaidTab
import Derived.LaidSub
import Derived.Orders
import Derived.Laws.CopyRow
import Derived.Laws.Cells
namespace Go.Proofs.YtendgffijciehaaGreatDoor
open Go.RowKit

theorem divInt_one' (n : Int) : Rat.divInt n 1 = (n : Rat) := by
  have := Rat.num_divInt_den (n : Rat)
  rwa [Rat.num_intCast, Rat.den_intCast] at this
set_option maxHeartbeats 400000 in
theorem rLisp_any (l : List UInt8) (w : World) : Calls Tryz.prog 51 #[str l] w (RetBel (.agg #[str lispB, str l]) w) := by
  go_enter Tryz.func51, Tryz.ntmps51
  go_wp2
  exact bodyPost_ret (v := .agg #[str lispB, str l]) (by simp [results, Tryz.results51, go_sem]) rfl ⟨rfl, box _ _⟩
set_option maxHeartbeats 400000 in
theorem refFromInt_any (n : Int) (w : World) (ht : Tab w) (h0 : -9223372036854775808 ≤ n) (h1 : n ≤ 9223372036854775807) :
    Calls Tryz.prog 70 #[.int .i64 n] w (RetStr (Lib.itoa n) w) := by
  have HI := Lib.hid (itoa_any n w ht h0 h1)
  clear h0 h1
  go_enter Tryz.func70, Tryz.ntmps70
  go_wp2_with fail
  refine HI.out.mono ?_
  rintro e w1 ⟨rfl, hb⟩
  go_wp2
  go_ret
  exact ⟨rfl, hb⟩
set_option maxHeartbeats 400000 in
theorem rNil_any (w : World) : Calls Tryz.prog 17 #[] w (RetLeaf nilO w) := by
  go_enter Tryz.func17, Tryz.ntmps17
  go_wp2_with fail
  refine (rLisp_any nilB _).mono ?_
  rintro e w1 ⟨rfl, hb⟩
  go_wp2_with fail
  refine (rSymbol_any _ lispB nilB).mono ?_
  rintro e w2 ⟨rfl, hb2⟩
  have HB := Lib.hid ((BlkIs.via hb).below hb2)
  obtain ⟨u0, u1, u2, u3, u4, u5, u6, ul⟩ := HB.out.seven
  obtain ⟨uf0, uf1, uf2, uf3, uf4, uf5, uf6⟩ := HB.out.frozen7
  go_wp2
  exact ret_obj Tryz.results17 rfl HB.out.put7 rfl ⟨rfl, set7 (then_ (via hb) hb2) (Nat.le_refl _) _ _ _ _ _ _ _⟩
set_option maxHeartbeats 400000 in
theorem rRational_any (a b : List UInt8) (w : World) (ha : a.length ≤ 1100000) (hb : b.length ≤ 1100000) : Calls Tryz.prog 69 #[str a, str b] w (RetLeaf (numO (Lib.itoa (rdN (Dec.dval a) (Dec.dval b))) (Lib.itoa (rdD (Dec.dval a) (Dec.dval b)))) w) := by
  have HF := Lib.hid (fun w' (_ : Below w.heap.size w w') => refReduce_any a b w' ha hb)
  clear ha hb
  generalize Lib.itoa (rdN (Dec.dval a) (Dec.dval b)) = n at *
  generalize Lib.itoa (rdD (Dec.dval a) (Dec.dval b)) = d at *
  go_enter Tryz.func69, Tryz.ntmps69
  go_wp2_with fail
  refine (HF.out _ (box _ _)).mono ?_
  rintro e w1 ⟨rfl, hb⟩
  have HB := Lib.hid (BlkIs.via hb)
  obtain ⟨u0, u1, u2, u3, u4, u5, u6, hu⟩ := HB.out.seven
  obtain ⟨f0, f1, f2, f3, f4, f5, f6⟩ := HB.out.frozen7
  go_wp2
  exact ret_obj Tryz.results69 rfl HB.out.put7 rfl ⟨rfl, set7 (via hb) (Nat.le_refl _) _ _ _ _ _ _ _⟩
theorem rRationalQ (a b : List UInt8) (w : World) (ha : a.length ≤ 1100000) (hb : b.length ≤ 1100000) : Calls Tryz.prog 69 #[str a, str b] w (RetLeaf (ratO (Rat.divInt (Dec.dval a) (Dec.dval b))) w) := by
  have := rRational_any a b w ha hb
  rwa [(rd_rat _ _).1, (rd_rat _ _).2] at this
set_option maxHeartbeats 400000 in
theorem rCons_any (ok : Nat → Prop) (a d : Ob) (A A' : Option Addr) (n n' c c' : Nat) (w : World) (ha : Rd ok w (.slice A n c) (.row (a.pair.map Ob.enc))) (hd : Rd ok w (.slice A' n' c') (.row (d.pair.map Ob.enc))) :
    Calls Tryz.prog 125 #[objV a (.slice A n c), objV d (.slice A' n' c')] w (RetObj ok (consO a d) w) := by
  go_enter Tryz.func125, Tryz.ntmps125
  go_wp2
  exact ret_obj Tryz.results125 rfl ((BlkIs.new2 w _ _ _ _).alloc _) rfl (cons_ret ok a d A A' n n' c c' w ha hd)
set_option maxHeartbeats 400000 in
theorem rIsCons_any (o : Ob) (A : Option Addr) (n c : Nat) (w : World) (hn : n ≤ 9223372036854775807) :
    Calls Tryz.prog 119 #[objV o (.slice A n c)] w (RetBel (.bool (decide (o.kind = 4 ∧ n = 2))) w) := by
  by_cases hk : o.kind = 4
  · by_cases h2 : n = 2
    · rw [decide_eq_true ⟨hk, h2⟩]
      obtain ⟨k, nm, d, p, s, t, l⟩ := o
      dsimp only at hk
      subst hk h2
      go_enter Tryz.func119, Tryz.ntmps119
      go_wp2
      go_ret
      exact ⟨rfl, box _ _⟩
    · rw [decide_eq_false (fun h => h2 h.2)]
      obtain ⟨k, nm, d, p, s, t, l⟩ := o
      dsimp only at hk
      subst hk
      have hn2 : ((n : Int) == 2) = false := by rw [beq_eq_false_iff_ne]; omega
      clear h2
      go_enter Tryz.func119, Tryz.ntmps119
      go_wp2
      go_ret
      exact ⟨rfl, box _ _⟩
  · rw [decide_eq_false (fun h => hk h.1)]
    obtain ⟨k, nm, d, p, s, t, l⟩ := o
    dsimp only at hk
    have hn2 : (k == 4) = false := by rw [beq_eq_false_iff_ne]; exact hk
    clear hk
    go_enter Tryz.func119, Tryz.ntmps119
    go_wp2
    go_ret
    exact ⟨rfl, box _ _⟩
set_option maxHeartbeats 400000 in
theorem rInt_any (n : Int) (w : World) (ht : Tab w) (h0 : -9223372036854775808 ≤ n) (h1 : n ≤ 9223372036854775807) : Calls Tryz.prog 40 #[.int .i64 n] w (RetLeaf (ratO (n : Rat)) w) := by
  have HF := Lib.hid (fun w' (hb : Below w.heap.size w w') => refFromInt_any n w' (ht.below hb) h0 h1)
  have hl : (Lib.itoa n).length ≤ 20 := itoa_length_any n (k := 19) (by omega) (by omega)
  have HR : Hid (∀ w' : World, Calls Tryz.prog 69 #[str (Lib.itoa n), str [49]] w' (RetLeaf (ratO (n : Rat)) w')) := fun w' => by
    have := rRationalQ (Lib.itoa n) [49] w' (by omega) (by decide)
    rwa [Dec.dval_itoa, show Dec.dval [49] = 1 by decide +kernel, divInt_one'] at this
  unfold ratO at HR ⊢
  clear h0 h1 hl
  generalize Lib.itoa (n : Rat).num = l1 at *
  generalize Lib.itoa ((n : Rat).den : Int) = l2 at *
  generalize Lib.itoa n = ln at *
  go_enter Tryz.func40, Tryz.ntmps40
  go_wp2_with fail
  refine (HF.out _ (box _ _)).mono ?_
  rintro e w1 ⟨rfl, hb⟩
  go_wp2_with fail
  refine (HR.out _).mono ?_
  rintro e w2 ⟨rfl, hb2⟩
  have HB := Lib.hid ((BlkIs.via hb).below hb2)
  obtain ⟨u0, u1, u2, u3, u4, u5, u6, ul⟩ := HB.out.seven
  obtain ⟨uf0, uf1, uf2, uf3, uf4, uf5, uf6⟩ := HB.out.frozen7
  go_wp2
  exact ret_obj Tryz.results40 rfl HB.out.put7 rfl ⟨rfl, set7 (then_ (via hb) hb2) (Nat.le_refl _) _ _ _ _ _ _ _⟩
set_option maxHeartbeats 2000000 in
set_option maxRecDepth 100000 in
theorem rList_any (ok : Nat → Prop) (l : List Ob) (A : Option Addr) (n c : Nat) (w : World) (h : Rd ok w (.slice A n c) (.row (l.map Ob.enc))) (hn : n ≤ 1000000) :
    Calls Tryz.prog 126 #[.slice A n c] w (RetObj ok (listO l) w) := by
  have HL := Lib.hid h.len
  go_enter Tryz.func126, Tryz.ntmps126
  go_wp2_with fail
  refine (rNil_any _).mono ?_
  rintro e w1 ⟨rfl, hb1⟩
  have R1 := Lib.hid (BlkIs.via hb1)
  have b1 : Below w.heap.size w w1 := via hb1
  have hsz := R1.out.lt
  clear hb1
  go_wp2
  go_loopw [4] (fun ix wr => ∃ (j : Nat) (o : Ob) (Ao : Option Addr) (no co : Nat), j ≤ n ∧ ix = .int .i64 ((j : Int) - 1) ∧ Hid (o = listO (l.drop j)) ∧ Hid (BlkIs wr w.heap.size 35 zeroCells) ∧ Hid (BlkIs wr w1.heap.size 35 (obCells o (.slice Ao no co))) ∧ Rd (fun b => (ok b ∧ b < w.heap.size) ∨ w1.heap.size < b) wr (.slice Ao no co) (.row (o.pair.map Ob.enc)) ∧ Below w.heap.size w wr) (fun ix _ => (intOf ix + 1).toNat)
  case atStart => exact ⟨n, nilO, none, 0, 0, Nat.le_refl _, rfl, Lib.hid (by rw [List.drop_of_length_le (by have := HL.out; rw [List.length_map] at this; omega)]; rfl), Lib.hid (R1.out.alloc _), Lib.hid (BlkIs.new w1 _ _), .nil _ _, box2 b1 _⟩
  case round =>
    obtain ⟨j, o, Ao, no, co, hj, rfl, HO, R, X, hr, hb⟩ := hrel
    clear b1 R1
    have hgs := X.out.lt
    obtain ⟨x0, x1, x2, x3, x4, x5, x6, xl⟩ := X.out.seven
    obtain ⟨xf0, xf1, xf2, xf3, xf4, xf5, xf6⟩ := X.out.frozen7
    rcases Nat.eq_zero_or_pos j with h0 | h0
    · subst h0
      obtain ⟨r0, r1, r2, r3, r4, r5, r6, rl⟩ := R.out.seven
      obtain ⟨rf0, rf1, rf2, rf3, rf4, rf5, rf6⟩ := R.out.frozen7
      go_wp2
      have e : o = listO l := by rw [HO.out]; rfl
      refine ret_obj Tryz.results126 rfl R.out.put7 rfl ⟨Ao, no, co, by rw [← e], ?_, set7 hb (Nat.le_refl _) _ _ _ _ _ _ _⟩
      rw [← e]
      refine Rd.mono (hr.far7 (g := w.heap.size) (fun b hb' => by omega) _ _ _ _ _ _ _) (fun b hb' _ => ?_)
      rcases hb' with h1 | h1
      · exact .inl h1.1
      · exact .inr (by omega)
    · obtain ⟨b, q, hil, A3, n3, c3, rfl, hbl, hok, a0, a1, a2, a3, a4, a5, a6, ha⟩ := h.objs hb (i := j - 1) (by omega)
      have hbl' := Nat.lt_of_lt_of_le hbl hb.size
      have HS := Lib.hid (drop_cons hil)
      have hi1 : (0 : Int) ≤ (j : Int) - 1 := by omega
      have hi2 : (j : Int) - 1 < n := by omega
      have hi3 : ((j : Int) - 1).toNat = j - 1 := by omega
      have ha' : Rd (fun b => (ok b ∧ b < w.heap.size) ∨ w1.heap.size < b) wr.drew (.slice A3 n3 c3) (.row ((l[j - 1]).pair.map Ob.enc)) := (((ha.mono fun b h1 h2 => ⟨h1, h2⟩ : Rd (fun b => ok b ∧ b < w.heap.size) w _ _).under hb).mono fun b h1 _ => .inl h1).drew
      have HC := Lib.hid (rCons_any (fun b => (ok b ∧ b < w.heap.size) ∨ w1.heap.size < b) l[j - 1] o A3 Ao n3 no c3 co wr.drew ha' hr.drew)
      have hbd := hb.drew
      go_upto_region 5 with (fail)
      go_still_tail 5, (by kernel_rfl)
      go_wp2_with fail
      refine HC.out.mono ?_
      rintro e v ⟨A5, n5, c5, rfl, hr5, hb5⟩
      have X5 := Lib.hid (X.out.drew.below hb5)
      have R5 := Lib.hid (R.out.drew.below hb5)
      have hv := hb5.size
      have hb5' := then_ hbd hb5
      clear x0 xf0 x1 xf1 x2 xf2 x3 xf3 x4 xf4 x5 xf5 x6 xf6 a0 a1 a2 a3 a4 a5 a6
      obtain ⟨y0, y1, y2, y3, y4, y5, y6, yl⟩ := X5.out.seven
      obtain ⟨yf0, yf1, yf2, yf3, yf4, yf5, yf6⟩ := X5.out.frozen7
      go_wp2
      go_roundw
      case rel =>
        refine ⟨j - 1, consO l[j - 1] o, A5, n5, c5, by omega, by go_num, Lib.hid ?_, Lib.hid (R5.out.far7 (by omega) _ _ _ _ _ _ _), Lib.hid X5.out.put7, ?_, set7 hb5' (by omega) _ _ _ _ _ _ _⟩
        · have := HS.out
          rw [Nat.sub_add_cancel h0, ← HO.out] at this
          exact this.symm
        · refine (hr5.mono (fun b h1 _ => ?_)).far7 (fun b h1 => by omega) _ _ _ _ _ _ _
          rcases h1 with h1 | h1
          · exact h1
          · right
            have : wr.drew.heap.size = wr.heap.size := rfl
            omega
      case measure => simp only [intOf]; omega
end Go.Proofs.YtendgffijciehaaGreatDoor
/- The reference of objects: Equal, IsNil. -/
namespace Go.Proofs.YtendgffijciehaaGreatDoor
open Go.RowKit

theorem all_eq {l m : List Ob} {n : Nat} (hl : l.length = n) (hm : m.length = n) (h : ∀ j (h1 : j < l.length) (h2 : j < m.length), j < n → l[j] = m[j]) : l = m := by
  apply List.ext_getElem (by omega)
  intro i h1 h2
  exact h i h1 h2 (by omega)
set_option maxHeartbeats 8000000 in
set_option maxRecDepth 100000 in
theorem rEqual_any (ok ok' : Nat → Prop) : ∀ (N : Nat) (a b : Ob), a.size ≤ N → a.Wf → ∀ (A A' : Option Addr) (n n' c c' : Nat) (w : World), Rd ok w (.slice A n c) (.row (a.pair.map Ob.enc)) → Rd ok' w (.slice A' n' c') (.row (b.pair.map Ob.enc)) →
    Calls Tryz.prog 60 #[objV a (.slice A n c), objV b (.slice A' n' c')] w (RetEq (a = b) w) := by
  intro N
  induction N with
  | zero => intro a b h; have := Ob.size_pos a; omega
  | succ N ih =>
    intro a b hN hW A A' n n' c c' w hx hy
    obtain ⟨P, HP⟩ : ∃ P : Prop, Hid (P ↔ a = b) := ⟨_, Lib.hid Iff.rfl⟩
    rw [show (a = b) = P from propext HP.out.symm]
    obtain ⟨xk, xn, xd, xp, xs, xt, xl⟩ := a
    obtain ⟨yk, yn, yd, yp, ys, yt, yl⟩ := b
    have hxl := hx.len
    have hyl := hy.len
    rw [List.length_map] at hxl hyl
    have hw1 := hW.len
    dsimp only at hxl hyl hw1
    by_cases hk : xk = yk
    case neg =>
      have hz : (xk != yk) = true := by rw [bne_iff_ne]; exact hk
      have HF : Hid (¬ P) := fun e => hk (by have e1 := HP.out.1 e; injection e1)
      clear hk hxl hyl
      go_enter Tryz.func60, Tryz.ntmps60
      go_wp2
      go_ret
      exact ⟨false, rfl, iff_no HF.out, box2 (box _ _) _⟩
    subst hk
    by_cases hn : xn = yn
    case neg =>
      have hz : (xn == yn) = false := by rw [beq_eq_false_iff_ne]; exact hn
      have HF : Hid (¬ P) := fun e => hn (by have e1 := HP.out.1 e; injection e1)
      clear hn hxl hyl
      go_enter Tryz.func60, Tryz.ntmps60
      go_wp2
      go_ret
      exact ⟨false, rfl, iff_no HF.out, box2 (box _ _) _⟩
    subst hn
    by_cases hd : xd = yd
    case neg =>
      have hz : (xd == yd) = false := by rw [beq_eq_false_iff_ne]; exact hd
      have HF : Hid (¬ P) := fun e => hd (by have e1 := HP.out.1 e; injection e1)
      clear hd hxl hyl
      go_enter Tryz.func60, Tryz.ntmps60
      go_wp2
      go_ret
      exact ⟨false, rfl, iff_no HF.out, box2 (box _ _) _⟩
    subst hd
    by_cases hp : xp = yp
    case neg =>
      have hz : (xp == yp) = false := by rw [beq_eq_false_iff_ne]; exact hp
      have HF : Hid (¬ P) := fun e => hp (by have e1 := HP.out.1 e; injection e1)
      clear hp hxl hyl
      go_enter Tryz.func60, Tryz.ntmps60
      go_wp2
      go_ret
      exact ⟨false, rfl, iff_no HF.out, box2 (box _ _) _⟩
    subst hp
    by_cases hs : xs = ys
    case neg =>
      have hz : (xs == ys) = false := by rw [beq_eq_false_iff_ne]; exact hs
      have HF : Hid (¬ P) := fun e => hs (by have e1 := HP.out.1 e; injection e1)
      clear hs hxl hyl
      go_enter Tryz.func60, Tryz.ntmps60
      go_wp2
      go_ret
      exact ⟨false, rfl, iff_no HF.out, box2 (box _ _) _⟩
    subst hs
    by_cases ht : xt = yt
    case neg =>
      have hz : (xt == yt) = false := by rw [beq_eq_false_iff_ne]; exact ht
      have HF : Hid (¬ P) := fun e => ht (by have e1 := HP.out.1 e; injection e1)
      clear ht hxl hyl
      go_enter Tryz.func60, Tryz.ntmps60
      go_wp2
      go_ret
      exact ⟨false, rfl, iff_no HF.out, box2 (box _ _) _⟩
    subst ht
    by_cases hl : n = n'
    case neg =>
      have hz : ((n : Int) != (n' : Int)) = true := by rw [bne_iff_ne]; omega
      have HF : Hid (¬ P) := fun e => hl (by have e1 := HP.out.1 e; injection e1 with _ _ _ _ _ _ e2; rw [← hxl, ← hyl, e2])
      clear hl hxl hyl
      go_enter Tryz.func60, Tryz.ntmps60
      go_wp2
      go_ret
      exact ⟨false, rfl, iff_no HF.out, box2 (box _ _) _⟩
    subst hl
    have HXL := Lib.hid hxl
    have HYL := Lib.hid hyl
    rw [hxl] at hw1
    clear hxl hyl
    go_enter Tryz.func60, Tryz.ntmps60
    go_wp2
    go_loopw [5] (fun ix wq => ∃ i : Nat, i ≤ n ∧ ix = .int .i64 i ∧ Hid (∀ j (h1 : j < xl.length) (h2 : j < yl.length), j < i → xl[j] = yl[j]) ∧ Hid (BlkIs wq w.heap.size 35 (obCells ⟨xk, xn, xd, xp, xs, xt, xl⟩ (.slice A n c))) ∧ Hid (BlkIs wq (w.heap.size + 1) 35 (obCells ⟨xk, xn, xd, xp, xs, xt, yl⟩ (.slice A' n c'))) ∧ Below w.heap.size w wq) (fun ix _ => n - (intOf ix).toNat)
    case atStart => exact ⟨0, Nat.zero_le _, rfl, Lib.hid (fun j _ _ h => absurd h (by omega)), Lib.hid ((BlkIs.new w _ _).alloc _), Lib.hid (BlkIs.new1 w _ _ _), box2 (box _ _) _⟩
    case round =>
      obtain ⟨i, hi, rfl, HJ, HX, HY, hb⟩ := hrel
      obtain ⟨u0, u1, u2, u3, u4, u5, u6, hu⟩ := HX.out.seven
      obtain ⟨v0, v1, v2, v3, v4, v5, v6, hv⟩ := HY.out.seven
      by_cases hin : i < n
      · obtain ⟨p1, q1, hil, A4, n4, c4, rfl, hp1, _, a0, a1, a2, a3, a4, a5, a6, ha⟩ := hx.objs hb (i := i) hin
        obtain ⟨p2, q2, hil', A5, n5, c5, rfl, hp2, _, b0, b1, b2, b3, b4, b5, b6, hb'⟩ := hy.objs hb (i := i) hin
        have hp1' := Nat.lt_of_lt_of_le hp1 hb.size
        have hp2' := Nat.lt_of_lt_of_le hp2 hb.size
        have hsz := Ob.size_pair (o := ⟨xk, xn, xd, xp, xs, xt, xl⟩) (x := xl[i]) (List.getElem_mem hil)
        have hwf := hW.kids (x := xl[i]) (List.getElem_mem hil)
        have HC : Hid (∀ wd : World, Below w.heap.size w wd → Calls Tryz.prog 60 #[objV xl[i] (.slice A4 n4 c4), objV yl[i] (.slice A5 n5 c5)] wd (RetEq (xl[i] = yl[i]) wd)) := fun wd hd => ih xl[i] yl[i] (by omega) hwf A4 A5 n4 n5 c4 c5 wd (ha.under hd) (hb'.under hd)
        have hi1 : (0 : Int) ≤ (i : Int) := by omega
        have hi2 : (i : Int) < n := by omega
        have hbd := hb.drew
        go_upto_region 6 with (fail)
        go_still_tail 10, (by kernel_rfl)
        go_wp2_with fail
        refine (HC.out _ hbd).mono ?_
        rintro e w1 ⟨bb, rfl, hbb, hb1⟩
        have hbw1 := then_ hbd hb1
        cases bb with
        | false =>
          have HF : Hid (¬ P) := fun e => by
            have e1 := HP.out.1 e
            injection e1 with _ _ _ _ _ _ e2
            have := hbb.2 (by subst e2; rfl)
            cases this
          clear hbb
          go_wp2
          go_ret
          exact ⟨false, rfl, iff_no HF.out, hbw1⟩
        | true =>
          have HE := Lib.hid (hbb.1 rfl)
          clear hbb
          go_wp2
          go_roundw
          case rel => exact ⟨i + 1, by omega, by go_num, Lib.hid (fun j h1 h2 h => by
            rcases Nat.lt_or_ge j i with h3 | h3
            · exact HJ.out j h1 h2 h3
            · obtain rfl : j = i := by omega
              exact HE.out), Lib.hid (HX.out.drew.below hb1), Lib.hid (HY.out.drew.below hb1), hbw1⟩
          case measure => simp only [intOf]; omega
      · obtain rfl : i = n := by omega
        have HT : Hid P := HP.out.2 (by
          rw [all_eq HXL.out HYL.out HJ.out])
        go_wp2
        go_ret
        exact ⟨true, rfl, iff_yes HT.out, hb⟩
end Go.Proofs.YtendgffijciehaaGreatDoor
/- The reference of objects: IsNil, IsInteger, Fix. -/
namespace Go.Proofs.YtendgffijciehaaGreatDoor
open Go.RowKit

set_option maxHeartbeats 1000000 in
set_option maxRecDepth 100000 in
theorem rIsNil_any (ok : Nat → Prop) (o : Ob) (hw : o.Wf) (A : Option Addr) (n c : Nat) (w : World) (h : Rd ok w (.slice A n c) (.row (o.pair.map Ob.enc))) : Calls Tryz.prog 59 #[objV o (.slice A n c)] w (RetEq (o = nilO) w) := by
  have HE : Hid (∀ w' : World, Below w.heap.size w w' → Calls Tryz.prog 60 #[objV o (.slice A n c), objV nilO (.slice none 0 0)] w' (RetEq (o = nilO) w')) := fun w' hb => rEqual_any ok (fun _ => True) o.size o nilO (Nat.le_refl _) hw A none n 0 c 0 w' (h.under hb) (.nil _ _)
  generalize (o = nilO) = P at *
  go_enter Tryz.func59, Tryz.ntmps59
  go_upto_region 1 with (fail)
  have X0' := Lib.hid (BlkIs.new w 35 (obCells o (.slice A n c)))
  have b0 := (box w (.cells (obCells o (.slice A n c)) 35)).drew
  generalize w.alloc (.cells (obCells o (.slice A n c)) 35) = W at *
  have X0 := Lib.hid X0'.out.drew
  obtain ⟨xs0, xs1, xs2, xs3, xs4, xs5, xs6, xsl⟩ := X0'.out.seven
  go_region_held3 (fun w' => w'.cell? ⟨w.heap.size, 0, none⟩ = some (.int .i64 o.kind) ∧ w'.cell? ⟨w.heap.size, 1, none⟩ = some (str o.num) ∧ w'.cell? ⟨w.heap.size, 2, none⟩ = some (str o.den) ∧ w'.cell? ⟨w.heap.size, 3, none⟩ = some (str o.sp) ∧ w'.cell? ⟨w.heap.size, 4, none⟩ = some (str o.sn) ∧ w'.cell? ⟨w.heap.size, 5, none⟩ = some (str o.text) ∧ w'.cell? ⟨w.heap.size, 6, none⟩ = some (.slice A n c)) (go_keep)
    (first | (go_at_call 17; ((with_reducible refine (rNil_any _).mono ?_)); rintro e v1 ⟨rfl, hb1⟩; have b1 := then_ b0 hb1; have X1 := Lib.hid (X0.out.below hb1); obtain ⟨xc1_0, xc1_1, xc1_2, xc1_3, xc1_4, xc1_5, xc1_6, xc1_l⟩ := X1.out.seven) | (go_at_call 60; ((with_reducible refine (HE.out _ b1).mono ?_)); rintro e v2 ⟨bb, rfl, hbb, hb2⟩; have b2 := then_ b1 hb2; have X2 := Lib.hid (X1.out.below hb2); obtain ⟨xc2_0, xc2_1, xc2_2, xc2_3, xc2_4, xc2_5, xc2_6, xc2_l⟩ := X2.out.seven))
  go_wp2
  go_ret
  exact ⟨bb, rfl, hbb, b2⟩
end Go.Proofs.YtendgffijciehaaGreatDoor
/- Which objects are formed and valid, how many nodes they have: package object and the reference, for any object. -/
namespace Go.Proofs.YtendgffijciehaaGreatDoor
open Go.RowKit

abbrev dg (l : List UInt8) : Nat := (Dec.mag (norm l)).length
/-- a fraction in lowest terms within the limits -/
def lowB (n d : List UInt8) : Bool := decide (Lib.itoa (rdN (Dec.dval n) (Dec.dval d)) = n ∧ Lib.itoa (rdD (Dec.dval n) (Dec.dval d)) = d ∧ dg n ≤ 100 ∧ dg d ≤ 100)
namespace Ob
mutual
def formB : Ob → Bool
  | ⟨k, n, d, p, s, t, l⟩ =>
    if k = 4 then decide (n = [] ∧ d = [] ∧ p = [] ∧ s = [] ∧ t = [] ∧ l.length = 2) && allB l
    else if k = 1 then decide (p = [] ∧ s = [] ∧ t = [] ∧ l.length = 0) && lowB n d
    else if k = 2 then decide (n = [] ∧ d = [] ∧ t = [] ∧ l.length = 0) && symOk ⟨p, s⟩
    else if k = 3 then decide (n = [] ∧ d = [] ∧ p = [] ∧ s = [] ∧ t.length ≤ 200 ∧ l.length = 0)
    else false
def allB : List Ob → Bool
  | [] => true
  | o :: r => formB o && allB r
end
theorem formB_eq (k : Int) (n d p s t : List UInt8) (l : List Ob) : formB ⟨k, n, d, p, s, t, l⟩ = (if k = 4 then decide (n = [] ∧ d = [] ∧ p = [] ∧ s = [] ∧ t = [] ∧ l.length = 2) && allB l
    else if k = 1 then decide (p = [] ∧ s = [] ∧ t = [] ∧ l.length = 0) && lowB n d
    else if k = 2 then decide (n = [] ∧ d = [] ∧ t = [] ∧ l.length = 0) && symOk ⟨p, s⟩
    else if k = 3 then decide (n = [] ∧ d = [] ∧ p = [] ∧ s = [] ∧ t.length ≤ 200 ∧ l.length = 0)
    else false) := by rw [formB]
/-- numerals of at most B letters, all the way down -/
inductive Sm : Ob → Prop
  | mk (o : Ob) (hn : o.num.length ≤ 1100000) (hd : o.den.length ≤ 1100000) (h : ∀ x ∈ o.pair, Sm x) : Sm o
theorem Sm.kids {o x : Ob} (h : o.Sm) (hx : x ∈ o.pair) : x.Sm := by
  cases h with
  | mk _ _ _ h => exact h x hx
theorem Sm.len {o : Ob} (h : o.Sm) : o.num.length ≤ 1100000 ∧ o.den.length ≤ 1100000 := by
  cases h with
  | mk _ a b _ => exact ⟨a, b⟩
end Ob
/-- valid: not too many nodes, and formed -/
def Ob.validB (o : Ob) : Bool := decide (o.nodes ≤ 3000) && o.formB
end Go.Proofs.YtendgffijciehaaGreatDoor
/- Valid symbols and package names: symbol.Valid, ValidPackage, lispproverref4.Valid, ValidPackage; what they reach of package object. -/
namespace Go.Proofs.YtendgffijciehaaGreatDoor
open Go.RowKit

abbrev symAgg (s : Sy) : Value := .agg #[str s.pkg, str s.name]

/-! ### symbol.Valid, ValidPackage -/
set_option maxHeartbeats 400000 in
theorem ref2Named_any (s : Sy) (w : World) (hp : s.pkg.length ≤ 9223372036854775807) (hn : s.name.length ≤ 9223372036854775807) : Calls Tryz.prog 185 #[symAgg s] w (RetBel (.bool (symOk s)) w) := by
  obtain ⟨l, m⟩ := s
  have HF : Hid (∀ (w' : World) (b : Bool), pkgOk l = b → Calls Tryz.prog 196 #[str l] w' (RetPureV (.bool b) w')) := fun w' b hb => by
    have := ref2Package_any l w' hp
    rwa [hb] at this
  dsimp only at hp hn ⊢
  cases h : pkgOk l with
  | false =>
    have HR : Hid (symOk ⟨l, m⟩ = false) := by show _ = _; unfold symOk; rw [h]; rfl
    have HH := Lib.hid h
    clear h
    go_enter Tryz.func185, Tryz.ntmps185
    go_wp2_with fail
    refine (HF.out _ _ HH.out).mono ?_
    rintro e w1 ⟨rfl, rfl⟩
    go_wp2
    go_ret
    exact ⟨by rw [HR.out]; rfl, box _ _⟩
  | true =>
    have HR : Hid (symOk ⟨l, m⟩ = nameOk m) := by show _ = _; unfold symOk; rw [h]; rfl
    have HH := Lib.hid h
    clear h
    by_cases h1 : 1 ≤ m.length
    · by_cases h2 : m.length ≤ 40
      · have HN : Hid (nameOk m = true) := by show _ = _; unfold nameOk; simp; omega
        have hd : decide ((m.length : Int) ≤ 40) = true := by simp; omega
        go_enter Tryz.func185, Tryz.ntmps185
        go_wp2_with fail
        refine (HF.out _ _ HH.out).mono ?_
        rintro e w1 ⟨rfl, rfl⟩
        go_wp2
        go_ret
        exact ⟨by rw [HR.out, HN.out]; rfl, box _ _⟩
      · have HN := Lib.hid (nameOk_len (l := m) (.inr (by omega)))
        have hd : decide ((m.length : Int) ≤ 40) = false := by simp; omega
        go_enter Tryz.func185, Tryz.ntmps185
        go_wp2_with fail
        refine (HF.out _ _ HH.out).mono ?_
        rintro e w1 ⟨rfl, rfl⟩
        go_wp2
        go_ret
        exact ⟨by rw [HR.out, HN.out]; rfl, box _ _⟩
    · have HN := Lib.hid (nameOk_len (l := m) (.inl (by omega)))
      have hd : decide (1 ≤ (m.length : Int)) = false := by simp; omega
      go_enter Tryz.func185, Tryz.ntmps185
      go_wp2_with fail
      refine (HF.out _ _ HH.out).mono ?_
      rintro e w1 ⟨rfl, rfl⟩
      go_wp2
      go_ret
      exact ⟨by rw [HR.out, HN.out]; rfl, box _ _⟩
set_option maxHeartbeats 400000 in
theorem ref4Valid_any (s : Sy) (w : World) (hp : s.pkg.length ≤ 9223372036854775807) (hn : s.name.length ≤ 9223372036854775807) : Calls Tryz.prog 170 #[symAgg s] w (RetBel (.bool (symOk s)) w) := by
  have HF : Hid (∀ w' : World, Calls Tryz.prog 185 #[symAgg s] w' (RetBel (.bool (symOk s)) w')) := fun w' => ref2Named_any s w' hp hn
  go_enter Tryz.func170, Tryz.ntmps170
  go_wp2_with fail
  refine (HF.out _).mono ?_
  rintro e w2 ⟨rfl, hb2⟩
  go_wp2
  go_ret
  exact ⟨rfl, via hb2⟩
end Go.Proofs.YtendgffijciehaaGreatDoor
/- The reference's count, Nodes, formed, Valid, for any object. -/
namespace Go.Proofs.YtendgffijciehaaGreatDoor
open Go.RowKit

set_option maxHeartbeats 2000000 in
set_option maxRecDepth 100000 in
theorem count_any (ok : Nat → Prop) : ∀ (N : Nat) (o : Ob), o.size ≤ N → o.Wf → ∀ (A : Option Addr) (n c L : Nat) (w : World), Rd ok w (.slice A n c) (.row (o.pair.map Ob.enc)) → 1 ≤ L → L ≤ 3001 →
    Calls Tryz.prog 140 #[objV o (.slice A n c), .int .i64 L] w (RetBel (.int .i64 (min o.nodes L : Nat)) w) := by
  intro N
  induction N with
  | zero => intro o h; have := Ob.size_pos o; omega
  | succ N ih =>
    intro o hN hW A n c L w hP hL0 hL1
    have hlen := hP.len
    rw [List.length_map] at hlen
    have hn : n ≤ 9223372036854775807 := by rw [← hlen]; exact hW.len
    by_cases h2 : n = 2
    case neg =>
      have hz : ((n : Int) != 2) = true := by rw [bne_iff_ne]; omega
      have e : min o.nodes L = 1 := by rw [Ob.nodes_one (by omega)]; omega
      rw [e]
      clear hlen e h2
      go_enter Tryz.func140, Tryz.ntmps140
      go_wp2
      go_ret
      exact ⟨rfl, box _ _⟩
    subst h2
    by_cases h1 : L ≤ 1
    · have e : min o.nodes L = 1 := by have := o.nodes_pos; omega
      rw [e]
      clear hlen e
      go_enter Tryz.func140, Tryz.ntmps140
      go_wp2
      go_ret
      exact ⟨rfl, box _ _⟩
    obtain ⟨a, d, had⟩ := Ob.two_of_length hlen
    have hsa := Ob.size_pair (o := o) (x := a) (by rw [had]; simp)
    have hsd := Ob.size_pair (o := o) (x := d) (by rw [had]; simp)
    have HWa := Lib.hid (hW.kids (x := a) (by rw [had]; simp))
    have HWd := Lib.hid (hW.kids (x := d) (by rw [had]; simp))
    have HND := Lib.hid (Ob.nodes_two had)
    have pa := a.nodes_pos
    have pd := d.nodes_pos
    obtain ⟨z, hz⟩ : ∃ z : Nat, z = min o.nodes L := ⟨_, rfl⟩
    rw [← hz]
    have HZ := Lib.hid hz
    clear hz
    rw [had] at hP
    have b0 := box w (.cells (obCells o (.slice A 2 c)) 35)
    obtain ⟨b, q, _, A3, n3, c3, rfl, hbl, _, a0, a1, a2, a3, a4, a5, a6, ha⟩ := hP.objs b0 (i := 0) (by omega)
    simp only [List.getElem_cons_zero, Nat.zero_mul, Nat.add_zero] at a0 a1 a2 a3 a4 a5 a6 ha
    have hbl' := Nat.lt_of_lt_of_le hbl b0.size
    have HC : Hid (∀ w' : World, Below w.heap.size w w' → Calls Tryz.prog 140 #[objV a (.slice A3 n3 c3), .int .i64 ((L : Int) - 1)] w' (RetBel (.int .i64 (min a.nodes (L - 1) : Nat)) w')) := fun w' hb => by
      have := ih a (by omega) HWa.out A3 n3 c3 (L - 1) w' (ha.under hb) (by omega) (by omega)
      rwa [show ((L - 1 : Nat) : Int) = (L : Int) - 1 by omega] at this
    have X0 := Lib.hid (BlkIs.new w 35 (obCells o (.slice (some ⟨b, q, none⟩) 2 c)))
    clear hlen
    go_enter Tryz.func140, Tryz.ntmps140
    go_wp2_with fail
    refine (HC.out _ b0).mono ?_
    rintro e w1 ⟨rfl, hb1⟩
    have b1 := then_ b0 hb1
    have X1 := Lib.hid (X0.out.below hb1)
    clear a0 a1 a2 a3 a4 a5 a6 X0
    by_cases h3 : L - 1 ≤ a.nodes
    · have e1 : min a.nodes (L - 1) = L - 1 := by omega
      obtain rfl : z = L := by rw [HZ.out, HND.out]; omega
      have e3 : ((z - 1 : Nat) : Int) = (z : Int) - 1 := by omega
      rw [e1, e3]
      clear e1 e3 HZ HND
      go_wp2
      go_ret
      exact ⟨by go_num, b1⟩
    · have e1 : min a.nodes (L - 1) = a.nodes := by omega
      obtain ⟨md, hmd⟩ : ∃ md, md = min d.nodes (L - (1 + a.nodes)) := ⟨_, rfl⟩
      obtain rfl : z = a.nodes + 1 + md := by rw [HZ.out, HND.out]; omega
      rw [e1]
      clear e1 HZ HND
      obtain ⟨y0, y1, y2, y3, y4, y5, y6, yl⟩ := X1.out.seven
      obtain ⟨b', q', _, A4, n4, c4, eA, _, _, d0, d1, d2, d3, d4, d5, d6, hd⟩ := hP.objs b1 (i := 1) (by omega)
      injection eA with eA
      injection eA with eb eq
      subst eb eq
      simp only [List.getElem_cons_zero, List.getElem_cons_succ, Nat.one_mul] at d0 d1 d2 d3 d4 d5 d6 hd
      have hbl2 := Nat.lt_of_lt_of_le hbl b1.size
      have HC2 : Hid (Calls Tryz.prog 140 #[objV d (.slice A4 n4 c4), .int .i64 ((L : Int) - (1 + (a.nodes : Int)))] w1 (RetBel (.int .i64 (min d.nodes (L - (1 + a.nodes)) : Nat)) w1)) := by
        have := ih d (by omega) HWd.out A4 n4 c4 (L - (1 + a.nodes)) w1 (hd.under b1) (by omega) (by omega)
        rwa [show ((L - (1 + a.nodes) : Nat) : Int) = (L : Int) - (1 + (a.nodes : Int)) by omega] at this
      have hm : md ≤ 3001 := by omega
      rw [← hmd] at HC2
      clear pd hmd
      generalize a.nodes = na at *
      go_wp2_with fail
      refine HC2.out.mono ?_
      rintro e w2 ⟨rfl, hb2⟩
      go_wp2
      go_ret
      exact ⟨by go_num, then_ b1 hb2⟩
set_option maxHeartbeats 400000 in
theorem rNodes_any (ok : Nat → Prop) (o : Ob) (hW : o.Wf) (A : Option Addr) (n c : Nat) (w : World) (hP : Rd ok w (.slice A n c) (.row (o.pair.map Ob.enc))) :
    Calls Tryz.prog 118 #[objV o (.slice A n c)] w (RetBel (.int .i64 (nodesP o)) w) := by
  have HC : Hid (∀ w' : World, Below w.heap.size w w' → Calls Tryz.prog 140 #[objV o (.slice A n c), .int .i64 3001] w' (RetBel (.int .i64 (nodesP o)) w')) := fun w' hb => by
    have := count_any ok o.size o (Nat.le_refl _) hW A n c 3001 w' (hP.under hb) (by omega) (by omega)
    rwa [show ((min o.nodes 3001 : Nat) : Int) = nodesP o by unfold nodesP; split <;> omega] at this
  generalize nodesP o = z at *
  go_enter Tryz.func118, Tryz.ntmps118
  go_wp2_with fail
  refine (HC.out _ (box _ _)).mono ?_
  rintro e w1 ⟨rfl, hb⟩
  go_wp2
  go_ret
  exact ⟨rfl, via hb⟩
set_option maxHeartbeats 4000000 in
set_option maxRecDepth 100000 in
theorem rFormed_num (xn xd xp xs xt : List UInt8) (xl : List Ob) (A : Option Addr) (n c : Nat) (w : World) (hlen : xl.length = n) (hn : n ≤ 9223372036854775807) (h1 : xn.length ≤ 1100000) (h2 : xd.length ≤ 1100000) :
    Calls Tryz.prog 193 #[objV ⟨1, xn, xd, xp, xs, xt, xl⟩ (.slice A n c)] w (RetBel (.bool (Ob.formB ⟨1, xn, xd, xp, xs, xt, xl⟩)) w) := by
  have HR : Hid (∀ w' : World, Calls Tryz.prog 90 #[str xn, str xd] w' (RetStr2 (Lib.itoa (rdN (Dec.dval xn) (Dec.dval xd))) (Lib.itoa (rdD (Dec.dval xn) (Dec.dval xd))) w')) := fun w' => refReduce_any xn xd w' h1 h2
  have HD1 : Hid (∀ w' : World, Calls Tryz.prog 168 #[str xn] w' (RetI64 (dg xn : Nat) w')) := fun w' => refDigitsN_any xn w' (by omega)
  have HD2 : Hid (∀ w' : World, Calls Tryz.prog 168 #[str xd] w' (RetI64 (dg xd : Nat) w')) := fun w' => refDigitsN_any xd w' (by omega)
  have hda : dg xn ≤ 1100002 := by have h1 := Dec.mag_length_le (norm xn); have h2 := norm_length xn; show (Dec.mag (norm xn)).length ≤ _; omega
  have hdb : dg xd ≤ 1100002 := by have h1 := Dec.mag_length_le (norm xd); have h2 := norm_length xd; show (Dec.mag (norm xd)).length ≤ _; omega
  obtain ⟨fb, hfb⟩ : ∃ fb, fb = Ob.formB ⟨1, xn, xd, xp, xs, xt, xl⟩ := ⟨_, rfl⟩
  rw [← hfb]
  have HF : Hid (Ob.formB ⟨1, xn, xd, xp, xs, xt, xl⟩ = fb) := hfb.symm
  clear hfb
  have HL : Hid (lowB xn xd = decide (Lib.itoa (rdN (Dec.dval xn) (Dec.dval xd)) = xn ∧ Lib.itoa (rdD (Dec.dval xn) (Dec.dval xd)) = xd ∧ dg xn ≤ 100 ∧ dg xd ≤ 100)) := rfl
  generalize Lib.itoa (rdN (Dec.dval xn) (Dec.dval xd)) = x at *
  generalize Lib.itoa (rdD (Dec.dval xn) (Dec.dval xd)) = y at *
  generalize dg xn = da at *
  generalize dg xd = db at *
  by_cases hxp : xp = []
  case neg =>
    obtain rfl : fb = false := by rw [← HF.out, Ob.formB_eq]; simp only [show ¬ ((1 : Int) = 4) by decide, if_false, if_true]; rw [Bool.eq_false_iff]; intro h; simp only [Bool.and_eq_true, decide_eq_true_eq] at h; exact hxp (by simp [h])
    have hz : (xp == []) = false := by rw [beq_eq_false_iff_ne]; exact hxp
    clear HF hxp hlen
    go_enter Tryz.func193, Tryz.ntmps193
    go_wp2_with fail
    refine (HR.out _).mono ?_
    rintro e w1 ⟨rfl, hb1⟩
    have X1 := Lib.hid (BlkIs.via hb1)
    obtain ⟨x0, x1, x2, x3, x4, x5, x6, xl⟩ := X1.out.seven
    go_wp2
    go_ret
    exact ⟨rfl, via hb1⟩
  subst hxp
  by_cases hxs : xs = []
  case neg =>
    obtain rfl : fb = false := by rw [← HF.out, Ob.formB_eq]; simp only [show ¬ ((1 : Int) = 4) by decide, if_false, if_true]; rw [Bool.eq_false_iff]; intro h; simp only [Bool.and_eq_true, decide_eq_true_eq] at h; exact hxs (by simp [h])
    have hz : (xs == []) = false := by rw [beq_eq_false_iff_ne]; exact hxs
    clear HF hxs hlen
    go_enter Tryz.func193, Tryz.ntmps193
    go_wp2_with fail
    refine (HR.out _).mono ?_
    rintro e w1 ⟨rfl, hb1⟩
    have X1 := Lib.hid (BlkIs.via hb1)
    obtain ⟨x0, x1, x2, x3, x4, x5, x6, xl⟩ := X1.out.seven
    go_wp2
    go_ret
    exact ⟨rfl, via hb1⟩
  subst hxs
  by_cases hxt : xt = []
  case neg =>
    obtain rfl : fb = false := by rw [← HF.out, Ob.formB_eq]; simp only [show ¬ ((1 : Int) = 4) by decide, if_false, if_true]; rw [Bool.eq_false_iff]; intro h; simp only [Bool.and_eq_true, decide_eq_true_eq] at h; exact hxt (by simp [h])
    have hz : (xt == []) = false := by rw [beq_eq_false_iff_ne]; exact hxt
    clear HF hxt hlen
    go_enter Tryz.func193, Tryz.ntmps193
    go_wp2_with fail
    refine (HR.out _).mono ?_
    rintro e w1 ⟨rfl, hb1⟩
    have X1 := Lib.hid (BlkIs.via hb1)
    obtain ⟨x0, x1, x2, x3, x4, x5, x6, xl⟩ := X1.out.seven
    go_wp2
    go_ret
    exact ⟨rfl, via hb1⟩
  subst hxt
  by_cases hn0 : n = 0
  case neg =>
    obtain rfl : fb = false := by rw [← HF.out, Ob.formB_eq]; simp only [show ¬ ((1 : Int) = 4) by decide, if_false, if_true]; rw [Bool.eq_false_iff]; intro h; simp only [Bool.and_eq_true, decide_eq_true_eq] at h; exact hn0 (by rw [← hlen]; simp [h])
    have hz : ((n : Int) == 0) = false := by rw [beq_eq_false_iff_ne]; omega
    clear HF hn0 hlen
    go_enter Tryz.func193, Tryz.ntmps193
    go_wp2_with fail
    refine (HR.out _).mono ?_
    rintro e w1 ⟨rfl, hb1⟩
    have X1 := Lib.hid (BlkIs.via hb1)
    obtain ⟨x0, x1, x2, x3, x4, x5, x6, xl⟩ := X1.out.seven
    go_wp2
    go_ret
    exact ⟨rfl, via hb1⟩
  subst hn0
  have HZ : Hid (fb = decide (x = xn ∧ y = xd ∧ da ≤ 100 ∧ db ≤ 100)) := by
    show fb = _
    rw [← HF.out, Ob.formB_eq, ← HL.out]
    simp [hlen]
  clear HF HL hlen
  by_cases e1 : x = xn
  case neg =>
    obtain rfl : fb = false := by rw [HZ.out]; exact decide_eq_false (fun h => e1 h.1)
    have hz : (x == xn) = false := by rw [beq_eq_false_iff_ne]; exact e1
    clear e1
    clear HZ
    go_enter Tryz.func193, Tryz.ntmps193
    go_wp2_with fail
    refine (HR.out _).mono ?_
    rintro e w1 ⟨rfl, hb1⟩
    have X1 := Lib.hid (BlkIs.via hb1)
    obtain ⟨x0, x1, x2, x3, x4, x5, x6, xl⟩ := X1.out.seven
    go_wp2
    go_ret
    exact ⟨rfl, via hb1⟩
  subst e1
  by_cases e2 : y = xd
  case neg =>
    obtain rfl : fb = false := by rw [HZ.out]; exact decide_eq_false (fun h => e2 h.2.1)
    have hz : (y == xd) = false := by rw [beq_eq_false_iff_ne]; exact e2
    clear e2
    clear HZ
    go_enter Tryz.func193, Tryz.ntmps193
    go_wp2_with fail
    refine (HR.out _).mono ?_
    rintro e w1 ⟨rfl, hb1⟩
    have X1 := Lib.hid (BlkIs.via hb1)
    obtain ⟨x0, x1, x2, x3, x4, x5, x6, xl⟩ := X1.out.seven
    go_wp2
    go_ret
    exact ⟨rfl, via hb1⟩
  subst e2
  by_cases e3 : da ≤ 100
  case neg =>
    obtain rfl : fb = false := by rw [HZ.out]; exact decide_eq_false (fun h => e3 h.2.2.1)
    have hd3 : decide ((da : Int) ≤ 100) = false := decide_eq_false (by omega)
    clear HZ
    go_enter Tryz.func193, Tryz.ntmps193
    go_wp2_with fail
    refine (HR.out _).mono ?_
    rintro e w1 ⟨rfl, hb1⟩
    have X1 := Lib.hid (BlkIs.via hb1)
    obtain ⟨x0, x1, x2, x3, x4, x5, x6, xl⟩ := X1.out.seven
    go_wp2_with fail
    refine (HD1.out _).mono ?_
    rintro e w2 ⟨rfl, hb2⟩
    go_wp2
    go_ret
    exact ⟨rfl, then_ (via hb1) hb2⟩
  have hd3 : decide ((da : Int) ≤ 100) = true := decide_eq_true (by omega)
  by_cases e4 : db ≤ 100
  case neg =>
    obtain rfl : fb = false := by rw [HZ.out]; exact decide_eq_false (fun h => e4 h.2.2.2)
    have hd4 : decide ((db : Int) ≤ 100) = false := decide_eq_false (by omega)
    clear HZ
    go_enter Tryz.func193, Tryz.ntmps193
    go_wp2_with fail
    refine (HR.out _).mono ?_
    rintro e w1 ⟨rfl, hb1⟩
    have X1 := Lib.hid (BlkIs.via hb1)
    obtain ⟨x0, x1, x2, x3, x4, x5, x6, xl⟩ := X1.out.seven
    go_wp2_with fail
    refine (HD1.out _).mono ?_
    rintro e w2 ⟨rfl, hb2⟩
    go_wp2_with fail
    refine (HD2.out _).mono ?_
    rintro e w3 ⟨rfl, hb3⟩
    go_wp2
    go_ret
    exact ⟨rfl, then_ (then_ (via hb1) hb2) hb3⟩
  have hd4 : decide ((db : Int) ≤ 100) = true := decide_eq_true (by omega)
  obtain rfl : fb = true := by rw [HZ.out]; exact decide_eq_true ⟨rfl, rfl, e3, e4⟩
  clear HZ
  go_enter Tryz.func193, Tryz.ntmps193
  go_wp2_with fail
  refine (HR.out _).mono ?_
  rintro e w1 ⟨rfl, hb1⟩
  have X1 := Lib.hid (BlkIs.via hb1)
  obtain ⟨x0, x1, x2, x3, x4, x5, x6, xl⟩ := X1.out.seven
  go_wp2_with fail
  refine (HD1.out _).mono ?_
  rintro e w2 ⟨rfl, hb2⟩
  go_wp2_with fail
  refine (HD2.out _).mono ?_
  rintro e w3 ⟨rfl, hb3⟩
  go_wp2
  go_ret
  exact ⟨rfl, then_ (then_ (via hb1) hb2) hb3⟩
set_option maxHeartbeats 4000000 in
set_option maxRecDepth 100000 in
theorem rFormed_sym (xn xd xp xs xt : List UInt8) (xl : List Ob) (A : Option Addr) (n c : Nat) (w : World) (hlen : xl.length = n) (hn : n ≤ 9223372036854775807) (h1 : xp.length ≤ 9223372036854775807) (h2 : xs.length ≤ 9223372036854775807) :
    Calls Tryz.prog 193 #[objV ⟨2, xn, xd, xp, xs, xt, xl⟩ (.slice A n c)] w (RetBel (.bool (Ob.formB ⟨2, xn, xd, xp, xs, xt, xl⟩)) w) := by
  have HS : Hid (∀ w' : World, Calls Tryz.prog 185 #[.agg #[str xp, str xs]] w' (RetBel (.bool (symOk ⟨xp, xs⟩)) w')) := fun w' => ref2Named_any ⟨xp, xs⟩ w' h1 h2
  obtain ⟨fb, hfb⟩ : ∃ fb, fb = Ob.formB ⟨2, xn, xd, xp, xs, xt, xl⟩ := ⟨_, rfl⟩
  rw [← hfb]
  have HF : Hid (Ob.formB ⟨2, xn, xd, xp, xs, xt, xl⟩ = fb) := hfb.symm
  clear hfb h1 h2
  cases hb : symOk ⟨xp, xs⟩ with
  | false =>
    obtain rfl : fb = false := by rw [← HF.out, Ob.formB_eq]; simp [hb]
    rw [hb] at HS
    clear HF hlen hb
    by_cases hxp : xp = []
    · subst hxp
      by_cases hxs : xs = []
      · subst hxs
        go_enter Tryz.func193, Tryz.ntmps193
        go_wp2_with fail
        refine (HS.out _).mono ?_
        rintro e w1 ⟨rfl, hb1⟩
        go_wp2
        go_ret
        exact ⟨rfl, via hb1⟩
      · have hz' : (xs == []) = false := by rw [beq_eq_false_iff_ne]; exact hxs
        clear hxs
        go_enter Tryz.func193, Tryz.ntmps193
        go_wp2_with fail
        refine (HS.out _).mono ?_
        rintro e w1 ⟨rfl, hb1⟩
        go_wp2
        go_ret
        exact ⟨rfl, via hb1⟩
    · have hz' : (xp == []) = false := by rw [beq_eq_false_iff_ne]; exact hxp
      clear hxp
      go_enter Tryz.func193, Tryz.ntmps193
      go_wp2_with fail
      refine (HS.out _).mono ?_
      rintro e w1 ⟨rfl, hb1⟩
      go_wp2
      go_ret
      exact ⟨rfl, via hb1⟩
  | true =>
  have HB := Lib.hid hb
  rw [hb] at HS
  have hzp : (xp == []) = false := by
    rw [beq_eq_false_iff_ne]
    intro e
    subst e
    have h3 : symOk ⟨[], xs⟩ = false := by unfold symOk; rw [show pkgOk [] = false by decide]; rfl
    rw [h3] at hb
    cases hb
  clear hb
  by_cases hxn : xn = []
  case neg =>
    obtain rfl : fb = false := by rw [← HF.out, Ob.formB_eq]; simp only [show ¬ ((2 : Int) = 4) by decide, show ¬ ((2 : Int) = 1) by decide, if_false, if_true]; rw [Bool.eq_false_iff]; intro h; simp only [Bool.and_eq_true, decide_eq_true_eq] at h; exact hxn (by simp [h])
    have hz : (xn == []) = false := by rw [beq_eq_false_iff_ne]; exact hxn
    clear HF hxn hlen
    go_enter Tryz.func193, Tryz.ntmps193
    go_wp2_with fail
    refine (HS.out _).mono ?_
    rintro e w1 ⟨rfl, hb1⟩
    have X1 := Lib.hid (BlkIs.via hb1)
    obtain ⟨x0, x1, x2, x3, x4, x5, x6, xl⟩ := X1.out.seven
    go_wp2
    go_ret
    exact ⟨rfl, via hb1⟩
  subst hxn
  by_cases hxd : xd = []
  case neg =>
    obtain rfl : fb = false := by rw [← HF.out, Ob.formB_eq]; simp only [show ¬ ((2 : Int) = 4) by decide, show ¬ ((2 : Int) = 1) by decide, if_false, if_true]; rw [Bool.eq_false_iff]; intro h; simp only [Bool.and_eq_true, decide_eq_true_eq] at h; exact hxd (by simp [h])
    have hz : (xd == []) = false := by rw [beq_eq_false_iff_ne]; exact hxd
    clear HF hxd hlen
    go_enter Tryz.func193, Tryz.ntmps193
    go_wp2_with fail
    refine (HS.out _).mono ?_
    rintro e w1 ⟨rfl, hb1⟩
    have X1 := Lib.hid (BlkIs.via hb1)
    obtain ⟨x0, x1, x2, x3, x4, x5, x6, xl⟩ := X1.out.seven
    go_wp2
    go_ret
    exact ⟨rfl, via hb1⟩
  subst hxd
  by_cases hxt : xt = []
  case neg =>
    obtain rfl : fb = false := by rw [← HF.out, Ob.formB_eq]; simp only [show ¬ ((2 : Int) = 4) by decide, show ¬ ((2 : Int) = 1) by decide, if_false, if_true]; rw [Bool.eq_false_iff]; intro h; simp only [Bool.and_eq_true, decide_eq_true_eq] at h; exact hxt (by simp [h])
    have hz : (xt == []) = false := by rw [beq_eq_false_iff_ne]; exact hxt
    clear HF hxt hlen
    go_enter Tryz.func193, Tryz.ntmps193
    go_wp2_with fail
    refine (HS.out _).mono ?_
    rintro e w1 ⟨rfl, hb1⟩
    have X1 := Lib.hid (BlkIs.via hb1)
    obtain ⟨x0, x1, x2, x3, x4, x5, x6, xl⟩ := X1.out.seven
    go_wp2
    go_ret
    exact ⟨rfl, via hb1⟩
  subst hxt
  by_cases hn0 : n = 0
  case neg =>
    obtain rfl : fb = false := by rw [← HF.out, Ob.formB_eq]; simp only [show ¬ ((2 : Int) = 4) by decide, show ¬ ((2 : Int) = 1) by decide, if_false, if_true]; rw [Bool.eq_false_iff]; intro h; simp only [Bool.and_eq_true, decide_eq_true_eq] at h; exact hn0 (by rw [← hlen]; simp [h])
    have hz : ((n : Int) == 0) = false := by rw [beq_eq_false_iff_ne]; omega
    clear HF hn0 hlen
    go_enter Tryz.func193, Tryz.ntmps193
    go_wp2_with fail
    refine (HS.out _).mono ?_
    rintro e w1 ⟨rfl, hb1⟩
    have X1 := Lib.hid (BlkIs.via hb1)
    obtain ⟨x0, x1, x2, x3, x4, x5, x6, xl⟩ := X1.out.seven
    go_wp2
    go_ret
    exact ⟨rfl, via hb1⟩
  subst hn0
  obtain rfl : fb = true := by rw [← HF.out, Ob.formB_eq]; simp [hlen, HB.out]
  clear HF hlen
  go_enter Tryz.func193, Tryz.ntmps193
  go_wp2_with fail
  refine (HS.out _).mono ?_
  rintro e w1 ⟨rfl, hb1⟩
  have X1 := Lib.hid (BlkIs.via hb1)
  obtain ⟨x0, x1, x2, x3, x4, x5, x6, xl⟩ := X1.out.seven
  go_wp2
  go_ret
  exact ⟨rfl, via hb1⟩
set_option maxHeartbeats 4000000 in
set_option maxRecDepth 100000 in
theorem rFormed_txt (xn xd xp xs xt : List UInt8) (xl : List Ob) (A : Option Addr) (n c : Nat) (w : World) (hlen : xl.length = n) (hn : n ≤ 9223372036854775807) (h1 : xt.length ≤ 9223372036854775807) :
    Calls Tryz.prog 193 #[objV ⟨3, xn, xd, xp, xs, xt, xl⟩ (.slice A n c)] w (RetBel (.bool (Ob.formB ⟨3, xn, xd, xp, xs, xt, xl⟩)) w) := by
  obtain ⟨fb, hfb⟩ : ∃ fb, fb = Ob.formB ⟨3, xn, xd, xp, xs, xt, xl⟩ := ⟨_, rfl⟩
  rw [← hfb]
  have HF : Hid (Ob.formB ⟨3, xn, xd, xp, xs, xt, xl⟩ = fb) := hfb.symm
  clear hfb
  by_cases hxp : xp = []
  case neg =>
    obtain rfl : fb = false := by rw [← HF.out, Ob.formB_eq]; simp only [show ¬ ((3 : Int) = 4) by decide, show ¬ ((3 : Int) = 1) by decide, show ¬ ((3 : Int) = 2) by decide, if_false, if_true]; rw [Bool.eq_false_iff]; intro h; simp only [decide_eq_true_eq] at h; exact hxp (by simp [h])
    have hz : (xp == []) = false := by rw [beq_eq_false_iff_ne]; exact hxp
    clear HF hxp hlen
    go_enter Tryz.func193, Tryz.ntmps193
    go_wp2
    go_ret
    exact ⟨rfl, box _ _⟩
  subst hxp
  by_cases hxs : xs = []
  case neg =>
    obtain rfl : fb = false := by rw [← HF.out, Ob.formB_eq]; simp only [show ¬ ((3 : Int) = 4) by decide, show ¬ ((3 : Int) = 1) by decide, show ¬ ((3 : Int) = 2) by decide, if_false, if_true]; rw [Bool.eq_false_iff]; intro h; simp only [decide_eq_true_eq] at h; exact hxs (by simp [h])
    have hz : (xs == []) = false := by rw [beq_eq_false_iff_ne]; exact hxs
    clear HF hxs hlen
    go_enter Tryz.func193, Tryz.ntmps193
    go_wp2
    go_ret
    exact ⟨rfl, box _ _⟩
  subst hxs
  by_cases hxn : xn = []
  case neg =>
    obtain rfl : fb = false := by rw [← HF.out, Ob.formB_eq]; simp only [show ¬ ((3 : Int) = 4) by decide, show ¬ ((3 : Int) = 1) by decide, show ¬ ((3 : Int) = 2) by decide, if_false, if_true]; rw [Bool.eq_false_iff]; intro h; simp only [decide_eq_true_eq] at h; exact hxn (by simp [h])
    have hz : (xn == []) = false := by rw [beq_eq_false_iff_ne]; exact hxn
    clear HF hxn hlen
    go_enter Tryz.func193, Tryz.ntmps193
    go_wp2
    go_ret
    exact ⟨rfl, box _ _⟩
  subst hxn
  by_cases hxd : xd = []
  case neg =>
    obtain rfl : fb = false := by rw [← HF.out, Ob.formB_eq]; simp only [show ¬ ((3 : Int) = 4) by decide, show ¬ ((3 : Int) = 1) by decide, show ¬ ((3 : Int) = 2) by decide, if_false, if_true]; rw [Bool.eq_false_iff]; intro h; simp only [decide_eq_true_eq] at h; exact hxd (by simp [h])
    have hz : (xd == []) = false := by rw [beq_eq_false_iff_ne]; exact hxd
    clear HF hxd hlen
    go_enter Tryz.func193, Tryz.ntmps193
    go_wp2
    go_ret
    exact ⟨rfl, box _ _⟩
  subst hxd
  by_cases h200 : xt.length ≤ 200
  case neg =>
    obtain rfl : fb = false := by rw [← HF.out, Ob.formB_eq]; simp only [show ¬ ((3 : Int) = 4) by decide, show ¬ ((3 : Int) = 1) by decide, show ¬ ((3 : Int) = 2) by decide, if_false, if_true]; rw [Bool.eq_false_iff]; intro h; simp only [decide_eq_true_eq] at h; exact h200 (by simp [h])
    have hd2 : decide ((xt.length : Int) ≤ 200) = false := decide_eq_false (by omega)
    clear HF hlen
    go_enter Tryz.func193, Tryz.ntmps193
    go_wp2
    go_ret
    exact ⟨rfl, box _ _⟩
  have hd2 : decide ((xt.length : Int) ≤ 200) = true := decide_eq_true (by omega)
  by_cases hn0 : n = 0
  case neg =>
    obtain rfl : fb = false := by rw [← HF.out, Ob.formB_eq]; simp only [show ¬ ((3 : Int) = 4) by decide, show ¬ ((3 : Int) = 1) by decide, show ¬ ((3 : Int) = 2) by decide, if_false, if_true]; rw [Bool.eq_false_iff]; intro h; simp only [decide_eq_true_eq] at h; exact hn0 (by rw [← hlen]; simp [h])
    have hz : ((n : Int) == 0) = false := by rw [beq_eq_false_iff_ne]; omega
    clear HF hn0 hlen
    go_enter Tryz.func193, Tryz.ntmps193
    go_wp2
    go_ret
    exact ⟨rfl, box _ _⟩
  subst hn0
  obtain rfl : fb = true := by rw [← HF.out, Ob.formB_eq]; simp [hlen, h200]
  clear HF hlen
  go_enter Tryz.func193, Tryz.ntmps193
  go_wp2
  go_ret
  exact ⟨rfl, box _ _⟩
set_option maxHeartbeats 4000000 in
set_option maxRecDepth 100000 in
theorem rFormed_cons (ok : Nat → Prop) (xn xd xp xs xt : List UInt8) (xl : List Ob) (A : Option Addr) (n c : Nat) (w : World) (hP : Rd ok w (.slice A n c) (.row (xl.map Ob.enc))) (hn : n ≤ 9223372036854775807)
    (H : ∀ x ∈ xl, ∀ (A : Option Addr) (n c : Nat) (w' : World), Below w.heap.size w w' → Rd ok w (.slice A n c) (.row (x.pair.map Ob.enc)) → Calls Tryz.prog 193 #[objV x (.slice A n c)] w' (RetBel (.bool x.formB) w')) :
    Calls Tryz.prog 193 #[objV ⟨4, xn, xd, xp, xs, xt, xl⟩ (.slice A n c)] w (RetBel (.bool (Ob.formB ⟨4, xn, xd, xp, xs, xt, xl⟩)) w) := by
  have hlen : xl.length = n := by have := hP.len; rwa [List.length_map] at this
  have HH := Lib.hid H
  clear H
  obtain ⟨fb, hfb⟩ : ∃ fb, fb = Ob.formB ⟨4, xn, xd, xp, xs, xt, xl⟩ := ⟨_, rfl⟩
  rw [← hfb]
  have HF : Hid (Ob.formB ⟨4, xn, xd, xp, xs, xt, xl⟩ = fb) := hfb.symm
  clear hfb
  by_cases hxp : xp = []
  case neg =>
    obtain rfl : fb = false := by rw [← HF.out, Ob.formB_eq]; simp only [if_true]; rw [Bool.eq_false_iff]; intro h; simp only [Bool.and_eq_true, decide_eq_true_eq] at h; exact hxp (by simp [h])
    have hz : (xp == []) = false := by rw [beq_eq_false_iff_ne]; exact hxp
    clear HF hxp hlen
    go_enter Tryz.func193, Tryz.ntmps193
    go_wp2
    go_ret
    exact ⟨rfl, box _ _⟩
  subst hxp
  by_cases hxs : xs = []
  case neg =>
    obtain rfl : fb = false := by rw [← HF.out, Ob.formB_eq]; simp only [if_true]; rw [Bool.eq_false_iff]; intro h; simp only [Bool.and_eq_true, decide_eq_true_eq] at h; exact hxs (by simp [h])
    have hz : (xs == []) = false := by rw [beq_eq_false_iff_ne]; exact hxs
    clear HF hxs hlen
    go_enter Tryz.func193, Tryz.ntmps193
    go_wp2
    go_ret
    exact ⟨rfl, box _ _⟩
  subst hxs
  by_cases hxn : xn = []
  case neg =>
    obtain rfl : fb = false := by rw [← HF.out, Ob.formB_eq]; simp only [if_true]; rw [Bool.eq_false_iff]; intro h; simp only [Bool.and_eq_true, decide_eq_true_eq] at h; exact hxn (by simp [h])
    have hz : (xn == []) = false := by rw [beq_eq_false_iff_ne]; exact hxn
    clear HF hxn hlen
    go_enter Tryz.func193, Tryz.ntmps193
    go_wp2
    go_ret
    exact ⟨rfl, box _ _⟩
  subst hxn
  by_cases hxd : xd = []
  case neg =>
    obtain rfl : fb = false := by rw [← HF.out, Ob.formB_eq]; simp only [if_true]; rw [Bool.eq_false_iff]; intro h; simp only [Bool.and_eq_true, decide_eq_true_eq] at h; exact hxd (by simp [h])
    have hz : (xd == []) = false := by rw [beq_eq_false_iff_ne]; exact hxd
    clear HF hxd hlen
    go_enter Tryz.func193, Tryz.ntmps193
    go_wp2
    go_ret
    exact ⟨rfl, box _ _⟩
  subst hxd
  by_cases hxt : xt = []
  case neg =>
    obtain rfl : fb = false := by rw [← HF.out, Ob.formB_eq]; simp only [if_true]; rw [Bool.eq_false_iff]; intro h; simp only [Bool.and_eq_true, decide_eq_true_eq] at h; exact hxt (by simp [h])
    have hz : (xt == []) = false := by rw [beq_eq_false_iff_ne]; exact hxt
    clear HF hxt hlen
    go_enter Tryz.func193, Tryz.ntmps193
    go_wp2
    go_ret
    exact ⟨rfl, box _ _⟩
  subst hxt
  by_cases hn0 : n = 2
  case neg =>
    obtain rfl : fb = false := by rw [← HF.out, Ob.formB_eq]; simp only [if_true]; rw [Bool.eq_false_iff]; intro h; simp only [Bool.and_eq_true, decide_eq_true_eq] at h; exact hn0 (by rw [← hlen]; simp [h])
    have hz : ((n : Int) == 2) = false := by rw [beq_eq_false_iff_ne]; omega
    clear HF hn0 hlen
    go_enter Tryz.func193, Tryz.ntmps193
    go_wp2
    go_ret
    exact ⟨rfl, box _ _⟩
  subst hn0
  obtain ⟨a, d, rfl⟩ := Ob.two_of_length hlen
  have HF2 : Hid ((a.formB && d.formB) = fb) := by
    show _ = fb
    rw [← HF.out, Ob.formB_eq, if_pos rfl]
    simp [Ob.allB]
  clear HF hlen
  have b0 := box w (.cells (obCells ⟨4, [], [], [], [], [], [a, d]⟩ (.slice A 2 c)) 35)
  obtain ⟨b, q, _, A3, n3, c3, rfl, hbl, _, a0, a1, a2, a3, a4, a5, a6, ha⟩ := hP.objs b0 (i := 0) (by omega)
  simp only [List.getElem_cons_zero, Nat.zero_mul, Nat.add_zero] at a0 a1 a2 a3 a4 a5 a6 ha
  have hbl' := Nat.lt_of_lt_of_le hbl b0.size
  have HC : Hid (∀ w' : World, Below w.heap.size w w' → Calls Tryz.prog 193 #[objV a (.slice A3 n3 c3)] w' (RetBel (.bool a.formB) w')) := fun w' hb => HH.out a (by simp) A3 n3 c3 w' hb ha
  have X0 := Lib.hid (BlkIs.new w 35 (obCells ⟨4, [], [], [], [], [], [a, d]⟩ (.slice (some ⟨b, q, none⟩) 2 c)))
  generalize a.formB = ba at *
  go_enter Tryz.func193, Tryz.ntmps193
  go_wp2_with fail
  refine (HC.out _ b0).mono ?_
  rintro e w1 ⟨rfl, hb1⟩
  have b1 := then_ b0 hb1
  have X1 := Lib.hid (X0.out.below hb1)
  clear a0 a1 a2 a3 a4 a5 a6 X0
  cases ba with
  | false =>
    obtain rfl : fb = false := HF2.out.symm
    clear HF2
    go_wp2
    go_ret
    exact ⟨rfl, b1⟩
  | true =>
    obtain ⟨y0, y1, y2, y3, y4, y5, y6, yl⟩ := X1.out.seven
    obtain ⟨b', q', _, A4, n4, c4, eA, _, _, d0, d1, d2, d3, d4, d5, d6, hd⟩ := hP.objs b1 (i := 1) (by omega)
    injection eA with eA
    injection eA with eb eq
    subst eb eq
    simp only [List.getElem_cons_zero, List.getElem_cons_succ, Nat.one_mul] at d0 d1 d2 d3 d4 d5 d6 hd
    have hbl2 := Nat.lt_of_lt_of_le hbl b1.size
    have HC2 := Lib.hid (HH.out d (by simp) A4 n4 c4 w1 b1 hd)
    obtain rfl : fb = d.formB := HF2.out.symm
    generalize d.formB = bd at *
    clear HF2
    go_wp2_with fail
    refine HC2.out.mono ?_
    rintro e w2 ⟨rfl, hb2⟩
    go_wp2
    go_ret
    exact ⟨rfl, then_ b1 hb2⟩
set_option maxHeartbeats 4000000 in
theorem rFormed_else (k : Int) (xn xd xp xs xt : List UInt8) (xl : List Ob) (A : Option Addr) (n c : Nat) (w : World) (h1 : k ≠ 1) (h2 : k ≠ 2) (h3 : k ≠ 3) (h4 : k ≠ 4) :
    Calls Tryz.prog 193 #[objV ⟨k, xn, xd, xp, xs, xt, xl⟩ (.slice A n c)] w (RetBel (.bool (Ob.formB ⟨k, xn, xd, xp, xs, xt, xl⟩)) w) := by
  rw [Ob.formB_eq, if_neg h4, if_neg h1, if_neg h2, if_neg h3]
  have e1 : (k == 1) = false := by rw [beq_eq_false_iff_ne]; exact h1
  have e2 : (k == 2) = false := by rw [beq_eq_false_iff_ne]; exact h2
  have e3 : (k == 3) = false := by rw [beq_eq_false_iff_ne]; exact h3
  have e4 : (k == 4) = false := by rw [beq_eq_false_iff_ne]; exact h4
  clear h1 h2 h3 h4
  by_cases hxp : xp = []
  · subst hxp
    by_cases hxs : xs = []
    · subst hxs
      go_enter Tryz.func193, Tryz.ntmps193
      go_wp2
      go_ret
      exact ⟨rfl, box _ _⟩
    · have hz' : (xs == []) = false := by rw [beq_eq_false_iff_ne]; exact hxs
      clear hxs
      go_enter Tryz.func193, Tryz.ntmps193
      go_wp2
      go_ret
      exact ⟨rfl, box _ _⟩
  · have hz' : (xp == []) = false := by rw [beq_eq_false_iff_ne]; exact hxp
    clear hxp
    go_enter Tryz.func193, Tryz.ntmps193
    go_wp2
    go_ret
    exact ⟨rfl, box _ _⟩
theorem rFormed_any (ok : Nat → Prop) (o : Ob) : o.Wf → o.Sm → ∀ (A : Option Addr) (n c : Nat) (w : World), Rd ok w (.slice A n c) (.row (o.pair.map Ob.enc)) →
    Calls Tryz.prog 193 #[objV o (.slice A n c)] w (RetBel (.bool o.formB) w) := by
  induction o using Ob.ind with
  | step o ih =>
    intro hW hS A n c w hP
    have hlen : o.pair.length = n := by have := hP.len; rwa [List.length_map] at this
    have hn : n ≤ 9223372036854775807 := by rw [← hlen]; exact hW.len
    obtain ⟨k, xn, xd, xp, xs, xt, xl⟩ := o
    by_cases h4 : k = 4
    · subst h4
      exact rFormed_cons ok xn xd xp xs xt xl A n c w hP hn (fun x hx A n c w' hb h => ih x hx (hW.kids hx) (hS.kids hx) A n c w' (h.under hb))
    by_cases h1 : k = 1
    · subst h1
      exact rFormed_num xn xd xp xs xt xl A n c w hlen hn hS.len.1 hS.len.2
    by_cases h2 : k = 2
    · subst h2
      exact rFormed_sym xn xd xp xs xt xl A n c w hlen hn (by cases hW; assumption) (by cases hW; assumption)
    by_cases h3 : k = 3
    · subst h3
      exact rFormed_txt xn xd xp xs xt xl A n c w hlen hn (by cases hW; assumption)
    exact rFormed_else k xn xd xp xs xt xl A n c w h1 h2 h3 h4
set_option maxHeartbeats 1000000 in
theorem rValid_any (ok : Nat → Prop) (o : Ob) (hW : o.Wf) (hS : o.Sm) (A : Option Addr) (n c : Nat) (w : World) (hP : Rd ok w (.slice A n c) (.row (o.pair.map Ob.enc))) :
    Calls Tryz.prog 178 #[objV o (.slice A n c)] w (RetBel (.bool o.validB) w) := by
  have HN : Hid (∀ w' : World, Below w.heap.size w w' → Calls Tryz.prog 118 #[objV o (.slice A n c)] w' (RetBel (.int .i64 (nodesP o)) w')) := fun w' hb => rNodes_any ok o hW A n c w' (hP.under hb)
  have HF : Hid (∀ w' : World, Below w.heap.size w w' → Calls Tryz.prog 193 #[objV o (.slice A n c)] w' (RetBel (.bool o.formB) w')) := fun w' hb => rFormed_any ok o hW hS A n c w' (hP.under hb)
  unfold Ob.validB
  by_cases hk : o.nodes ≤ 3000
  · have hk' : nodesP o ≤ 3000 := by unfold nodesP; split <;> omega
    rw [decide_eq_true hk, Bool.true_and]
    generalize o.formB = fb at *
    generalize nodesP o = z at *
    clear hk
    go_enter Tryz.func178, Tryz.ntmps178
    go_wp2_with fail
    refine (HN.out _ (box _ _)).mono ?_
    rintro e w1 ⟨rfl, hb1⟩
    have X1 := Lib.hid (BlkIs.via hb1)
    obtain ⟨y0, y1, y2, y3, y4, y5, y6, yl⟩ := X1.out.seven
    go_wp2_with fail
    refine (HF.out _ (via hb1)).mono ?_
    rintro e w2 ⟨rfl, hb2⟩
    go_wp2
    go_ret
    exact ⟨rfl, then_ (via hb1) hb2⟩
  · have hk' : ¬ nodesP o ≤ 3000 := by unfold nodesP; split <;> omega
    rw [decide_eq_false hk, Bool.false_and]
    generalize nodesP o = z at *
    clear hk
    go_enter Tryz.func178, Tryz.ntmps178
    go_wp2_with fail
    refine (HN.out _ (box _ _)).mono ?_
    rintro e w1 ⟨rfl, hb1⟩
    go_wp2
    go_ret
    exact ⟨rfl, via hb1⟩
end Go.Proofs.YtendgffijciehaaGreatDoor
/- The maker's objects as plain trees. -/
namespace Go.Proofs.YtendgffijciehaaGreatDoor
open Go.RowKit

abbrev userB : List UInt8 := [117, 115, 101, 114]
/-- the names of lispprovermake.Sym -/
def symNames : List (List UInt8) := [[97], [98], [102, 111, 111], [111, 100, 100, 32, 110, 97, 109, 101], [49], [120, 124, 121], [46], [45, 50, 47, 51], [35]]
def symTab : List (List UInt8 × List UInt8) := symNames.map (fun s => (userB, s)) ++ [(lispB, nilB), (lispB, [116]), (lispB, [99, 97, 114]), (lispB, [113, 117, 111, 116, 101])]
def symP (n : Int) : List UInt8 × List UInt8 := symTab.getD (n % 13).toNat (userB, [])
theorem symP_len (n : Int) : (symP n).1.length ≤ 12 ∧ (symP n).2.length ≤ 12 := by
  have h : ∀ x ∈ symTab, x.1.length ≤ 12 ∧ x.2.length ≤ 12 := by decide
  have hlt : (n % 13).toNat < symTab.length := by show (n % 13).toNat < 13; omega
  unfold symP
  rw [List.getD_eq_getElem?_getD, List.getElem?_eq_getElem hlt]
  exact h _ (List.getElem_mem hlt)
def zeroT : Tr := .num ((-1000 : Int) : Rat)
def mkK (k n : Int) (s : List UInt8) (l : List Tr) : Tr :=
  if k % 8 = 0 ∨ k % 8 = 1 then .num ((n % 2001 - 1000 : Int) : Rat)
  else if k % 8 = 2 then .num (Rat.divInt (n % 41 - 20) (1 + s.length))
  else if k % 8 = 3 then .sym (symP n).1 (symP n).2
  else if k % 8 = 4 then .txt s
  else if k % 8 = 5 then .cons (l.getD 0 zeroT) (l.getD 1 zeroT)
  else Tr.list l
mutual
def mkT : Raw → Tr
  | ⟨k, n, s, l⟩ => mkK k n s (mkL l)
def mkL : List Raw → List Tr
  | [] => []
  | r :: t => mkT r :: mkL t
end
theorem mkL_map (l : List Raw) : mkL l = l.map mkT := by
  induction l with
  | nil => rfl
  | cons r t ih => rw [mkL, ih]; rfl
theorem mkT_eq (r : Raw) : mkT r = mkK r.kind r.n r.s (r.l.map mkT) := by
  obtain ⟨k, n, s, l⟩ := r
  rw [mkT, mkL_map]
/-- short strings and lists, all the way down -/
inductive Fit : Raw → Prop
  | mk (o : Raw) (hs : o.s.length ≤ 12) (hl : o.l.length ≤ 6) (h : ∀ x ∈ o.l, Fit x) : Fit o
theorem Fit.s {r : Raw} (h : Fit r) : r.s.length ≤ 12 := by cases h; assumption
theorem Fit.l {r : Raw} (h : Fit r) : r.l.length ≤ 6 := by cases h; assumption
theorem Fit.kids {r x : Raw} (h : Fit r) (hx : x ∈ r.l) : Fit x := by
  cases h with
  | mk _ _ _ h => exact h x hx
theorem Raw.Wf.kids {r x : Raw} (h : r.Wf) (hx : x ∈ r.l) : x.Wf := by
  cases h with
  | mk _ _ _ _ _ _ _ h => exact h x hx
theorem Tr.list_ok {k : Nat} : ∀ {l : List Tr}, (∀ t ∈ l, t.Ok k) → (Tr.list l).Ok k
  | [], _ => ⟨by decide, by decide⟩
  | a :: r, h => ⟨h a (List.mem_cons_self ..), Tr.list_ok fun t ht => h t (List.mem_cons_of_mem _ ht)⟩
theorem rb_small {n d : Int} (hn : n.natAbs < 10 ^ 4) (hd : d.natAbs < 10 ^ 4) : Rb 4 (Rat.divInt n d) := Rb.mk' (by decide) hn hd
theorem rb_int {n : Int} (hn : n.natAbs < 10 ^ 4) : Rb 4 (n : Rat) := ⟨by rw [Rat.num_intCast]; exact hn, by rw [Rat.den_intCast]; decide, by decide⟩
theorem zeroT_ok : zeroT.Ok 4 := rb_int (by decide)
theorem getD_ok {k : Nat} {l : List Tr} {d : Tr} (h : ∀ t ∈ l, t.Ok k) (hd : d.Ok k) (i : Nat) : (l.getD i d).Ok k := by
  rw [List.getD_eq_getElem?_getD]
  rcases Nat.lt_or_ge i l.length with h1 | h1
  · rw [List.getElem?_eq_getElem h1]; exact h _ (List.getElem_mem h1)
  · rw [List.getElem?_eq_none h1]; exact hd
theorem mkT_ok (r : Raw) : Fit r → (mkT r).Ok 4 := by
  induction r using Raw.ind with
  | step r ih =>
    intro h
    have hl : ∀ t ∈ r.l.map mkT, t.Ok 4 := by
      intro t ht
      obtain ⟨x, hx, rfl⟩ := List.mem_map.1 ht
      exact ih x hx (h.kids hx)
    rw [mkT_eq]
    unfold mkK
    split
    · exact rb_int (by omega)
    · split
      · exact rb_small (by omega) (by have := h.s; omega)
      · split
        · have := symP_len r.n
          exact ⟨by omega, by omega⟩
        · split
          · have := h.s
            show r.s.length ≤ 100000
            omega
          · split
            · exact ⟨getD_ok hl zeroT_ok 0, getD_ok hl zeroT_ok 1⟩
            · exact Tr.list_ok hl
end Go.Proofs.YtendgffijciehaaGreatDoor
/- lispprovermake: Mod, left, Few, FewAll, User, Sym, part. -/
namespace Go.Proofs.YtendgffijciehaaGreatDoor
open Go.RowKit

theorem tmod_neg {n m : Int} (hm : 0 < m) (h : n.tmod m < 0) : n % m = n.tmod m + m := by
  have h1 := Int.tmod_eq_emod (a := n) (b := m)
  have h2 := Int.emod_nonneg n (by omega : m ≠ 0)
  have h3 := Int.emod_lt_of_pos n hm
  split at h1 <;> omega
theorem tmod_pos {n m : Int} (hm : 0 < m) (h : ¬ n.tmod m < 0) : n % m = n.tmod m := by
  have h1 := Int.tmod_eq_emod (a := n) (b := m)
  have h2 := Int.emod_nonneg n (by omega : m ≠ 0)
  have h3 := Int.emod_lt_of_pos n hm
  split at h1 <;> omega
set_option maxHeartbeats 400000 in
theorem mod_any (n m : Int) (w : World) (hm : 0 < m) (hm1 : m ≤ 1000000) : Calls Tryz.prog 19 #[.int .i64 n, .int .i64 m] w (RetPureV (.int .i64 (n % m)) w) := by
  have hne : ¬ m = 0 := by omega
  have hb : (m == 0) = false := by rw [beq_eq_false_iff_ne]; omega
  have hb' : (m == -1) = false := by rw [beq_eq_false_iff_ne]; omega
  have hlt : n.tmod m < m := Int.tmod_lt_of_pos n hm
  have hgt : -m < n.tmod m := by
    have h2 := Int.tmod_eq_emod (a := n) (b := m)
    have h3 := Int.emod_nonneg n hne
    have h4 := Int.emod_lt_of_pos n hm
    split at h2 <;> omega
  by_cases hn : n.tmod m < 0
  · rw [tmod_neg hm hn]
    go_enter Tryz.func19, Tryz.ntmps19
    go_wp2
    go_ret
    exact ⟨by go_num, rfl⟩
  · rw [tmod_pos hm hn]
    go_enter Tryz.func19, Tryz.ntmps19
    go_wp2
    go_ret
    exact ⟨by go_num, rfl⟩
end Go.Proofs.YtendgffijciehaaGreatDoor
/- Valid trees. -/
namespace Go.Proofs.YtendgffijciehaaGreatDoor
open Go.RowKit
namespace Tr
theorem Ok.sm {k : Nat} (hk : k ≤ 100000) : ∀ {t : Tr}, t.Ok k → t.ob.Sm
  | .num q, h => by
    have h1 := Rb.nlen h
    have h2 := Rb.dlen h
    exact .mk (ratO q) (by show (Lib.itoa q.num).length ≤ _; omega) (by show (Lib.itoa (q.den : Int)).length ≤ _; omega) (fun x hx => by cases hx)
  | .txt t, _ => .mk (txtO t) (Nat.zero_le _) (Nat.zero_le _) (fun x hx => by cases hx)
  | .sym p s, _ => .mk (symO p s) (Nat.zero_le _) (Nat.zero_le _) (fun x hx => by cases hx)
  | .cons a d, h => .mk (consO a.ob d.ob) (Nat.zero_le _) (Nat.zero_le _) (fun x hx => by
      simp only [List.mem_cons, List.not_mem_nil, or_false] at hx
      rcases hx with rfl | rfl
      · exact Ok.sm hk h.1
      · exact Ok.sm hk h.2)
end Tr
end Go.Proofs.YtendgffijciehaaGreatDoor
/- Raw trees, lists of them and symbols among the arguments: what they read as. -/
namespace Go.Proofs.YtendgffijciehaaGreatDoor
open Go.RowKit Go.ChangeShapes Go.WideShapes Go.Deep Go.Joins

section
variable {H : Type} {enc : TypeId × Value → H} {w : World} {base : Nat} {spare : Nat → Bool} {held : Bool}
set_option maxRecDepth 100000 in
theorem open_raws {r : Reach} {b0 : Nat} {v : Value} {d : DataW H} {p : List MemPlace} (hv : Value.okWide Tryz.prog w r b0 22 v) (h : DataW.Trod enc Tryz.prog w base spare held 22 v d p) :
    ∃ (l : List Raw) (A : Option Addr) (n c : Nat), v = .slice A n c ∧ (∀ s ∈ l, s.Wf) ∧ n ≤ 9223372036854775807 ∧ Rd (fun _ => True) w (.slice A n c) (.row (l.map Raw.enc)) := by
  obtain ⟨a, len, cap, rfl⟩ := okWide_slice Tryz.underlying22 hv
  obtain ⟨fuel, hf⟩ := h
  obtain ⟨A, n, c, l, e, hr, hn, hg⟩ := read_rows Raw.enc Raw.Wf 4 (by omega) Raw.enc_len Tryz.underlying22 cellsRaw hf (fun n'' _ cs' y hy => read_raw n'' cs' y hy)
  simp only [Value.cells, List.cons.injEq, and_true] at e
  unfold maxLen at hn
  exact ⟨l, A, n, c, by simpa using e, hg, hn, hr⟩
end
end Go.Proofs.YtendgffijciehaaGreatDoor
/- What the rows' list of variables gives, and a world that holds them. -/
namespace Go.Proofs.YtendgffijciehaaGreatDoor
open Go.ChangeShapes Go.WideShapes Go.ChangeAt Go.RowKit

theorem own : ownKnob Tryz.prog.godebug = none := by kernel_rfl
def cellsOfTab (k : IntKind) (zs : List Int) : Array Value := (zs.map fun z => Value.int k z).toArray
def put (h : Array Obj) (g : Nat) (cs : Array Value) : Array Obj := h.modify g fun
  | .cells _ t frozen => .cells cs t frozen
  | o => o
end Go.Proofs.YtendgffijciehaaGreatDoor
/- What the rows' list of variables gives: the table of powers of ten. -/
namespace Go.Proofs.YtendgffijciehaaGreatDoor
open Go.ChangeShapes Go.WideShapes Go.ChangeAt Go.RowKit

theorem gPow : Tryz.prog.globalNamed "internal/strconv.uint64pow10" = some 0 := by kernel_rfl
theorem gPowType : (Tryz.prog.globals[0]?).map (·.type) = some 234 := by kernel_rfl
theorem cellsPow : Tryz.prog.cellsOf 234 = 20 := by kernel_rfl
theorem cellsU64 : Tryz.prog.cellsOf 107 = 1 := by kernel_rfl
theorem pow_data : (Rows.laid_internal_strconv_uint64pow10 : DataW Unit) = Lib.tabData .u64 Lib.pow10Tab := by kernel_rfl
theorem table {W : World} {l : List (String × DataW Unit)} (hl : l.filter (fun x => x.1 == "internal/strconv.uint64pow10") = [("internal/strconv.uint64pow10", Rows.laid_internal_strconv_uint64pow10)]) (h : laidMet Tryz.prog l W) : Tab W := by
  have h1 := h.filter (fun x => x.1 == "internal/strconv.uint64pow10")
  rw [hl, pow_data] at h1
  exact Lib.tabIs_of_head (rest := []) gPow gPowType Tryz.underlying234 Tryz.underlying107 cellsU64 cellsPow h1

end Go.Proofs.YtendgffijciehaaGreatDoor
/- A world that holds the tables of a seat that lists three of them. -/
namespace Go.Proofs.YtendgffijciehaaGreatDoor
open Go.ChangeShapes Go.WideShapes Go.ChangeAt Go.RowKit

/-- the settled world, and each variable as its initialiser lays it -/
noncomputable def laidWorld3 (os : Os) : World :=
  let w0 := World.holding Tryz.prog os ⟨#[], #[], []⟩
  let h1 := put w0.heap 0 (cellsOfTab .u64 Lib.pow10Tab)
  let h2 := put h1 1 (cellsOfTab .u8 [0, 1, 28, 2, 29, 14, 24, 3, 30, 22, 20, 15, 25, 17, 4, 8, 31, 27, 13, 23, 21, 19, 16, 7, 26, 12, 18, 6, 11, 5, 10, 9])
  let h3 := put h2 2 (cellsOfTab .u8 [0, 1, 56, 2, 57, 49, 28, 3, 61, 58, 42, 50, 38, 29, 17, 4, 62, 47, 59, 36, 45, 43, 51, 22, 53, 39, 33, 30, 24, 18, 12, 5, 63, 55, 48, 27, 60, 41, 37, 16, 46, 35, 44, 21, 52, 32, 23, 11, 54, 26, 40, 15, 34, 20, 31, 10, 25, 14, 19, 9, 13, 8, 7, 6])
  { w0 with heap := h3 }
end Go.Proofs.YtendgffijciehaaGreatDoor
/- A region that draws its order and assigns several struct variables at once ('x, y := f(a), g(b)'): loads, calls, allocations and stores, in whatever order. -/
namespace Go.Proofs.YtendgffijciehaaGreatDoor
open Go.RowKit

section
variable {P : Program} {ops : Array Oper} {Q : Exit → Act → World → Prop}
end

section
variable {P : Program} {ops : Array Oper} {Q : Exit → Act → World → Prop} {k : Nat} {iL iC iA iS sl sc sx : Nat → Nat} {ds : List Nat} {base : Act} {w0 : World} {T : TypeId} {vl : Nat → Value} {z : Array Value}
  {G : Nat → (Nat → Prop) → World → Value → Prop} {St : World → Nat → Value → World} {C : Value → Array Value}
abbrev ptr (g : Nat) : Value := .pointer (some ⟨g, 0, none⟩)
theorem getD_upd {listed : Array Bool} {i j : Nat} (h : (listed.setIfInBounds i true).getD j false = true) : j = i ∨ listed.getD j false = true := by
  by_cases e : i = j
  · exact .inl e.symm
  · rw [Go.getD_set_ne false e] at h; exact .inr h
end
end Go.Proofs.YtendgffijciehaaGreatDoor
/- Plain values for a walk, second form: boxes, growing rows (buffers) and maps of the call's own, or handed in by pointer; what a value stands for; steps of the memory. -/
namespace Go.Proofs.YtendgffijciehaaGreatDoor
open Go.RowKit

inductive AV where
  | dt (d : Dt)
  | nil
  | ful (es : List (List Dt))
  | own (b n : Nat)
  | sl (b n : Nat)
  | mapp (b : Nat)
  | ptr (b off : Nat)
  | rptr (b i k : Nat)
  | gl (g off : Nat)
  | pin (cs : List AV)
  | agg (cs : List AV)
  | tup (cs : List AV)
  | clo (f : FuncId) (cs : List AV)
  | clf (f : FuncId) (cs : List AV)
  | un
namespace AV
def one : AV → Bool
  | .dt d => d.one
  | .agg _ => false
  | .tup _ => false
  | .un => false
  | _ => true
def cells : AV → List AV
  | .agg cs => cs
  | x => [x]
end AV
/-- the blocks of the boxes and maps (m), the blocks that stay as they are (F), the present slices of the buffers (o) -/
structure Mm where
  m : Nat → Option Nat
  F : Nat → Prop
  o : Nat → Option (Option Addr × Nat × Nat)
abbrev M0 (F : Nat → Prop) : Mm := ⟨fun _ => none, F, fun _ => none⟩
mutual
def RV : Mm → World → AV → Value → Prop
  | M, w, .dt d, v => Rd M.F w v d
  | _, _, .nil, v => v = .slice none 0 0
  | M, w, .ful es, v => ∃ A, v = .slice A es.length es.length ∧ Rd M.F w v (.row es)
  | M, _, .own b n, v => ∃ A c A' n' c', v = .slice A n c ∧ M.o b = some (A', n', c') ∧ n ≤ n' ∧ (n = n' → A = A' ∧ c = c')
  | M, _, .sl b n, v => ∃ g, M.m b = some g ∧ v = .slice (some ⟨g, 0, none⟩) n n
  | M, _, .mapp b, v => ∃ g, M.m b = some g ∧ v = .map (some g)
  | M, _, .ptr b off, v => ∃ g, M.m b = some g ∧ v = .pointer (some ⟨g, off, none⟩)
  | M, _, .rptr b i k, v => ∃ g, M.m b = some g ∧ v = .pointer (some ⟨g, i * k, none⟩)
  | _, _, .gl g off, v => v = .pointer (some ⟨g, off, none⟩)
  | M, w, .pin cs, v => ∃ g o vs, v = .pointer (some ⟨g, o, none⟩) ∧ M.F g ∧ g < w.heap.size ∧ (∀ (j : Nat) u, vs[j]? = some u → w.cell? ⟨g, o + j, none⟩ = some u) ∧ RL (M0 M.F) w cs vs
  | M, w, .agg cs, v => ∃ vs, v = .agg vs.toArray ∧ RL M w cs vs
  | M, w, .tup cs, v => ∃ vs, v = .tuple vs.toArray ∧ RL M w cs vs
  | M, w, .clo f cs, v => ∃ vs, v = .func (.func f) #[] vs.toArray ∧ RL M w cs vs
  | M, w, .clf f cs, v => ∃ vs, v = .func (.func f) #[] vs.toArray ∧ RL (M0 M.F) w cs vs
  | _, _, .un, _ => True
def RL : Mm → World → List AV → List Value → Prop
  | _, _, [], vs => vs = []
  | M, w, c :: cs, vs => ∃ u us, vs = u :: us ∧ RV M w c u ∧ RL M w cs us
end
/-- below B, but for the blocks X, the world is as it was -/
structure Bel (X : Nat → Prop) (B : Nat) (w w' : World) : Prop where
  os : w'.os = w.os
  tape : w'.tape = w.tape
  output : w'.output = w.output
  size : w.heap.size ≤ w'.heap.size
  block : ∀ k, k < B → ¬ X k → w'.heap[k]? = w.heap[k]?
theorem Bel.refl (X : Nat → Prop) (B : Nat) (w : World) : Bel X B w w := ⟨rfl, rfl, rfl, Nat.le_refl _, fun _ _ _ => rfl⟩
theorem Bel.trans {X : Nat → Prop} {B : Nat} {a b c : World} (h : Bel X B a b) (k : Bel X B b c) : Bel X B a c :=
  ⟨k.os.trans h.os, k.tape.trans h.tape, k.output.trans h.output, Nat.le_trans h.size k.size, fun i hi hx => (k.block i hi hx).trans (h.block i hi hx)⟩
theorem Bel.of {X : Nat → Prop} {B : Nat} {w w' : World} (h : Below B w w') : Bel X B w w' := ⟨h.os, h.tape, h.output, h.size, fun k hk _ => h.block k hk⟩
theorem Bel.below {B : Nat} {w w' : World} (h : Bel (fun _ => False) B w w') : Below B w w' := ⟨h.os, h.tape, h.output, h.size, fun k hk => h.block k hk id⟩
theorem Bel.mono {X X' : Nat → Prop} {B B' : Nat} {w w' : World} (h : Bel X B w w') (hB : B' ≤ B) (hX : ∀ k, k < B' → X k → X' k) : Bel X' B' w w' :=
  ⟨h.os, h.tape, h.output, h.size, fun k hk hx => h.block k (by omega) fun hk' => hx (hX k hk hk')⟩
/-- a step of the memory -/
structure Go1 (X : Nat → Prop) (n0 : Nat) (M : Mm) (w : World) (M' : Mm) (w' : World) : Prop where
  below : Bel X n0 w w'
  keep : ∀ b, M.F b → b < w.heap.size → w'.heap[b]? = w.heap[b]?
  F : ∀ b, M.F b → b < w.heap.size → M'.F b
  m : ∀ k g, M.m k = some g → M'.m k = some g
  o : ∀ b A n c, M.o b = some (A, n, c) → ∃ A' n' c', M'.o b = some (A', n', c') ∧ n ≤ n' ∧ (n = n' → A' = A ∧ c' = c)
theorem same_o {M M' : Mm} {b : Nat} (h : M'.o b = M.o b) : ∀ A n c, M.o b = some (A, n, c) → ∃ A' n' c', M'.o b = some (A', n', c') ∧ n ≤ n' ∧ (n = n' → A' = A ∧ c' = c) :=
  fun A n c e => ⟨A, n, c, h.trans e, Nat.le_refl _, fun _ => ⟨rfl, rfl⟩⟩
theorem Go1.refl (X : Nat → Prop) (n0 : Nat) (M : Mm) (w : World) : Go1 X n0 M w M w := ⟨Bel.refl _ _ _, fun _ _ _ => rfl, fun _ h _ => h, fun _ _ h => h, fun _ => same_o rfl⟩
theorem cell_eq {w w' : World} {a : Addr} (h : w'.heap[a.block]? = w.heap[a.block]?) : w'.cell? a = w.cell? a := by
  unfold World.cell?
  rw [h]
theorem Go1.trans {X : Nat → Prop} {n0 : Nat} {M M' M2 : Mm} {w w' w2 : World} (g : Go1 X n0 M w M' w') (h : Go1 X n0 M' w' M2 w2) : Go1 X n0 M w M2 w2 :=
  ⟨g.below.trans h.below, fun b hb hl => (h.keep b (g.F b hb hl) (Nat.lt_of_lt_of_le hl g.below.size)).trans (g.keep b hb hl), fun b hb hl => h.F b (g.F b hb hl) (Nat.lt_of_lt_of_le hl g.below.size), fun k q hq => h.m k q (g.m k q hq), fun b A n c e => by
    obtain ⟨A1, n1, c1, e1, l1, h1⟩ := g.o b A n c e
    obtain ⟨A2, n2, c2, e2, l2, h2⟩ := h.o b A1 n1 c1 e1
    refine ⟨A2, n2, c2, e2, Nat.le_trans l1 l2, fun e3 => ?_⟩
    obtain ⟨rfl, rfl⟩ := h1 (by omega)
    obtain ⟨rfl, rfl⟩ := h2 (by omega)
    exact ⟨rfl, rfl⟩⟩
theorem Go1.flat {X : Nat → Prop} {n0 : Nat} {M M' : Mm} {w w' : World} (g : Go1 X n0 M w M' w') : Go1 X n0 (M0 M.F) w (M0 M'.F) w' := ⟨g.below, g.keep, g.F, (fun _ _ h => by cases h), (fun _ _ _ _ h => by cases h)⟩
theorem Rd.go {X : Nat → Prop} {n0 : Nat} {M M' : Mm} {w w' : World} {v : Value} {d : Dt} (g : Go1 X n0 M w M' w') (h : Rd M.F w v d) : Rd M'.F w' v d :=
  (h.mono (ok' := fun b => M.F b ∧ M'.F b) fun b hb hl => ⟨hb, g.F b hb hl⟩).keep g.below.size (fun b hb hl => g.keep b hb.1 hl) |>.mono fun _ h _ => h.2
mutual
theorem RV.go {X : Nat → Prop} {n0 : Nat} {w w' : World} : ∀ {M M' : Mm}, Go1 X n0 M w M' w' → ∀ (a : AV) (v : Value), RV M w a v → RV M' w' a v
  | _, _, g, .dt d, v, h => Rd.go g h
  | _, _, _, .nil, v, h => h
  | _, _, g, .ful es, v, ⟨A, h1, h2⟩ => ⟨A, h1, Rd.go g h2⟩
  | _, _, g, .own b n, v, ⟨A, c, A', n', c', h1, h2, h3, h4⟩ => by
    obtain ⟨A2, n2, c2, e1, e2, e3⟩ := g.o b A' n' c' h2
    refine ⟨A, c, A2, n2, c2, h1, e1, Nat.le_trans h3 e2, fun e => ?_⟩
    have hn : n = n' := by omega
    obtain ⟨rfl, rfl⟩ := h4 hn
    obtain ⟨rfl, rfl⟩ := e3 (by omega)
    exact ⟨rfl, rfl⟩
  | _, _, g, .sl b n, v, ⟨x, h1, h2⟩ => ⟨x, g.m _ _ h1, h2⟩
  | _, _, g, .mapp b, v, ⟨x, h1, h2⟩ => ⟨x, g.m _ _ h1, h2⟩
  | _, _, g, .ptr b off, v, ⟨x, h1, h2⟩ => ⟨x, g.m _ _ h1, h2⟩
  | _, _, g, .rptr b i k, v, ⟨x, h1, h2⟩ => ⟨x, g.m _ _ h1, h2⟩
  | _, _, _, .gl _ _, v, h => h
  | _, _, g, .pin cs, v, ⟨x, o, vs, h1, h2, h3, h4, h5⟩ => ⟨x, o, vs, h1, g.F _ h2 h3, Nat.lt_of_lt_of_le h3 g.below.size, fun j u hj => (cell_eq (g.keep x h2 h3)).trans (h4 j u hj), RL.go g.flat cs vs h5⟩
  | _, _, g, .agg cs, v, ⟨vs, h1, h2⟩ => ⟨vs, h1, RL.go g cs vs h2⟩
  | _, _, g, .tup cs, v, ⟨vs, h1, h2⟩ => ⟨vs, h1, RL.go g cs vs h2⟩
  | _, _, g, .clo f cs, v, ⟨vs, h1, h2⟩ => ⟨vs, h1, RL.go g cs vs h2⟩
  | _, _, g, .clf f cs, v, ⟨vs, h1, h2⟩ => ⟨vs, h1, RL.go g.flat cs vs h2⟩
  | _, _, _, .un, _, _ => trivial
theorem RL.go {X : Nat → Prop} {n0 : Nat} {w w' : World} : ∀ {M M' : Mm}, Go1 X n0 M w M' w' → ∀ (cs : List AV) (vs : List Value), RL M w cs vs → RL M' w' cs vs
  | _, _, _, [], _, h => h
  | _, _, g, c :: cs, _, ⟨u, us, h1, h2, h3⟩ => ⟨u, us, h1, RV.go g c u h2, RL.go g cs us h3⟩
end
theorem RL.len {M : Mm} {w : World} : ∀ {cs : List AV} {vs : List Value}, RL M w cs vs → vs.length = cs.length
  | [], _, h => by rw [show _ = _ from h]; rfl
  | c :: cs, _, ⟨u, us, h1, _, h3⟩ => by rw [h1, List.length_cons, List.length_cons, RL.len h3]
theorem RL.get {M : Mm} {w : World} : ∀ {cs : List AV} {vs : List Value}, RL M w cs vs → ∀ {i : Nat} {c : AV}, cs[i]? = some c → ∃ u, vs[i]? = some u ∧ RV M w c u
  | [], _, _, i, c, hi => by simp at hi
  | c :: cs, _, ⟨u, us, h1, h2, h3⟩, i, c', hi => by
    subst h1
    cases i with
    | zero => exact ⟨u, rfl, by simpa using (Option.some.inj hi) ▸ h2⟩
    | succ i => exact RL.get h3 (by simpa using hi)
theorem RL.take {M : Mm} {w : World} : ∀ {cs : List AV} {vs : List Value} (n : Nat), RL M w cs vs → RL M w (cs.take n) (vs.take n)
  | _, _, 0, _ => rfl
  | [], _, n + 1, h => by rw [show _ = _ from h]; rfl
  | c :: cs, _, n + 1, ⟨u, us, h1, h2, h3⟩ => by subst h1; exact ⟨u, us.take n, rfl, h2, RL.take n h3⟩
theorem RL.drop {M : Mm} {w : World} : ∀ {cs : List AV} {vs : List Value} (n : Nat), RL M w cs vs → RL M w (cs.drop n) (vs.drop n)
  | _, _, 0, h => h
  | [], _, n + 1, h => by rw [show _ = _ from h]; rfl
  | c :: cs, _, n + 1, ⟨u, us, h1, h2, h3⟩ => by subst h1; exact RL.drop n h3
theorem RL.append {M : Mm} {w : World} : ∀ {cs ds : List AV} {vs us : List Value}, RL M w cs vs → RL M w ds us → RL M w (cs ++ ds) (vs ++ us)
  | [], _, _, _, h, h' => by rw [show _ = _ from h]; exact h'
  | c :: cs, _, _, _, ⟨u, us, h1, h2, h3⟩, h' => by subst h1; exact ⟨u, us ++ _, rfl, h2, RL.append h3 h'⟩
theorem RV.oneCell {M : Mm} {w : World} {a : AV} {v : Value} (h : RV M w a v) (h1 : a.one = true) : v.oneCell' = true := by
  cases a with
  | dt d => exact Rd.one h h1
  | nil => rw [show v = _ from h]; rfl
  | ful es => obtain ⟨A, rfl, _⟩ := h; rfl
  | own b n => obtain ⟨A, c, A', n', c', rfl, _⟩ := h; rfl
  | sl b n => obtain ⟨g, _, rfl⟩ := h; rfl
  | mapp b => obtain ⟨g, _, rfl⟩ := h; rfl
  | ptr b off => obtain ⟨g, _, rfl⟩ := h; rfl
  | rptr b i k => obtain ⟨g, _, rfl⟩ := h; rfl
  | gl g off => rw [show v = _ from h]; rfl
  | pin ds => obtain ⟨g, o, vs, rfl, _⟩ := h; rfl
  | clo f cs => obtain ⟨vs, rfl, _⟩ := h; rfl
  | clf f cs => obtain ⟨vs, rfl, _⟩ := h; rfl
  | agg cs => cases h1
  | tup cs => cases h1
  | un => cases h1
theorem RL.oneCell {M : Mm} {w : World} : ∀ {cs : List AV} {vs : List Value}, RL M w cs vs → cs.all AV.one = true → ∀ u ∈ vs, u.oneCell' = true
  | [], _, h, _ => by rw [show _ = _ from h]; intro u hu; cases hu
  | c :: cs, _, ⟨u, us, h1, h2, h3⟩, ha => by
    subst h1
    rw [List.all_cons, Bool.and_eq_true] at ha
    intro x hx
    rcases List.mem_cons.1 hx with rfl | hx
    · exact h2.oneCell ha.1
    · exact RL.oneCell h3 ha.2 x hx
theorem cells_one {v : Value} (h : v.oneCell' = true) : v.cells = #[v] := by
  cases v <;> first | rfl | cases h
/-- the cells of a value -/
theorem RV.cells {M : Mm} {w : World} {a : AV} {v : Value} (h : RV M w a v) (h1 : a.cells.all AV.one = true) : ∃ vs, v.cells = vs.toArray ∧ RL M w a.cells vs := by
  cases a with
  | agg cs => obtain ⟨vs, rfl, hr⟩ := h; exact ⟨vs, rfl, hr⟩
  | tup cs => simp [AV.cells, AV.one] at h1
  | un => simp [AV.cells, AV.one] at h1
  | _ =>
    refine ⟨[v], ?_, v, [], rfl, h, rfl⟩
    rw [cells_one (h.oneCell (by simpa [AV.cells] using h1))]
/-- what lies in a box -/
inductive Bx where
  | cells (cs : List AV)
  | buf (e : TypeId) (k : Nat) (es : List (List Dt))
  | fzn (es : List (List Dt))
  | mp (kvs : List (Value × AV))
  | rws (e : TypeId) (k : Nat) (es : List (List Dt))
  | fzr (es : List (List Dt))
  | cst (cs : List AV)
def Bx.isM : Bx → Bool
  | .buf _ _ _ => false
  | .fzn _ => false
  | _ => true
/-- rows in the cells of a block -/
def RWS (F : Nat → Prop) (w : World) (k : Nat) (es : List (List Dt)) (vs : List Value) : Prop :=
  vs.length = es.length * k ∧ ∀ i (h : i < es.length), (es[i]).length = k ∧ ∀ j (hj : j < (es[i]).length), ∃ u, vs[i * k + j]? = some u ∧ u.oneCell' = true ∧ Rd F w u (es[i])[j]
def MK (M : Mm) (w : World) : List (Value × AV) → List MapEntry → Prop
  | [], es => es = []
  | (k, a) :: kvs, es => ∃ e es', es = e :: es' ∧ e.key = k ∧ RV M w a e.val ∧ MK M w kvs es'
def BxOK (M : Mm) (w : World) (b : Nat) : Bx → Prop
  | .cells cs => ∃ g T vs, M.m b = some g ∧ BlkIs w g T vs.toArray ∧ RL M w cs vs
  | .buf e k es => ∃ A n c, M.o b = some (A, n, c) ∧ OwnD M.F w 0 e k A n c es
  | .fzn es => ∃ A n c, M.o b = some (A, n, c) ∧ Rd M.F w (.slice A n c) (.row es)
  | .mp kvs => ∃ g es clk, M.m b = some g ∧ w.heap[g]? = some (.map es.toArray clk) ∧ MK M w kvs es
  | .rws e k es => ∃ g vs, M.m b = some g ∧ BlkIs w g e vs.toArray ∧ RWS M.F w k es vs
  | .fzr es => ∃ g, M.m b = some g ∧ Rd M.F w (.slice (some ⟨g, 0, none⟩) es.length es.length) (.row es)
  | .cst cs => ∃ g vs, M.m b = some g ∧ M.F g ∧ g < w.heap.size ∧ (∀ (j : Nat) u, vs[j]? = some u → w.cell? ⟨g, j, none⟩ = some u) ∧ RL (M0 M.F) w cs vs
/-- the block that a box holds -/
def Hx (M : Mm) (b : Nat) : Bx → Nat → Prop
  | .cells _, g => M.m b = some g
  | .mp _, g => M.m b = some g
  | .buf _ _ _, g => ∃ n c, M.o b = some (some ⟨g, 0, none⟩, n, c)
  | .rws _ _ _, g => M.m b = some g
  | _, _ => False
section
variable {X : Nat → Prop} {n0 : Nat} {M M' : Mm} {w w' : World}
theorem MK.go (g : Go1 X n0 M w M' w') : ∀ {kvs : List (Value × AV)} {es : List MapEntry}, MK M w kvs es → MK M' w' kvs es
  | [], _, h => h
  | (_k, _a) :: _kvs, _, ⟨e, es', h1, h2, h3, h4⟩ => ⟨e, es', h1, h2, RV.go g _ _ h3, MK.go g h4⟩
theorem OwnD.go (g : Go1 X n0 M w M' w') {e : TypeId} {k : Nat} {A : Option Addr} {n c : Nat} {l : List (List Dt)} (h : OwnD M.F w 0 e k A n c l) (hA : ∀ q, A = some ⟨q, 0, none⟩ → w'.heap[q]? = w.heap[q]?) : OwnD M'.F w' 0 e k A n c l :=
  ((h.mono (ok' := fun b => M.F b ∧ M'.F b) fun b hb hl => ⟨hb, g.F b hb hl⟩).keep g.below.size fun q hq h => by
    rcases h with h | h
    · exact g.keep q h.1 hq
    · exact hA q h).mono fun b hb _ => hb.2
theorem RWS.go (g : Go1 X n0 M w M' w') {k : Nat} {es : List (List Dt)} {vs : List Value} (h : RWS M.F w k es vs) : RWS M'.F w' k es vs :=
  ⟨h.1, fun i hi => ⟨(h.2 i hi).1, fun j hj => by
    obtain ⟨u, h1, h2, h3⟩ := (h.2 i hi).2 j hj
    exact ⟨u, h1, h2, Rd.go g h3⟩⟩⟩
theorem BxOK.go (g : Go1 X n0 M w M' w') {b : Nat} (ho : M'.o b = M.o b) {x : Bx} (hk : ∀ q, Hx M b x q → w'.heap[q]? = w.heap[q]?) (h : BxOK M w b x) : BxOK M' w' b x := by
  cases x with
  | cells cs => obtain ⟨q, T, vs, h1, h2, h3⟩ := h; exact ⟨q, T, vs, g.m _ _ h1, h2.keep (hk q h1), RL.go g _ _ h3⟩
  | buf e k es => obtain ⟨A, n, c, h1, h2⟩ := h; exact ⟨A, n, c, ho.trans h1, h2.go g fun q hq => hk q ⟨n, c, by rw [← hq]; exact h1⟩⟩
  | fzn es => obtain ⟨A, n, c, h1, h2⟩ := h; exact ⟨A, n, c, ho.trans h1, Rd.go g h2⟩
  | mp kvs => obtain ⟨q, es, clk, h1, h2, h3⟩ := h; exact ⟨q, es, clk, g.m _ _ h1, (hk q h1).trans h2, MK.go g h3⟩
  | rws e k es => obtain ⟨q, vs, h1, h2, h3⟩ := h; exact ⟨q, vs, g.m _ _ h1, h2.keep (hk q h1), h3.go g⟩
  | fzr es => obtain ⟨q, h1, h2⟩ := h; exact ⟨q, g.m _ _ h1, Rd.go g h2⟩
  | cst cs => obtain ⟨q, vs, h1, h2, h3, h4, h5⟩ := h; exact ⟨q, vs, g.m _ _ h1, g.F _ h2 h3, Nat.lt_of_lt_of_le h3 g.below.size, fun j u hj => (cell_eq (g.keep q h2 h3)).trans (h4 j u hj), RL.go g.flat cs vs h5⟩
theorem Hx.eq {b : Nat} {x : Bx} (hm : M'.m b = M.m b) (ho : M'.o b = M.o b) {q : Nat} : Hx M' b x q ↔ Hx M b x q := by
  cases x <;> simp [Hx, hm, ho]
end
/-- all boxes -/
structure Sto (X : Nat → Prop) (n0 : Nat) (M : Mm) (bx : Nat → Option Bx) (w : World) : Prop where
  box : ∀ b x, bx b = some x → BxOK M w b x
  dom : ∀ b x g, bx b = some x → Hx M b x g → (n0 ≤ g ∨ X g) ∧ g < w.heap.size ∧ ¬ M.F g
  inj : ∀ b b' x x' g, bx b = some x → bx b' = some x' → Hx M b x g → Hx M b' x' g → b = b'
  hm : ∀ b g, M.m b = some g → ∃ x, bx b = some x ∧ x.isM = true
  ho : ∀ b v, M.o b = some v → (bx b).isSome = true
  fz : ∀ b, M.F b → b < w.heap.size
def updB (bx : Nat → Option Bx) : List (Nat × Bx) → Nat → Option Bx
  | [], k => bx k
  | (b, x) :: r, k => if k = b then some x else updB bx r k
abbrev updX1 (bx : Nat → Option Bx) (b : Nat) (x : Bx) : Nat → Option Bx := fun k => if k = b then some x else bx k
section
variable {X : Nat → Prop} {n0 : Nat} {M M' : Mm} {w w' : World} {bx : Nat → Option Bx}
theorem Sto.fresh_m (h : Sto X n0 M bx w) {k : Nat} (hk : bx k = none) : M.m k = none := by
  cases e : M.m k with
  | none => rfl
  | some g => obtain ⟨x, h1, _⟩ := h.hm k g e; rw [hk] at h1; cases h1
theorem Sto.fresh_o (h : Sto X n0 M bx w) {k : Nat} (hk : bx k = none) : M.o k = none := by
  cases e : M.o k with
  | none => rfl
  | some v => have := h.ho k v e; rw [hk] at this; cases this
/-- one box changes -/
theorem Sto.upd (h : Sto X n0 M bx w) (g : Go1 X n0 M w M' w') (le : n0 ≤ w.heap.size) {b : Nat} {x' : Bx}
    (hm : ∀ k, k ≠ b → M'.m k = M.m k ∧ M'.o k = M.o k) (hw : ∀ q, q < w.heap.size → (∀ x, bx b = some x → ¬ Hx M b x q) → w'.heap[q]? = w.heap[q]?)
    (hF : ∀ q, M'.F q → q < w'.heap.size ∧ (M.F q ∨ w.heap.size ≤ q)) (hx : BxOK M' w' b x')
    (hd : ∀ q, Hx M' b x' q → ((∃ x, bx b = some x ∧ Hx M b x q) ∨ w.heap.size ≤ q) ∧ q < w'.heap.size ∧ ¬ M'.F q) (hmb : ∀ q, M'.m b = some q → x'.isM = true) : Sto X n0 M' (updX1 bx b x') w' := by
  have old : ∀ {k x}, k ≠ b → updX1 bx b x' k = some x → bx k = some x := fun hk h => by rwa [show updX1 bx b x' _ = _ from if_neg hk] at h
  have this : ∀ {x}, updX1 bx b x' b = some x → x = x' := fun h => by rw [show updX1 bx b x' b = some x' from if_pos rfl] at h; exact (Option.some.inj h).symm
  have far : ∀ {k x q}, k ≠ b → bx k = some x → Hx M k x q → w'.heap[q]? = w.heap[q]? := fun {k x q} hk hb hq =>
    hw q (h.dom k x q hb hq).2.1 fun y hy hyq => hk (h.inj _ _ _ _ q hb hy hq hyq)
  refine ⟨?_, ?_, ?_, ?_, ?_, fun q hq => (hF q hq).1⟩
  · intro k x hk
    by_cases e : k = b
    · subst e; rw [this hk]; exact hx
    · have hk' := old e hk
      exact (h.box k x hk').go g (hm k e).2 fun q hq => far e hk' hq
  · intro k x q hk hq
    by_cases e : k = b
    · subst e
      rw [this hk] at hq
      obtain ⟨h1, h2, h3⟩ := hd q hq
      refine ⟨?_, h2, h3⟩
      rcases h1 with ⟨y, hy, hyq⟩ | h1
      · exact (h.dom _ _ _ hy hyq).1
      · exact .inl (by omega)
    · have hk' := old e hk
      have hq' := (Hx.eq (hm k e).1 (hm k e).2).1 hq
      obtain ⟨h1, h2, h3⟩ := h.dom k x q hk' hq'
      refine ⟨h1, Nat.lt_of_lt_of_le h2 g.below.size, fun hf => ?_⟩
      rcases (hF q hf).2 with h4 | h4
      · exact h3 h4
      · omega
  · intro k k' x y q hk hk' hq hq'
    have key : ∀ {k x}, k ≠ b → updX1 bx b x' k = some x → Hx M' k x q → ∀ {y}, updX1 bx b x' b = some y → Hx M' b y q → False := by
      intro k x e hk hq y hy hyq
      rw [this hy] at hyq
      have hk2 := old e hk
      have hq2 := (Hx.eq (hm k e).1 (hm k e).2).1 hq
      rcases (hd q hyq).1 with ⟨z, hz, hzq⟩ | h1
      · exact e (h.inj _ _ _ _ q hk2 hz hq2 hzq)
      · have := (h.dom k x q hk2 hq2).2.1; omega
    by_cases e : k = b <;> by_cases e' : k' = b
    · rw [e, e']
    · subst e; exact (key e' hk' hq' hk hq).elim
    · subst e'; exact (key e hk hq hk' hq').elim
    · exact h.inj _ _ _ _ q (old e hk) (old e' hk') ((Hx.eq (hm k e).1 (hm k e).2).1 hq) ((Hx.eq (hm k' e').1 (hm k' e').2).1 hq')
  · intro k q hk
    by_cases e : k = b
    · subst e; exact ⟨x', if_pos rfl, hmb q hk⟩
    · rw [(hm k e).1] at hk
      obtain ⟨x, h1, h2⟩ := h.hm k q hk
      exact ⟨x, (if_neg e).trans h1, h2⟩
  · intro k v hk
    by_cases e : k = b
    · subst e; show (updX1 bx k x' k).isSome = true; rw [show updX1 bx k x' k = some x' from if_pos rfl]; rfl
    · rw [(hm k e).2] at hk
      show (updX1 bx b x' k).isSome = true
      rw [show updX1 bx b x' k = bx k from if_neg e]
      exact h.ho k v hk
/-- no box changes -/
theorem Sto.grow (h : Sto X n0 M bx w) (g : Go1 X n0 M w M' w') (hm : M'.m = M.m) (ho : M'.o = M.o)
    (hw : ∀ q k x, bx k = some x → Hx M k x q → w'.heap[q]? = w.heap[q]?) (hF : ∀ q, M'.F q → q < w'.heap.size ∧ (M.F q ∨ w.heap.size ≤ q)) : Sto X n0 M' bx w' := by
  have hx : ∀ k x q, Hx M' k x q ↔ Hx M k x q := fun k x q => Hx.eq (by rw [hm]) (by rw [ho])
  refine ⟨fun b x hb => (h.box b x hb).go g (by rw [ho]) fun q hq => hw q b x hb hq, ?_, ?_, ?_, ?_, fun q hq => (hF q hq).1⟩
  · intro b x q hb hq
    rw [hx] at hq
    obtain ⟨h1, h2, h3⟩ := h.dom b x q hb hq
    refine ⟨h1, Nat.lt_of_lt_of_le h2 g.below.size, fun hf => ?_⟩
    rcases (hF q hf).2 with h4 | h4
    · exact h3 h4
    · omega
  · intro b b' x x' q h1 h2 h3 h4
    rw [hx] at h3 h4
    exact h.inj _ _ _ _ q h1 h2 h3 h4
  · intro b q hb
    rw [hm] at hb
    exact h.hm b q hb
  · intro b v hb
    rw [ho] at hb
    exact h.ho b v hb
theorem OwnD.rdF {ok : Nat → Prop} {e : TypeId} {k : Nat} {A : Option Addr} {n c : Nat} {l : List (List Dt)} (h : OwnD ok w 0 e k A n c l) : Rd (fun q => ok q ∨ A = some ⟨q, 0, none⟩) w (.slice A n c) (.row l) := by
  have h0 := h.rd
  rcases h.addr with rfl | ⟨g, rfl, _, hg⟩
  · have hl := h.len
    obtain ⟨xs, ⟨_, ho⟩, _⟩ := h.own
    rcases ho with ⟨hv, _⟩ | ⟨g, cap, cur, hv, _⟩
    · simp only [Value.slice.injEq] at hv
      obtain ⟨_, rfl, rfl⟩ := hv
      obtain rfl : l = [] := List.eq_nil_of_length_eq_zero hl
      exact .nil _ _
    · simp only [Value.slice.injEq] at hv
      cases hv.1
  · obtain ⟨xs, ⟨hx, ho⟩, he⟩ := h.own
    have hlen := h.len
    rcases Nat.eq_zero_or_pos n with hn | hn
    · subst hn
      obtain rfl : l = [] := List.eq_nil_of_length_eq_zero hlen
      exact .nil _ _
    · rcases ho with ⟨_, h1⟩ | ⟨g', cap, cur, hv, hbg, hgb, hnc, hcm, hcs, ht⟩
      · omega
      · simp only [Value.slice.injEq, Option.some.injEq, Addr.mk.injEq] at hv
        obtain ⟨⟨rfl, _⟩, _, rfl⟩ := hv
        refine Rd.mk (k := k) hlen hnc hg (.inr rfl) (fun i hi => (he i hi).1) (fun i j hi hj => ?_)
        obtain ⟨u, h1, h2⟩ := (he i hi).2 j hj
        refine ⟨u, ?_, h2.mono fun b hb _ => .inl hb.1⟩
        have hj' : j < k := by rw [← (he i hi).1]; exact hj
        have hlt : i * k + j < n * k := by
          have : (i + 1) * k ≤ n * k := Nat.mul_le_mul_right k (by omega)
          rw [Nat.add_mul] at this; omega
        have e : cur[i * k + j]? = some u := by
          rw [← h1, ← ht, List.getElem?_take_of_lt hlt]; simp
        simp [World.cell?, hgb, Nat.zero_add, e]
/-- a buffer grows no more -/
theorem Sto.frz (h : Sto X n0 M bx w) {b : Nat} {e : TypeId} {k : Nat} {es : List (List Dt)} (hb : bx b = some (.buf e k es)) :
    ∃ M', Go1 X n0 M w M' w ∧ Sto X n0 M' (updX1 bx b (.fzn es)) w ∧ M'.m = M.m ∧ M'.o = M.o ∧ ∀ q, M'.F q → M.F q ∨ n0 ≤ q ∨ X q := by
  obtain ⟨A, n, c, ho, hown⟩ := h.box b _ hb
  have hmb : M.m b = none := by
    cases e : M.m b with
    | none => rfl
    | some g =>
      obtain ⟨x, h1, h2⟩ := h.hm b g e
      rw [hb] at h1; cases h1
      cases h2
  have hHb : ∀ q, A = some ⟨q, 0, none⟩ → Hx M b (.buf e k es) q := fun q hq => ⟨n, c, by rw [← hq]; exact ho⟩
  let M' : Mm := ⟨M.m, fun q => M.F q ∨ A = some ⟨q, 0, none⟩, M.o⟩
  have g : Go1 X n0 M w M' w := ⟨Bel.refl _ _ _, fun _ _ _ => rfl, fun _ h _ => .inl h, fun _ _ h => h, fun _ => same_o rfl⟩
  have old : ∀ {k x}, k ≠ b → updX1 bx b (.fzn es) k = some x → bx k = some x := fun hk h => by rwa [show updX1 bx b (.fzn es) _ = _ from if_neg hk] at h
  have this : ∀ {x}, updX1 bx b (.fzn es) b = some x → x = .fzn es := fun h => by rw [show updX1 bx b (.fzn es) b = some (.fzn es) from if_pos rfl] at h; exact (Option.some.inj h).symm
  have hx : ∀ k x q, Hx M' k x q ↔ Hx M k x q := fun k x q => Hx.eq rfl rfl
  refine ⟨M', g, ⟨?_, ?_, ?_, ?_, ?_, ?_⟩, rfl, rfl, ?_⟩
  · intro k x hk
    by_cases e : k = b
    · subst e; rw [this hk]; exact ⟨A, n, c, ho, hown.rdF⟩
    · exact (h.box k x (old e hk)).go g rfl fun _ _ => rfl
  · intro k x q hk hq
    by_cases e : k = b
    · subst e; rw [this hk] at hq; exact hq.elim
    · rw [hx] at hq
      obtain ⟨h1, h2, h3⟩ := h.dom k x q (old e hk) hq
      refine ⟨h1, h2, fun hf => ?_⟩
      rcases hf with hf | hf
      · exact h3 hf
      · exact e (h.inj _ _ _ _ q (old e hk) hb hq (hHb q hf))
  · intro k k' x y q hk hk' hq hq'
    rw [hx] at hq hq'
    by_cases e : k = b
    · subst e; rw [this hk] at hq; exact hq.elim
    · by_cases e' : k' = b
      · subst e'; rw [this hk'] at hq'; exact hq'.elim
      · exact h.inj _ _ _ _ q (old e hk) (old e' hk') hq hq'
  · intro k q hk
    obtain ⟨x, h1, h2⟩ := h.hm k q hk
    by_cases e : k = b
    · subst e; rw [hmb] at hk; cases hk
    · exact ⟨x, (if_neg e).trans h1, h2⟩
  · intro k v hk
    show (updX1 bx b (.fzn es) k).isSome = true
    by_cases e : k = b
    · subst e; rw [show updX1 bx k (.fzn es) k = some (.fzn es) from if_pos rfl]; rfl
    · rw [show updX1 bx b (.fzn es) k = bx k from if_neg e]; exact h.ho k v hk
  · intro q hq
    rcases hq with hq | hq
    · exact h.fz q hq
    · exact (h.dom b _ q hb (hHb q hq)).2.1
  · intro q hq
    rcases hq with hq | hq
    · exact .inl hq
    · exact .inr (h.dom b _ q hb (hHb q hq)).1
end
/-- the state of an activation -/
structure Inv (X : Nat → Prop) (n0 : Nat) (w0 : World × Mm) (ok0 : Nat → Prop) (M : Mm) (nt : Nat) (tm : Nat → AV) (bx : Nat → Option Bx) (a : Act) (w : World) : Prop where
  below : Bel X n0 w0.1 w
  le : n0 ≤ w.heap.size
  defers : a.defers = []
  size : a.tmps.size = nt
  tmps : ∀ t, RV M w (tm t) (a.tmps.getD t undef)
  sto : Sto X n0 M bx w
  src : ∀ b, M.F b → b < n0 → ok0 b ∨ X b
  anc : Go1 X n0 w0.2 w0.1 M w
def toAV : Value → AV
  | .slice none 0 0 => .nil
  | v => .dt (.val v)
theorem toAV_rv (M : Mm) (w : World) (v : Value) : RV M w (toAV v) v := by
  unfold toAV
  split
  · exact rfl
  · exact .val _
theorem toAV_rl (M : Mm) (w : World) : ∀ vs : List Value, RL M w (vs.map toAV) vs
  | [] => rfl
  | v :: vs => ⟨v, vs, rfl, toAV_rv M w v, toAV_rl M w vs⟩
def aev (tm : Nat → AV) : Operand → AV
  | .tmp t => tm t
  | .const v => toAV v
  | .global g => .gl g 0
  | .func f => .clf f []
def updT (tm : Nat → AV) (d : Option Nat) (r : AV) : Nat → AV := match d with
  | some d => fun t => if t = d then r else tm t
  | none => tm
section
variable {X : Nat → Prop} {n0 : Nat} {w0 : World × Mm} {ok0 : Nat → Prop} {M M' : Mm} {nt : Nat} {tm : Nat → AV} {bx bx' : Nat → Option Bx} {a : Act} {w w' : World}
theorem Inv.ev (h : Inv X n0 w0 ok0 M nt tm bx a w) (x : Operand) : RV M w (aev tm x) (a.eval x) := by
  cases x with
  | tmp t => exact h.tmps t
  | const v => exact toAV_rv M w v
  | global g => exact rfl
  | func f => exact ⟨[], rfl, rfl⟩
/-- the state behind a step of the memory -/
theorem Inv.put (h : Inv X n0 w0 ok0 M nt tm bx a w) (g : Go1 X n0 M w M' w') (hs : Sto X n0 M' bx' w') (hF : ∀ b, M'.F b → M.F b ∨ n0 ≤ b ∨ X b) (d : Option Nat) (hd : ∀ t, d = some t → t < nt) {v : Value} {r : AV} (hr : RV M' w' r v) :
    Inv X n0 w0 ok0 M' nt (updT tm d r) bx' (a.put d v) w' := by
  refine ⟨h.below.trans g.below, Nat.le_trans h.le g.below.size, ?_, ?_, ?_, hs, fun b hb hl => ?_, h.anc.trans g⟩
  · cases d <;> exact h.defers
  · cases d with
    | none => exact h.size
    | some d => show (a.tmps.setIfInBounds d v).size = nt; rw [Array.size_setIfInBounds]; exact h.size
  · intro t
    cases d with
    | none => exact RV.go g _ _ (h.tmps t)
    | some d =>
      have hd' := hd d rfl
      show RV M' w' (if t = d then r else tm t) ((a.tmps.setIfInBounds d v).getD t undef)
      by_cases e : t = d
      · subst e
        rw [if_pos rfl]
        have : (a.tmps.setIfInBounds t v).getD t undef = v := by
          have := h.size
          simp [show t < a.tmps.size by omega]
        rw [this]
        exact hr
      · rw [if_neg e]
        have : (a.tmps.setIfInBounds d v).getD t undef = a.tmps.getD t undef := by
          simp [Ne.symm e]
        rw [this]
        exact RV.go g _ _ (h.tmps t)
  · rcases hF b hb with e | e | e
    · exact h.src b e hl
    · omega
    · exact .inr e
/-- a step without a value -/
theorem Inv.same (h : Inv X n0 w0 ok0 M nt tm bx a w) (g : Go1 X n0 M w M' w') (hs : Sto X n0 M' bx' w') (hF : ∀ b, M'.F b → M.F b ∨ n0 ≤ b ∨ X b) : Inv X n0 w0 ok0 M' nt tm bx' a w' := by
  have := h.put g hs hF none (fun _ h => by cases h) (v := undef) (r := .un) trivial
  exact this
theorem Inv.val (h : Inv X n0 w0 ok0 M nt tm bx a w) (d : Option Nat) (hd : ∀ t, d = some t → t < nt) {v : Value} {r : AV} (hr : RV M w r v) : Inv X n0 w0 ok0 M nt (updT tm d r) bx (a.put d v) w :=
  h.put (Go1.refl _ _ _ _) h.sto (fun _ h => .inl h) d hd hr
/-- a call, or a block that stays as it is -/
theorem Inv.grown (h : Inv X n0 w0 ok0 M nt tm bx a w) (hb : Below w.heap.size w w') (d : Option Nat) (hd : ∀ t, d = some t → t < nt) {v : Value} {r : AV}
    (hr : RV ⟨M.m, fun b => (M.F b ∨ w.heap.size ≤ b) ∧ b < w'.heap.size, M.o⟩ w' r v) : ∃ M', Inv X n0 w0 ok0 M' nt (updT tm d r) bx (a.put d v) w' := by
  have g : Go1 X n0 M w ⟨M.m, fun b => (M.F b ∨ w.heap.size ≤ b) ∧ b < w'.heap.size, M.o⟩ w' := ⟨Bel.of (hb.mono h.le), fun b _ hl => hb.block b hl, fun _ hb' hl => ⟨.inl hb', Nat.lt_of_lt_of_le hl hb.size⟩, fun _ _ h => h, fun _ => same_o rfl⟩
  refine ⟨_, h.put g (h.sto.grow g rfl rfl (fun q k x hk hq => hb.block q (h.sto.dom k x q hk hq).2.1) fun q hq => ⟨hq.2, hq.1⟩) (fun b hb' => ?_) d hd hr⟩
  rcases hb'.1 with e | e
  · exact .inl e
  · have := h.le; exact .inr (.inl (by omega))
/-- a new block for a new box -/
theorem Inv.new (h : Inv X n0 w0 ok0 M nt tm bx a w) {k : Nat} (hk : bx k = none) (o : Obj) {x' : Bx} (hM : x'.isM = true) (hx : ∀ M', Go1 X n0 M w M' (w.alloc o) → M'.m k = some w.heap.size → BxOK M' (w.alloc o) k x') (d : Option Nat) (hd : ∀ t, d = some t → t < nt) {r : AV} {v : Value}
    (hr : ∀ M', M'.m k = some w.heap.size → RV M' (w.alloc o) r v) : ∃ M', Inv X n0 w0 ok0 M' nt (updT tm d r) (updX1 bx k x') (a.put d v) (w.alloc o) := by
  have hm := h.sto.fresh_m hk
  let M' : Mm := ⟨fun b => if b = k then some w.heap.size else M.m b, M.F, M.o⟩
  have hne : ∀ b, b ≠ k → M'.m b = M.m b := fun b hb => if_neg hb
  have hsz : (w.alloc o).heap.size = w.heap.size + 1 := by simp
  have g : Go1 X n0 M w M' (w.alloc o) := ⟨Bel.of ((Below.refl _ _).alloc h.le _), fun b _ hl => Below.heap_alloc _ _ _ hl, fun b hb _ => hb, (fun b q hb => by
    by_cases e : b = k
    · subst e; rw [hm] at hb; cases hb
    · rw [hne b e, hb]), fun _ => same_o rfl⟩
  have hk' : M'.m k = some w.heap.size := if_pos rfl
  refine ⟨M', h.put g (h.sto.upd g h.le (fun b hb => ⟨hne b hb, rfl⟩) (fun q hq _ => Below.heap_alloc _ _ _ hq) (fun q hq => ⟨by rw [hsz]; have := h.sto.fz q hq; omega, .inl hq⟩) (hx M' g hk') (fun q hq => ?_) (fun _ _ => hM)) (fun _ h => .inl h) d hd (hr M' hk')⟩
  have hq' : M'.m k = some q := by
    cases x' <;> first | exact hq | exact hq.elim | cases hM
  rw [hk'] at hq'
  cases hq'
  exact ⟨.inr (Nat.le_refl _), by rw [hsz]; omega, fun hf => by have := h.sto.fz _ hf; omega⟩
theorem Inv.alloc (h : Inv X n0 w0 ok0 M nt tm bx a w) {k : Nat} (hk : bx k = none) (T : TypeId) {cs : List AV} {vs : List Value} (hv : RL M w cs vs) (d : Option Nat) (hd : ∀ t, d = some t → t < nt) :
    ∃ M', Inv X n0 w0 ok0 M' nt (updT tm d (.ptr k 0)) (updX1 bx k (.cells cs)) (a.put d (.pointer (some ⟨w.heap.size, 0, none⟩))) (w.alloc (.cells vs.toArray T)) :=
  h.new hk _ (x' := .cells cs) rfl (fun _M' g hk' => ⟨w.heap.size, T, vs, hk', BlkIs.new w T vs.toArray, RL.go g _ _ hv⟩) d hd fun _M' hk' => ⟨_, hk', rfl⟩
/-- the block of a box changes -/
theorem Inv.chg (h : Inv X n0 w0 ok0 M nt tm bx a w) {b g : Nat} {x x' : Bx} (hb : bx b = some x) (hg : Hx M b x g) (hM : x'.isM = true) (hmg : M.m b = some g) (h1 : w'.os = w.os) (h2 : w'.tape = w.tape) (h3 : w'.output = w.output) (hsz : w'.heap.size = w.heap.size)
    (hother : ∀ q, q ≠ g → w'.heap[q]? = w.heap[q]?) (hx : Go1 X n0 M w M w' → BxOK M w' b x') (d : Option Nat) (hd : ∀ t, d = some t → t < nt) {r : AV} {v : Value} (hr : RV M w' r v) :
    Inv X n0 w0 ok0 M nt (updT tm d r) (updX1 bx b x') (a.put d v) w' := by
  obtain ⟨hg0, hg1, hg2⟩ := h.sto.dom b _ g hb hg
  have gg : Go1 X n0 M w M w' := ⟨⟨h1, h2, h3, by rw [hsz]; exact Nat.le_refl _, fun x hx hX => hother x (fun e => by
    subst e
    rcases hg0 with h0 | h0
    · omega
    · exact hX h0)⟩, fun x hx _ => hother x (fun e => hg2 (e ▸ hx)), fun _ h _ => h, fun _ _ h => h, fun _ => same_o rfl⟩
  refine h.put gg (h.sto.upd gg h.le (fun _ _ => ⟨rfl, rfl⟩) (fun q hq hnq => hother q (fun e => hnq _ hb (e ▸ hg))) (fun q hq => ⟨by rw [hsz]; exact h.sto.fz q hq, .inl hq⟩) (hx gg) (fun q hq => ?_) (fun _ _ => hM)) (fun _ h => .inl h) d hd hr
  have hq' : M.m b = some q := by
    cases x' <;> first | exact hq | exact hq.elim | cases hM
  rw [hmg] at hq'
  cases hq'
  exact ⟨.inl ⟨_, hb, hg⟩, by rw [hsz]; exact hg1, hg2⟩
theorem setRow_ne {w : World} {g x : Nat} {cs : Array Value} (hx : x ≠ g) : (w.setRow g cs).heap[x]? = w.heap[x]? := by
  unfold World.setRow
  simp only [Array.getElem?_modify]
  rw [if_neg (Ne.symm hx)]
theorem BlkIs.setRow {w : World} {g : Nat} {T : TypeId} {old cs : Array Value} (hB : BlkIs w g T old) : BlkIs (w.setRow g cs) g T cs := by
  unfold BlkIs at hB ⊢
  unfold World.setRow
  simp only [Array.getElem?_modify, if_true, hB, Option.map_some]
theorem setRow_size (w : World) (g : Nat) (cs : Array Value) : (w.setRow g cs).heap.size = w.heap.size := by unfold World.setRow; simp
/-- a store into a box -/
theorem Inv.store (h : Inv X n0 w0 ok0 M nt tm bx a w) {b g : Nat} {T : TypeId} {cs0 : List AV} (hb : bx b = some (.cells cs0)) (hg : M.m b = some g) {old new : List Value} (hB : BlkIs w g T old.toArray) {cs : List AV} (hv : RL M w cs new) (d : Option Nat) (hd : ∀ t, d = some t → t < nt) :
    Inv X n0 w0 ok0 M nt (updT tm d (.dt (.val undef))) (updX1 bx b (.cells cs)) (a.put d undef) (w.setRow g new.toArray) :=
  h.chg (x' := .cells cs) (w' := w.setRow g new.toArray) hb hg rfl hg rfl rfl rfl (setRow_size _ _ _) (fun _q hq => setRow_ne hq) (fun gg => ⟨g, T, new, hg, hB.setRow, RL.go gg _ _ hv⟩) d hd (r := .dt (.val undef)) (Rd.val _)
end
end Go.Proofs.YtendgffijciehaaGreatDoor
