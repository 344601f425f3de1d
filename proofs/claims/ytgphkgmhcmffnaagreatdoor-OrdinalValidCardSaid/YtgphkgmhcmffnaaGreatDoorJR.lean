/- object.Equal: all fields are equal. -/
import Derived.Test.YtgphkgmhcmffnaaGreatDoorJQ
import Derived.StillTailTactics
import Derived.Deep.DeepCutAuto
import Derived.BigRegion
import Derived.IntWalk
namespace Go.Proofs.YtgphkgmhcmffnaaGreatDoor
open Go.RowKit

def RetEq (p : Prop) (w : World) (e : Ending) (w' : World) : Prop := ∃ b : Bool, e = .returned (.bool b) ∧ (b = true ↔ p) ∧ Below w.heap.size w w'
theorem iff_no {p : Prop} (h : ¬ p) : (false = true) ↔ p := ⟨(fun e => by cases e), fun e => absurd e h⟩
theorem iff_yes {p : Prop} (h : p) : (true = true) ↔ p := ⟨fun _ => h, fun _ => rfl⟩
theorem ob_iff (k : Int) (n d p s t : List UInt8) (l m : List Ob) : l = m ↔ (⟨k, n, d, p, s, t, l⟩ : Ob) = ⟨k, n, d, p, s, t, m⟩ := ⟨fun e => by rw [e], fun e => by injection e⟩
theorem init_last {l m : List Ob} {n : Nat} (hl : l.length = n) (hm : m.length = n) (h0 : 0 < n) (h : ∀ j (h1 : j < l.length) (h2 : j < m.length), j < n - 1 → l[j] = m[j]) : (l[n - 1]'(by omega) = m[n - 1]'(by omega)) ↔ l = m := by
  constructor
  · intro e
    apply List.ext_getElem (by omega)
    intro i h1 h2
    by_cases hi : i < n - 1
    · exact h i h1 h2 hi
    · obtain rfl : i = n - 1 := by omega
      exact e
  · intro e; subst e; rfl

set_option maxHeartbeats 8000000 in
set_option maxRecDepth 100000 in
theorem oEqual_any (ok ok' : Nat → Prop) : ∀ (N : Nat) (a b : Ob), a.size ≤ N → a.Wf → ∀ (A A' : Option Addr) (n n' c c' : Nat) (w : World), Rd ok w (.slice A n c) (.row (a.pair.map Ob.enc)) → Rd ok' w (.slice A' n' c') (.row (b.pair.map Ob.enc)) →
    Calls Tryz.prog 91 #[objV a (.slice A n c), objV b (.slice A' n' c')] w (RetEq (a = b) w) := by
  intro N
  induction N with
  | zero => intro a b h; have := Ob.size_pos a; omega
  | succ N ih =>
    intro a b hN hW A A' n n' c c' w hA hB
    go_enter Tryz.func91, Tryz.ntmps91
    go_wp2
    go_loopg [5] a.size (fun gx _ wr => ∃ (x y : Ob) (A2 A3 : Option Addr) (n2 n3 c2 c3 : Nat), Hid (BlkIs wr w.heap.size 31 (obCells x (.slice A2 n2 c2))) ∧ Hid (BlkIs wr (w.heap.size + 1) 31 (obCells y (.slice A3 n3 c3))) ∧ Rd ok w (.slice A2 n2 c2) (.row (x.pair.map Ob.enc)) ∧ Rd ok' w (.slice A3 n3 c3) (.row (y.pair.map Ob.enc)) ∧ x.size ≤ N + 1 ∧ x.Wf ∧ Hid (x = y ↔ a = b) ∧ x.size ≤ gx ∧ Below w.heap.size w wr)
    case atStart => exact ⟨a, b, A, A', n, n', c, c', Lib.hid ((BlkIs.new w _ _).alloc _), Lib.hid (BlkIs.new1 w _ _ _), hA, hB, hN, hW, Lib.hid Iff.rfl, Nat.le_refl _, box2 (box _ _) _⟩
    case round =>
      obtain ⟨⟨xk, xn, xd, xp, xs, xt, xl⟩, ⟨yk, yn, yd, yp, ys, yt, yl⟩, A2, A3, n2, n3, c2, c3, HX, HY, hx, hy, hxN, hxW, HI, hg, hb⟩ := hrel
      obtain ⟨u0, u1, u2, u3, u4, u5, u6, hu⟩ := HX.out.seven
      obtain ⟨v0, v1, v2, v3, v4, v5, v6, hv⟩ := HY.out.seven
      have hxl := hx.len
      have hyl := hy.len
      rw [List.length_map] at hxl hyl
      have hw1 := hxW.len
      dsimp only at hxl hyl hw1 u0 u1 u2 u3 u4 u5 u6 v0 v1 v2 v3 v4 v5 v6
      have HN := fun (h : ¬ ((Ob.mk xk xn xd xp xs xt xl) = (Ob.mk yk yn yd yp ys yt yl))) => Lib.hid (fun e => h (HI.out.2 e))
      by_cases hk : xk = yk
      case neg =>
        have hz : (xk != yk) = true := by rw [bne_iff_ne]; exact hk
        have HF := HN (fun e => hk (by injection e))
        clear HN hk hxl hyl
        go_wp2
        go_ret
        exact ⟨false, rfl, iff_no HF.out, hb⟩
      subst hk
      by_cases hn : xn = yn
      case neg =>
        have hz : (xn == yn) = false := by rw [beq_eq_false_iff_ne]; exact hn
        have HF := HN (fun e => hn (by injection e))
        clear HN hn hxl hyl
        go_wp2
        go_ret
        exact ⟨false, rfl, iff_no HF.out, hb⟩
      subst hn
      by_cases hd : xd = yd
      case neg =>
        have hz : (xd == yd) = false := by rw [beq_eq_false_iff_ne]; exact hd
        have HF := HN (fun e => hd (by injection e))
        clear HN hd hxl hyl
        go_wp2
        go_ret
        exact ⟨false, rfl, iff_no HF.out, hb⟩
      subst hd
      by_cases hp : xp = yp
      case neg =>
        have hz : (xp == yp) = false := by rw [beq_eq_false_iff_ne]; exact hp
        have HF := HN (fun e => hp (by injection e))
        clear HN hp hxl hyl
        go_wp2
        go_ret
        exact ⟨false, rfl, iff_no HF.out, hb⟩
      subst hp
      by_cases hs : xs = ys
      case neg =>
        have hz : (xs == ys) = false := by rw [beq_eq_false_iff_ne]; exact hs
        have HF := HN (fun e => hs (by injection e))
        clear HN hs hxl hyl
        go_wp2
        go_ret
        exact ⟨false, rfl, iff_no HF.out, hb⟩
      subst hs
      by_cases ht : xt = yt
      case neg =>
        have hz : (xt == yt) = false := by rw [beq_eq_false_iff_ne]; exact ht
        have HF := HN (fun e => ht (by injection e))
        clear HN ht hxl hyl
        go_wp2
        go_ret
        exact ⟨false, rfl, iff_no HF.out, hb⟩
      subst ht
      by_cases hl : n2 = n3
      case neg =>
        have hz : ((n2 : Int) != (n3 : Int)) = true := by rw [bne_iff_ne]; omega
        have HF := HN (fun e => hl (by injection e with _ _ _ _ _ _ e; rw [← hxl, ← hyl, e]))
        clear HN hl hxl hyl
        go_wp2
        go_ret
        exact ⟨false, rfl, iff_no HF.out, hb⟩
      subst hl
      clear HN
      have HXL := Lib.hid hxl
      have HYL := Lib.hid hyl
      rw [hxl] at hw1
      clear hxl hyl
      by_cases h0 : n2 = 0
      · subst h0
        have HT : Hid (a = b) := HI.out.1 (by rw [List.eq_nil_of_length_eq_zero HXL.out, List.eq_nil_of_length_eq_zero HYL.out])
        go_wp2
        go_ret
        exact ⟨true, rfl, iff_yes HT.out, hb⟩
      · have hz0 : ((n2 : Int) == 0) = false := by rw [beq_eq_false_iff_ne]; omega
        go_wp2
        clear u0 u1 u2 u3 u4 u5 u6 hu v0 v1 v2 v3 v4 v5 v6 hv
        go_loopw [56] (fun ix wq => ∃ i : Nat, i ≤ n2 - 1 ∧ ix = .int .i64 i ∧ Hid (∀ j (h1 : j < xl.length) (h2 : j < yl.length), j < i → xl[j] = yl[j]) ∧ Hid (BlkIs wq w.heap.size 31 (obCells ⟨xk, xn, xd, xp, xs, xt, xl⟩ (.slice A2 n2 c2))) ∧ Hid (BlkIs wq (w.heap.size + 1) 31 (obCells ⟨xk, xn, xd, xp, xs, xt, yl⟩ (.slice A3 n2 c3))) ∧ Below w.heap.size w wq) (fun ix _ => n2 - 1 - (intOf ix).toNat)
        case atStart => exact ⟨0, Nat.zero_le _, rfl, Lib.hid (fun j _ _ h => absurd h (by omega)), HX, HY, hb⟩
        case round =>
          clear HX HY hb
          obtain ⟨i, hi, rfl, HJ, HX, HY, hb⟩ := hrel
          obtain ⟨u0, u1, u2, u3, u4, u5, u6, hu⟩ := HX.out.seven
          obtain ⟨v0, v1, v2, v3, v4, v5, v6, hv⟩ := HY.out.seven
          obtain ⟨f0, f1, f2, f3, f4, f5, f6⟩ := HX.out.frozen7
          obtain ⟨g0, g1, g2, g3, g4, g5, g6⟩ := HY.out.frozen7
          by_cases hin : i < n2 - 1
          · obtain ⟨p1, q1, hil, A4, n4, c4, rfl, hp1, _, a0, a1, a2, a3, a4, a5, a6, ha⟩ := hx.objs hb (i := i) (by omega)
            obtain ⟨p2, q2, hil', A5, n5, c5, rfl, hp2, _, b0, b1, b2, b3, b4, b5, b6, hb'⟩ := hy.objs hb (i := i) (by omega)
            have hp1' := Nat.lt_of_lt_of_le hp1 hb.size
            have hp2' := Nat.lt_of_lt_of_le hp2 hb.size
            have hsz := Ob.size_pair (o := ⟨xk, xn, xd, xp, xs, xt, xl⟩) (x := xl[i]) (List.getElem_mem hil)
            have hwf := hxW.kids (x := xl[i]) (List.getElem_mem hil)
            have HC : Hid (∀ wd : World, Below w.heap.size w wd → Calls Tryz.prog 91 #[objV xl[i] (.slice A4 n4 c4), objV yl[i] (.slice A5 n5 c5)] wd (RetEq (xl[i] = yl[i]) wd)) := fun wd hd => ih xl[i] yl[i] (by omega) hwf A4 A5 n4 n5 c4 c5 wd (ha.under hd) (hb'.under hd)
            have hi1 : (0 : Int) ≤ (i : Int) := by omega
            have hi2 : (i : Int) < n2 := by omega
            have hi3 : i < n2 := by omega
            have hbd := hb.drew
            go_upto_region 9 with (fail)
            go_still_tail 10, (by kernel_rfl)
            go_wp2_with fail
            refine (HC.out _ hbd).mono ?_
            rintro e w1 ⟨bb, rfl, hbb, hb1⟩
            have hbw1 := then_ hbd hb1
            cases bb with
            | false =>
              have HF : Hid (¬ a = b) := fun e => by
                have e2 := HI.out.2 e
                injection e2 with _ _ _ _ _ _ e2
                have := hbb.2 (by subst e2; rfl)
                cases this
              clear hbb
              go_wp2
              go_ret
              exact ⟨false, rfl, iff_no HF.out, hbw1⟩
            | true =>
              have HE := Lib.hid (hbb.1 rfl)
              clear hbb
              go_wp2
              go_roundw
              case rel => exact ⟨i + 1, by omega, by go_num, Lib.hid (fun j h1 h2 h => by
                rcases Nat.lt_or_ge j i with h3 | h3
                · exact HJ.out j h1 h2 h3
                · obtain rfl : j = i := by omega
                  exact HE.out), Lib.hid (HX.out.drew.below hb1), Lib.hid (HY.out.drew.below hb1), hbw1⟩
              case measure => simp only [intOf]; omega
          · obtain rfl : i = n2 - 1 := by omega
            obtain ⟨p1, q1, hil, A4, n4, c4, rfl, hp1, _, a0, a1, a2, a3, a4, a5, a6, ha⟩ := hx.objs hb (i := n2 - 1) (by omega)
            obtain ⟨p2, q2, hil', A5, n5, c5, rfl, hp2, _, b0, b1, b2, b3, b4, b5, b6, hb'⟩ := hy.objs hb (i := n2 - 1) (by omega)
            have hp1' := Nat.lt_of_lt_of_le hp1 hb.size
            have hp2' := Nat.lt_of_lt_of_le hp2 hb.size
            have hsz := Ob.size_pair (o := ⟨xk, xn, xd, xp, xs, xt, xl⟩) (x := xl[n2 - 1]) (List.getElem_mem hil)
            have hwf := hxW.kids (x := xl[n2 - 1]) (List.getElem_mem hil)
            have HL := Lib.hid (init_last HXL.out HYL.out (by omega) HJ.out)
            have hi1 : (0 : Int) ≤ (n2 : Int) - 1 := by omega
            have hi2 : (n2 : Int) - 1 < n2 := by omega
            have hi3 : ((n2 : Int) - 1).toNat = n2 - 1 := by omega
            have hbd := hb.drew
            go_upto_region 12 with (fail)
            have w1 : IntKind.i64.wrap ((n2 : Int) - 1) = (n2 : Int) - 1 := IntWalk.i64_in _ (by omega)
            go_region
            clear w1
            go_wp2
            go_roundg (xl[n2 - 1].size)
            case measure => omega
            case rel =>
              exact ⟨xl[n2 - 1], yl[n2 - 1], A4, A5, n4, n5, c4, c5, Lib.hid ((HX.out.put7.far7 (by omega) _ _ _ _ _ _ _).drew), Lib.hid ((HY.out.far7 (by omega) _ _ _ _ _ _ _).put7.drew), ha, hb', by omega, hwf, Lib.hid (HL.out.trans ((ob_iff xk xn xd xp xs xt xl yl).trans HI.out)), Nat.le_refl _, (set7 (set7 hb (Nat.le_refl _) _ _ _ _ _ _ _) (Nat.le_succ _) _ _ _ _ _ _ _).drew⟩
end Go.Proofs.YtgphkgmhcmffnaaGreatDoor
