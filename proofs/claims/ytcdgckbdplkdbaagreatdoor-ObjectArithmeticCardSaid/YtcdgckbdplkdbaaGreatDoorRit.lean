/- IsInteger of both texts; the reference's Items; lispprovermake.Objects. -/
import Derived.Test.YtcdgckbdplkdbaaGreatDoorMkB
import Derived.Test.YtcdgckbdplkdbaaGreatDoorRcmp
namespace Go.Proofs.YtcdgckbdplkdbaaGreatDoor
open Go.RowKit

set_option maxHeartbeats 400000 in
theorem oIsInteger_any (o : Ob) (A : Option Addr) (n c : Nat) (w : World) : Calls Tryz.prog 41 #[objV o (.slice A n c)] w (RetBel (.bool (decide (o.kind = 1 ∧ o.den = [49]))) w) := by
  obtain ⟨k, nm, d, p, s, t, l⟩ := o
  dsimp only
  by_cases hk : k = 1
  · subst hk
    by_cases h1 : d = [49]
    · subst h1
      rw [decide_eq_true ⟨rfl, rfl⟩]
      go_enter Tryz.func41, Tryz.ntmps41
      go_wp2
      go_ret
      exact ⟨rfl, box _ _⟩
    · rw [decide_eq_false (fun h => h1 h.2)]
      have hz : (d == [49]) = false := by rw [beq_eq_false_iff_ne]; exact h1
      clear h1
      go_enter Tryz.func41, Tryz.ntmps41
      go_wp2
      go_ret
      exact ⟨rfl, box _ _⟩
  · rw [decide_eq_false (fun h => hk h.1)]
    have hz : (k == 1) = false := by rw [beq_eq_false_iff_ne]; exact hk
    clear hk
    go_enter Tryz.func41, Tryz.ntmps41
    go_wp2
    go_ret
    exact ⟨rfl, box _ _⟩
set_option maxHeartbeats 400000 in
theorem rIsInteger_any (o : Ob) (A : Option Addr) (n c : Nat) (w : World) : Calls Tryz.prog 42 #[objV o (.slice A n c)] w (RetBel (.bool (decide (o.kind = 1 ∧ o.den = [49]))) w) := by
  obtain ⟨k, nm, d, p, s, t, l⟩ := o
  dsimp only
  by_cases hk : k = 1
  · subst hk
    by_cases h1 : d = [49]
    · subst h1
      rw [decide_eq_true ⟨rfl, rfl⟩]
      go_enter Tryz.func42, Tryz.ntmps42
      go_wp2
      go_ret
      exact ⟨rfl, box _ _⟩
    · rw [decide_eq_false (fun h => h1 h.2)]
      have hz : (d == [49]) = false := by rw [beq_eq_false_iff_ne]; exact h1
      clear h1
      go_enter Tryz.func42, Tryz.ntmps42
      go_wp2
      go_ret
      exact ⟨rfl, box _ _⟩
  · rw [decide_eq_false (fun h => hk h.1)]
    have hz : (k == 1) = false := by rw [beq_eq_false_iff_ne]; exact hk
    clear hk
    go_enter Tryz.func42, Tryz.ntmps42
    go_wp2
    go_ret
    exact ⟨rfl, box _ _⟩
/-- as RetItems, where the reference's nil is meant -/
def RetItemsR (ok : Nat → Prop) (o : Ob) (w : World) (e : Ending) (w' : World) : Prop :=
  ∃ l x, Tail o l x ∧ ¬ ConsO x ∧ Below w.heap.size w w' ∧ ((x = nilO ∧ ∃ A n c, e = .returned (.tuple #[.slice A n c, .bool true]) ∧ Rd (fun b => ok b ∨ w.heap.size ≤ b) w' (.slice A n c) (.row (l.map Ob.enc))) ∨ (x ≠ nilO ∧ e = .returned (.tuple #[.slice none 0 0, .bool false])))
set_option maxHeartbeats 2000000 in
set_option maxRecDepth 100000 in
theorem rItems_any (ok : Nat → Prop) (o : Ob) (A : Option Addr) (n c : Nat) (w : World) (h : Rd ok w (.slice A n c) (.row (o.pair.map Ob.enc))) (ho : o.size ≤ 1000000) (hw : o.Wf) :
    Calls Tryz.prog 38 #[objV o (.slice A n c)] w (RetItemsR ok o w) := by
  go_enter Tryz.func38, Tryz.ntmps38
  go_wp2
  go_loopg [4] o.size (fun gx lv wr => ∃ (x : Ob) (l : List Ob) (A2 A4 : Option Addr) (n2 c2 n4 c4 : Nat), lv = .slice A4 n4 c4 ∧ Hid (BlkIs wr w.heap.size 26 (obCells x (.slice A2 n2 c2))) ∧ Rd ok w (.slice A2 n2 c2) (.row (x.pair.map Ob.enc)) ∧ OwnD (fun b => ok b ∧ b < w.heap.size) wr (w.heap.size + 1) 26 7 A4 n4 c4 (l.map Ob.enc) ∧ Tail o l x ∧ x.Wf ∧ x.size ≤ gx ∧ Below w.heap.size w wr)
  case atStart => exact ⟨o, [], A, none, n, c, 0, 0, rfl, Lib.hid (BlkIs.new w _ _), h, OwnD.nil _ _ _ _ _, .refl o, hw, Nat.le_refl _, box _ _⟩
  case round =>
    obtain ⟨x, l, A2, A4, n2, c2, n4, c4, rfl, X, hr, hown, hT, hxw, hg, hb⟩ := hrel
    have hlt := X.out.lt
    have hlen := hr.len
    rw [List.length_map] at hlen
    have hn2 : n2 ≤ 9223372036854775807 := by rw [← hlen]; exact hxw.len
    have HTS := Lib.hid hT.size
    have HLN := Lib.hid hown.len
    have HC : Hid (∀ w' : World, Calls Tryz.prog 72 #[objV x (.slice A2 n2 c2)] w' (RetBel (.bool (decide (x.kind = 4 ∧ n2 = 2))) w')) := fun w' => rIsCons_any x A2 n2 c2 w' hn2
    by_cases hc : x.kind = 4 ∧ n2 = 2
    · rw [decide_eq_true hc] at HC
      obtain ⟨hk, h2⟩ := hc
      subst h2
      obtain ⟨a, d, had⟩ := Ob.two_of_length hlen
      have hsd := Ob.size_pair (o := x) (x := d) (by rw [had]; simp)
      have hsa := Ob.size_pair (o := x) (x := a) (by rw [had]; simp)
      have HT2 := Lib.hid (hT.step hk had)
      have hwd := hxw.kids (x := d) (by rw [had]; simp)
      rw [had] at hr
      have hn4 : n4 ≤ 1000000 := by
        have h1 := HTS.out
        have h2 := HLN.out
        rw [List.length_map] at h2
        omega
      obtain ⟨xk, xn, xd, xp, xs, xt, xl⟩ := x
      dsimp only at hk had X HC
      subst hk
      clear hlen had hn2 hT hxw
      obtain ⟨x0, x1, x2, x3, x4, x5, x6, xl⟩ := X.out.seven
      obtain ⟨xf0, xf1, xf2, xf3, xf4, xf5, xf6⟩ := X.out.frozen7
      go_wp2_with fail
      refine (HC.out _).mono ?_
      rintro e w1 ⟨rfl, hb1⟩
      have b1 := then_ hb hb1
      have X1 := Lib.hid (X.out.below hb1)
      have hown1 := hown.under hb1
      clear x0 xf0 x1 xf1 x2 xf2 x3 xf3 x4 xf4 x5 xf5 x6 xf6 hown hb
      obtain ⟨x0, x1, x2, x3, x4, x5, x6, xl⟩ := X1.out.seven
      obtain ⟨xf0, xf1, xf2, xf3, xf4, xf5, xf6⟩ := X1.out.frozen7
      obtain ⟨b, q, _, A5, n5, c5, rfl, hbl, hok, a0, a1, a2, a3, a4, a5, a6, ha⟩ := hr.objs b1 (i := 0) (by omega)
      simp only [List.getElem_cons_zero, Nat.zero_mul, Nat.add_zero] at a0 a1 a2 a3 a4 a5 a6 ha
      have hbl' := Nat.lt_of_lt_of_le hbl b1.size
      have hbn := Lib.hid (BlkIs.new w1 26 (obCells a (.slice A5 n5 c5)))
      have HS := Lib.hid (src_obj (A := A4) hbn.out (ok := fun b => ok b ∧ b < w.heap.size) (ha.avoid (box2 b1 _) (fun b h1 h2 => ⟨h1, h2⟩) (fun g e => by have := hown1.from_ g e; omega)))
      have hown1' := hown1.alloc (.cells (obCells a (.slice A5 n5 c5)) 26)
      have hsz1 : w.heap.size + 1 ≤ (w1.alloc (.cells (obCells a (.slice A5 n5 c5)) 26)).heap.size := by have := b1.size; have := X1.out.lt; simp; omega
      have HNE : Hid (A4 ≠ some ⟨w.heap.size, 0, none⟩) := fun e => by have := hown1.from_ w.heap.size e; omega
      have HLT : Hid (w.heap.size < (w1.alloc (.cells (obCells a (.slice A5 n5 c5)) 26)).heap.size) := Nat.lt_of_succ_le hsz1
      go_wp2_with (at_builtin; refine wpList_appD rfl _ _ _ rfl (fun b => ok b ∧ b < w.heap.size) (w.heap.size + 1) 26 _ 7 112 Tryz.underlying24 infoOb rfl (by omega) _ _ _ _ rfl hown1' _ 1 1 [a.enc] rfl rfl HS.out (by unfold maxLen; omega) (by omega) hsz1 ?_; intro A6 c6 w2 hown2 hblk hsz hos htp hou _; have b2 := below_appD (box2 b1 (.cells (obCells a (.slice A5 n5 c5)) 26)) (fun g e => by have := hown1.from_ g e; omega) hblk hsz hos htp hou; have X2 := Lib.hid ((X1.out.alloc (.cells (obCells a (.slice A5 n5 c5)) 26)).keep (hblk w.heap.size HLT.out HNE.out)); clear hblk hsz hos htp hou; obtain ⟨y0, y1, y2, y3, y4, y5, y6, yl⟩ := X2.out.seven; obtain ⟨yf0, yf1, yf2, yf3, yf4, yf5, yf6⟩ := X2.out.frozen7; obtain ⟨b', q', _, A7, n7, c7, eA, _, _, d0, d1, d2, d3, d4, d5, d6, hd⟩ := hr.objs b2 (i := 1) (by omega); injection eA with eA; injection eA with eb eq; subst eb eq; simp only [List.getElem_cons_zero, List.getElem_cons_succ, Nat.one_mul] at d0 d1 d2 d3 d4 d5 d6 hd; have hbl2 := Nat.lt_of_lt_of_le hbl b2.size)
      go_roundg d.size
      case measure => omega
      case rel => exact ⟨d, l ++ [a], A7, A6, n7, c7, n4 + 1, c6, rfl, Lib.hid X2.out.put7, hd, (by rw [List.map_append]; exact own_far7 hown2 (fun b h1 => by omega) (fun e => by have := hown2.from_ _ e; omega) _ _ _ _ _ _ _), HT2.out, hwd, Nat.le_refl _, set7 b2 (Nat.le_refl _) _ _ _ _ _ _ _⟩
    · rw [decide_eq_false hc] at HC
      have HNC : Hid (¬ ConsO x) := fun h1 => hc ⟨h1.1, by rw [← hlen]; exact h1.2⟩
      obtain ⟨x0, x1, x2, x3, x4, x5, x6, xl⟩ := X.out.seven
      obtain ⟨xf0, xf1, xf2, xf3, xf4, xf5, xf6⟩ := X.out.frozen7
      clear hc hlen
      go_wp2_with fail
      refine (HC.out _).mono ?_
      rintro e w1 ⟨rfl, hb1⟩
      have b1 := then_ hb hb1
      have X1 := Lib.hid (X.out.below hb1)
      have hown1 := hown.under hb1
      clear x0 xf0 x1 xf1 x2 xf2 x3 xf3 x4 xf4 x5 xf5 x6 xf6 hown hb
      obtain ⟨x0, x1, x2, x3, x4, x5, x6, xl⟩ := X1.out.seven
      have HNX : Hid (∀ w' : World, Below w.heap.size w w' → Calls Tryz.prog 40 #[objV x (.slice A2 n2 c2)] w' (RetEq (x = nilO) w')) := fun w' hb' => rIsNil_any ok x hxw A2 n2 c2 w' (hr.under hb')
      by_cases hN : x = nilO
      · have HN : Hid (∀ w' : World, Below w.heap.size w w' → Calls Tryz.prog 40 #[objV x (.slice A2 n2 c2)] w' (RetBel (.bool true) w')) := fun w' hb' => (HNX.out w' hb').mono fun _ _ ⟨bb, h1, h2, h3⟩ => ⟨by rw [h1, h2.2 hN], h3⟩
        have HNI : Hid (x = nilO) := hN
        clear HNX hN
        go_wp2_with fail
        refine (HN.out _ b1).mono ?_
        rintro e w2 ⟨rfl, hb2⟩
        go_wp2
        refine bodyPost_ret (results_tmp2 Tryz.results38 _ _ _) rfl ?_
        exact ⟨l, x, hT, HNC.out, then_ b1 hb2, .inl ⟨HNI.out, A4, n4, c4, rfl, ((hown1.under hb2).rd.mono fun b h1 _ => h1.elim (fun h2 => .inl h2.1) (fun h2 => .inr (by omega)))⟩⟩
      · have HN : Hid (∀ w' : World, Below w.heap.size w w' → Calls Tryz.prog 40 #[objV x (.slice A2 n2 c2)] w' (RetBel (.bool false) w')) := fun w' hb' => (HNX.out w' hb').mono fun _ _ ⟨bb, h1, h2, h3⟩ => ⟨by
          rw [h1]
          cases bb with
          | true => exact absurd (h2.1 rfl) hN
          | false => rfl, h3⟩
        have HNI : Hid (x ≠ nilO) := hN
        clear HNX hN
        go_wp2_with fail
        refine (HN.out _ b1).mono ?_
        rintro e w2 ⟨rfl, hb2⟩
        go_wp2
        refine bodyPost_ret (results_tmp2 Tryz.results38 _ _ _) rfl ?_
        exact ⟨l, x, hT, HNC.out, then_ b1 hb2, .inr ⟨HNI.out, rfl⟩⟩
set_option maxHeartbeats 2000000 in
set_option maxRecDepth 100000 in
theorem mkOs_any (ok : Nat → Prop) (l : List Raw) (hF : ∀ r ∈ l, Fit r ∧ r.Wf) (A : Option Addr) (n c : Nat) (w : World) (ht : Tab w) (hP : Rd ok w (.slice A n c) (.row (l.map Raw.enc))) (hn : n ≤ 8) :
    Calls Tryz.prog 34 #[.slice A n c] w (fun e w' => ∃ A' c', e = .returned (.slice A' n c') ∧ Rd (fun b => w.heap.size ≤ b) w' (.slice A' n c') (.row ((l.map fun r => (mkT r).ob).map Ob.enc)) ∧ Below w.heap.size w w') := by
  have HLen := Lib.hid hP.len
  obtain ⟨f, hf⟩ : ∃ f : Raw → Ob, f = fun r => (mkT r).ob := ⟨_, rfl⟩
  have HA : Hid (∀ (x : Raw) (A : Option Addr) (n c : Nat) (w' : World), x ∈ l → Below w.heap.size w w' → Rd ok w (.slice A n c) (.row (x.l.map Raw.enc)) → Calls Tryz.prog 17 #[rawV x (.slice A n c)] w' (RetNew (f x) w')) := fun x A n c w' hx hb hr => by rw [hf]; exact mkO_any ok x.size x (Nat.le_refl _) (hF x hx).1 (hF x hx).2 A n c w' (ht.below hb) (hr.under hb)
  rw [← hf]
  clear hF ht hf
  go_enter Tryz.func34, Tryz.ntmps34
  go_wp2
  go_loopw [3, 4] (fun lv ix wr => ∃ (i : Nat) (A4 : Option Addr) (n4 c4 : Nat), lv = .slice A4 n4 c4 ∧ ix = .int .i64 i ∧ i ≤ n ∧ OwnD (fun b => w.heap.size ≤ b) wr w.heap.size 26 7 A4 n4 c4 (((l.take i).map f).map Ob.enc) ∧ Below w.heap.size w wr) (fun _ ix _ => n - (intOf ix).toNat)
  case atStart => exact ⟨0, none, 0, 0, rfl, rfl, Nat.zero_le _, (by rw [List.take_zero]; exact OwnD.nil _ _ _ _ _), Below.refl _ _⟩
  case round =>
    obtain ⟨i, A4, n4, c4, rfl, rfl, hi, hown, hb⟩ := hrel
    have hon := hown.len
    have hl0 := HLen.out
    simp only [List.length_map, List.length_take] at hon hl0
    by_cases hin : i < n
    · obtain ⟨b, q, hil, A5, n5, c5, rfl, hbl, _, a0, a1, a2, a3, ha⟩ := hP.raws hb (i := i) hin
      have hbl' := Nat.lt_of_lt_of_le hbl hb.size
      have HC := Lib.hid (HA.out l[i] A5 n5 c5 wr (List.getElem_mem hil) hb ha)
      have hTS : (l.take (i + 1)).map f = (l.take i).map f ++ [f l[i]] := by rw [List.take_succ_eq_append_getElem hil, List.map_append]; rfl
      have HTS := Lib.hid hTS
      clear hTS hl0
      have hws := hb.size
      go_wp2_with fail
      refine HC.out.mono ?_
      generalize f l[i] = y at *
      rintro e w1 ⟨A6, n6, c6, rfl, hr6, hb1⟩
      have b1 := then_ hb hb1
      have hown1 := hown.under hb1
      have hbn := Lib.hid (BlkIs.new w1 26 (obCells y (.slice A6 n6 c6)))
      have HS := Lib.hid (src_obj (A := A4) hbn.out (ok := fun b => w.heap.size ≤ b) ((hr6.mono fun b h1 _ => ⟨by omega, fun e => by
        rcases hown.addr with h2 | ⟨g, h2, h3, h4⟩
        · rw [h2] at e; cases e
        · rw [h2] at e
          injection e with e
          injection e with e
          omega⟩).under (box _ _)))
      have hown1' := hown1.alloc (.cells (obCells y (.slice A6 n6 c6)) 26)
      have hsz1 : w.heap.size ≤ (w1.alloc (.cells (obCells y (.slice A6 n6 c6)) 26)).heap.size := by have := b1.size; simp; omega
      clear a0 a1 a2 a3
      go_wp2_with (at_builtin; refine wpList_appD rfl _ _ _ rfl (fun b => w.heap.size ≤ b) w.heap.size 26 _ 7 112 Tryz.underlying24 infoOb rfl (by omega) _ _ _ _ rfl hown1' _ 1 1 [y.enc] rfl rfl HS.out (by unfold maxLen; omega) (by omega) hsz1 ?_; intro A7 c7 w2 hown2 hblk hsz hos htp hou _; have b2 := below_appD (box2 b1 (.cells (obCells y (.slice A6 n6 c6)) 26)) (fun g e => hown1.from_ g e) hblk hsz hos htp hou; clear hblk hsz hos htp hou)
      go_roundw
      case rel => exact ⟨i + 1, A7, n4 + 1, c7, rfl, by go_num, by omega, (by rw [HTS.out, List.map_append]; exact hown2), b2⟩
      case measure => simp only [intOf]; omega
    · obtain rfl : i = n := by omega
      have hr : Rd (fun b => w.heap.size ≤ b) wr (.slice A4 n4 c4) (.row ((l.map f).map Ob.enc)) := by
        have h1 := hown.rd
        rw [List.take_of_length_le (by omega)] at h1
        exact h1.mono fun b h1 _ => by rcases h1 with h1 | h1 <;> exact h1
      obtain rfl : n4 = i := by omega
      clear hl0
      go_wp2
      go_ret
      exact ⟨A4, c4, rfl, hr, hb⟩
end Go.Proofs.YtcdgckbdplkdbaaGreatDoor
