/- number.divide: the walk. -/
import Derived.Test.YtcdgckbdplkdbaaDoorDivide
import Derived.Test.YtcdgckbdplkdbaaDoorApps
import Derived.Deep.RegionLaw
import Derived.Deep.DeepCutAuto
namespace Go.Proofs.YtcdgckbdplkdbaaDoor
open Go.RowKit

theorem Sl.far {w : World} {k : IntKind} {A : Option Addr} {n c : Nat} {l : List Nat} (h : Sl w k A n c l) {p : Addr} (hp : ∀ b o, A = some ⟨b, o, none⟩ → b ≠ p.block) (u : Value) : Sl (w.setCell p u) k A n c l :=
  ⟨h.len, h.cap, fun hn => by
    obtain ⟨b, o, e, hlt, hc⟩ := h.cells hn
    refine ⟨b, o, e, by simpa [World.setCell] using hlt, fun i hi => ?_⟩
    have hne := hp b o e
    rw [World.cell?_setCell_other w p ⟨b, o + i, none⟩ u (fun e => hne (by rw [e]))]
    exact hc i hi⟩
theorem below_apps {wr w2 : World} {o : Obj} (hblk : ∀ g, g < (wr.alloc o).drew.heap.size → (some ⟨wr.heap.size, 0, none⟩ : Option Addr) ≠ some ⟨g, 0, none⟩ → w2.heap[g]? = (wr.alloc o).drew.heap[g]?) (hsz : (wr.alloc o).drew.heap.size ≤ w2.heap.size)
    (hos : w2.os = (wr.alloc o).drew.os) (htp : w2.tape = (wr.alloc o).drew.tape) (hou : w2.output = (wr.alloc o).drew.output) : Below wr.heap.size wr w2 :=
  ⟨hos, htp, hou, by have : (wr.alloc o).drew.heap.size = wr.heap.size + 1 := by simp
                     omega, fun g hg => (hblk g (by simp; omega) (by intro e; injection e with e; injection e with e; omega)).trans (Below.heap_alloc wr _ g hg)⟩
theorem set_drop (q : List Nat) (i d : Nat) (h : i < q.length) : (q.set i d).drop i = d :: q.drop (i + 1) := by
  rw [List.drop_eq_getElem_cons (by simpa using h), List.getElem_set_self, List.drop_set_of_lt (by omega)]
theorem lval_cons_limbs (u R : Nat) : Dec.lval 1000000000 ([u] ++ Dec.limbs 1000000000 R) = u + 1000000000 * R := by
  show u + 1000000000 * Dec.lval 1000000000 (Dec.limbs 1000000000 R) = _
  rw [Dec.lval_limbs (by omega)]
theorem small_cons_limbs {u : Nat} (hu : u < 1000000000) (R : Nat) : Dec.Small 1000000000 ([u] ++ Dec.limbs 1000000000 R) := Dec.Small.cons hu (Dec.limbs_small (by omega) R)
theorem div_step {a b R u j : Nat} {q : List Nat} (hj : 0 < j) (hja : j ≤ (Dec.limbs 1000000000 a).length) (hjq : j ≤ q.length) (hu : (Dec.limbs 1000000000 a).getD (j - 1) 0 = u)
    (h : Dec.lval 1000000000 ((Dec.limbs 1000000000 a).drop j) = Dec.lval 1000000000 (q.drop j) * b + R) :
    Dec.lval 1000000000 ((Dec.limbs 1000000000 a).drop (j - 1)) = Dec.lval 1000000000 ((q.set (j - 1) ((u + 1000000000 * R) / b)).drop (j - 1)) * b + (u + 1000000000 * R) % b := by
  obtain ⟨m, rfl⟩ : ∃ m, j = m + 1 := ⟨j - 1, by omega⟩
  rw [Nat.add_sub_cancel] at hu ⊢
  rw [set_drop _ _ _ (by omega), Dec.lval_drop _ _ m (by omega), hu, Dec.lval]
  exact Dec.div_round h
theorem box1 {w : World} {g : Nat} {t : TypeId} {v : Value} (h : BlkIs w g t #[v]) : w.cell? ⟨g, 0, none⟩ = some v ∧ w.frozen? ⟨g, 0, none⟩ = false := ⟨h.cell 0, h.frozen 0⟩
theorem trim_same (A : Option Addr) (n c : Nat) (l : List Nat) (w : World) (h : Sl w .u32 A n c l) (hn : n ≤ 1000000000) :
    Calls Tryd.prog 61 #[.slice A n c] w fun e w' => e = .returned (.slice A (Dec.trimZ l).length c) ∧ w' = w :=
  (trim_any A n c l w h hn).mono fun _ _ h => ⟨h.1, h.2.symm⟩
def RetDiv (a b : Nat) (w : World) (e : Ending) (w' : World) : Prop :=
  ∃ A n c A' n' c', e = .returned (.tuple #[.slice A n c, .slice A' n' c']) ∧ Sl w' .u32 A n c (Dec.limbs 1000000000 (a / b)) ∧ Sl w' .u32 A' n' c' (Dec.limbs 1000000000 (a % b)) ∧ Below w.heap.size w w'

set_option maxHeartbeats 2000000 in
set_option maxRecDepth 100000 in
theorem divide_any (A A' : Option Addr) (n n' c c' a b : Nat) (w : World) (hx : Sl w .u32 A n c (Dec.limbs 1000000000 a)) (hy : Sl w .u32 A' n' c' (Dec.limbs 1000000000 b)) (hn : n ≤ 1000000) (hn' : n' ≤ 1000000) (hb0 : 0 < b) :
    Calls Tryd.prog 53 #[.slice A n c, .slice A' n' c'] w (RetDiv a b w) := by
  have HLx := Lib.hid hx.len
  have HLy := Lib.hid hy.len
  go_enter Tryd.func53, Tryd.ntmps53
  go_wp2_with (at_make; refine wpList_mk (w0 := w) rfl _ _ _ rfl 67 .u32 4 Tryd.underlying54 infoU32 (by omega) _ _ _ _ n rfl rfl (by omega) (by omega) (by omega) ((Below.refl _ _).alloc (Nat.le_refl _) _) ?_; intro w1 hown1 hb1 hbW1 hsz1)
  simp only [World.size_alloc] at hsz1 hown1 hbW1
  go_loopw [8, 9] (fun ix dg wr => ∃ (j R nr cr : Nat) (Ar : Option Addr) (q : List Nat), j ≤ n ∧ ix = .int .i64 ((j : Int) - 1) ∧ Hid (BlkIs wr w.heap.size 54 #[.slice A' n' c']) ∧ Hid (BlkIs wr w1.heap.size 54 #[.slice Ar nr cr]) ∧ Sl wr .u32 Ar nr cr (Dec.limbs 1000000000 R) ∧ Hid (∀ b o, Ar = some ⟨b, o, none⟩ → b ≠ w.heap.size + 1 ∧ b ≠ w1.heap.size) ∧ R < b ∧ Own wr w.heap.size 67 .u32 (some ⟨w.heap.size + 1, 0, none⟩) n n q ∧ Dec.Small 1000000000 q ∧ Hid (Dec.lval 1000000000 ((Dec.limbs 1000000000 a).drop j) = Dec.lval 1000000000 (q.drop j) * b + R) ∧ Below w.heap.size w wr) (fun ix _ _ => (intOf ix + 1).toNat)
  case atStart =>
    refine ⟨n, 0, 0, 0, none, List.replicate n 0, Nat.le_refl _, rfl, ?_, ?_, Sl.nil _ _ _ _, ?_, hb0, ?_, small_replicate _ _ (by omega), ?_, ?_⟩
    · have h1 := (BlkIs.new w 54 #[.slice A' n' c']).keep (hbW1.block w.heap.size (by omega))
      exact Lib.hid (h1.alloc _)
    · exact Lib.hid (BlkIs.new w1 _ _)
    · exact Lib.hid (fun _ _ e => by cases e)
    · exact hown1.alloc _
    · exact Lib.hid (by rw [List.drop_of_length_le (by rw [HLx.out]; exact Nat.le_refl _), List.drop_of_length_le (by simp)]; simp [Dec.lval])
    · exact hb1.alloc hb1.size _
  case round =>
    obtain ⟨j, R, nr, cr, Ar, q, hj, rfl, HB1, HB2, hsr, HA, hR, hown, hsq, HV, hb⟩ := hrel
    have HLr := Lib.hid hsr.len
    have hnr : nr ≤ n' := by
      rw [← HLr.out, ← HLy.out]; exact Dec.limbs_length_mono (by omega) (by omega)
    have c1 := HB1.out.cell 0
    have c2 := HB2.out.cell 0
    simp only [List.getElem?_toArray, List.getElem?_cons_zero] at c1 c2
    have f2 := HB2.out.frozen 0
    have hl2 := HB2.out.lt
    by_cases hj0 : 0 < j
    · obtain ⟨bx, ox, rfl, hbx, hcx⟩ := (hx.below hb).cells (by omega)
      have hcu := hcx (j - 1) (by omega)
      clear hcx
      have hu := getD_lt (l := Dec.limbs 1000000000 a) (Dec.limbs_small (by omega) a) (by omega) (j - 1)
      generalize hu0 : (Dec.limbs 1000000000 a).getD (j - 1) 0 = u at hcu hu
      have HU0 := Lib.hid hu0
      clear hu0
      have hi1 : (0 : Int) ≤ (j : Int) - 1 := by omega
      have hi2 : (j : Int) - 1 < n := by omega
      have hi3 : ((j : Int) - 1).toNat = j - 1 := by omega
      have hoW : Own (wr.alloc (.cells #[.int .u32 (u : Int)] 67)).drew wr.heap.size 67 .u32 (some ⟨wr.heap.size, 0, none⟩) 1 1 [u] := ⟨⟨rfl, .inr ⟨wr.heap.size, 1, #[.int .u32 (u : Int)], rfl, Nat.le_refl _, heap_alloc_new wr _, Nat.le_refl _, by unfold maxLen; omega, rfl, rfl⟩⟩⟩
      have hsW : Sl (wr.alloc (.cells #[.int .u32 (u : Int)] 67)).drew .u32 Ar nr cr (Dec.limbs 1000000000 R) := (hsr.alloc _).drew1
      have HU : Hid ((Dec.limbs 1000000000 a).getD (j - 1) 0 = u) := HU0
      have hqn : q.length = n := hown.len
      have HST := Lib.hid (div_step (b := b) hj0 (by rw [HLx.out]; exact hj) (by omega) HU.out HV.out)
      clear hqn
      obtain ⟨R', hR'⟩ : ∃ R', R' = u + 1000000000 * R := ⟨_, rfl⟩
      rw [← hR'] at HST
      have HR' := Lib.hid hR'
      clear hR'
      go_upto_region 6 with (fail)
      go_cut [8] (fun s8 wx => s8 = .int .i64 ((j : Int) - 1) ∧ ∃ (A2 : Option Addr) (n2 cc2 : Nat), Hid (BlkIs wx w.heap.size 54 #[.slice A' n' c']) ∧ Hid (BlkIs wx w1.heap.size 54 #[.slice A2 n2 cc2]) ∧ Sl wx .u32 A2 n2 cc2 (Dec.limbs 1000000000 R') ∧ Hid (∀ b o, A2 = some ⟨b, o, none⟩ → b ≠ w.heap.size + 1 ∧ b ≠ w1.heap.size) ∧ n2 ≤ n' + 1 ∧ Own wx w.heap.size 67 .u32 (some ⟨w.heap.size + 1, 0, none⟩) n n q ∧ Below w.heap.size w wx)
      case first =>
        go_region_law
          (first | (refine step_apps rfl _ _ _ rfl wr.heap.size 67 .u32 4 Tryd.underlying54 infoU32 (by omega) _ _ _ [u] rfl hoW _ _ _ _ rfl hsW (by omega) (by simp) ?_; intro A2 cc2 w2 hown2 hblk2 hsz2 hos2 htp2 hou2; have hbw2 := below_apps hblk2 hsz2 hos2 htp2 hou2; clear hblk2 hsz2 hos2 htp2 hou2; have k1 := (hbw2.cell (p := ⟨w1.heap.size, 0, none⟩) hl2).trans c2; have k3 := (hbw2.frozen (p := ⟨w1.heap.size, 0, none⟩) hl2).trans f2; have k4 := Nat.lt_of_lt_of_le hl2 hbw2.size; have HTr := Lib.hid (trim_any A2 (1 + nr) cc2 _ w2 hown2.sl (by omega))) | (go_simp; go_at_call 61; refine HTr.out.mono ?_; rintro e w3 ⟨rfl, rfl⟩))
        all_goals (go_wp2_with fail; go_meet)
        all_goals
          have hsl2 := hown2.sl.trimmed (B := 1000000000) (by omega) (small_cons_limbs hu R)
          rw [lval_cons_limbs, ← HR'.out] at hsl2
          have hfr := hown2.fresh
          have hq1 := (hown.lt rfl).2
          have htl := trimZ_length_le ([u] ++ Dec.limbs 1000000000 R)
          rw [List.length_append, HLr.out] at htl
          refine ⟨rfl, A2, _, cc2, Lib.hid ((HB1.out.below hbw2).far (by simp; omega) _), Lib.hid (by simpa using (HB2.out.below hbw2).set_ 0 (.slice A2 (Dec.trimZ ([u] ++ Dec.limbs 1000000000 R)).length cc2)), hsl2.far (fun b o e => by have := hfr b o e; show b ≠ w1.heap.size; omega) _, Lib.hid (fun b o e => by have := hfr b o e; omega), ?_, (hown.below hbw2).farSet (HB2.out.below hbw2) (by decide) _ _, (hb.trans (hbw2.mono hb.size)).setCell (p := ⟨w1.heap.size, 0, none⟩) hb1.size _⟩
          · simp only [List.length_singleton] at htl; omega
      case rest =>
        obtain ⟨rfl, A2, n2, cc2, X1, X2, hs2, HA2, hn2, hownx, hbx2⟩ := hcut
        clear HB1 HB2 c1 c2 f2 hl2 hsr HA hown hb hoW hsW HLr hnr hcu
        obtain ⟨m1, m2⟩ := box1 X1.out
        obtain ⟨m3, m4⟩ := box1 X2.out
        have hl3 := X2.out.lt
        have hl4 := X1.out.lt
        obtain ⟨hco, hfo, _, hlq⟩ := hownx.cellAt (i := j - 1) (by omega)
        generalize q.getD (j - 1) 0 = z at hco
        have HCm := Lib.hid (compare_any 1000000000 (by omega) A2 A' n2 n' cc2 c' R' b wc hs2 (hy.below hbx2) (by omega) (by omega))
        by_cases hge : R' < b
        · have HO : Hid (ordI R' b = -1) := ordI_lt hge
          go_wp2_with (go_at_call 65; refine HCm.out.mono ?_; rintro e w2 ⟨rfl, qq, rfl⟩; rw [HO.out])
          go_roundw
          case rel =>
            refine ⟨j - 1, R', n2, cc2, A2, q.set (j - 1) 0, by omega, by go_num, Lib.hid (X1.out.far (by simp) _), Lib.hid (X2.out.far (by simp; omega) _), (hs2.drew qq).far (p := ⟨w.heap.size + 1, j - 1, none⟩) (fun b o e => (HA2.out b o e).1) _, HA2, hge, (hownx.drewN qq).setInt (d := 0) rfl rfl, hsq.set (by omega), ?_, (below_drewN hbx2 qq).setCell (p := ⟨w.heap.size + 1, j - 1, none⟩) (by simp) _⟩
            have h := HST.out
            rw [Nat.div_eq_of_lt hge, Nat.mod_eq_of_lt hge] at h
            exact Lib.hid h
          case measure => simp only [intOf]; omega
        · have hz : 0 ≤ ordI R' b := by
            rcases Nat.lt_or_ge b R' with h | h
            · rw [ordI_gt h]; omega
            · obtain rfl : R' = b := by omega
              rw [ordI_eq]; omega
          have hdg : R' / b < 1000000000 := by rw [HR'.out]; exact Dec.div_digit hu hR
          have HSe : Hid (∀ qq, Calls Tryd.prog 68 #[.int .i64 1000000000, .func (.func 69) #[] #[.pointer (some ⟨w.heap.size, 0, none⟩), .pointer (some ⟨w1.heap.size, 0, none⟩)]] (wc.drewN qq) (RetNat .i64 (R' / b + 1) (wc.drewN qq))) :=
            fun qq => search_any w.heap.size w1.heap.size A' A2 n' n2 c' cc2 b R' (wc.drewN qq) m1 m3 ((hy.below hbx2).drew qq) (hs2.drew qq) (by omega) (by omega) hb0 hdg
          have HDM := Lib.hid (Nat.div_add_mod R' b)
          have hml : R' % b < b := Nat.mod_lt _ hb0
          generalize R' / b = d at hdg HSe HST HDM
          generalize R' % b = rr at HST HDM hml
          go_upto_region 10 with (first | (go_at_call 65; refine HCm.out.mono ?_; rintro e w2 ⟨rfl, qq, rfl⟩) | (go_at_call 68; refine (HSe.out qq).mono ?_; rintro e w3 ⟨rfl, hb3⟩))
          have hbc3 : Below wc.heap.size wc w3 := ⟨hb3.os, hb3.tape, hb3.output, hb3.size, hb3.block⟩
          have hbw3 : Below w.heap.size w w3 := hbx2.trans (hbc3.mono hbx2.size)
          have Y1 := Lib.hid (X1.out.below hbc3)
          have Y2 := Lib.hid (X2.out.below hbc3)
          have hown3 := hownx.below hbc3
          have hs3 := hs2.below hbc3
          have hy3 := hy.below hbw3
          obtain ⟨y1, _⟩ := box1 Y1.out
          obtain ⟨y3, y4⟩ := box1 Y2.out
          have hly := Y2.out.lt
          have hly1 := Y1.out.lt
          have hbW : Below w3.heap.size w3 (w3.alloc (.cells #[.int .u32 (d : Int)] 67)).drew := ((Below.refl _ _).alloc (Nat.le_refl _) _).drew
          have hone := (Sl.one w3 .u32 67 d).drew1
          have HT1 := Lib.hid (trim_any (some ⟨w3.heap.size, 0, none⟩) 1 1 [d] (w3.alloc (.cells #[.int .u32 (d : Int)] 67)).drew hone (by omega))
          have htr := hone.trimmed (B := 1000000000) (by omega) (Dec.Small.cons hdg Dec.Small.nil)
          rw [show Dec.lval 1000000000 [d] = d by simp [Dec.lval]] at htr
          have htl := trimZ_length_le [d]
          have hT2 := times_any A' (some ⟨w3.heap.size, 0, none⟩) n' _ c' 1 (Dec.limbs 1000000000 b) (Dec.limbs 1000000000 d) (w3.alloc (.cells #[.int .u32 (d : Int)] 67)).drew (hy3.below hbW) htr (by omega) (by simp only [List.length_singleton] at htl; omega) (Dec.limbs_small (by omega) b) (Dec.limbs_small (by omega) d)
          rw [Dec.lval_limbs (by omega), Dec.lval_limbs (by omega)] at hT2
          have HT2 := Lib.hid hT2
          have hle : b * d ≤ R' := by have := HDM.out; omega
          have HSub : Hid (R' - b * d = rr) := by have := HDM.out; show _ = _; omega
          clear hT2 htl hone htr HCm HSe m1 m2 m3 m4 hl3 hl4 hco hfo hlq
          go_cut [8, 9] (fun s8 s9 wx => s8 = .int .i64 ((j : Int) - 1) ∧ s9 = .int .u32 (d : Int) ∧ ∃ (A5 : Option Addr) (n5 c5 : Nat), Hid (BlkIs wx w.heap.size 54 #[.slice A' n' c']) ∧ Hid (BlkIs wx w1.heap.size 54 #[.slice A5 n5 c5]) ∧ Sl wx .u32 A5 n5 c5 (Dec.limbs 1000000000 rr) ∧ Hid (∀ b o, A5 = some ⟨b, o, none⟩ → b ≠ w.heap.size + 1 ∧ b ≠ w1.heap.size) ∧ Own wx w.heap.size 67 .u32 (some ⟨w.heap.size + 1, 0, none⟩) n n q ∧ Below w.heap.size w wx)
          case first =>
            go_region_law
              (first | (go_simp; go_at_call 61; refine HT1.out.mono ?_; rintro e wt ⟨rfl, rfl⟩) | (go_simp; go_at_call 44; refine HT2.out.mono ?_; rintro e w4 ⟨A4, n4, c4, rfl, hs4, hb4, hf4⟩; have hbw4 := hbW.trans (hb4.mono hbW.size); have z3 := (hbw4.cell (p := ⟨w1.heap.size, 0, none⟩) hly).trans y3; have hs24 := hs3.below hbw4; have HMi := Lib.hid (minus_any A2 A4 n2 n4 cc2 c4 _ _ w4 hs24 hs4 (by omega) (by rw [← hs24.len, ← hs4.len]; exact Dec.limbs_length_mono (by omega) hle) (Dec.limbs_small (by omega) _) (Dec.limbs_small (by omega) _) (by rw [Dec.lval_limbs (by omega), Dec.lval_limbs (by omega)]; exact hle))) | (go_simp; go_at_call 55; refine HMi.out.mono ?_; rintro e w5 ⟨A5, n5, c5, rfl, hs5, hb5, hf5⟩; have hbw5 := hbw4.trans (hb5.mono hbw4.size); have k1 := (hbw5.cell (p := ⟨w1.heap.size, 0, none⟩) hly).trans y3; have k3 := (hbw5.frozen (p := ⟨w1.heap.size, 0, none⟩) hly).trans y4; have k4 := Nat.lt_of_lt_of_le hly hbw5.size))
            all_goals (go_wp2_with fail; go_meet)
            all_goals
              rw [Dec.lval_limbs (by omega), Dec.lval_limbs (by omega), HSub.out] at hs5
              have hq1 := (hown3.lt rfl).2
              have hz4 := hbw4.size
              refine ⟨rfl, rfl, A5, n5, c5, Lib.hid ((Y1.out.below hbw5).far (by simp; omega) _), Lib.hid (by simpa using (Y2.out.below hbw5).set_ 0 (.slice A5 n5 c5)), hs5.far (p := ⟨w1.heap.size, 0, none⟩) (fun b o e => by have := hf5 b o e; show b ≠ w1.heap.size; omega) _, Lib.hid (fun b o e => by have := hf5 b o e; omega), (hown3.below hbw5).farSet (Y2.out.below hbw5) (by decide) _ _, (hbw3.trans (hbw5.mono hbw3.size)).setCell (p := ⟨w1.heap.size, 0, none⟩) hb1.size _⟩
          case rest =>
            obtain ⟨rfl, rfl, A5, n5, c5, V1, V2, hs5, HA5, hown5, hb5⟩ := hcut
            obtain ⟨hco, hfo, _, hlq⟩ := hown5.cellAt (i := j - 1) (by omega)
            generalize q.getD (j - 1) 0 = z at hco
            go_wp2
            go_roundw
            case rel => exact ⟨j - 1, rr, n5, c5, A5, q.set (j - 1) d, by omega, by go_num, Lib.hid (V1.out.far (by simp) _), Lib.hid (V2.out.far (by simp; omega) _), hs5.far (p := ⟨w.heap.size + 1, j - 1, none⟩) (fun b o e => (HA5.out b o e).1) _, HA5, hml, hown5.setInt (by omega) rfl, hsq.set hdg, HST, hb5.setCell (p := ⟨w.heap.size + 1, j - 1, none⟩) (by simp) _⟩
            case measure => simp only [intOf]; omega
    · have hjz : j = 0 := by omega
      subst hjz
      have HQ : Hid (Dec.lval 1000000000 q = a / b ∧ R = a % b) := by
        have h := HV.out
        rw [List.drop_zero, List.drop_zero, Dec.lval_limbs (by omega)] at h
        show _ ∧ _
        rw [h]
        exact ⟨by rw [Nat.add_comm, Nat.add_mul_div_right _ _ hb0, Nat.div_eq_of_lt hR, Nat.zero_add], by rw [Nat.add_comm, Nat.add_mul_mod_self_right, Nat.mod_eq_of_lt hR]⟩
      have hslq := hown.sl
      go_upto_region 12 with (fail)
      go_quiet ((go_at_call 61; exact Calls.quiet_of_same (trim_same _ _ _ _ _ (hslq.drew _) (by omega))))
      go_wp2
      go_ret2
      refine ⟨_, _, _, _, _, _, rfl, ?_, ?_, below_drewN hb _⟩
      · have := hslq.trimmed (B := 1000000000) (by omega) hsq
        rw [HQ.out.1] at this
        exact this.drew _
      · rw [← HQ.out.2]; exact hsr.drew _
end Go.Proofs.YtcdgckbdplkdbaaDoor
