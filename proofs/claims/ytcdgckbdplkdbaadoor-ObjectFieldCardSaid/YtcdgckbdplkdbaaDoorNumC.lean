/- number.add, Add, Subtract. -/
import Derived.Test.YtcdgckbdplkdbaaDoorNumB
namespace Go.Proofs.YtcdgckbdplkdbaaDoor
open Go.RowKit

/-- an integer by its sign and its limbs; a zero may bear either sign -/
def RetSg (K : Nat) (v : Int) (w : World) (e : Ending) (w' : World) : Prop :=
  ∃ (s : Bool) (m : Nat) (A : Option Addr) (n c : Nat), e = .returned (.agg #[.bool s, .slice A n c]) ∧ Sl w' .u32 A n c (Dec.limbs 1000000000 m) ∧ n ≤ K ∧ (if s then -(m : Int) else m) = v ∧ Below w.heap.size w w'
theorem numStr_eq {s : Bool} {m : Nat} {v : Int} (h : (if s then -(m : Int) else m) = v) : numStr s m = Lib.itoa v := by unfold numStr; rw [h]
theorem length_limbs_add {a b n n' : Nat} (h : (Dec.limbs 1000000000 a).length = n) (h' : (Dec.limbs 1000000000 b).length = n') : (Dec.limbs 1000000000 (a + b)).length ≤ n + n' + 1 := by
  apply Dec.limbs_lt_length (by omega)
  have h1 := limbs_lt h
  have h2 := limbs_lt h'
  have h3 : 1000000000 ^ n ≤ 1000000000 ^ (n + n') := Nat.pow_le_pow_right (by omega) (by omega)
  have h4 : 1000000000 ^ n' ≤ 1000000000 ^ (n + n') := Nat.pow_le_pow_right (by omega) (by omega)
  rw [Nat.pow_succ]
  omega
/-- three blocks of two cells laid one behind the other -/
theorem three_blocks (w : World) (T : TypeId) (u0 v0 u1 v1 u2 v2 : Value) :
    Hid (BlkIs (((w.alloc (.cells #[u0, v0] T)).alloc (.cells #[u1, v1] T)).alloc (.cells #[u2, v2] T)) w.heap.size T #[u0, v0]) ∧ Hid (BlkIs (((w.alloc (.cells #[u0, v0] T)).alloc (.cells #[u1, v1] T)).alloc (.cells #[u2, v2] T)) (w.heap.size + 1) T #[u1, v1]) ∧
    Hid (BlkIs (((w.alloc (.cells #[u0, v0] T)).alloc (.cells #[u1, v1] T)).alloc (.cells #[u2, v2] T)) (w.heap.size + 1 + 1) T #[u2, v2]) ∧ Below w.heap.size w (((w.alloc (.cells #[u0, v0] T)).alloc (.cells #[u1, v1] T)).alloc (.cells #[u2, v2] T)) := by
  refine ⟨Lib.hid (((BlkIs.new w T _).alloc _).alloc _), Lib.hid ?_, Lib.hid ?_, (((Below.refl _ _).alloc (Nat.le_refl _) _).alloc (by simp) _).alloc (by simp; omega) _⟩
  · have := (BlkIs.new (w.alloc (.cells #[u0, v0] T)) T #[u1, v1]).alloc (.cells #[u2, v2] T)
    simpa using this
  · have := BlkIs.new ((w.alloc (.cells #[u0, v0] T)).alloc (.cells #[u1, v1] T)) T #[u2, v2]
    simpa using this
theorem put2 {w : World} {g : Nat} {t : TypeId} {u v u' v' : Value} (h : BlkIs w g t #[u, v]) : BlkIs ((w.setCell ⟨g, 0, none⟩ u').setCell ⟨g, 1, none⟩ v') g t #[u', v'] := by
  have := (h.set_ 0 u').set_ 1 v'
  simpa using this

set_option maxHeartbeats 2000000 in
set_option maxRecDepth 100000 in
theorem add_same (s : Bool) (A A' : Option Addr) (n n' c c' a b : Nat) (v : Int) (w : World) (hx : Sl w .u32 A n c (Dec.limbs 1000000000 a)) (hy : Sl w .u32 A' n' c' (Dec.limbs 1000000000 b)) (hn : n ≤ 10000000) (hn' : n' ≤ 10000000)
    (HV : Hid ((if s then -((a + b : Nat) : Int) else ((a + b : Nat) : Int)) = v)) :
    Calls Tryd.prog 46 #[.agg #[.bool s, .slice A n c], .agg #[.bool s, .slice A' n' c']] w (RetSg (n + n' + 1) v w) := by
  have hl := length_limbs_add hx.len hy.len
  have HP : Hid (∀ W, Below w.heap.size w W → Calls Tryd.prog 54 #[.slice A n c, .slice A' n' c'] W (RetSl .u32 (Dec.limbs 1000000000 (a + b)) W)) := fun W hb => by
    have := plus_any A A' n n' c c' _ _ W (hx.below hb) (hy.below hb) (by omega) (by omega) (Dec.limbs_small (by omega) a) (Dec.limbs_small (by omega) b)
    rwa [Dec.lval_limbs (by omega), Dec.lval_limbs (by omega)] at this
  have hbb : (s == s) = true := by simp
  go_enter Tryd.func46, Tryd.ntmps46
  go_wp2_with fail
  obtain ⟨B0, B1, B2, hbw⟩ := three_blocks w 56 (.bool s) (.slice A n c) (.bool s) (.slice A' n' c') (.bool false) (.slice none 0 0)
  generalize (((w.alloc (.cells #[.bool s, .slice A n c] 56)).alloc (.cells #[.bool s, .slice A' n' c'] 56)).alloc (.cells #[.bool false, .slice none 0 0] 56)) = W at *
  obtain ⟨p00, p01, _, _, l0⟩ := B0.out.two
  obtain ⟨p10, p11, _, _, l1⟩ := B1.out.two
  obtain ⟨p20, p21, f20, f21, l2⟩ := B2.out.two
  have HPW := Lib.hid (HP.out W.drew hbw.drew)
  clear HP
  go_region_law (go_simp; go_at_call 54; refine HPW.out.mono ?_; rintro e w2 ⟨A2, n2, c2, rfl, hs2, hb2, hf2⟩; obtain ⟨q00, q01, _, _, _⟩ := (B0.out.drew.below hb2).two; obtain ⟨q20, q21, g20, g21, _⟩ := (B2.out.drew.below hb2).two)
  all_goals go_wp2
  all_goals
    have hfin := put2 (u' := .bool s) (v' := .slice A2 n2 c2) (B2.out.drew.below hb2)
    have hbz : Below w.heap.size w ((w2.setCell ⟨w.heap.size + 1 + 1, 0, none⟩ (.bool s)).setCell ⟨w.heap.size + 1 + 1, 1, none⟩ (.slice A2 n2 c2)) :=
      ((hbw.drew.trans (hb2.mono hbw.drew.size)).setCell (p := ⟨w.heap.size + 1 + 1, 0, none⟩) (by simp; omega) _).setCell (p := ⟨w.heap.size + 1 + 1, 1, none⟩) (by simp; omega) _
    have hslz : Sl ((w2.setCell ⟨w.heap.size + 1 + 1, 0, none⟩ (.bool s)).setCell ⟨w.heap.size + 1 + 1, 1, none⟩ (.slice A2 n2 c2)) .u32 A2 n2 c2 (Dec.limbs 1000000000 (a + b)) :=
      (hs2.far (p := ⟨w.heap.size + 1 + 1, 0, none⟩) (fun b o e => by have := hf2 b o e; show b ≠ w.heap.size + 1 + 1; have : W.drew.heap.size = W.heap.size := rfl; omega) _).far (p := ⟨w.heap.size + 1 + 1, 1, none⟩) (fun b o e => by have := hf2 b o e; show b ≠ w.heap.size + 1 + 1; have : W.drew.heap.size = W.heap.size := rfl; omega) _
    generalize ((w2.setCell ⟨w.heap.size + 1 + 1, 0, none⟩ (.bool s)).setCell ⟨w.heap.size + 1 + 1, 1, none⟩ (.slice A2 n2 c2)) = Z at *
    obtain ⟨z0, z1, _, _, _⟩ := hfin.two
    refine bodyPost_ret (v := .agg #[.bool s, .slice A2 n2 c2]) ?_ rfl ⟨s, a + b, A2, n2, c2, rfl, hslz, by rw [← hslz.len]; exact hl, HV.out, hbz⟩
    simp [results, Tryd.results46, go_sem, z0, z1]

set_option maxHeartbeats 4000000 in
set_option maxRecDepth 100000 in
theorem add_ge (s s' : Bool) (A A' : Option Addr) (n n' c c' a b : Nat) (v : Int) (w : World) (hx : Sl w .u32 A n c (Dec.limbs 1000000000 a)) (hy : Sl w .u32 A' n' c' (Dec.limbs 1000000000 b)) (hn : n ≤ 10000000) (hn' : n' ≤ 10000000)
    (hss : (s == s') = false) (hlt : b ≤ a) (HV : Hid ((if s then -((a - b : Nat) : Int) else ((a - b : Nat) : Int)) = v)) :
    Calls Tryd.prog 46 #[.agg #[.bool s, .slice A n c], .agg #[.bool s', .slice A' n' c']] w (RetSg (n + n' + 1) v w) := by
  have hl : (Dec.limbs 1000000000 (a - b)).length ≤ n + n' + 1 := by
    have := Dec.limbs_length_mono (B := 1000000000) (a := a) (b := a - b) (by omega) (by omega)
    rw [hx.len] at this
    omega
  have hll : n' ≤ n := by
    have := Dec.limbs_length_mono (B := 1000000000) (a := a) (b := b) (by omega) (by omega)
    rwa [hx.len, hy.len] at this
  have HC : Hid (∀ W, Below w.heap.size w W → Calls Tryd.prog 65 #[.slice A n c, .slice A' n' c'] W (Cmp a b W)) := fun W hb =>
    compare_any 1000000000 (by omega) A A' n n' c c' a b W (hx.below hb) (hy.below hb) (by omega) (by omega)
  have HM : Hid (∀ W, Below w.heap.size w W → Calls Tryd.prog 55 #[.slice A n c, .slice A' n' c'] W (RetSl .u32 (Dec.limbs 1000000000 (a - b)) W)) := fun W hb => by
    have := minus_any A A' n n' c c' _ _ W (hx.below hb) (hy.below hb) (by omega) hll (Dec.limbs_small (by omega) _) (Dec.limbs_small (by omega) _) (by rw [Dec.lval_limbs (by omega), Dec.lval_limbs (by omega)]; omega)
    rwa [Dec.lval_limbs (by omega), Dec.lval_limbs (by omega)] at this
  have HO := Lib.hid hlt
  have hz : 0 ≤ ordI a b := by
    rcases Nat.lt_or_ge b a with h | h
    · rw [ordI_gt h]; omega
    · obtain rfl : a = b := by omega
      rw [ordI_eq]; omega
  clear hlt
  go_enter Tryd.func46, Tryd.ntmps46
  go_wp2_with fail
  obtain ⟨B0, B1, B2, hbw⟩ := three_blocks w 56 (.bool s) (.slice A n c) (.bool s') (.slice A' n' c') (.bool false) (.slice none 0 0)
  generalize (((w.alloc (.cells #[.bool s, .slice A n c] 56)).alloc (.cells #[.bool s', .slice A' n' c'] 56)).alloc (.cells #[.bool false, .slice none 0 0] 56)) = W at *
  obtain ⟨p00, p01, f00, f01, l0⟩ := B0.out.two
  obtain ⟨p10, p11, f10, f11, l1⟩ := B1.out.two
  have HCW := Lib.hid (HC.out W hbw)
  clear HC
  refine HCW.out.mono ?_
  rintro e wq ⟨rfl, q, rfl⟩
  have C0 : Hid (BlkIs (W.drewN q) w.heap.size 56 #[.bool s, .slice A n c]) := B0
  have C1 : Hid (BlkIs (W.drewN q) (w.heap.size + 1) 56 #[.bool s', .slice A' n' c']) := B1
  have C2 : Hid (BlkIs (W.drewN q) (w.heap.size + 1 + 1) 56 #[.bool false, .slice none 0 0]) := B2
  have hbV : Below w.heap.size w (W.drewN q) := below_drewN hbw q
  go_wp2_with fail
  generalize W.drewN q = V at *
  obtain ⟨p20, p21, f20, f21, l2⟩ := C2.out.two
  obtain ⟨r00, r01, _, _, _⟩ := C0.out.two
  obtain ⟨r10, r11, _, _, _⟩ := C1.out.two
  have HMW := Lib.hid (HM.out V.drew hbV.drew)
  clear HM
  go_region_law (go_simp; go_at_call 55; refine HMW.out.mono ?_; rintro e w2 ⟨A2, n2, c2, rfl, hs2, hb2, hf2⟩; obtain ⟨q00, q01, _, _, _⟩ := (C0.out.drew.below hb2).two; obtain ⟨q20, q21, g20, g21, _⟩ := (C2.out.drew.below hb2).two)
  all_goals go_wp2
  all_goals
    have hfin := put2 (u' := .bool s) (v' := .slice A2 n2 c2) (C2.out.drew.below hb2)
    have hbz : Below w.heap.size w ((w2.setCell ⟨w.heap.size + 1 + 1, 0, none⟩ (.bool s)).setCell ⟨w.heap.size + 1 + 1, 1, none⟩ (.slice A2 n2 c2)) :=
      ((hbV.drew.trans (hb2.mono hbV.drew.size)).setCell (p := ⟨w.heap.size + 1 + 1, 0, none⟩) (by simp; omega) _).setCell (p := ⟨w.heap.size + 1 + 1, 1, none⟩) (by simp; omega) _
    have hslz : Sl ((w2.setCell ⟨w.heap.size + 1 + 1, 0, none⟩ (.bool s)).setCell ⟨w.heap.size + 1 + 1, 1, none⟩ (.slice A2 n2 c2)) .u32 A2 n2 c2 (Dec.limbs 1000000000 (a - b)) :=
      (hs2.far (p := ⟨w.heap.size + 1 + 1, 0, none⟩) (fun b o e => by have := hf2 b o e; show b ≠ w.heap.size + 1 + 1; have : V.drew.heap.size = V.heap.size := rfl; omega) _).far (p := ⟨w.heap.size + 1 + 1, 1, none⟩) (fun b o e => by have := hf2 b o e; show b ≠ w.heap.size + 1 + 1; have : V.drew.heap.size = V.heap.size := rfl; omega) _
    generalize ((w2.setCell ⟨w.heap.size + 1 + 1, 0, none⟩ (.bool s)).setCell ⟨w.heap.size + 1 + 1, 1, none⟩ (.slice A2 n2 c2)) = Z at *
    obtain ⟨z0, z1, _, _, _⟩ := hfin.two
    refine bodyPost_ret (v := .agg #[.bool s, .slice A2 n2 c2]) ?_ rfl ⟨s, a - b, A2, n2, c2, rfl, hslz, by rw [← hslz.len]; exact hl, HV.out, hbz⟩
    simp [results, Tryd.results46, go_sem, z0, z1]

set_option maxHeartbeats 4000000 in
set_option maxRecDepth 100000 in
theorem add_lt (s s' : Bool) (A A' : Option Addr) (n n' c c' a b : Nat) (v : Int) (w : World) (hx : Sl w .u32 A n c (Dec.limbs 1000000000 a)) (hy : Sl w .u32 A' n' c' (Dec.limbs 1000000000 b)) (hn : n ≤ 10000000) (hn' : n' ≤ 10000000)
    (hss : (s == s') = false) (hlt : a < b) (HV : Hid ((if s' then -((b - a : Nat) : Int) else ((b - a : Nat) : Int)) = v)) :
    Calls Tryd.prog 46 #[.agg #[.bool s, .slice A n c], .agg #[.bool s', .slice A' n' c']] w (RetSg (n + n' + 1) v w) := by
  have hl : (Dec.limbs 1000000000 (b - a)).length ≤ n + n' + 1 := by
    have := Dec.limbs_length_mono (B := 1000000000) (a := b) (b := b - a) (by omega) (by omega)
    rw [hy.len] at this
    omega
  have hll : n ≤ n' := by
    have := Dec.limbs_length_mono (B := 1000000000) (a := b) (b := a) (by omega) (by omega)
    rwa [hx.len, hy.len] at this
  have HC : Hid (∀ W, Below w.heap.size w W → Calls Tryd.prog 65 #[.slice A n c, .slice A' n' c'] W (Cmp a b W)) := fun W hb =>
    compare_any 1000000000 (by omega) A A' n n' c c' a b W (hx.below hb) (hy.below hb) (by omega) (by omega)
  have HM : Hid (∀ W, Below w.heap.size w W → Calls Tryd.prog 55 #[.slice A' n' c', .slice A n c] W (RetSl .u32 (Dec.limbs 1000000000 (b - a)) W)) := fun W hb => by
    have := minus_any A' A n' n c' c _ _ W (hy.below hb) (hx.below hb) (by omega) hll (Dec.limbs_small (by omega) _) (Dec.limbs_small (by omega) _) (by rw [Dec.lval_limbs (by omega), Dec.lval_limbs (by omega)]; omega)
    rwa [Dec.lval_limbs (by omega), Dec.lval_limbs (by omega)] at this
  have HO := Lib.hid hlt
  have hz : ordI a b < 0 := by rw [ordI_lt hlt]; omega
  clear hlt
  go_enter Tryd.func46, Tryd.ntmps46
  go_wp2_with fail
  obtain ⟨B0, B1, B2, hbw⟩ := three_blocks w 56 (.bool s) (.slice A n c) (.bool s') (.slice A' n' c') (.bool false) (.slice none 0 0)
  generalize (((w.alloc (.cells #[.bool s, .slice A n c] 56)).alloc (.cells #[.bool s', .slice A' n' c'] 56)).alloc (.cells #[.bool false, .slice none 0 0] 56)) = W at *
  obtain ⟨p00, p01, f00, f01, l0⟩ := B0.out.two
  obtain ⟨p10, p11, f10, f11, l1⟩ := B1.out.two
  have HCW := Lib.hid (HC.out W hbw)
  clear HC
  refine HCW.out.mono ?_
  rintro e wq ⟨rfl, q, rfl⟩
  go_wp2_with fail
  have hbV : Below w.heap.size w (((((W.drewN q).setCell ⟨w.heap.size, 0, none⟩ (.bool s')).setCell ⟨w.heap.size, 1, none⟩ (.slice A' n' c')).setCell ⟨w.heap.size + 1, 0, none⟩ (.bool s)).setCell ⟨w.heap.size + 1, 1, none⟩ (.slice A n c)) :=
    ((((below_drewN hbw q).setCell (p := ⟨w.heap.size, 0, none⟩) (Nat.le_refl _) _).setCell (p := ⟨w.heap.size, 1, none⟩) (Nat.le_refl _) _).setCell (p := ⟨w.heap.size + 1, 0, none⟩) (by simp) _).setCell (p := ⟨w.heap.size + 1, 1, none⟩) (by simp) _
  have D0 : BlkIs (W.drewN q) w.heap.size 56 #[.bool s, .slice A n c] := B0.out
  have D1 : BlkIs (W.drewN q) (w.heap.size + 1) 56 #[.bool s', .slice A' n' c'] := B1.out
  have D2 : BlkIs (W.drewN q) (w.heap.size + 1 + 1) 56 #[.bool false, .slice none 0 0] := B2.out
  have C0 : Hid (BlkIs (((((W.drewN q).setCell ⟨w.heap.size, 0, none⟩ (.bool s')).setCell ⟨w.heap.size, 1, none⟩ (.slice A' n' c')).setCell ⟨w.heap.size + 1, 0, none⟩ (.bool s)).setCell ⟨w.heap.size + 1, 1, none⟩ (.slice A n c)) w.heap.size 56 #[.bool s', .slice A' n' c']) :=
    Lib.hid (((put2 D0).far (p := ⟨w.heap.size + 1, 0, none⟩) (by simp) _).far (p := ⟨w.heap.size + 1, 1, none⟩) (by simp) _)
  have C1 : Hid (BlkIs (((((W.drewN q).setCell ⟨w.heap.size, 0, none⟩ (.bool s')).setCell ⟨w.heap.size, 1, none⟩ (.slice A' n' c')).setCell ⟨w.heap.size + 1, 0, none⟩ (.bool s)).setCell ⟨w.heap.size + 1, 1, none⟩ (.slice A n c)) (w.heap.size + 1) 56 #[.bool s, .slice A n c]) :=
    Lib.hid (put2 ((D1.far (p := ⟨w.heap.size, 0, none⟩) (by simp) _).far (p := ⟨w.heap.size, 1, none⟩) (by simp) _))
  have C2 : Hid (BlkIs (((((W.drewN q).setCell ⟨w.heap.size, 0, none⟩ (.bool s')).setCell ⟨w.heap.size, 1, none⟩ (.slice A' n' c')).setCell ⟨w.heap.size + 1, 0, none⟩ (.bool s)).setCell ⟨w.heap.size + 1, 1, none⟩ (.slice A n c)) (w.heap.size + 1 + 1) 56 #[.bool false, .slice none 0 0]) :=
    Lib.hid ((((D2.far (p := ⟨w.heap.size, 0, none⟩) (by simp; omega) _).far (p := ⟨w.heap.size, 1, none⟩) (by simp; omega) _).far (p := ⟨w.heap.size + 1, 0, none⟩) (by simp) _).far (p := ⟨w.heap.size + 1, 1, none⟩) (by simp) _)
  clear D0 D1 D2
  generalize (((((W.drewN q).setCell ⟨w.heap.size, 0, none⟩ (.bool s')).setCell ⟨w.heap.size, 1, none⟩ (.slice A' n' c')).setCell ⟨w.heap.size + 1, 0, none⟩ (.bool s)).setCell ⟨w.heap.size + 1, 1, none⟩ (.slice A n c)) = V at *
  obtain ⟨p20, p21, f20, f21, l2⟩ := C2.out.two
  obtain ⟨r00, r01, _, _, _⟩ := C0.out.two
  obtain ⟨r10, r11, _, _, _⟩ := C1.out.two
  have HMW := Lib.hid (HM.out V.drew hbV.drew)
  clear HM
  go_region_law (go_simp; go_at_call 55; refine HMW.out.mono ?_; rintro e w2 ⟨A2, n2, c2, rfl, hs2, hb2, hf2⟩; obtain ⟨q00, q01, _, _, _⟩ := (C0.out.drew.below hb2).two; obtain ⟨q20, q21, g20, g21, _⟩ := (C2.out.drew.below hb2).two)
  all_goals go_wp2
  all_goals
    have hfin := put2 (u' := .bool s') (v' := .slice A2 n2 c2) (C2.out.drew.below hb2)
    have hbz : Below w.heap.size w ((w2.setCell ⟨w.heap.size + 1 + 1, 0, none⟩ (.bool s')).setCell ⟨w.heap.size + 1 + 1, 1, none⟩ (.slice A2 n2 c2)) :=
      ((hbV.drew.trans (hb2.mono hbV.drew.size)).setCell (p := ⟨w.heap.size + 1 + 1, 0, none⟩) (by simp; omega) _).setCell (p := ⟨w.heap.size + 1 + 1, 1, none⟩) (by simp; omega) _
    have hslz : Sl ((w2.setCell ⟨w.heap.size + 1 + 1, 0, none⟩ (.bool s')).setCell ⟨w.heap.size + 1 + 1, 1, none⟩ (.slice A2 n2 c2)) .u32 A2 n2 c2 (Dec.limbs 1000000000 (b - a)) :=
      (hs2.far (p := ⟨w.heap.size + 1 + 1, 0, none⟩) (fun b o e => by have := hf2 b o e; show b ≠ w.heap.size + 1 + 1; have : V.drew.heap.size = V.heap.size := rfl; omega) _).far (p := ⟨w.heap.size + 1 + 1, 1, none⟩) (fun b o e => by have := hf2 b o e; show b ≠ w.heap.size + 1 + 1; have : V.drew.heap.size = V.heap.size := rfl; omega) _
    generalize ((w2.setCell ⟨w.heap.size + 1 + 1, 0, none⟩ (.bool s')).setCell ⟨w.heap.size + 1 + 1, 1, none⟩ (.slice A2 n2 c2)) = Z at *
    obtain ⟨z0, z1, _, _, _⟩ := hfin.two
    refine bodyPost_ret (v := .agg #[.bool s', .slice A2 n2 c2]) ?_ rfl ⟨s', b - a, A2, n2, c2, rfl, hslz, by rw [← hslz.len]; exact hl, HV.out, hbz⟩
    simp [results, Tryd.results46, go_sem, z0, z1]
end Go.Proofs.YtcdgckbdplkdbaaDoor
