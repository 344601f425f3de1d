/- number.add, Add, Subtract. -/
import Derived.Test.YtgphkgmhcmffnaaGreatDoorJG
namespace Go.Proofs.YtgphkgmhcmffnaaGreatDoor
open Go.RowKit

/-- an integer by its sign and its limbs; a zero may bear either sign -/
def RetSg (K : Nat) (v : Int) (w : World) (e : Ending) (w' : World) : Prop :=
  ∃ (s : Bool) (m : Nat) (A : Option Addr) (n c : Nat), e = .returned (.agg #[.bool s, .slice A n c]) ∧ Sl w' .u32 A n c (Dec.limbs 1000000000 m) ∧ n ≤ K ∧ (if s then -(m : Int) else m) = v ∧ Below w.heap.size w w'
theorem numStr_eq {s : Bool} {m : Nat} {v : Int} (h : (if s then -(m : Int) else m) = v) : numStr s m = Lib.itoa v := by unfold numStr; rw [h]
theorem length_limbs_add {a b n n' : Nat} (h : (Dec.limbs 1000000000 a).length = n) (h' : (Dec.limbs 1000000000 b).length = n') : (Dec.limbs 1000000000 (a + b)).length ≤ n + n' + 1 := by
  apply Dec.limbs_lt_length (by omega)
  have h1 := limbs_lt h
  have h2 := limbs_lt h'
  have h3 : 1000000000 ^ n ≤ 1000000000 ^ (n + n') := Nat.pow_le_pow_right (by omega) (by omega)
  have h4 : 1000000000 ^ n' ≤ 1000000000 ^ (n + n') := Nat.pow_le_pow_right (by omega) (by omega)
  rw [Nat.pow_succ]
  omega
/-- three blocks of two cells laid one behind the other -/
theorem three_blocks (w : World) (T : TypeId) (u0 v0 u1 v1 u2 v2 : Value) :
    Hid (BlkIs (((w.alloc (.cells #[u0, v0] T)).alloc (.cells #[u1, v1] T)).alloc (.cells #[u2, v2] T)) w.heap.size T #[u0, v0]) ∧ Hid (BlkIs (((w.alloc (.cells #[u0, v0] T)).alloc (.cells #[u1, v1] T)).alloc (.cells #[u2, v2] T)) (w.heap.size + 1) T #[u1, v1]) ∧
    Hid (BlkIs (((w.alloc (.cells #[u0, v0] T)).alloc (.cells #[u1, v1] T)).alloc (.cells #[u2, v2] T)) (w.heap.size + 1 + 1) T #[u2, v2]) ∧ Below w.heap.size w (((w.alloc (.cells #[u0, v0] T)).alloc (.cells #[u1, v1] T)).alloc (.cells #[u2, v2] T)) := by
  refine ⟨Lib.hid (((BlkIs.new w T _).alloc _).alloc _), Lib.hid ?_, Lib.hid ?_, (((Below.refl _ _).alloc (Nat.le_refl _) _).alloc (by simp) _).alloc (by simp; omega) _⟩
  · have := (BlkIs.new (w.alloc (.cells #[u0, v0] T)) T #[u1, v1]).alloc (.cells #[u2, v2] T)
    simpa using this
  · have := BlkIs.new ((w.alloc (.cells #[u0, v0] T)).alloc (.cells #[u1, v1] T)) T #[u2, v2]
    simpa using this
theorem put2 {w : World} {g : Nat} {t : TypeId} {u v u' v' : Value} (h : BlkIs w g t #[u, v]) : BlkIs ((w.setCell ⟨g, 0, none⟩ u').setCell ⟨g, 1, none⟩ v') g t #[u', v'] := by
  have := (h.set_ 0 u').set_ 1 v'
  simpa using this

set_option maxHeartbeats 2000000 in
set_option maxRecDepth 100000 in
theorem add_same (s : Bool) (A A' : Option Addr) (n n' c c' a b : Nat) (v : Int) (w : World) (hx : Sl w .u32 A n c (Dec.limbs 1000000000 a)) (hy : Sl w .u32 A' n' c' (Dec.limbs 1000000000 b)) (hn : n ≤ 10000000) (hn' : n' ≤ 10000000)
    (HV : Hid ((if s then -((a + b : Nat) : Int) else ((a + b : Nat) : Int)) = v)) :
    Calls Tryz.prog 141 #[.agg #[.bool s, .slice A n c], .agg #[.bool s, .slice A' n' c']] w (RetSg (n + n' + 1) v w) := by
  have hl := length_limbs_add hx.len hy.len
  have HP : Hid (∀ W, Below w.heap.size w W → Calls Tryz.prog 157 #[.slice A n c, .slice A' n' c'] W (RetSl .u32 (Dec.limbs 1000000000 (a + b)) W)) := fun W hb => by
    have := plus_any A A' n n' c c' _ _ W (hx.below hb) (hy.below hb) (by omega) (by omega) (Dec.limbs_small (by omega) a) (Dec.limbs_small (by omega) b)
    rwa [Dec.lval_limbs (by omega), Dec.lval_limbs (by omega)] at this
  have hbb : (s == s) = true := by simp
  go_enter Tryz.func141, Tryz.ntmps141
  go_wp2_with fail
  obtain ⟨B0, B1, B2, hbw⟩ := three_blocks w 99 (.bool s) (.slice A n c) (.bool s) (.slice A' n' c') (.bool false) (.slice none 0 0)
  generalize (((w.alloc (.cells #[.bool s, .slice A n c] 99)).alloc (.cells #[.bool s, .slice A' n' c'] 99)).alloc (.cells #[.bool false, .slice none 0 0] 99)) = W at *
  obtain ⟨p00, p01, _, _, l0⟩ := B0.out.two
  obtain ⟨p10, p11, _, _, l1⟩ := B1.out.two
  obtain ⟨p20, p21, f20, f21, l2⟩ := B2.out.two
  have HPW := Lib.hid (HP.out W.drew hbw.drew)
  clear HP
  go_region_law (go_simp; go_at_call 157; refine HPW.out.mono ?_; rintro e w2 ⟨A2, n2, c2, rfl, hs2, hb2, hf2⟩; obtain ⟨q00, q01, _, _, _⟩ := (B0.out.drew.below hb2).two; obtain ⟨q20, q21, g20, g21, _⟩ := (B2.out.drew.below hb2).two)
  all_goals go_wp2
  all_goals
    have hfin := put2 (u' := .bool s) (v' := .slice A2 n2 c2) (B2.out.drew.below hb2)
    have hbz : Below w.heap.size w ((w2.setCell ⟨w.heap.size + 1 + 1, 0, none⟩ (.bool s)).setCell ⟨w.heap.size + 1 + 1, 1, none⟩ (.slice A2 n2 c2)) :=
      ((hbw.drew.trans (hb2.mono hbw.drew.size)).setCell (p := ⟨w.heap.size + 1 + 1, 0, none⟩) (by simp; omega) _).setCell (p := ⟨w.heap.size + 1 + 1, 1, none⟩) (by simp; omega) _
    have hslz : Sl ((w2.setCell ⟨w.heap.size + 1 + 1, 0, none⟩ (.bool s)).setCell ⟨w.heap.size + 1 + 1, 1, none⟩ (.slice A2 n2 c2)) .u32 A2 n2 c2 (Dec.limbs 1000000000 (a + b)) :=
      (hs2.far (p := ⟨w.heap.size + 1 + 1, 0, none⟩) (fun b o e => by have := hf2 b o e; show b ≠ w.heap.size + 1 + 1; have : W.drew.heap.size = W.heap.size := rfl; omega) _).far (p := ⟨w.heap.size + 1 + 1, 1, none⟩) (fun b o e => by have := hf2 b o e; show b ≠ w.heap.size + 1 + 1; have : W.drew.heap.size = W.heap.size := rfl; omega) _
    generalize ((w2.setCell ⟨w.heap.size + 1 + 1, 0, none⟩ (.bool s)).setCell ⟨w.heap.size + 1 + 1, 1, none⟩ (.slice A2 n2 c2)) = Z at *
    obtain ⟨z0, z1, _, _, _⟩ := hfin.two
    refine bodyPost_ret (v := .agg #[.bool s, .slice A2 n2 c2]) ?_ rfl ⟨s, a + b, A2, n2, c2, rfl, hslz, by rw [← hslz.len]; exact hl, HV.out, hbz⟩
    simp [results, Tryz.results141, go_sem, z0, z1]

set_option maxHeartbeats 4000000 in
set_option maxRecDepth 100000 in
theorem add_ge (s s' : Bool) (A A' : Option Addr) (n n' c c' a b : Nat) (v : Int) (w : World) (hx : Sl w .u32 A n c (Dec.limbs 1000000000 a)) (hy : Sl w .u32 A' n' c' (Dec.limbs 1000000000 b)) (hn : n ≤ 10000000) (hn' : n' ≤ 10000000)
    (hss : (s == s') = false) (hlt : b ≤ a) (HV : Hid ((if s then -((a - b : Nat) : Int) else ((a - b : Nat) : Int)) = v)) :
    Calls Tryz.prog 141 #[.agg #[.bool s, .slice A n c], .agg #[.bool s', .slice A' n' c']] w (RetSg (n + n' + 1) v w) := by
  have hl : (Dec.limbs 1000000000 (a - b)).length ≤ n + n' + 1 := by
    have := Dec.limbs_length_mono (B := 1000000000) (a := a) (b := a - b) (by omega) (by omega)
    rw [hx.len] at this
    omega
  have hll : n' ≤ n := by
    have := Dec.limbs_length_mono (B := 1000000000) (a := a) (b := b) (by omega) (by omega)
    rwa [hx.len, hy.len] at this
  have HC : Hid (∀ W, Below w.heap.size w W → Calls Tryz.prog 155 #[.slice A n c, .slice A' n' c'] W (Cmp a b W)) := fun W hb =>
    compare_any 1000000000 (by omega) A A' n n' c c' a b W (hx.below hb) (hy.below hb) (by omega) (by omega)
  have HM : Hid (∀ W, Below w.heap.size w W → Calls Tryz.prog 158 #[.slice A n c, .slice A' n' c'] W (RetSl .u32 (Dec.limbs 1000000000 (a - b)) W)) := fun W hb => by
    have := minus_any A A' n n' c c' _ _ W (hx.below hb) (hy.below hb) (by omega) hll (Dec.limbs_small (by omega) _) (Dec.limbs_small (by omega) _) (by rw [Dec.lval_limbs (by omega), Dec.lval_limbs (by omega)]; omega)
    rwa [Dec.lval_limbs (by omega), Dec.lval_limbs (by omega)] at this
  have HO := Lib.hid hlt
  have hz : 0 ≤ ordI a b := by
    rcases Nat.lt_or_ge b a with h | h
    · rw [ordI_gt h]; omega
    · obtain rfl : a = b := by omega
      rw [ordI_eq]; omega
  clear hlt
  go_enter Tryz.func141, Tryz.ntmps141
  go_wp2_with fail
  obtain ⟨B0, B1, B2, hbw⟩ := three_blocks w 99 (.bool s) (.slice A n c) (.bool s') (.slice A' n' c') (.bool false) (.slice none 0 0)
  generalize (((w.alloc (.cells #[.bool s, .slice A n c] 99)).alloc (.cells #[.bool s', .slice A' n' c'] 99)).alloc (.cells #[.bool false, .slice none 0 0] 99)) = W at *
  obtain ⟨p00, p01, f00, f01, l0⟩ := B0.out.two
  obtain ⟨p10, p11, f10, f11, l1⟩ := B1.out.two
  have HCW := Lib.hid (HC.out W hbw)
  clear HC
  refine HCW.out.mono ?_
  rintro e wq ⟨rfl, q, rfl⟩
  have C0 : Hid (BlkIs (W.drewN q) w.heap.size 99 #[.bool s, .slice A n c]) := B0
  have C1 : Hid (BlkIs (W.drewN q) (w.heap.size + 1) 99 #[.bool s', .slice A' n' c']) := B1
  have C2 : Hid (BlkIs (W.drewN q) (w.heap.size + 1 + 1) 99 #[.bool false, .slice none 0 0]) := B2
  have hbV : Below w.heap.size w (W.drewN q) := below_drewN hbw q
  go_wp2_with fail
  generalize W.drewN q = V at *
  obtain ⟨p20, p21, f20, f21, l2⟩ := C2.out.two
  obtain ⟨r00, r01, _, _, _⟩ := C0.out.two
  obtain ⟨r10, r11, _, _, _⟩ := C1.out.two
  have HMW := Lib.hid (HM.out V.drew hbV.drew)
  clear HM
  go_region_law (go_simp; go_at_call 158; refine HMW.out.mono ?_; rintro e w2 ⟨A2, n2, c2, rfl, hs2, hb2, hf2⟩; obtain ⟨q00, q01, _, _, _⟩ := (C0.out.drew.below hb2).two; obtain ⟨q20, q21, g20, g21, _⟩ := (C2.out.drew.below hb2).two)
  all_goals go_wp2
  all_goals
    have hfin := put2 (u' := .bool s) (v' := .slice A2 n2 c2) (C2.out.drew.below hb2)
    have hbz : Below w.heap.size w ((w2.setCell ⟨w.heap.size + 1 + 1, 0, none⟩ (.bool s)).setCell ⟨w.heap.size + 1 + 1, 1, none⟩ (.slice A2 n2 c2)) :=
      ((hbV.drew.trans (hb2.mono hbV.drew.size)).setCell (p := ⟨w.heap.size + 1 + 1, 0, none⟩) (by simp; omega) _).setCell (p := ⟨w.heap.size + 1 + 1, 1, none⟩) (by simp; omega) _
    have hslz : Sl ((w2.setCell ⟨w.heap.size + 1 + 1, 0, none⟩ (.bool s)).setCell ⟨w.heap.size + 1 + 1, 1, none⟩ (.slice A2 n2 c2)) .u32 A2 n2 c2 (Dec.limbs 1000000000 (a - b)) :=
      (hs2.far (p := ⟨w.heap.size + 1 + 1, 0, none⟩) (fun b o e => by have := hf2 b o e; show b ≠ w.heap.size + 1 + 1; have : V.drew.heap.size = V.heap.size := rfl; omega) _).far (p := ⟨w.heap.size + 1 + 1, 1, none⟩) (fun b o e => by have := hf2 b o e; show b ≠ w.heap.size + 1 + 1; have : V.drew.heap.size = V.heap.size := rfl; omega) _
    generalize ((w2.setCell ⟨w.heap.size + 1 + 1, 0, none⟩ (.bool s)).setCell ⟨w.heap.size + 1 + 1, 1, none⟩ (.slice A2 n2 c2)) = Z at *
    obtain ⟨z0, z1, _, _, _⟩ := hfin.two
    refine bodyPost_ret (v := .agg #[.bool s, .slice A2 n2 c2]) ?_ rfl ⟨s, a - b, A2, n2, c2, rfl, hslz, by rw [← hslz.len]; exact hl, HV.out, hbz⟩
    simp [results, Tryz.results141, go_sem, z0, z1]

set_option maxHeartbeats 4000000 in
set_option maxRecDepth 100000 in
theorem add_lt (s s' : Bool) (A A' : Option Addr) (n n' c c' a b : Nat) (v : Int) (w : World) (hx : Sl w .u32 A n c (Dec.limbs 1000000000 a)) (hy : Sl w .u32 A' n' c' (Dec.limbs 1000000000 b)) (hn : n ≤ 10000000) (hn' : n' ≤ 10000000)
    (hss : (s == s') = false) (hlt : a < b) (HV : Hid ((if s' then -((b - a : Nat) : Int) else ((b - a : Nat) : Int)) = v)) :
    Calls Tryz.prog 141 #[.agg #[.bool s, .slice A n c], .agg #[.bool s', .slice A' n' c']] w (RetSg (n + n' + 1) v w) := by
  have hl : (Dec.limbs 1000000000 (b - a)).length ≤ n + n' + 1 := by
    have := Dec.limbs_length_mono (B := 1000000000) (a := b) (b := b - a) (by omega) (by omega)
    rw [hy.len] at this
    omega
  have hll : n ≤ n' := by
    have := Dec.limbs_length_mono (B := 1000000000) (a := b) (b := a) (by omega) (by omega)
    rwa [hx.len, hy.len] at this
  have HC : Hid (∀ W, Below w.heap.size w W → Calls Tryz.prog 155 #[.slice A n c, .slice A' n' c'] W (Cmp a b W)) := fun W hb =>
    compare_any 1000000000 (by omega) A A' n n' c c' a b W (hx.below hb) (hy.below hb) (by omega) (by omega)
  have HM : Hid (∀ W, Below w.heap.size w W → Calls Tryz.prog 158 #[.slice A' n' c', .slice A n c] W (RetSl .u32 (Dec.limbs 1000000000 (b - a)) W)) := fun W hb => by
    have := minus_any A' A n' n c' c _ _ W (hy.below hb) (hx.below hb) (by omega) hll (Dec.limbs_small (by omega) _) (Dec.limbs_small (by omega) _) (by rw [Dec.lval_limbs (by omega), Dec.lval_limbs (by omega)]; omega)
    rwa [Dec.lval_limbs (by omega), Dec.lval_limbs (by omega)] at this
  have HO := Lib.hid hlt
  have hz : ordI a b < 0 := by rw [ordI_lt hlt]; omega
  clear hlt
  go_enter Tryz.func141, Tryz.ntmps141
  go_wp2_with fail
  obtain ⟨B0, B1, B2, hbw⟩ := three_blocks w 99 (.bool s) (.slice A n c) (.bool s') (.slice A' n' c') (.bool false) (.slice none 0 0)
  generalize (((w.alloc (.cells #[.bool s, .slice A n c] 99)).alloc (.cells #[.bool s', .slice A' n' c'] 99)).alloc (.cells #[.bool false, .slice none 0 0] 99)) = W at *
  obtain ⟨p00, p01, f00, f01, l0⟩ := B0.out.two
  obtain ⟨p10, p11, f10, f11, l1⟩ := B1.out.two
  have HCW := Lib.hid (HC.out W hbw)
  clear HC
  refine HCW.out.mono ?_
  rintro e wq ⟨rfl, q, rfl⟩
  go_wp2_with fail
  have hbV : Below w.heap.size w (((((W.drewN q).setCell ⟨w.heap.size, 0, none⟩ (.bool s')).setCell ⟨w.heap.size, 1, none⟩ (.slice A' n' c')).setCell ⟨w.heap.size + 1, 0, none⟩ (.bool s)).setCell ⟨w.heap.size + 1, 1, none⟩ (.slice A n c)) :=
    ((((below_drewN hbw q).setCell (p := ⟨w.heap.size, 0, none⟩) (Nat.le_refl _) _).setCell (p := ⟨w.heap.size, 1, none⟩) (Nat.le_refl _) _).setCell (p := ⟨w.heap.size + 1, 0, none⟩) (by simp) _).setCell (p := ⟨w.heap.size + 1, 1, none⟩) (by simp) _
  have D0 : BlkIs (W.drewN q) w.heap.size 99 #[.bool s, .slice A n c] := B0.out
  have D1 : BlkIs (W.drewN q) (w.heap.size + 1) 99 #[.bool s', .slice A' n' c'] := B1.out
  have D2 : BlkIs (W.drewN q) (w.heap.size + 1 + 1) 99 #[.bool false, .slice none 0 0] := B2.out
  have C0 : Hid (BlkIs (((((W.drewN q).setCell ⟨w.heap.size, 0, none⟩ (.bool s')).setCell ⟨w.heap.size, 1, none⟩ (.slice A' n' c')).setCell ⟨w.heap.size + 1, 0, none⟩ (.bool s)).setCell ⟨w.heap.size + 1, 1, none⟩ (.slice A n c)) w.heap.size 99 #[.bool s', .slice A' n' c']) :=
    Lib.hid (((put2 D0).far (p := ⟨w.heap.size + 1, 0, none⟩) (by simp) _).far (p := ⟨w.heap.size + 1, 1, none⟩) (by simp) _)
  have C1 : Hid (BlkIs (((((W.drewN q).setCell ⟨w.heap.size, 0, none⟩ (.bool s')).setCell ⟨w.heap.size, 1, none⟩ (.slice A' n' c')).setCell ⟨w.heap.size + 1, 0, none⟩ (.bool s)).setCell ⟨w.heap.size + 1, 1, none⟩ (.slice A n c)) (w.heap.size + 1) 99 #[.bool s, .slice A n c]) :=
    Lib.hid (put2 ((D1.far (p := ⟨w.heap.size, 0, none⟩) (by simp) _).far (p := ⟨w.heap.size, 1, none⟩) (by simp) _))
  have C2 : Hid (BlkIs (((((W.drewN q).setCell ⟨w.heap.size, 0, none⟩ (.bool s')).setCell ⟨w.heap.size, 1, none⟩ (.slice A' n' c')).setCell ⟨w.heap.size + 1, 0, none⟩ (.bool s)).setCell ⟨w.heap.size + 1, 1, none⟩ (.slice A n c)) (w.heap.size + 1 + 1) 99 #[.bool false, .slice none 0 0]) :=
    Lib.hid ((((D2.far (p := ⟨w.heap.size, 0, none⟩) (by simp; omega) _).far (p := ⟨w.heap.size, 1, none⟩) (by simp; omega) _).far (p := ⟨w.heap.size + 1, 0, none⟩) (by simp) _).far (p := ⟨w.heap.size + 1, 1, none⟩) (by simp) _)
  clear D0 D1 D2
  generalize (((((W.drewN q).setCell ⟨w.heap.size, 0, none⟩ (.bool s')).setCell ⟨w.heap.size, 1, none⟩ (.slice A' n' c')).setCell ⟨w.heap.size + 1, 0, none⟩ (.bool s)).setCell ⟨w.heap.size + 1, 1, none⟩ (.slice A n c)) = V at *
  obtain ⟨p20, p21, f20, f21, l2⟩ := C2.out.two
  obtain ⟨r00, r01, _, _, _⟩ := C0.out.two
  obtain ⟨r10, r11, _, _, _⟩ := C1.out.two
  have HMW := Lib.hid (HM.out V.drew hbV.drew)
  clear HM
  go_region_law (go_simp; go_at_call 158; refine HMW.out.mono ?_; rintro e w2 ⟨A2, n2, c2, rfl, hs2, hb2, hf2⟩; obtain ⟨q00, q01, _, _, _⟩ := (C0.out.drew.below hb2).two; obtain ⟨q20, q21, g20, g21, _⟩ := (C2.out.drew.below hb2).two)
  all_goals go_wp2
  all_goals
    have hfin := put2 (u' := .bool s') (v' := .slice A2 n2 c2) (C2.out.drew.below hb2)
    have hbz : Below w.heap.size w ((w2.setCell ⟨w.heap.size + 1 + 1, 0, none⟩ (.bool s')).setCell ⟨w.heap.size + 1 + 1, 1, none⟩ (.slice A2 n2 c2)) :=
      ((hbV.drew.trans (hb2.mono hbV.drew.size)).setCell (p := ⟨w.heap.size + 1 + 1, 0, none⟩) (by simp; omega) _).setCell (p := ⟨w.heap.size + 1 + 1, 1, none⟩) (by simp; omega) _
    have hslz : Sl ((w2.setCell ⟨w.heap.size + 1 + 1, 0, none⟩ (.bool s')).setCell ⟨w.heap.size + 1 + 1, 1, none⟩ (.slice A2 n2 c2)) .u32 A2 n2 c2 (Dec.limbs 1000000000 (b - a)) :=
      (hs2.far (p := ⟨w.heap.size + 1 + 1, 0, none⟩) (fun b o e => by have := hf2 b o e; show b ≠ w.heap.size + 1 + 1; have : V.drew.heap.size = V.heap.size := rfl; omega) _).far (p := ⟨w.heap.size + 1 + 1, 1, none⟩) (fun b o e => by have := hf2 b o e; show b ≠ w.heap.size + 1 + 1; have : V.drew.heap.size = V.heap.size := rfl; omega) _
    generalize ((w2.setCell ⟨w.heap.size + 1 + 1, 0, none⟩ (.bool s')).setCell ⟨w.heap.size + 1 + 1, 1, none⟩ (.slice A2 n2 c2)) = Z at *
    obtain ⟨z0, z1, _, _, _⟩ := hfin.two
    refine bodyPost_ret (v := .agg #[.bool s', .slice A2 n2 c2]) ?_ rfl ⟨s', b - a, A2, n2, c2, rfl, hslz, by rw [← hslz.len]; exact hl, HV.out, hbz⟩
    simp [results, Tryz.results141, go_sem, z0, z1]
end Go.Proofs.YtgphkgmhcmffnaaGreatDoor
/- number.Add, Subtract, Multiply. -/
namespace Go.Proofs.YtgphkgmhcmffnaaGreatDoor
open Go.RowKit

theorem dval_lt (l : List UInt8) : (Dec.dval l).natAbs < 10 ^ (l.length) ∨ Dec.dval l = 0 := by
  unfold Dec.dval
  cases hd : Dec.isDec l with
  | false => right; simp
  | true =>
    by_cases h0 : l = [48]
    · right; subst h0; decide
    · left
      obtain ⟨h1, _⟩ := (Dec.isDec_iff h0).1 hd
      have h2 := Dec.nval_lt _ h1
      have h3 : 10 ^ (Dec.mag l).length ≤ 10 ^ l.length := Nat.pow_le_pow_right (by omega) (Dec.mag_length_le l)
      simp only [if_true]
      split <;> omega
theorem dval_lt18 {l : List UInt8} {k : Nat} (h : l.length ≤ k) : (Dec.dval l).natAbs < 10 ^ k := by
  have h3 : 10 ^ l.length ≤ 10 ^ k := Nat.pow_le_pow_right (by omega) h
  have h4 : 0 < 10 ^ k := Nat.pow_pos (by omega)
  rcases dval_lt l with h1 | h1
  · omega
  · rw [h1]; simpa using h4
theorem add_any (x y : Int) (A A' : Option Addr) (n n' c c' : Nat) (w : World) (hx : Sl w .u32 A n c (Dec.limbs 1000000000 x.natAbs)) (hy : Sl w .u32 A' n' c' (Dec.limbs 1000000000 y.natAbs)) (hn : n ≤ 10000000) (hn' : n' ≤ 10000000) :
    Calls Tryz.prog 141 #[.agg #[.bool (decide (x < 0)), .slice A n c], .agg #[.bool (decide (y < 0)), .slice A' n' c']] w (RetSg (n + n' + 1) (x + y) w) := by
  by_cases h1 : x < 0 <;> by_cases h2 : y < 0
  · rw [decide_eq_true h1, decide_eq_true h2]
    exact add_same true A A' n n' c c' _ _ _ w hx hy hn hn' (Lib.hid (by simp; omega))
  · rw [decide_eq_true h1, decide_eq_false h2]
    rcases Nat.lt_or_ge x.natAbs y.natAbs with h | h
    · exact add_lt true false A A' n n' c c' _ _ _ w hx hy hn hn' rfl h (Lib.hid (by simp; omega))
    · exact add_ge true false A A' n n' c c' _ _ _ w hx hy hn hn' rfl h (Lib.hid (by simp; omega))
  · rw [decide_eq_false h1, decide_eq_true h2]
    rcases Nat.lt_or_ge x.natAbs y.natAbs with h | h
    · exact add_lt false true A A' n n' c c' _ _ _ w hx hy hn hn' rfl h (Lib.hid (by simp; omega))
    · exact add_ge false true A A' n n' c c' _ _ _ w hx hy hn hn' rfl h (Lib.hid (by simp; omega))
  · rw [decide_eq_false h1, decide_eq_false h2]
    exact add_same false A A' n n' c c' _ _ _ w hx hy hn hn' (Lib.hid (by simp; omega))

set_option maxHeartbeats 1000000 in
theorem addN_any (a b : List UInt8) (w : World) (ha : a.length ≤ 2500000) (hb : b.length ≤ 2500000) (ht : Tab w) :
    Calls Tryz.prog 118 #[.string ⟨a.toArray⟩, .string ⟨b.toArray⟩] w (RetStr (Lib.itoa (Dec.dval a + Dec.dval b)) w) := by
  by_cases hs : (a.length : Int) ≤ 18 ∧ (b.length : Int) ≤ 18 ∧ Dec.isDec a = true ∧ Dec.isDec b = true
  · obtain ⟨h1, h2, h3, h4⟩ := hs
    have HS := Lib.hid (short_yes a b 18 w (by omega) h1 h2 h3 h4)
    have hba := dval_lt18 (l := a) (k := 18) (by omega)
    have hbb := dval_lt18 (l := b) (k := 18) (by omega)
    have HF : Hid (∀ w', Tab w' → Calls Tryz.prog 140 #[.int .i64 (Dec.dval a + Dec.dval b), .int .i64 10] w' fun e w'' => e = .returned (.string ⟨(Lib.itoa (Dec.dval a + Dec.dval b)).toArray⟩) ∧ Below w'.heap.size w' w'') := fun w' ht' => formatInt_any _ w' ht' (by omega) (by omega)
    clear h3 h4
    generalize Dec.dval a = x at *
    generalize Dec.dval b = y at *
    have b1 : x ≤ 1000000000000000000 := by omega
    have b2 : -1000000000000000000 ≤ x := by omega
    have b3 : y ≤ 1000000000000000000 := by omega
    have b4 : -1000000000000000000 ≤ y := by omega
    clear hba hbb
    go_enter Tryz.func118, Tryz.ntmps118
    go_wp2_with fail
    refine HS.out.mono ?_
    rintro e w1 ⟨rfl, hb1⟩
    go_wp2_with fail
    refine (HF.out _ (ht.below hb1)).mono ?_
    rintro e w2 ⟨rfl, hb2⟩
    go_wp2
    go_ret
    exact ⟨rfl, hb1.trans (hb2.mono hb1.size)⟩
  · have HS := Lib.hid (short_no a b 18 w ha hb hs)
    have HP1 : Hid (∀ w', Calls Tryz.prog 142 #[.string ⟨a.toArray⟩] w' (RetInt (a.length + 1) (Dec.dval a) w')) := fun w' => parse_any a w' ha
    have HP2 : Hid (∀ w', Calls Tryz.prog 142 #[.string ⟨b.toArray⟩] w' (RetInt (b.length + 1) (Dec.dval b) w')) := fun w' => parse_any b w' hb
    clear hs
    generalize Dec.dval a = x at *
    generalize Dec.dval b = y at *
    go_enter Tryz.func118, Tryz.ntmps118
    go_wp2_with fail
    refine HS.out.mono ?_
    rintro e w' ⟨rfl, rfl⟩
    go_wp2_with fail
    refine (HP1.out _).mono ?_
    rintro e w1 ⟨A1, n1, c1, rfl, hs1, hn1, hb1⟩
    go_wp2_with fail
    refine (HP2.out _).mono ?_
    rintro e w2 ⟨A2, n2, c2, rfl, hs2, hn2, hb2⟩
    have hbw2 := hb1.trans (hb2.mono hb1.size)
    go_wp2_with fail
    refine (add_any x y A1 A2 n1 n2 c1 c2 _ (hs1.below hb2) hs2 (by omega) (by omega)).mono ?_
    rintro e w3 ⟨s, m, A3, n3, c3, rfl, hs3, hn3, hv3, hb3⟩
    have hbw3 := hbw2.trans (hb3.mono hbw2.size)
    have HV := Lib.hid hv3
    clear hv3
    go_wp2_with fail
    refine (string_any s A3 n3 c3 m _ hs3 (by omega) (ht.below hbw3)).mono ?_
    rintro e w4 ⟨rfl, hb4⟩
    rw [numStr_eq HV.out]
    go_wp2
    go_ret
    exact ⟨rfl, hbw3.trans (hb4.mono hbw3.size)⟩
theorem itoa_length_any (v : Int) {k : Nat} (hk : 1 ≤ k) (h : v.natAbs < 10 ^ k) : (Lib.itoa v).length ≤ k + 1 := by
  have h1 := Dec.decDigits_length_le hk h
  by_cases hv : v < 0
  · rw [itoa_natNeg hv, List.length_cons]; omega
  · rw [itoa_natPos (by omega)]; omega
theorem itoa_neg_length (l : List UInt8) : (Lib.itoa (-(Dec.dval l))).length ≤ l.length + 2 := by
  have := itoa_length_any (-(Dec.dval l)) (k := l.length + 1) (by omega) (by rw [Int.natAbs_neg]; exact dval_lt18 (by omega))
  omega
theorem mul_sign (x y : Int) : (if (decide (x < 0)) != (decide (y < 0)) then -((x.natAbs * y.natAbs : Nat) : Int) else ((x.natAbs * y.natAbs : Nat) : Int)) = x * y := by
  rw [← Int.natAbs_mul]
  by_cases h1 : x < 0 <;> by_cases h2 : y < 0
  · have := Int.mul_pos_of_neg_of_neg h1 h2
    simp [h1, h2]; omega
  · have : x * y ≤ 0 := Int.mul_nonpos_of_nonpos_of_nonneg (by omega) (by omega)
    simp [h1, h2]; omega
  · have : x * y ≤ 0 := Int.mul_nonpos_of_nonneg_of_nonpos (by omega) (by omega)
    simp [h1, h2]; omega
  · have : 0 ≤ x * y := Int.mul_nonneg (by omega) (by omega)
    simp [h1, h2]; omega
theorem mul9 {x y : Int} (hx : x.natAbs < 10 ^ 9) (hy : y.natAbs < 10 ^ 9) : -1000000000000000000 ≤ x * y ∧ x * y ≤ 1000000000000000000 := by
  have h : (x * y).natAbs ≤ 10 ^ 9 * 10 ^ 9 := by rw [Int.natAbs_mul]; exact Nat.mul_le_mul (by omega) (by omega)
  omega
theorem length_limbs_mul {a b n n' : Nat} (h : (Dec.limbs 1000000000 a).length = n) (h' : (Dec.limbs 1000000000 b).length = n') : (Dec.limbs 1000000000 (a * b)).length ≤ n + n' := by
  apply Dec.limbs_lt_length (by omega)
  rw [Nat.pow_add]
  have h1 := limbs_lt h
  have h2 := limbs_lt h'
  rcases Nat.eq_zero_or_pos b with e | e
  · subst e; rw [Nat.mul_zero]; exact Nat.mul_pos (Nat.pow_pos (by omega)) (Nat.pow_pos (by omega))
  · exact Nat.mul_lt_mul'' h1 h2
end Go.Proofs.YtgphkgmhcmffnaaGreatDoor
/- number.Multiply. -/
namespace Go.Proofs.YtgphkgmhcmffnaaGreatDoor
open Go.RowKit

theorem two_blocks (w : World) (T : TypeId) (u0 v0 u1 v1 : Value) :
    Hid (BlkIs ((w.alloc (.cells #[u0, v0] T)).alloc (.cells #[u1, v1] T)) w.heap.size T #[u0, v0]) ∧ Hid (BlkIs ((w.alloc (.cells #[u0, v0] T)).alloc (.cells #[u1, v1] T)) (w.heap.size + 1) T #[u1, v1]) ∧ Below w.heap.size w ((w.alloc (.cells #[u0, v0] T)).alloc (.cells #[u1, v1] T)) := by
  refine ⟨Lib.hid ((BlkIs.new w T _).alloc _), Lib.hid ?_, ((Below.refl _ _).alloc (Nat.le_refl _) _).alloc (by simp) _⟩
  have := BlkIs.new (w.alloc (.cells #[u0, v0] T)) T #[u1, v1]
  simpa using this

set_option maxHeartbeats 2000000 in
set_option maxRecDepth 100000 in
theorem mulN_any (a b : List UInt8) (w : World) (ha : a.length ≤ 2500000) (hb : b.length ≤ 2500000) (ht : Tab w) :
    Calls Tryz.prog 120 #[.string ⟨a.toArray⟩, .string ⟨b.toArray⟩] w (RetStr (Lib.itoa (Dec.dval a * Dec.dval b)) w) := by
  by_cases hs : (a.length : Int) ≤ 9 ∧ (b.length : Int) ≤ 9 ∧ Dec.isDec a = true ∧ Dec.isDec b = true
  · obtain ⟨h1, h2, h3, h4⟩ := hs
    have HS := Lib.hid (short_yes a b 9 w (by omega) h1 h2 h3 h4)
    have hba := dval_lt18 (l := a) (k := 9) (by omega)
    have hbb := dval_lt18 (l := b) (k := 9) (by omega)
    obtain ⟨m1, m2⟩ := mul9 hba hbb
    have HF : Hid (∀ w', Tab w' → Calls Tryz.prog 140 #[.int .i64 (Dec.dval a * Dec.dval b), .int .i64 10] w' fun e w'' => e = .returned (.string ⟨(Lib.itoa (Dec.dval a * Dec.dval b)).toArray⟩) ∧ Below w'.heap.size w' w'') := fun w' ht' => formatInt_any _ w' ht' (by omega) (by omega)
    clear h3 h4 hba hbb
    generalize Dec.dval a = x at *
    generalize Dec.dval b = y at *
    go_enter Tryz.func120, Tryz.ntmps120
    go_wp2_with fail
    refine HS.out.mono ?_
    rintro e w1 ⟨rfl, hb1⟩
    go_wp2_with fail
    refine (HF.out _ (ht.below hb1)).mono ?_
    rintro e w2 ⟨rfl, hb2⟩
    go_wp2
    go_ret
    exact ⟨rfl, hb1.trans (hb2.mono hb1.size)⟩
  · have HS := Lib.hid (short_no a b 9 w ha hb hs)
    have HP1 : Hid (∀ w', Calls Tryz.prog 142 #[.string ⟨a.toArray⟩] w' (RetInt (a.length + 1) (Dec.dval a) w')) := fun w' => parse_any a w' ha
    have HP2 : Hid (∀ w', Calls Tryz.prog 142 #[.string ⟨b.toArray⟩] w' (RetInt (b.length + 1) (Dec.dval b) w')) := fun w' => parse_any b w' hb
    clear hs
    generalize Dec.dval a = x at *
    generalize Dec.dval b = y at *
    have hms : (if (!(decide (x < 0) == decide (y < 0))) = true then -((x.natAbs * y.natAbs : Nat) : Int) else ((x.natAbs * y.natAbs : Nat) : Int)) = x * y := mul_sign x y
    obtain ⟨s, hsd⟩ : ∃ s, s = decide (x < 0) := ⟨_, rfl⟩
    obtain ⟨s', hsd'⟩ : ∃ s', s' = decide (y < 0) := ⟨_, rfl⟩
    rw [← hsd, ← hsd'] at hms
    have HSD := Lib.hid hsd
    have HSD' := Lib.hid hsd'
    clear hsd hsd'
    obtain ⟨z, hz⟩ : ∃ z, z = (!(s == s')) := ⟨_, rfl⟩
    rw [← hz] at hms
    have HMS := Lib.hid hms
    have hz' : (!(s == s')) = z := hz.symm
    clear hz hms
    go_enter Tryz.func120, Tryz.ntmps120
    go_wp2_with fail
    refine HS.out.mono ?_
    rintro e w' ⟨rfl, rfl⟩
    go_wp2_with fail
    refine (HP1.out _).mono ?_
    rintro e w1 ⟨A1, n1, c1, rfl, hs1, hn1, hb1⟩
    rw [← HSD.out]
    go_wp2_with fail
    refine (HP2.out _).mono ?_
    rintro e w2 ⟨A2, n2, c2, rfl, hs2, hn2, hb2⟩
    rw [← HSD'.out]
    have hbw2 := hb1.trans (hb2.mono hb1.size)
    go_wp2_with fail
    obtain ⟨B0, B1, hbW⟩ := two_blocks w2 99 (.bool s) (.slice A1 n1 c1) (.bool s') (.slice A2 n2 c2)
    generalize ((w2.alloc (.cells #[.bool s, .slice A1 n1 c1] 99)).alloc (.cells #[.bool s', .slice A2 n2 c2] 99)) = W at *
    have hbwW := hbw2.trans (hbW.mono hbw2.size)
    obtain ⟨p00, p01, _, _, l0⟩ := B0.out.two
    obtain ⟨p10, p11, _, _, l1⟩ := B1.out.two
    have hsA := (hs1.below hb2).below hbW
    have hsB := hs2.below hbW
    have hT := times_any A1 A2 n1 n2 c1 c2 _ _ W.drew hsA.drew1 hsB.drew1 (by omega) (by omega) (Dec.limbs_small (by omega) _) (Dec.limbs_small (by omega) _)
    rw [Dec.lval_limbs (by omega), Dec.lval_limbs (by omega)] at hT
    have HT := Lib.hid hT
    have hlm := length_limbs_mul hsA.len hsB.len
    clear hT
    go_region_held3 (fun w' => w'.cell? ⟨w2.heap.size, 0, none⟩ = some (.bool s) ∧ w'.cell? ⟨w2.heap.size, 1, none⟩ = some (.slice A1 n1 c1) ∧ w'.cell? ⟨w2.heap.size + 1, 0, none⟩ = some (.bool s') ∧ w'.cell? ⟨w2.heap.size + 1, 1, none⟩ = some (.slice A2 n2 c2)) (go_keep)
      (first | (go_at_call 144; refine HT.out.mono ?_; rintro e w3 ⟨A3, n3, c3, rfl, hs3, hb3, hf3⟩; obtain ⟨q00, q01, _, _, _⟩ := (B0.out.drew.below hb3).two; obtain ⟨q10, q11, _, _, _⟩ := (B1.out.drew.below hb3).two; have hbw3 := hbwW.drew.trans (hb3.mono hbwW.drew.size); have HS3 := Lib.hid (string_any z A3 n3 c3 (x.natAbs * y.natAbs) w3 hs3 (by rw [← hs3.len]; omega) (ht.below hbw3))) | (go_at_call 143; refine HS3.out.mono ?_; rintro e w4 ⟨rfl, hb4⟩; obtain ⟨t00, t01, _, _, _⟩ := ((B0.out.drew.below hb3).below hb4).two; obtain ⟨t10, t11, _, _, _⟩ := ((B1.out.drew.below hb3).below hb4).two))
    go_wp2
    go_ret
    exact ⟨by rw [← numStr_eq HMS.out]; rfl, hbw3.trans (hb4.mono hbw3.size)⟩
end Go.Proofs.YtgphkgmhcmffnaaGreatDoor
