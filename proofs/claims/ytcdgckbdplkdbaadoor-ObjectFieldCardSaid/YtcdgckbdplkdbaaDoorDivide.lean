/- number.divide: quotient and remainder of two absolute values. -/
import Derived.Test.YtcdgckbdplkdbaaDoorString
import Derived.Test.YtcdgckbdplkdbaaDoorCompare
import Derived.Deep.RegionHeld3
namespace Go.Proofs.YtcdgckbdplkdbaaDoor
open Go.RowKit

theorem Sl.one (w : World) (k : IntKind) (E : TypeId) (y : Nat) : Sl (w.alloc (.cells #[.int k (y : Int)] E)) k (some ⟨w.heap.size, 0, none⟩) 1 1 [y] :=
  ⟨rfl, Nat.le_refl _, fun _ => ⟨w.heap.size, 0, rfl, by simp, fun i hi => by
    obtain rfl : i = 0 := by omega
    exact (BlkIs.new w E #[.int k (y : Int)]).cell 0⟩⟩
def GtB (a b : Nat) (w : World) (e : Ending) (w' : World) : Prop := e = .returned (.bool (decide (b < a))) ∧ Below w.heap.size w w'

theorem Sl.drew1 {w : World} {k : IntKind} {A : Option Addr} {n c : Nat} {l : List Nat} (h : Sl w k A n c l) : Sl w.drew k A n c l := ⟨h.len, h.cap, h.cells⟩
theorem Sl.alloc {w : World} {k : IntKind} {A : Option Addr} {n c : Nat} {l : List Nat} (h : Sl w k A n c l) (o : Obj) : Sl (w.alloc o) k A n c l := h.below ((Below.refl _ _).alloc (Nat.le_refl _) _)
theorem keep2 {w w' : World} {p q : Nat} {u v : Value} (hb : Below w.heap.size w w') (hp : w.cell? ⟨p, 0, none⟩ = some u) (hq : w.cell? ⟨q, 0, none⟩ = some v) : w'.cell? ⟨p, 0, none⟩ = some u ∧ w'.cell? ⟨q, 0, none⟩ = some v :=
  ⟨(hb.cell (p := ⟨p, 0, none⟩) (World.block_lt_of_cell? _ _ hp)).trans hp, (hb.cell (p := ⟨q, 0, none⟩) (World.block_lt_of_cell? _ _ hq)).trans hq⟩
theorem ordI_pos (a b : Nat) : decide (0 < ordI a b) = decide (b < a) := by
  rcases Nat.lt_trichotomy a b with h | h | h
  · rw [ordI_lt h, decide_eq_false (by omega), decide_eq_false (by omega)]
  · subst h; rw [ordI_eq, decide_eq_false (by omega), decide_eq_false (by omega)]
  · rw [ordI_gt h, decide_eq_true (by omega), decide_eq_true (by omega)]
theorem limbs_lt {b n : Nat} (h : (Dec.limbs 1000000000 b).length = n) : b < 1000000000 ^ n := by
  have := Dec.lval_lt (B := 1000000000) (by omega) (Dec.limbs_small (by omega) b)
  rwa [Dec.lval_limbs (by omega), h] at this
theorem length_mul_small {b k n : Nat} (h : (Dec.limbs 1000000000 b).length = n) (hk : k < 1000000000) : (Dec.limbs 1000000000 (b * k)).length ≤ n + 1 := by
  apply Dec.limbs_lt_length (by omega)
  have h1 := limbs_lt h
  rw [Nat.pow_succ]
  rcases Nat.eq_zero_or_pos k with e | e
  · subst e; rw [Nat.mul_zero]; exact Nat.mul_pos (Nat.pow_pos (by omega)) (by omega)
  · exact Nat.mul_lt_mul'' h1 hk

set_option maxHeartbeats 1000000 in
theorem closure_any (pb pr : Nat) (A A' : Option Addr) (n n' c c' b r k : Nat) (w : World) (hpb : w.cell? ⟨pb, 0, none⟩ = some (.slice A n c)) (hpr : w.cell? ⟨pr, 0, none⟩ = some (.slice A' n' c'))
    (hb : Sl w .u32 A n c (Dec.limbs 1000000000 b)) (hr : Sl w .u32 A' n' c' (Dec.limbs 1000000000 r)) (hn : n ≤ 10000000) (hn' : n' ≤ 10000000) (hk : k < 1000000000) :
    Calls Tryd.prog 69 #[.int .i64 (k : Int), .pointer (some ⟨pb, 0, none⟩), .pointer (some ⟨pr, 0, none⟩)] w (GtB (b * k) r w) := by
  have hlb := World.block_lt_of_cell? _ _ hpb
  have hlr := World.block_lt_of_cell? _ _ hpr
  have hbW : Below w.heap.size w (w.alloc (.cells #[.int .u32 (k : Int)] 67)).drew := ((Below.refl _ _).alloc (Nat.le_refl _) _).drew
  have hT := times_any A (some ⟨w.heap.size, 0, none⟩) n 1 c 1 _ [k] (w.alloc (.cells #[.int .u32 (k : Int)] 67)).drew ((hb.alloc _).drew1) ((Sl.one w .u32 67 k).drew1) (by omega) (by omega) (Dec.limbs_small (by omega) b) (Dec.Small.cons hk Dec.Small.nil)
  rw [Dec.lval_limbs (by omega), show Dec.lval 1000000000 [k] = k by simp [Dec.lval]] at hT
  have HT := Lib.hid hT
  clear hT
  have HLb := Lib.hid hb.len
  have hw32 : IntKind.u32.wrap (k : Int) = k := by rw [IntKind.wrap_u32]; omega
  go_enter Tryd.func69, Tryd.ntmps69
  go_wp2
  go_region_held3 (fun w' => w'.cell? ⟨pb, 0, none⟩ = some (.slice A n c) ∧ w'.cell? ⟨pr, 0, none⟩ = some (.slice A' n' c')) (go_keep)
    (first | (go_at_call 44; refine HT.out.mono ?_; rintro e w1 ⟨A1, n1, c1, rfl, hs1, hb1, _⟩; have hbw1 := hbW.trans (hb1.mono hbW.size); obtain ⟨q1, q2⟩ := keep2 hbw1 hpb hpr; have HC := Lib.hid (compare_any 1000000000 (by omega) A1 A' n1 n' c1 c' (b * k) r w1 hs1 (hr.below hbw1) (by have := length_mul_small HLb.out hk; rw [hs1.len] at this; omega) (by omega))) | (go_at_call 65; refine HC.out.mono ?_; rintro e w2 ⟨rfl, q, rfl⟩))
  go_wp2
  go_ret
  exact ⟨by rw [← ordI_pos]; rfl, below_drewN hbw1 _⟩

def RetNat (k : IntKind) (v : Nat) (w : World) (e : Ending) (w' : World) : Prop := e = .returned (.int k (v : Int)) ∧ Below w.heap.size w w'
theorem div_le_iff' {r b h : Nat} (hb : 0 < b) : r < b * h ↔ r / b < h := by
  rw [Nat.div_lt_iff_lt_mul hb, Nat.mul_comm]

set_option maxHeartbeats 1000000 in
theorem search_any (pb pr : Nat) (A A' : Option Addr) (n n' c c' b r : Nat) (w : World) (hpb : w.cell? ⟨pb, 0, none⟩ = some (.slice A n c)) (hpr : w.cell? ⟨pr, 0, none⟩ = some (.slice A' n' c'))
    (hb : Sl w .u32 A n c (Dec.limbs 1000000000 b)) (hr : Sl w .u32 A' n' c' (Dec.limbs 1000000000 r)) (hn : n ≤ 10000000) (hn' : n' ≤ 10000000) (hb0 : 0 < b) (hq : r / b < 1000000000) :
    Calls Tryd.prog 68 #[.int .i64 1000000000, .func (.func 69) #[] #[.pointer (some ⟨pb, 0, none⟩), .pointer (some ⟨pr, 0, none⟩)]] w (RetNat .i64 (r / b + 1) w) := by
  have HQ : Hid (∀ h, decide (r < b * h) = decide (r / b < h)) := fun h => by rw [decide_eq_decide]; exact div_le_iff' hb0
  generalize r / b = d at hq HQ
  go_enter Tryd.func68, Tryd.ntmps68
  go_wp2
  go_loopw [5, 6] (fun s5 s6 wr => ∃ lo hi : Nat, s5 = .int .i64 lo ∧ s6 = .int .i64 hi ∧ lo ≤ d + 1 ∧ d + 1 ≤ hi ∧ hi ≤ 1000000000 ∧ Below w.heap.size w wr) (fun s5 s6 _ => (intOf s6 - intOf s5).toNat)
  case atStart => exact ⟨0, 1000000000, rfl, rfl, by omega, by omega, by omega, Below.refl _ _⟩
  case round =>
    obtain ⟨lo, hi, rfl, rfl, h1, h2, h3, hbr⟩ := hrel
    by_cases hlt : lo < hi
    · obtain ⟨p1, p2⟩ := keep2 hbr hpb hpr
      have hc := closure_any pb pr A A' n n' c c' b r ((lo + hi) / 2) wr p1 p2 (hb.below hbr) (hr.below hbr) hn hn' (by omega)
      unfold GtB at hc
      rw [HQ.out, show (((lo + hi) / 2 : Nat) : Int) = ((lo : Int) + (hi : Int)) / 2 by omega] at hc
      by_cases hm : d < (lo + hi) / 2
      · rw [decide_eq_true hm] at hc
        have HC := Lib.hid hc
        clear hc
        go_wp2_with (go_at_call 69; refine HC.out.mono ?_; rintro e w1 ⟨rfl, hb1⟩)
        go_roundw
        case rel => exact ⟨lo, (lo + hi) / 2, rfl, by go_num, h1, by omega, by omega, hbr.trans (hb1.mono hbr.size)⟩
        case measure => simp only [intOf]; omega
      · rw [decide_eq_false hm] at hc
        have HC := Lib.hid hc
        clear hc
        go_wp2_with (go_at_call 69; refine HC.out.mono ?_; rintro e w1 ⟨rfl, hb1⟩)
        go_roundw
        case rel => exact ⟨(lo + hi) / 2 + 1, hi, by go_num, rfl, by omega, h2, h3, hbr.trans (hb1.mono hbr.size)⟩
        case measure => simp only [intOf]; omega
    · have e : lo = d + 1 := by omega
      subst e
      go_wp2
      go_ret
      exact ⟨rfl, hbr⟩
end Go.Proofs.YtcdgckbdplkdbaaDoor
