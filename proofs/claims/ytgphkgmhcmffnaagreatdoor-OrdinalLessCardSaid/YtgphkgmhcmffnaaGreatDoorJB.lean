/- A slice of integers that reads as a list of natural numbers: nil, empty or not. -/
import Derived.Test.YtgphkgmhcmffnaaGreatDoorJA
import Derived.WalkKit
import Derived.WalkSpells
import Derived.Test.YtgphkgmhcmffnaaGreatDoorProg
import Derived.Deep.QuietTactic
import Derived.BigQuiet
import Derived.OwnWalk
namespace Go.Proofs.YtgphkgmhcmffnaaGreatDoor
open Go.RowKit

/-- the slice value '.slice A n c' reads as the list l of numbers of kind k -/
structure Sl (w : World) (k : IntKind) (A : Option Addr) (n c : Nat) (l : List Nat) : Prop where
  len : l.length = n
  cap : n ≤ c
  cells : 0 < n → ∃ b o, A = some ⟨b, o, none⟩ ∧ b < w.heap.size ∧ ∀ i, i < n → w.cell? ⟨b, o + i, none⟩ = some (.int k (l.getD i 0 : Nat))

section
variable {w w' : World} {k : IntKind} {A : Option Addr} {n c : Nat} {l : List Nat}
theorem Sl.nil (w : World) (k : IntKind) (A : Option Addr) (c : Nat) : Sl w k A 0 c [] := ⟨rfl, Nat.zero_le _, fun h => absurd h (by omega)⟩
theorem Sl.below (h : Sl w k A n c l) (hb : Below w.heap.size w w') : Sl w' k A n c l :=
  ⟨h.len, h.cap, fun hn => by
    obtain ⟨b, o, e, hlt, hc⟩ := h.cells hn
    exact ⟨b, o, e, Nat.lt_of_lt_of_le hlt hb.size, fun i hi => (hb.cell (p := ⟨b, o + i, none⟩) hlt).trans (hc i hi)⟩⟩
theorem Sl.take (h : Sl w k A n c l) {m : Nat} (hm : m ≤ n) : Sl w k A m c (l.take m) :=
  ⟨by rw [List.length_take, h.len]; omega, Nat.le_trans hm h.cap, fun h0 => by
    obtain ⟨b, o, e, hlt, hc⟩ := h.cells (by omega)
    refine ⟨b, o, e, hlt, fun i hi => ?_⟩
    rw [hc i (by omega), List.getD_eq_getElem?_getD, List.getD_eq_getElem?_getD, List.getElem?_take_of_lt hi]⟩
theorem Sl.drew (h : Sl w k A n c l) (m : Nat) : Sl (w.drewN m) k A n c l := ⟨h.len, h.cap, h.cells⟩
end
theorem below_drewN {B : Nat} {a w : World} (h : Below B a w) (n : Nat) : Below B a (w.drewN n) := ⟨h.os, h.tape, h.output, h.size, h.block⟩
theorem ex_drew2 (w : World) (a b : Nat) : ∃ k, (w.drewN a).drewN b = w.drewN k := ⟨a + b, by rw [World.drewN_drewN]⟩
theorem ex_drew3 (w : World) (a b c : Nat) : ∃ k, ((w.drewN a).drewN b).drewN c = w.drewN k := ⟨a + b + c, by rw [World.drewN_drewN, World.drewN_drewN, Nat.add_assoc]⟩
/-- a call hands back a slice that reads as l; what lay there before stands -/
def RetSl (k : IntKind) (l : List Nat) (w : World) (e : Ending) (w' : World) : Prop := ∃ A n c, e = .returned (.slice A n c) ∧ Sl w' k A n c l ∧ Below w.heap.size w w' ∧ ∀ b o, A = some ⟨b, o, none⟩ → w.heap.size ≤ b
end Go.Proofs.YtgphkgmhcmffnaaGreatDoor
/- number.trim: the slice without the zero limbs at its end. -/
namespace Go.Proofs.YtgphkgmhcmffnaaGreatDoor
open Go.RowKit

theorem trimZ_take (l : List Nat) : l.take (Dec.trimZ l).length = Dec.trimZ l := by
  induction l using Dec.snoc_ind with
  | nil => rfl
  | snoc l c ih =>
    by_cases hc : c = 0
    · subst hc
      rw [Dec.trimZ_snoc_zero, List.take_append_of_le_length, ih]
      have := congrArg List.length ih
      rw [List.length_take] at this
      omega
    · rw [Dec.trimZ_snoc hc, List.take_length]
theorem trimZ_length_le (l : List Nat) : (Dec.trimZ l).length ≤ l.length := by
  have := congrArg List.length (trimZ_take l)
  rw [List.length_take] at this
  omega
theorem trimZ_step {l : List Nat} {m : Nat} (h0 : 0 < m) (hm : m ≤ l.length) (hz : l.getD (m - 1) 0 = 0) : Dec.trimZ (l.take (m - 1)) = Dec.trimZ (l.take m) := by
  obtain ⟨k, rfl⟩ : ∃ k, m = k + 1 := ⟨m - 1, by omega⟩
  rw [Nat.add_sub_cancel] at hz ⊢
  rw [List.take_succ_eq_append_getElem (by omega)]
  rw [List.getD_eq_getElem?_getD, List.getElem?_eq_getElem (by omega)] at hz
  simp only [Option.getD_some] at hz
  rw [hz, Dec.trimZ_snoc_zero]
theorem trimZ_stop {l : List Nat} {m : Nat} (h0 : 0 < m) (hm : m ≤ l.length) (hz : l.getD (m - 1) 0 ≠ 0) : Dec.trimZ (l.take m) = l.take m := by
  obtain ⟨k, rfl⟩ : ∃ k, m = k + 1 := ⟨m - 1, by omega⟩
  rw [Nat.add_sub_cancel] at hz
  rw [List.take_succ_eq_append_getElem (by omega)]
  rw [List.getD_eq_getElem?_getD, List.getElem?_eq_getElem (by omega)] at hz
  exact Dec.trimZ_snoc hz _
def sliceLen : Value → Nat
  | .slice _ m _ => m
  | _ => 0

set_option maxHeartbeats 400000 in
theorem trim_any (A : Option Addr) (n c : Nat) (l : List Nat) (w : World) (h : Sl w .u32 A n c l) (hn : n ≤ 1000000000) :
    Calls Tryz.prog 160 #[.slice A n c] w fun e w' => e = .returned (.slice A (Dec.trimZ l).length c) ∧ w = w' := by
  have hlen := h.len
  have hcap := h.cap
  go_enter Tryz.func160, Tryz.ntmps160
  go_wp2
  go_loop [0] (fun v => ∃ m : Nat, v = .slice A m c ∧ m ≤ n ∧ Dec.trimZ (l.take m) = Dec.trimZ l) (fun v => sliceLen v)
  case atStart => exact ⟨n, rfl, Nat.le_refl _, by rw [List.take_of_length_le (by omega)]⟩
  case round =>
    obtain ⟨m, rfl, hm, ht⟩ := hrel
    have HT := Lib.hid ht
    clear ht
    by_cases h0 : 0 < m
    · obtain ⟨b, o, rfl, hb, hc⟩ := h.cells (by omega)
      have hcm := hc (m - 1) (by omega)
      clear hc
      go_wp2
      · have hz : l.getD (m - 1) 0 = 0 := by simpa using ‹((l[m - 1]?.getD 0 : Nat) == (0 : Int)) = true›
        exact ⟨⟨m - 1, rfl, by omega, by rw [trimZ_step h0 (by omega) hz]; exact HT.out⟩, by simp only [sliceLen]; omega⟩
      · have hz : l.getD (m - 1) 0 ≠ 0 := by simpa using ‹((l[m - 1]?.getD 0 : Nat) == (0 : Int)) = false›
        go_ret
        refine ⟨?_, rfl⟩
        have e : (Dec.trimZ l).length = m := by
          rw [← HT.out, trimZ_stop h0 (by omega) hz, List.length_take]; omega
        rw [e]; rfl
    · go_wp2
      go_ret
      refine ⟨?_, rfl⟩
      have e : (Dec.trimZ l).length = m := by
        rw [← HT.out, show m = 0 by omega]; rfl
      rw [e]; rfl
/-- the trimmed slice reads as the limbs of the value -/
theorem Sl.trimmed {w : World} {k : IntKind} {A : Option Addr} {n c : Nat} {l : List Nat} (h : Sl w k A n c l) {B : Nat} (hB : 2 ≤ B) (hs : Dec.Small B l) :
    Sl w k A (Dec.trimZ l).length c (Dec.limbs B (Dec.lval B l)) := by
  have h1 := h.take (m := (Dec.trimZ l).length) (by rw [← h.len]; exact trimZ_length_le l)
  rw [trimZ_take] at h1
  rw [← Dec.trimZ_limbs hB l hs]
  exact h1
end Go.Proofs.YtgphkgmhcmffnaaGreatDoor
/- number.compare: compares the values of two lists of limbs. -/
namespace Go.Proofs.YtgphkgmhcmffnaaGreatDoor
open Go.RowKit

def ordI (a b : Nat) : Int := if a < b then -1 else if b < a then 1 else 0
theorem ordI_lt {a b : Nat} (h : a < b) : ordI a b = -1 := by simp [ordI, h]
theorem ordI_gt {a b : Nat} (h : b < a) : ordI a b = 1 := by simp [ordI, h]; omega
theorem ordI_eq (a : Nat) : ordI a a = 0 := by simp [ordI]

theorem drop_pred {x y : List Nat} {k : Nat} (h0 : 0 < k) (hk : k ≤ x.length) (hl : x.length = y.length) (hd : x.drop k = y.drop k) (he : x.getD (k - 1) 0 = y.getD (k - 1) 0) :
    x.drop (k - 1) = y.drop (k - 1) := by
  obtain ⟨m, rfl⟩ : ∃ m, k = m + 1 := ⟨k - 1, by omega⟩
  rw [Nat.add_sub_cancel] at he ⊢
  rw [List.drop_eq_getElem_cons (l := x) (i := m) (by omega), List.drop_eq_getElem_cons (l := y) (i := m) (by omega), hd]
  rw [List.getD_eq_getElem?_getD, List.getD_eq_getElem?_getD, List.getElem?_eq_getElem (by omega), List.getElem?_eq_getElem (by omega)] at he
  simp only [Option.getD_some] at he
  rw [he]
def Cmp (a b : Nat) (w : World) (e : Ending) (w' : World) : Prop := e = .returned (.int .i64 (ordI a b)) ∧ ∃ q, w' = w.drewN q

set_option maxHeartbeats 400000 in
theorem compare_same (B : Nat) (hB : 2 ≤ B) (A A' : Option Addr) (n c c' : Nat) (x y : List Nat) (w : World) (hx : Sl w .u32 A n c x) (hy : Sl w .u32 A' n c' y) (hn : n ≤ 1000000000)
    (hsx : Dec.Small B x) (hsy : Dec.Small B y) :
    Calls Tryz.prog 155 #[.slice A n c, .slice A' n c'] w (Cmp (Dec.lval B x) (Dec.lval B y) w) := by
  have hlx := hx.len
  have hly := hy.len
  have HX := Lib.hid hlx
  have HY := Lib.hid hly
  clear hlx hly
  go_enter Tryz.func155, Tryz.ntmps155
  go_wp2
  go_loopw [5] (fun i wr => ∃ k q : Nat, k ≤ n ∧ i = .int .i64 ((k : Int) - 1) ∧ Hid (x.drop k = y.drop k) ∧ wr = w.drewN q) (fun i _ => (intOf i + 1).toNat)
  case atStart => exact ⟨n, 0, Nat.le_refl _, rfl, (by rw [List.drop_of_length_le (by rw [HX.out]; exact Nat.le_refl _), List.drop_of_length_le (by rw [HY.out]; exact Nat.le_refl _)] : x.drop n = y.drop n), rfl⟩
  case round =>
    obtain ⟨k, q, hk, rfl, HD, rfl⟩ := hrel
    by_cases h0 : 0 < k
    · obtain ⟨b, o, rfl, hb, hc⟩ := hx.cells (by omega)
      obtain ⟨b', o', rfl, hb', hc'⟩ := hy.cells (by omega)
      have hcm := hc (k - 1) (by omega)
      have hcm' := hc' (k - 1) (by omega)
      clear hc hc' hb hb'
      have hi1 : (0 : Int) ≤ (k : Int) - 1 := by omega
      have hi2 : (k : Int) - 1 < n := by omega
      have hi3 : ((k : Int) - 1).toNat = k - 1 := by omega
      generalize hu : x.getD (k - 1) 0 = u at hcm
      generalize hv : y.getD (k - 1) 0 = v at hcm'
      have HU := Lib.hid hu
      have HV := Lib.hid hv
      clear hu hv
      rcases Nat.lt_trichotomy u v with hlt | heq | hgt
      · have e1 : ((u : Int) != v) = true := by rw [bne_iff_ne]; omega
        have e2 : decide ((u : Int) < v) = true := by simp; omega
        go_wp2
        go_quiet (fail)
        go_wp2
        go_quiet (fail)
        go_wp2
        go_ret
        refine ⟨?_, ex_drew3 _ _ _ _⟩
        rw [ordI_lt (Dec.lval_lt_of_top (i := k - 1) hsx hB (by rw [HX.out]; omega) (by rw [HX.out, HY.out]) (by rw [Nat.sub_add_cancel h0]; exact HD.out) (by rw [HU.out, HV.out]; exact hlt))]
        rfl
      · have e1 : ((u : Int) != v) = false := by rw [bne_eq_false_iff_eq]; omega
        go_wp2
        go_quiet (fail)
        go_wp2
        go_roundw
        case rel => exact ⟨k - 1, _, by omega, by go_num, drop_pred h0 (by rw [HX.out]; exact hk) (by rw [HX.out, HY.out]) HD.out (by rw [HU.out, HV.out, heq]), rfl⟩
        case measure => simp only [intOf]; omega
      · have e1 : ((u : Int) != v) = true := by rw [bne_iff_ne]; omega
        have e2 : decide ((u : Int) < v) = false := by simp; omega
        go_wp2
        go_quiet (fail)
        go_wp2
        go_quiet (fail)
        go_wp2
        go_ret
        refine ⟨?_, ex_drew3 _ _ _ _⟩
        rw [ordI_gt (Dec.lval_lt_of_top (i := k - 1) hsy hB (by rw [HY.out]; omega) (by rw [HX.out, HY.out]) (by rw [Nat.sub_add_cancel h0]; exact HD.out.symm) (by rw [HU.out, HV.out]; exact hgt))]
        rfl
    · have hk0 : k = 0 := by omega
      subst hk0
      go_wp2
      go_ret
      refine ⟨?_, _, rfl⟩
      have e : x = y := by simpa using HD.out
      rw [e, ordI_eq]
      rfl

set_option maxHeartbeats 400000 in
theorem compare_any (B : Nat) (hB : 2 ≤ B) (A A' : Option Addr) (n n' c c' a b : Nat) (w : World) (hx : Sl w .u32 A n c (Dec.limbs B a)) (hy : Sl w .u32 A' n' c' (Dec.limbs B b)) (hn : n ≤ 1000000000) (hn' : n' ≤ 1000000000) :
    Calls Tryz.prog 155 #[.slice A n c, .slice A' n' c'] w (Cmp a b w) := by
  rcases Nat.lt_trichotomy n n' with hlt | heq | hgt
  · have e1 : ((n : Int) != n') = true := by rw [bne_iff_ne]; omega
    have hv : a < b := Dec.lt_of_length_lt hB (by rw [hx.len, hy.len]; exact hlt)
    have HV := Lib.hid (ordI_lt hv)
    clear hv hx hy
    go_enter Tryz.func155, Tryz.ntmps155
    go_wp2
    go_ret
    refine ⟨?_, 0, rfl⟩
    rw [HV.out]
    rfl
  · subst heq
    have := compare_same B hB A A' n c c' _ _ w hx hy hn (Dec.limbs_small hB a) (Dec.limbs_small hB b)
    rwa [Dec.lval_limbs hB, Dec.lval_limbs hB] at this
  · have e1 : ((n : Int) != n') = true := by rw [bne_iff_ne]; omega
    have e2 : decide (n < n') = false := by simp; omega
    have hv : b < a := Dec.lt_of_length_lt hB (by rw [hx.len, hy.len]; exact hgt)
    have HV := Lib.hid (ordI_gt hv)
    clear hv hx hy
    go_enter Tryz.func155, Tryz.ntmps155
    go_wp2
    go_ret
    refine ⟨?_, 0, rfl⟩
    rw [HV.out]
    rfl
end Go.Proofs.YtgphkgmhcmffnaaGreatDoor
/- Rows of integers that a call itself has made: append of one element, make, stores; in words of lists of natural numbers. -/
namespace Go.Proofs.YtgphkgmhcmffnaaGreatDoor
open Go.RowKit

/-- the slice '.slice A n c' is the call's own (from block base on) and holds the numbers l -/
structure Own (w : World) (base : Nat) (E : TypeId) (k : IntKind) (A : Option Addr) (n c : Nat) (l : List Nat) : Prop where
  own : w.ownsRow base E 1 (.slice A n c) n (l.map fun x => Value.int k (x : Nat))

section
variable {w w' : World} {base : Nat} {E : TypeId} {k : IntKind} {A : Option Addr} {n c : Nat} {l : List Nat}
theorem Own.len (h : Own w base E k A n c l) : l.length = n := by have := h.own.1; simpa using this
theorem Own.nil (w : World) (base : Nat) (E : TypeId) (k : IntKind) : Own w base E k none 0 0 [] := ⟨World.ownsRow_nil w base E 1⟩
theorem Own.sl (h : Own w base E k A n c l) : Sl w k A n c l := by
  have hlen := h.len
  rcases h.own.2 with ⟨hv, hn⟩ | ⟨g, cap, cur, hv, hbg, hg, hnc, hcm, hcs, ht⟩
  · refine ⟨hlen, by omega, fun h0 => by omega⟩
  · simp only [Value.slice.injEq] at hv
    obtain ⟨rfl, _, rfl⟩ := hv
    refine ⟨hlen, hnc, fun _ => ⟨g, 0, rfl, ?_, fun i hi => ?_⟩⟩
    · rcases Nat.lt_or_ge g w.heap.size with hlt | hge
      · exact hlt
      · rw [Array.getElem?_eq_none hge] at hg; cases hg
    · have e : cur[i]? = some (Value.int k (l.getD i 0 : Nat)) := by
        have h1 : (cur.toList.take (n * 1))[i]? = (l.map fun x => Value.int k (x : Nat))[i]? := by rw [ht]
        rw [List.getElem?_take_of_lt (by omega), List.getElem?_map, List.getElem?_eq_getElem (l := l) (by omega)] at h1
        rw [List.getD_eq_getElem?_getD, List.getElem?_eq_getElem (by omega)]
        simpa using h1
      rw [Nat.zero_add]
      simp [World.cell?, hg, e]
/-- where something is held, it lies in a block of the call's own -/
theorem Own.at_ (h : Own w base E k A n c l) (hn : 0 < n) : ∃ g, A = some ⟨g, 0, none⟩ ∧ base ≤ g ∧ g < w.heap.size ∧ (∀ i, w.frozen? ⟨g, i, none⟩ = false) ∧ ∀ i, i < n → w.cell? ⟨g, i, none⟩ = some (.int k (l.getD i 0 : Nat)) := by
  obtain ⟨b, o, e, hb, hc⟩ := h.sl.cells hn
  rcases h.own.2 with ⟨hv, hn'⟩ | ⟨g, cap, cur, hv, hbg, hg, _⟩
  · omega
  · simp only [Value.slice.injEq] at hv
    obtain ⟨rfl, _, rfl⟩ := hv
    injection e with e
    injection e with e1 e2
    subst e1 e2
    exact ⟨g, rfl, hbg, hb, fun i => by simp [World.frozen?, hg], fun i hi => by have := hc i hi; rwa [Nat.zero_add] at this⟩
theorem Own.keep (h : Own w base E k A n c l) (hk : ∀ g, A = some ⟨g, 0, none⟩ → w'.heap[g]? = w.heap[g]?) : Own w' base E k A n c l := by
  refine ⟨h.own.1, ?_⟩
  rcases h.own.2 with hv | ⟨g, cap, cur, hv, hbg, hg, hr⟩
  · exact .inl hv
  · refine .inr ⟨g, cap, cur, hv, hbg, ?_, hr⟩
    simp only [Value.slice.injEq] at hv
    rw [hk g hv.1]; exact hg
theorem Own.lt (h : Own w base E k A n c l) {g : Nat} (e : A = some ⟨g, 0, none⟩) : base ≤ g ∧ g < w.heap.size := by
  rcases h.own.2 with ⟨hv, _⟩ | ⟨g', cap, cur, hv, hbg, hg, _⟩
  · simp only [Value.slice.injEq] at hv; rw [e] at hv; cases hv.1
  · simp only [Value.slice.injEq] at hv
    obtain ⟨rfl, _, rfl⟩ := hv
    injection e with e
    injection e with e1
    subst e1
    refine ⟨hbg, ?_⟩
    rcases Nat.lt_or_ge g' w.heap.size with hlt | hge
    · exact hlt
    · rw [Array.getElem?_eq_none hge] at hg; cases hg
theorem Own.below (h : Own w base E k A n c l) (hb : Below w.heap.size w w') : Own w' base E k A n c l :=
  h.keep fun g e => hb.block g (h.lt e).2
theorem Own.alloc (h : Own w base E k A n c l) (o : Obj) : Own (w.alloc o) base E k A n c l :=
  h.keep fun g e => Below.heap_alloc w o g (h.lt e).2
theorem Own.drewN (h : Own w base E k A n c l) (m : Nat) : Own (w.drewN m) base E k A n c l := h.keep fun _ _ => rfl
theorem Own.rebase (h : Own w base E k A n c l) {base' : Nat} (hb : base' ≤ base) : Own w base' E k A n c l := by
  refine ⟨h.own.1, ?_⟩
  rcases h.own.2 with hv | ⟨g, cap, cur, hv, hbg, hr⟩
  · exact .inl hv
  · exact .inr ⟨g, cap, cur, hv, Nat.le_trans hb hbg, hr⟩
theorem Own.set {g i y : Nat} (h : Own w base E k (some ⟨g, 0, none⟩) n c l) : Own (w.setCell ⟨g, i, none⟩ (.int k (y : Nat))) base E k (some ⟨g, 0, none⟩) n c (l.set i y) := by
  have hlen := h.len
  refine ⟨by simp [hlen], ?_⟩
  rcases h.own.2 with ⟨hv, _⟩ | ⟨g', cap, cur, hv, hbg, hg, hnc, hcm, hcs, ht⟩
  · simp only [Value.slice.injEq] at hv; cases hv.1
  · simp only [Value.slice.injEq] at hv
    obtain ⟨e, _, rfl⟩ := hv
    injection e with e
    injection e with e1
    subst e1
    refine .inr ⟨g, c, cur.setIfInBounds i (.int k (y : Nat)), rfl, hbg, ?_, hnc, hcm, by simpa using hcs, ?_⟩
    · simp [World.setCell, Array.getElem?_modify, hg]
    · rw [Array.toList_setIfInBounds, List.take_set, ht, List.map_set]
end

theorem Own.cellAt {w : World} {base : Nat} {E : TypeId} {k : IntKind} {g n c i : Nat} {l : List Nat} (h : Own w base E k (some ⟨g, 0, none⟩) n c l) (hi : i < n) :
    w.cell? ⟨g, i, none⟩ = some (.int k (l.getD i 0 : Nat)) ∧ w.frozen? ⟨g, i, none⟩ = false ∧ base ≤ g ∧ g < w.heap.size := by
  obtain ⟨g', e, h1, h2, h3, h4⟩ := h.at_ (by omega)
  injection e with e
  injection e with e1
  subst e1
  exact ⟨h4 i hi, h3 i, h1, h2⟩
theorem Own.setInt {w : World} {base : Nat} {E : TypeId} {k : IntKind} {g n c i y : Nat} {l l' : List Nat} {d : Int} (h : Own w base E k (some ⟨g, 0, none⟩) n c l) (hd : d = (y : Int)) (hl : l.set i y = l') :
    Own (w.setCell ⟨g, i, none⟩ (.int k d)) base E k (some ⟨g, 0, none⟩) n c l' := by
  subst hd hl
  exact h.set
theorem Own.fresh {w : World} {base : Nat} {E : TypeId} {k : IntKind} {A : Option Addr} {n c : Nat} {l : List Nat} (h : Own w base E k A n c l) : ∀ b o, A = some ⟨b, o, none⟩ → base ≤ b := by
  rintro b o rfl
  rcases h.own.2 with ⟨hv, _⟩ | ⟨g, cap, cur, hv, hbg, _⟩
  · simp only [Value.slice.injEq] at hv; cases hv.1
  · simp only [Value.slice.injEq] at hv
    obtain ⟨e, _⟩ := hv
    injection e with e
    injection e with e1
    subst e1
    exact hbg
theorem set_replicate (o : List Nat) (n k y : Nat) (hk : k < n) (ho : o.length = k) : (o ++ List.replicate (n - k) 0).set k y = (o ++ [y]) ++ List.replicate (n - (k + 1)) 0 := by
  subst ho
  rw [List.set_append_right _ _ (Nat.le_refl _), Nat.sub_self, show n - o.length = (n - (o.length + 1)) + 1 by omega, List.replicate_succ]
  simp

/-- 'append(s, y)': one element onto a row of the call's own -/
theorem wpList_app {P : Program} {w0 W : World} {ops : Array Oper} {rest : List Oper} {o : Oper} {a : Act} {Q : Exit → Act → World → Prop} (hgd : o.guard = none) (s x : Operand) (t : TypeId)
    (ho : o.op = .call { callee := .builtin .append, args := #[s, x], argTypes := #[t, t] })
    (E : TypeId) (k : IntKind) (bytes : Nat) (ht : P.underlying t = some (.slice E)) (hinfo : (P.info? E).map (fun i => (i.zero, i.size, i.bytes)) = some (some (.int k 0), 1, bytes)) (hbytes : bytes ≤ 8)
    (A : Option Addr) (n c : Nat) (l : List Nat) (hs : a.eval s = .slice A n c) (hown : Own W w0.heap.size E k A n c l)
    (d : Int) (y : Nat) (hd : d = (y : Int)) (hx : a.eval x = .slice (some ⟨W.heap.size, 0, none⟩) 1 1) (hn : n ≤ 1000000000000) (hB : Below w0.heap.size w0 W)
    (h : ∀ A' c' w', Own w' w0.heap.size E k A' (n + 1) c' (l ++ [y]) → Below w0.heap.size w0 w' → (∀ g, g < W.heap.size → A ≠ some ⟨g, 0, none⟩ → w'.heap[g]? = W.heap[g]?) → W.heap.size ≤ w'.heap.size → (A' = A ∨ A' = some ⟨W.heap.size + 1, 0, none⟩) →
      wpList P ops Q rest (a.put o.dst (.slice A' (n + 1) c')) w') :
    wpList P ops Q (o :: rest) a (W.alloc (.cells #[.int k d] E)) := by
  subst hd
  obtain ⟨i0, hi0, hz0, hz1, hz2⟩ := info_parts hinfo
  refine wpList_append_own_at (P := P) _ hgd s x t ho w0.heap.size E i0 (.int k 0) 1 bytes ht hi0 hz0 hz1 hz2 rfl (by omega) _ n _ hs (hown.alloc _).own ⟨W.heap.size, 0, none⟩ 1 1 [.int k (y : Int)] hx rfl
    (cell_one_new _ _ _) (by simp [Value.oneCell']) (by unfold maxLen; omega) (by
      have : (n + 1) * bytes ≤ 1000000000001 * 8 := Nat.mul_le_mul (by omega) hbytes
      omega) (by have := hB.size; simp; omega) ?_
  intro v' w' hown' hg _ hat
  have hlt : ∀ g, A = some ⟨g, 0, none⟩ → w0.heap.size ≤ g := fun g e => (hown.lt e).1
  have hown2 : w'.ownsRow w0.heap.size E 1 v' (n + 1) ((l ++ [y]).map fun x => Value.int k (x : Nat)) := by simpa using hown'
  obtain ⟨A', c', rfl⟩ : ∃ A' c', v' = .slice A' (n + 1) c' := by
    rcases hown'.2 with ⟨_, h0⟩ | ⟨g, cap, cur, rfl, _⟩
    · omega
    · exact ⟨_, _, rfl⟩
  have hAn : A = none ∨ ∃ g, A = some ⟨g, 0, none⟩ := by
    rcases hown.own.2 with ⟨hv, _⟩ | ⟨g, cap, cur, hv, _⟩
    · simp only [Value.slice.injEq] at hv; exact .inl hv.1
    · simp only [Value.slice.injEq] at hv; exact .inr ⟨g, hv.1⟩
  have hblk : ∀ g, g < W.heap.size → A ≠ some ⟨g, 0, none⟩ → w'.heap[g]? = W.heap[g]? := fun g hgl hne =>
    (hg.block g (by simp; omega) (fun e => by
      rcases hAn with rfl | ⟨g', rfl⟩
      · simp [Value.ownBlock] at e
      · simp [Value.ownBlock] at e; subst e; exact hne rfl)).trans (Below.heap_alloc W _ g hgl)
  have hsz : W.heap.size ≤ w'.heap.size := by have := hg.size; simp at this; omega
  refine h A' c' w' ⟨hown2⟩ ⟨hg.os.trans hB.os, hg.tape.trans hB.tape, hg.output.trans hB.output, Nat.le_trans hB.size hsz, fun i hi => ?_⟩ hblk hsz ?_
  · exact (hblk i (Nat.lt_of_lt_of_le hi hB.size) (fun e => by have := hlt i e; omega)).trans (hB.block i hi)
  · rcases hown'.2 with ⟨_, h0⟩ | ⟨g, cap, cur, hv, _⟩
    · omega
    · simp only [Value.slice.injEq] at hv
      obtain ⟨rfl, _, rfl⟩ := hv
      rcases hat with e | e
      · rcases hAn with rfl | ⟨g', rfl⟩
        · simp [Value.ownBlock] at e
        · simp [Value.ownBlock] at e; subst e; exact .inl rfl
      · simp [Value.ownBlock] at e; subst e; exact .inr rfl

theorem made_nat (k : IntKind) (n : Nat) : (madeCells (Value.int k 0).cells (n * 1)).toList = (List.replicate n 0).map fun x => Value.int k (x : Nat) := by
  simp only [madeCells, Value.cells, Nat.mul_one]
  apply List.ext_getElem
  · simp
  · intro i h1 h2
    simp [Nat.mod_one]

/-- 'make([]T, n)' -/
theorem wpList_mk {P : Program} {w0 W : World} {ops : Array Oper} {rest : List Oper} {o : Oper} {a : Act} {Q : Exit → Act → World → Prop} (hgd : o.guard = none) (s x : Operand) (t : TypeId) (ho : o.op = Op.makeSlice t s x)
    (E : TypeId) (k : IntKind) (bytes : Nat) (ht : P.underlying t = some (.slice E)) (hinfo : (P.info? E).map (fun i => (i.zero, i.size, i.bytes)) = some (some (.int k 0), 1, bytes)) (hbytes : bytes ≤ 8)
    (kl kc : IntKind) (L C : Int) (n : Nat) (hs : a.eval s = .int kl L) (hx : a.eval x = .int kc C) (hL : L = (n : Int)) (hC : C = (n : Int)) (hn : n ≤ 1000000000000) (hB : Below w0.heap.size w0 W)
    (h : ∀ w', Own w' w0.heap.size E k (some ⟨W.heap.size, 0, none⟩) n n (List.replicate n 0) → Below w0.heap.size w0 w' → Below W.heap.size W w' → W.heap.size < w'.heap.size → wpList P ops Q rest (a.put o.dst (.slice (some ⟨W.heap.size, 0, none⟩) n n)) w') :
    wpList P ops Q (o :: rest) a W := by
  obtain ⟨i0, hi0, hz0, hz1, hz2⟩ := info_parts hinfo
  refine wpList_make_full (P := P) W hgd s x t ho w0.heap.size E i0 (.int k 0) 1 ht hi0 hz0 hz1 kl kc L C n hs hx hL hC (by
    rw [hz2]
    have : bytes * n ≤ 8 * 1000000000000 := Nat.mul_le_mul hbytes hn
    omega) (by unfold maxLen; omega) hB.size ?_
  intro w' hown hg
  rw [made_nat] at hown
  have hb : Below W.heap.size W w' := ⟨hg.os, hg.tape, hg.output, hg.size, fun i hi => hg.block i hi (by simp)⟩
  have hown' : Own w' w0.heap.size E k (some ⟨W.heap.size, 0, none⟩) n n (List.replicate n 0) := ⟨hown⟩
  exact h w' hown' (hB.trans (hb.mono hB.size)) hb (hown'.lt rfl).2
/-- 'make([]T, 0, n)' -/
theorem wpList_mk0 {P : Program} {w0 W : World} {ops : Array Oper} {rest : List Oper} {o : Oper} {a : Act} {Q : Exit → Act → World → Prop} (hgd : o.guard = none) (s x : Operand) (t : TypeId) (ho : o.op = Op.makeSlice t s x)
    (E : TypeId) (k : IntKind) (bytes : Nat) (ht : P.underlying t = some (.slice E)) (hinfo : (P.info? E).map (fun i => (i.zero, i.size, i.bytes)) = some (some (.int k 0), 1, bytes)) (hbytes : bytes ≤ 8)
    (kl kc : IntKind) (C : Int) (n : Nat) (hs : a.eval s = .int kl 0) (hx : a.eval x = .int kc C) (hC : C = (n : Int)) (hn : n ≤ 1000000000000) (hB : Below w0.heap.size w0 W)
    (h : ∀ w', Own w' w0.heap.size E k (some ⟨W.heap.size, 0, none⟩) 0 n [] → Below w0.heap.size w0 w' → Below W.heap.size W w' → W.heap.size < w'.heap.size → wpList P ops Q rest (a.put o.dst (.slice (some ⟨W.heap.size, 0, none⟩) 0 n)) w') :
    wpList P ops Q (o :: rest) a W := by
  obtain ⟨i0, hi0, hz0, hz1, hz2⟩ := info_parts hinfo
  refine wpList_make_own (P := P) W hgd s x t ho w0.heap.size E i0 (.int k 0) 1 ht hi0 hz0 hz1 kl kc C n hs hx hC (by
    rw [hz2]
    have : bytes * n ≤ 8 * 1000000000000 := Nat.mul_le_mul hbytes hn
    omega) (by unfold maxLen; omega) hB.size ?_
  intro w' hown hg
  have hb : Below W.heap.size W w' := ⟨hg.os, hg.tape, hg.output, hg.size, fun i hi => hg.block i hi (by simp)⟩
  have hown' : Own w' w0.heap.size E k (some ⟨W.heap.size, 0, none⟩) 0 n [] := ⟨hown⟩
  exact h w' hown' (hB.trans (hb.mono hB.size)) hb (hown'.lt rfl).2
end Go.Proofs.YtgphkgmhcmffnaaGreatDoor
