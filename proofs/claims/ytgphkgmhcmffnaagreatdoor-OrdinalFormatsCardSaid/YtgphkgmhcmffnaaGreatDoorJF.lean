/- number.divide: quotient and remainder of two absolute values. -/
import Derived.Test.YtgphkgmhcmffnaaGreatDoorJE
import Derived.Test.YtgphkgmhcmffnaaGreatDoorJB
import Derived.Deep.RegionHeld3
import Derived.Maps.AppendAt
import Derived.Deep.RegionLaw
import Derived.Deep.DeepCutAuto
namespace Go.Proofs.YtgphkgmhcmffnaaGreatDoor
open Go.RowKit

theorem Sl.one (w : World) (k : IntKind) (E : TypeId) (y : Nat) : Sl (w.alloc (.cells #[.int k (y : Int)] E)) k (some ⟨w.heap.size, 0, none⟩) 1 1 [y] :=
  ⟨rfl, Nat.le_refl _, fun _ => ⟨w.heap.size, 0, rfl, by simp, fun i hi => by
    obtain rfl : i = 0 := by omega
    exact (BlkIs.new w E #[.int k (y : Int)]).cell 0⟩⟩
def GtB (a b : Nat) (w : World) (e : Ending) (w' : World) : Prop := e = .returned (.bool (decide (b < a))) ∧ Below w.heap.size w w'

theorem Sl.drew1 {w : World} {k : IntKind} {A : Option Addr} {n c : Nat} {l : List Nat} (h : Sl w k A n c l) : Sl w.drew k A n c l := ⟨h.len, h.cap, h.cells⟩
theorem Sl.alloc {w : World} {k : IntKind} {A : Option Addr} {n c : Nat} {l : List Nat} (h : Sl w k A n c l) (o : Obj) : Sl (w.alloc o) k A n c l := h.below ((Below.refl _ _).alloc (Nat.le_refl _) _)
theorem keep2 {w w' : World} {p q : Nat} {u v : Value} (hb : Below w.heap.size w w') (hp : w.cell? ⟨p, 0, none⟩ = some u) (hq : w.cell? ⟨q, 0, none⟩ = some v) : w'.cell? ⟨p, 0, none⟩ = some u ∧ w'.cell? ⟨q, 0, none⟩ = some v :=
  ⟨(hb.cell (p := ⟨p, 0, none⟩) (World.block_lt_of_cell? _ _ hp)).trans hp, (hb.cell (p := ⟨q, 0, none⟩) (World.block_lt_of_cell? _ _ hq)).trans hq⟩
theorem ordI_pos (a b : Nat) : decide (0 < ordI a b) = decide (b < a) := by
  rcases Nat.lt_trichotomy a b with h | h | h
  · rw [ordI_lt h, decide_eq_false (by omega), decide_eq_false (by omega)]
  · subst h; rw [ordI_eq, decide_eq_false (by omega), decide_eq_false (by omega)]
  · rw [ordI_gt h, decide_eq_true (by omega), decide_eq_true (by omega)]
theorem limbs_lt {b n : Nat} (h : (Dec.limbs 1000000000 b).length = n) : b < 1000000000 ^ n := by
  have := Dec.lval_lt (B := 1000000000) (by omega) (Dec.limbs_small (by omega) b)
  rwa [Dec.lval_limbs (by omega), h] at this
theorem length_mul_small {b k n : Nat} (h : (Dec.limbs 1000000000 b).length = n) (hk : k < 1000000000) : (Dec.limbs 1000000000 (b * k)).length ≤ n + 1 := by
  apply Dec.limbs_lt_length (by omega)
  have h1 := limbs_lt h
  rw [Nat.pow_succ]
  rcases Nat.eq_zero_or_pos k with e | e
  · subst e; rw [Nat.mul_zero]; exact Nat.mul_pos (Nat.pow_pos (by omega)) (by omega)
  · exact Nat.mul_lt_mul'' h1 hk

set_option maxHeartbeats 1000000 in
theorem closure_any (pb pr : Nat) (A A' : Option Addr) (n n' c c' b r k : Nat) (w : World) (hpb : w.cell? ⟨pb, 0, none⟩ = some (.slice A n c)) (hpr : w.cell? ⟨pr, 0, none⟩ = some (.slice A' n' c'))
    (hb : Sl w .u32 A n c (Dec.limbs 1000000000 b)) (hr : Sl w .u32 A' n' c' (Dec.limbs 1000000000 r)) (hn : n ≤ 10000000) (hn' : n' ≤ 10000000) (hk : k < 1000000000) :
    Calls Tryz.prog 179 #[.int .i64 (k : Int), .pointer (some ⟨pb, 0, none⟩), .pointer (some ⟨pr, 0, none⟩)] w (GtB (b * k) r w) := by
  have hlb := World.block_lt_of_cell? _ _ hpb
  have hlr := World.block_lt_of_cell? _ _ hpr
  have hbW : Below w.heap.size w (w.alloc (.cells #[.int .u32 (k : Int)] 118)).drew := ((Below.refl _ _).alloc (Nat.le_refl _) _).drew
  have hT := times_any A (some ⟨w.heap.size, 0, none⟩) n 1 c 1 _ [k] (w.alloc (.cells #[.int .u32 (k : Int)] 118)).drew ((hb.alloc _).drew1) ((Sl.one w .u32 118 k).drew1) (by omega) (by omega) (Dec.limbs_small (by omega) b) (Dec.Small.cons hk Dec.Small.nil)
  rw [Dec.lval_limbs (by omega), show Dec.lval 1000000000 [k] = k by simp [Dec.lval]] at hT
  have HT := Lib.hid hT
  clear hT
  have HLb := Lib.hid hb.len
  have hw32 : IntKind.u32.wrap (k : Int) = k := by rw [IntKind.wrap_u32]; omega
  go_enter Tryz.func179, Tryz.ntmps179
  go_wp2
  go_region_held3 (fun w' => w'.cell? ⟨pb, 0, none⟩ = some (.slice A n c) ∧ w'.cell? ⟨pr, 0, none⟩ = some (.slice A' n' c')) (go_keep)
    (first | (go_at_call 144; refine HT.out.mono ?_; rintro e w1 ⟨A1, n1, c1, rfl, hs1, hb1, _⟩; have hbw1 := hbW.trans (hb1.mono hbW.size); obtain ⟨q1, q2⟩ := keep2 hbw1 hpb hpr; have HC := Lib.hid (compare_any 1000000000 (by omega) A1 A' n1 n' c1 c' (b * k) r w1 hs1 (hr.below hbw1) (by have := length_mul_small HLb.out hk; rw [hs1.len] at this; omega) (by omega))) | (go_at_call 155; refine HC.out.mono ?_; rintro e w2 ⟨rfl, q, rfl⟩))
  go_wp2
  go_ret
  exact ⟨by rw [← ordI_pos]; rfl, below_drewN hbw1 _⟩

def RetNat (k : IntKind) (v : Nat) (w : World) (e : Ending) (w' : World) : Prop := e = .returned (.int k (v : Int)) ∧ Below w.heap.size w w'
theorem div_le_iff' {r b h : Nat} (hb : 0 < b) : r < b * h ↔ r / b < h := by
  rw [Nat.div_lt_iff_lt_mul hb, Nat.mul_comm]

set_option maxHeartbeats 1000000 in
theorem search_any (pb pr : Nat) (A A' : Option Addr) (n n' c c' b r : Nat) (w : World) (hpb : w.cell? ⟨pb, 0, none⟩ = some (.slice A n c)) (hpr : w.cell? ⟨pr, 0, none⟩ = some (.slice A' n' c'))
    (hb : Sl w .u32 A n c (Dec.limbs 1000000000 b)) (hr : Sl w .u32 A' n' c' (Dec.limbs 1000000000 r)) (hn : n ≤ 10000000) (hn' : n' ≤ 10000000) (hb0 : 0 < b) (hq : r / b < 1000000000) :
    Calls Tryz.prog 178 #[.int .i64 1000000000, .func (.func 179) #[] #[.pointer (some ⟨pb, 0, none⟩), .pointer (some ⟨pr, 0, none⟩)]] w (RetNat .i64 (r / b + 1) w) := by
  have HQ : Hid (∀ h, decide (r < b * h) = decide (r / b < h)) := fun h => by rw [decide_eq_decide]; exact div_le_iff' hb0
  generalize r / b = d at hq HQ
  go_enter Tryz.func178, Tryz.ntmps178
  go_wp2
  go_loopw [5, 6] (fun s5 s6 wr => ∃ lo hi : Nat, s5 = .int .i64 lo ∧ s6 = .int .i64 hi ∧ lo ≤ d + 1 ∧ d + 1 ≤ hi ∧ hi ≤ 1000000000 ∧ Below w.heap.size w wr) (fun s5 s6 _ => (intOf s6 - intOf s5).toNat)
  case atStart => exact ⟨0, 1000000000, rfl, rfl, by omega, by omega, by omega, Below.refl _ _⟩
  case round =>
    obtain ⟨lo, hi, rfl, rfl, h1, h2, h3, hbr⟩ := hrel
    by_cases hlt : lo < hi
    · obtain ⟨p1, p2⟩ := keep2 hbr hpb hpr
      have hc := closure_any pb pr A A' n n' c c' b r ((lo + hi) / 2) wr p1 p2 (hb.below hbr) (hr.below hbr) hn hn' (by omega)
      unfold GtB at hc
      rw [HQ.out, show (((lo + hi) / 2 : Nat) : Int) = ((lo : Int) + (hi : Int)) / 2 by omega] at hc
      by_cases hm : d < (lo + hi) / 2
      · rw [decide_eq_true hm] at hc
        have HC := Lib.hid hc
        clear hc
        go_wp2_with (go_at_call 179; refine HC.out.mono ?_; rintro e w1 ⟨rfl, hb1⟩)
        go_roundw
        case rel => exact ⟨lo, (lo + hi) / 2, rfl, by go_num, h1, by omega, by omega, hbr.trans (hb1.mono hbr.size)⟩
        case measure => simp only [intOf]; omega
      · rw [decide_eq_false hm] at hc
        have HC := Lib.hid hc
        clear hc
        go_wp2_with (go_at_call 179; refine HC.out.mono ?_; rintro e w1 ⟨rfl, hb1⟩)
        go_roundw
        case rel => exact ⟨(lo + hi) / 2 + 1, hi, by go_num, rfl, by omega, h2, h3, hbr.trans (hb1.mono hbr.size)⟩
        case measure => simp only [intOf]; omega
    · have e : lo = d + 1 := by omega
      subst e
      go_wp2
      go_ret
      exact ⟨rfl, hbr⟩
end Go.Proofs.YtgphkgmhcmffnaaGreatDoor
/- 'append(s, x...)' onto a row of the call's own, whatever slice x is; the law for a region that draws its order. -/
namespace Go.Proofs.YtgphkgmhcmffnaaGreatDoor
open Go.RowKit

section
variable {P : Program} {w : World}
theorem run_apps (base : Nat) (t ty E : TypeId) (k : IntKind) (bytes : Nat) (ht : P.underlying t = some (.slice E)) (hinfo : (P.info? E).map (fun i => (i.zero, i.size, i.bytes)) = some (some (.int k 0), 1, bytes)) (hbytes : bytes ≤ 8)
    (A : Option Addr) (n c : Nat) (l : List Nat) (hown : Own w base E k A n c l) (A' : Option Addr) (m c' : Nat) (l' : List Nat) (hs : Sl w k A' m c' l')
    (hn : n + m ≤ 1000000000000) (hbase : base ≤ w.heap.size) :
    ∃ A2 c2 w2, (Builtin.append_ #[t, t] ty #[.slice A n c, .slice A' m c']).run P w = .ok (.slice A2 (n + m) c2) w2 ∧ Own w2 base E k A2 (n + m) c2 (l ++ l') ∧
      (∀ g, g < w.heap.size → A ≠ some ⟨g, 0, none⟩ → w2.heap[g]? = w.heap[g]?) ∧ w.heap.size ≤ w2.heap.size ∧ w2.os = w.os ∧ w2.tape = w.tape ∧ w2.output = w.output := by
  obtain ⟨i0, hi0, hz0, hz1, hz2⟩ := info_parts hinfo
  have hAn : A = none ∨ ∃ g, A = some ⟨g, 0, none⟩ := by
    rcases hown.own.2 with ⟨hv, _⟩ | ⟨g, cap, cur, hv, _⟩
    · simp only [Value.slice.injEq] at hv; exact .inl hv.1
    · simp only [Value.slice.injEq] at hv; exact .inr ⟨g, hv.1⟩
  rcases A' with _ | ad
  · have hm : m = 0 := by
      rcases Nat.eq_zero_or_pos m with h0 | h0
      · exact h0
      · obtain ⟨b, o, e, _⟩ := hs.cells h0; cases e
    subst hm
    have hl : l' = [] := List.eq_nil_of_length_eq_zero hs.len
    subst hl
    refine ⟨A, c, w, ?_, by simpa using hown, fun _ _ _ => rfl, Nat.le_refl _, rfl, rfl, rfl⟩
    rcases hown.own.2 with ⟨hv, h0⟩ | ⟨g, cap, cur, hv, _, _, hnc, _⟩
    · simp only [Value.slice.injEq] at hv
      obtain ⟨rfl, rfl, rfl⟩ := hv
      simp [Builtin.append_, run_underlying ht, sizeOf, typeInfo, hi0, Builtin.lenOf, Builtin.firstCells]
    · simp only [Value.slice.injEq] at hv
      obtain ⟨rfl, _, rfl⟩ := hv
      simp [Builtin.append_, run_underlying ht, sizeOf, typeInfo, hi0, Builtin.lenOf, Builtin.firstCells, hnc, storeCells]
  · have hcells : ∀ j u, (l'.map fun x => Value.int k (x : Nat))[j]? = some u → w.cell? (ad.add j) = some u := by
      intro j u hu
      have hj : j < m := by
        rw [← hs.len]
        rcases Nat.lt_or_ge j l'.length with h | h
        · exact h
        · rw [List.getElem?_eq_none (by simpa using h)] at hu; cases hu
      obtain ⟨b, o, e, _, hc⟩ := hs.cells (by omega)
      injection e with e
      subst e
      have e2 : (⟨b, o, none⟩ : Addr).add j = ⟨b, o + j, none⟩ := by
        unfold Addr.add
        split
        · subst j; rfl
        · rfl
      rw [e2, hc j hj]
      rw [List.getElem?_map, List.getElem?_eq_getElem (by rw [hs.len]; exact hj)] at hu
      rw [List.getD_eq_getElem?_getD, List.getElem?_eq_getElem (by rw [hs.len]; exact hj)]
      simpa using hu
    obtain ⟨v', w', hrun, h2, h3, h4, h5⟩ := run_append_own_at (P := P) w base t ty E i0 (.int k 0) 1 bytes ht hi0 hz0 hz1 hz2 rfl (by omega) _ n _ hown.own ad m c' (l'.map fun x => Value.int k (x : Nat)) (by simp [hs.len]) hcells (by
      intro u hu
      obtain ⟨x, _, rfl⟩ := List.mem_map.1 hu
      rfl) (by unfold maxLen; omega) (by
      have : (n + m) * bytes ≤ 1000000000000 * 8 := Nat.mul_le_mul hn hbytes
      omega) hbase
    obtain ⟨A2, c2, rfl⟩ : ∃ A2 c2, v' = .slice A2 (n + m) c2 := by
      rcases h2.2 with ⟨rfl, h0⟩ | ⟨g, cap, cur, rfl, _⟩
      · exact ⟨none, 0, by rw [h0]⟩
      · exact ⟨_, _, rfl⟩
    refine ⟨A2, c2, w', hrun, ⟨by simpa using h2⟩, fun g hg hne => h3.block g hg (fun e => ?_), h3.size, h3.os, h3.tape, h3.output⟩
    rcases hAn with rfl | ⟨g', rfl⟩
    · simp [Value.ownBlock] at e
    · simp [Value.ownBlock] at e; subst e; exact hne rfl
theorem wp_apps {o : Oper} {a : Act} {K : Act → World → Prop} {Q : Exit → Act → World → Prop} (s x : Operand) (t : TypeId)
    (ho : o.op = .call { callee := .builtin .append, args := #[s, x], argTypes := #[t, t] })
    (base : Nat) (E : TypeId) (k : IntKind) (bytes : Nat) (ht : P.underlying t = some (.slice E)) (hinfo : (P.info? E).map (fun i => (i.zero, i.size, i.bytes)) = some (some (.int k 0), 1, bytes)) (hbytes : bytes ≤ 8)
    (A : Option Addr) (n c : Nat) (l : List Nat) (hs : a.eval s = .slice A n c) (hown : Own w base E k A n c l) (A' : Option Addr) (m c' : Nat) (l' : List Nat) (hx : a.eval x = .slice A' m c') (hsl : Sl w k A' m c' l')
    (hn : n + m ≤ 1000000000000) (hbase : base ≤ w.heap.size)
    (h : ∀ A2 c2 w2, Own w2 base E k A2 (n + m) c2 (l ++ l') → (∀ g, g < w.heap.size → A ≠ some ⟨g, 0, none⟩ → w2.heap[g]? = w.heap[g]?) → w.heap.size ≤ w2.heap.size → w2.os = w.os → w2.tape = w.tape → w2.output = w.output → K (a.put o.dst (.slice A2 (n + m) c2)) w2) : o.wp P a w K Q := by
  obtain ⟨A2, c2, w2, hrun, h2, h3, h4, h5, h6, h7⟩ := run_apps (P := P) base t o.type E k bytes ht hinfo hbytes A n c l hown A' m c' l' hsl hn hbase
  unfold Oper.wp execOp
  simp only [ho, resolve, invoke, builtin, Sem.run_bind, Sem.run_pure, Result.andThen_ok, List.map_toArray, List.map_cons, List.map_nil, hs, hx, hrun]
  exact h A2 c2 w2 h2 h3 h4 h5 h6 h7
theorem step_apps {ops : Array Oper} {o : Oper} {a : Act} {K : Act → World → Prop} {Q : Exit → Act → World → Prop} {F : Prop} (hgd : o.guard = none) (s x : Operand) (t : TypeId)
    (ho : o.op = .call { callee := .builtin .append, args := #[s, x], argTypes := #[t, t] })
    (base : Nat) (E : TypeId) (k : IntKind) (bytes : Nat) (ht : P.underlying t = some (.slice E)) (hinfo : (P.info? E).map (fun i => (i.zero, i.size, i.bytes)) = some (some (.int k 0), 1, bytes)) (hbytes : bytes ≤ 8)
    (A : Option Addr) (n c : Nat) (l : List Nat) (hs : a.eval s = .slice A n c) (hown : Own w base E k A n c l) (A' : Option Addr) (m c' : Nat) (l' : List Nat) (hx : a.eval x = .slice A' m c') (hsl : Sl w k A' m c' l')
    (hn : n + m ≤ 1000000000000) (hbase : base ≤ w.heap.size)
    (h : ∀ A2 c2 w2, Own w2 base E k A2 (n + m) c2 (l ++ l') → (∀ g, g < w.heap.size → A ≠ some ⟨g, 0, none⟩ → w2.heap[g]? = w.heap[g]?) → w.heap.size ≤ w2.heap.size → w2.os = w.os → w2.tape = w.tape → w2.output = w.output → K (a.put o.dst (.slice A2 (n + m) c2)) w2) :
    if Region.wanted o (yielded ops a.tmps) = true then Oper.wp P o a w K Q else F := by
  have hw : Region.wanted o (yielded ops a.tmps) = true := by simp [Region.wanted, hgd]
  rw [if_pos hw]
  exact wp_apps s x t ho base E k bytes ht hinfo hbytes A n c l hs hown A' m c' l' hx hsl hn hbase h
theorem wpList_apps {ops : Array Oper} {rest : List Oper} {o : Oper} {a : Act} {Q : Exit → Act → World → Prop} (hgd : o.guard = none) (s x : Operand) (t : TypeId)
    (ho : o.op = .call { callee := .builtin .append, args := #[s, x], argTypes := #[t, t] })
    (base : Nat) (E : TypeId) (k : IntKind) (bytes : Nat) (ht : P.underlying t = some (.slice E)) (hinfo : (P.info? E).map (fun i => (i.zero, i.size, i.bytes)) = some (some (.int k 0), 1, bytes)) (hbytes : bytes ≤ 8)
    (A : Option Addr) (n c : Nat) (l : List Nat) (hs : a.eval s = .slice A n c) (hown : Own w base E k A n c l) (A' : Option Addr) (m c' : Nat) (l' : List Nat) (hx : a.eval x = .slice A' m c') (hsl : Sl w k A' m c' l')
    (hn : n + m ≤ 1000000000000) (hbase : base ≤ w.heap.size)
    (h : ∀ A2 c2 w2, Own w2 base E k A2 (n + m) c2 (l ++ l') → (∀ g, g < w.heap.size → A ≠ some ⟨g, 0, none⟩ → w2.heap[g]? = w.heap[g]?) → w.heap.size ≤ w2.heap.size → w2.os = w.os → w2.tape = w.tape → w2.output = w.output → wpList P ops Q rest (a.put o.dst (.slice A2 (n + m) c2)) w2) : wpList P ops Q (o :: rest) a w :=
  wpList_plain hgd fun _ hK => wp_apps s x t ho base E k bytes ht hinfo hbytes A n c l hs hown A' m c' l' hx hsl hn hbase fun A2 c2 w2 h2 h3 h4 h5 h6 h7 => hK _ _ (h A2 c2 w2 h2 h3 h4 h5 h6 h7)
end
end Go.Proofs.YtgphkgmhcmffnaaGreatDoor
/- number.divide: the walk. -/
namespace Go.Proofs.YtgphkgmhcmffnaaGreatDoor
open Go.RowKit

theorem Sl.far {w : World} {k : IntKind} {A : Option Addr} {n c : Nat} {l : List Nat} (h : Sl w k A n c l) {p : Addr} (hp : ∀ b o, A = some ⟨b, o, none⟩ → b ≠ p.block) (u : Value) : Sl (w.setCell p u) k A n c l :=
  ⟨h.len, h.cap, fun hn => by
    obtain ⟨b, o, e, hlt, hc⟩ := h.cells hn
    refine ⟨b, o, e, by simpa [World.setCell] using hlt, fun i hi => ?_⟩
    have hne := hp b o e
    rw [World.cell?_setCell_other w p ⟨b, o + i, none⟩ u (fun e => hne (by rw [e]))]
    exact hc i hi⟩
theorem below_apps {wr w2 : World} {o : Obj} (hblk : ∀ g, g < (wr.alloc o).drew.heap.size → (some ⟨wr.heap.size, 0, none⟩ : Option Addr) ≠ some ⟨g, 0, none⟩ → w2.heap[g]? = (wr.alloc o).drew.heap[g]?) (hsz : (wr.alloc o).drew.heap.size ≤ w2.heap.size)
    (hos : w2.os = (wr.alloc o).drew.os) (htp : w2.tape = (wr.alloc o).drew.tape) (hou : w2.output = (wr.alloc o).drew.output) : Below wr.heap.size wr w2 :=
  ⟨hos, htp, hou, by have : (wr.alloc o).drew.heap.size = wr.heap.size + 1 := by simp
                     omega, fun g hg => (hblk g (by simp; omega) (by intro e; injection e with e; injection e with e; omega)).trans (Below.heap_alloc wr _ g hg)⟩
theorem set_drop (q : List Nat) (i d : Nat) (h : i < q.length) : (q.set i d).drop i = d :: q.drop (i + 1) := by
  rw [List.drop_eq_getElem_cons (by simpa using h), List.getElem_set_self, List.drop_set_of_lt (by omega)]
theorem lval_cons_limbs (u R : Nat) : Dec.lval 1000000000 ([u] ++ Dec.limbs 1000000000 R) = u + 1000000000 * R := by
  show u + 1000000000 * Dec.lval 1000000000 (Dec.limbs 1000000000 R) = _
  rw [Dec.lval_limbs (by omega)]
theorem small_cons_limbs {u : Nat} (hu : u < 1000000000) (R : Nat) : Dec.Small 1000000000 ([u] ++ Dec.limbs 1000000000 R) := Dec.Small.cons hu (Dec.limbs_small (by omega) R)
theorem div_step {a b R u j : Nat} {q : List Nat} (hj : 0 < j) (hja : j ≤ (Dec.limbs 1000000000 a).length) (hjq : j ≤ q.length) (hu : (Dec.limbs 1000000000 a).getD (j - 1) 0 = u)
    (h : Dec.lval 1000000000 ((Dec.limbs 1000000000 a).drop j) = Dec.lval 1000000000 (q.drop j) * b + R) :
    Dec.lval 1000000000 ((Dec.limbs 1000000000 a).drop (j - 1)) = Dec.lval 1000000000 ((q.set (j - 1) ((u + 1000000000 * R) / b)).drop (j - 1)) * b + (u + 1000000000 * R) % b := by
  obtain ⟨m, rfl⟩ : ∃ m, j = m + 1 := ⟨j - 1, by omega⟩
  rw [Nat.add_sub_cancel] at hu ⊢
  rw [set_drop _ _ _ (by omega), Dec.lval_drop _ _ m (by omega), hu, Dec.lval]
  exact Dec.div_round h
theorem box1 {w : World} {g : Nat} {t : TypeId} {v : Value} (h : BlkIs w g t #[v]) : w.cell? ⟨g, 0, none⟩ = some v ∧ w.frozen? ⟨g, 0, none⟩ = false := ⟨h.cell 0, h.frozen 0⟩
theorem trim_same (A : Option Addr) (n c : Nat) (l : List Nat) (w : World) (h : Sl w .u32 A n c l) (hn : n ≤ 1000000000) :
    Calls Tryz.prog 160 #[.slice A n c] w fun e w' => e = .returned (.slice A (Dec.trimZ l).length c) ∧ w' = w :=
  (trim_any A n c l w h hn).mono fun _ _ h => ⟨h.1, h.2.symm⟩
def RetDiv (a b : Nat) (w : World) (e : Ending) (w' : World) : Prop :=
  ∃ A n c A' n' c', e = .returned (.tuple #[.slice A n c, .slice A' n' c']) ∧ Sl w' .u32 A n c (Dec.limbs 1000000000 (a / b)) ∧ Sl w' .u32 A' n' c' (Dec.limbs 1000000000 (a % b)) ∧ Below w.heap.size w w'

set_option maxHeartbeats 2000000 in
set_option maxRecDepth 100000 in
theorem divide_any (A A' : Option Addr) (n n' c c' a b : Nat) (w : World) (hx : Sl w .u32 A n c (Dec.limbs 1000000000 a)) (hy : Sl w .u32 A' n' c' (Dec.limbs 1000000000 b)) (hn : n ≤ 2500000) (hn' : n' ≤ 2500000) (hb0 : 0 < b) :
    Calls Tryz.prog 170 #[.slice A n c, .slice A' n' c'] w (RetDiv a b w) := by
  have HLx := Lib.hid hx.len
  have HLy := Lib.hid hy.len
  go_enter Tryz.func170, Tryz.ntmps170
  go_wp2_with (at_make; refine wpList_mk (w0 := w) rfl _ _ _ rfl 118 .u32 4 Tryz.underlying97 infoU32 (by omega) _ _ _ _ n rfl rfl (by omega) (by omega) (by omega) ((Below.refl _ _).alloc (Nat.le_refl _) _) ?_; intro w1 hown1 hb1 hbW1 hsz1)
  simp only [World.size_alloc] at hsz1 hown1 hbW1
  go_loopw [8, 9] (fun ix dg wr => ∃ (j R nr cr : Nat) (Ar : Option Addr) (q : List Nat), j ≤ n ∧ ix = .int .i64 ((j : Int) - 1) ∧ Hid (BlkIs wr w.heap.size 97 #[.slice A' n' c']) ∧ Hid (BlkIs wr w1.heap.size 97 #[.slice Ar nr cr]) ∧ Sl wr .u32 Ar nr cr (Dec.limbs 1000000000 R) ∧ Hid (∀ b o, Ar = some ⟨b, o, none⟩ → b ≠ w.heap.size + 1 ∧ b ≠ w1.heap.size) ∧ R < b ∧ Own wr w.heap.size 118 .u32 (some ⟨w.heap.size + 1, 0, none⟩) n n q ∧ Dec.Small 1000000000 q ∧ Hid (Dec.lval 1000000000 ((Dec.limbs 1000000000 a).drop j) = Dec.lval 1000000000 (q.drop j) * b + R) ∧ Below w.heap.size w wr) (fun ix _ _ => (intOf ix + 1).toNat)
  case atStart =>
    refine ⟨n, 0, 0, 0, none, List.replicate n 0, Nat.le_refl _, rfl, ?_, ?_, Sl.nil _ _ _ _, ?_, hb0, ?_, small_replicate _ _ (by omega), ?_, ?_⟩
    · have h1 := (BlkIs.new w 97 #[.slice A' n' c']).keep (hbW1.block w.heap.size (by omega))
      exact Lib.hid (h1.alloc _)
    · exact Lib.hid (BlkIs.new w1 _ _)
    · exact Lib.hid (fun _ _ e => by cases e)
    · exact hown1.alloc _
    · exact Lib.hid (by rw [List.drop_of_length_le (by rw [HLx.out]; exact Nat.le_refl _), List.drop_of_length_le (by simp)]; simp [Dec.lval])
    · exact hb1.alloc hb1.size _
  case round =>
    obtain ⟨j, R, nr, cr, Ar, q, hj, rfl, HB1, HB2, hsr, HA, hR, hown, hsq, HV, hb⟩ := hrel
    have HLr := Lib.hid hsr.len
    have hnr : nr ≤ n' := by
      rw [← HLr.out, ← HLy.out]; exact Dec.limbs_length_mono (by omega) (by omega)
    have c1 := HB1.out.cell 0
    have c2 := HB2.out.cell 0
    simp only [List.getElem?_toArray, List.getElem?_cons_zero] at c1 c2
    have f2 := HB2.out.frozen 0
    have hl2 := HB2.out.lt
    by_cases hj0 : 0 < j
    · obtain ⟨bx, ox, rfl, hbx, hcx⟩ := (hx.below hb).cells (by omega)
      have hcu := hcx (j - 1) (by omega)
      clear hcx
      have hu := getD_lt (l := Dec.limbs 1000000000 a) (Dec.limbs_small (by omega) a) (by omega) (j - 1)
      generalize hu0 : (Dec.limbs 1000000000 a).getD (j - 1) 0 = u at hcu hu
      have HU0 := Lib.hid hu0
      clear hu0
      have hi1 : (0 : Int) ≤ (j : Int) - 1 := by omega
      have hi2 : (j : Int) - 1 < n := by omega
      have hi3 : ((j : Int) - 1).toNat = j - 1 := by omega
      have hoW : Own (wr.alloc (.cells #[.int .u32 (u : Int)] 118)).drew wr.heap.size 118 .u32 (some ⟨wr.heap.size, 0, none⟩) 1 1 [u] := ⟨⟨rfl, .inr ⟨wr.heap.size, 1, #[.int .u32 (u : Int)], rfl, Nat.le_refl _, heap_alloc_new wr _, Nat.le_refl _, by unfold maxLen; omega, rfl, rfl⟩⟩⟩
      have hsW : Sl (wr.alloc (.cells #[.int .u32 (u : Int)] 118)).drew .u32 Ar nr cr (Dec.limbs 1000000000 R) := (hsr.alloc _).drew1
      have HU : Hid ((Dec.limbs 1000000000 a).getD (j - 1) 0 = u) := HU0
      have hqn : q.length = n := hown.len
      have HST := Lib.hid (div_step (b := b) hj0 (by rw [HLx.out]; exact hj) (by omega) HU.out HV.out)
      clear hqn
      obtain ⟨R', hR'⟩ : ∃ R', R' = u + 1000000000 * R := ⟨_, rfl⟩
      rw [← hR'] at HST
      have HR' := Lib.hid hR'
      clear hR'
      go_upto_region 6 with (fail)
      go_cut [8] (fun s8 wx => s8 = .int .i64 ((j : Int) - 1) ∧ ∃ (A2 : Option Addr) (n2 cc2 : Nat), Hid (BlkIs wx w.heap.size 97 #[.slice A' n' c']) ∧ Hid (BlkIs wx w1.heap.size 97 #[.slice A2 n2 cc2]) ∧ Sl wx .u32 A2 n2 cc2 (Dec.limbs 1000000000 R') ∧ Hid (∀ b o, A2 = some ⟨b, o, none⟩ → b ≠ w.heap.size + 1 ∧ b ≠ w1.heap.size) ∧ n2 ≤ n' + 1 ∧ Own wx w.heap.size 118 .u32 (some ⟨w.heap.size + 1, 0, none⟩) n n q ∧ Below w.heap.size w wx)
      case first =>
        go_region_law
          (first | (refine step_apps rfl _ _ _ rfl wr.heap.size 118 .u32 4 Tryz.underlying97 infoU32 (by omega) _ _ _ [u] rfl hoW _ _ _ _ rfl hsW (by omega) (by simp) ?_; intro A2 cc2 w2 hown2 hblk2 hsz2 hos2 htp2 hou2; have hbw2 := below_apps hblk2 hsz2 hos2 htp2 hou2; clear hblk2 hsz2 hos2 htp2 hou2; have k1 := (hbw2.cell (p := ⟨w1.heap.size, 0, none⟩) hl2).trans c2; have k3 := (hbw2.frozen (p := ⟨w1.heap.size, 0, none⟩) hl2).trans f2; have k4 := Nat.lt_of_lt_of_le hl2 hbw2.size; have HTr := Lib.hid (trim_any A2 (1 + nr) cc2 _ w2 hown2.sl (by omega))) | (go_simp; go_at_call 160; refine HTr.out.mono ?_; rintro e w3 ⟨rfl, rfl⟩))
        all_goals (go_wp2_with fail; go_meet)
        all_goals
          have hsl2 := hown2.sl.trimmed (B := 1000000000) (by omega) (small_cons_limbs hu R)
          rw [lval_cons_limbs, ← HR'.out] at hsl2
          have hfr := hown2.fresh
          have hq1 := (hown.lt rfl).2
          have htl := trimZ_length_le ([u] ++ Dec.limbs 1000000000 R)
          rw [List.length_append, HLr.out] at htl
          refine ⟨rfl, A2, _, cc2, Lib.hid ((HB1.out.below hbw2).far (by simp; omega) _), Lib.hid (by simpa using (HB2.out.below hbw2).set_ 0 (.slice A2 (Dec.trimZ ([u] ++ Dec.limbs 1000000000 R)).length cc2)), hsl2.far (fun b o e => by have := hfr b o e; show b ≠ w1.heap.size; omega) _, Lib.hid (fun b o e => by have := hfr b o e; omega), ?_, (hown.below hbw2).farSet (HB2.out.below hbw2) (by decide) _ _, (hb.trans (hbw2.mono hb.size)).setCell (p := ⟨w1.heap.size, 0, none⟩) hb1.size _⟩
          · simp only [List.length_singleton] at htl; omega
      case rest =>
        obtain ⟨rfl, A2, n2, cc2, X1, X2, hs2, HA2, hn2, hownx, hbx2⟩ := hcut
        clear HB1 HB2 c1 c2 f2 hl2 hsr HA hown hb hoW hsW HLr hnr hcu
        obtain ⟨m1, m2⟩ := box1 X1.out
        obtain ⟨m3, m4⟩ := box1 X2.out
        have hl3 := X2.out.lt
        have hl4 := X1.out.lt
        obtain ⟨hco, hfo, _, hlq⟩ := hownx.cellAt (i := j - 1) (by omega)
        generalize q.getD (j - 1) 0 = z at hco
        have HCm := Lib.hid (compare_any 1000000000 (by omega) A2 A' n2 n' cc2 c' R' b wc hs2 (hy.below hbx2) (by omega) (by omega))
        by_cases hge : R' < b
        · have HO : Hid (ordI R' b = -1) := ordI_lt hge
          go_wp2_with (go_at_call 155; refine HCm.out.mono ?_; rintro e w2 ⟨rfl, qq, rfl⟩; rw [HO.out])
          go_roundw
          case rel =>
            refine ⟨j - 1, R', n2, cc2, A2, q.set (j - 1) 0, by omega, by go_num, Lib.hid (X1.out.far (by simp) _), Lib.hid (X2.out.far (by simp; omega) _), (hs2.drew qq).far (p := ⟨w.heap.size + 1, j - 1, none⟩) (fun b o e => (HA2.out b o e).1) _, HA2, hge, (hownx.drewN qq).setInt (d := 0) rfl rfl, hsq.set (by omega), ?_, (below_drewN hbx2 qq).setCell (p := ⟨w.heap.size + 1, j - 1, none⟩) (by simp) _⟩
            have h := HST.out
            rw [Nat.div_eq_of_lt hge, Nat.mod_eq_of_lt hge] at h
            exact Lib.hid h
          case measure => simp only [intOf]; omega
        · have hz : 0 ≤ ordI R' b := by
            rcases Nat.lt_or_ge b R' with h | h
            · rw [ordI_gt h]; omega
            · obtain rfl : R' = b := by omega
              rw [ordI_eq]; omega
          have hdg : R' / b < 1000000000 := by rw [HR'.out]; exact Dec.div_digit hu hR
          have HSe : Hid (∀ qq, Calls Tryz.prog 178 #[.int .i64 1000000000, .func (.func 179) #[] #[.pointer (some ⟨w.heap.size, 0, none⟩), .pointer (some ⟨w1.heap.size, 0, none⟩)]] (wc.drewN qq) (RetNat .i64 (R' / b + 1) (wc.drewN qq))) :=
            fun qq => search_any w.heap.size w1.heap.size A' A2 n' n2 c' cc2 b R' (wc.drewN qq) m1 m3 ((hy.below hbx2).drew qq) (hs2.drew qq) (by omega) (by omega) hb0 hdg
          have HDM := Lib.hid (Nat.div_add_mod R' b)
          have hml : R' % b < b := Nat.mod_lt _ hb0
          generalize R' / b = d at hdg HSe HST HDM
          generalize R' % b = rr at HST HDM hml
          go_upto_region 10 with (first | (go_at_call 155; refine HCm.out.mono ?_; rintro e w2 ⟨rfl, qq, rfl⟩) | (go_at_call 178; refine (HSe.out qq).mono ?_; rintro e w3 ⟨rfl, hb3⟩))
          have hbc3 : Below wc.heap.size wc w3 := ⟨hb3.os, hb3.tape, hb3.output, hb3.size, hb3.block⟩
          have hbw3 : Below w.heap.size w w3 := hbx2.trans (hbc3.mono hbx2.size)
          have Y1 := Lib.hid (X1.out.below hbc3)
          have Y2 := Lib.hid (X2.out.below hbc3)
          have hown3 := hownx.below hbc3
          have hs3 := hs2.below hbc3
          have hy3 := hy.below hbw3
          obtain ⟨y1, _⟩ := box1 Y1.out
          obtain ⟨y3, y4⟩ := box1 Y2.out
          have hly := Y2.out.lt
          have hly1 := Y1.out.lt
          have hbW : Below w3.heap.size w3 (w3.alloc (.cells #[.int .u32 (d : Int)] 118)).drew := ((Below.refl _ _).alloc (Nat.le_refl _) _).drew
          have hone := (Sl.one w3 .u32 118 d).drew1
          have HT1 := Lib.hid (trim_any (some ⟨w3.heap.size, 0, none⟩) 1 1 [d] (w3.alloc (.cells #[.int .u32 (d : Int)] 118)).drew hone (by omega))
          have htr := hone.trimmed (B := 1000000000) (by omega) (Dec.Small.cons hdg Dec.Small.nil)
          rw [show Dec.lval 1000000000 [d] = d by simp [Dec.lval]] at htr
          have htl := trimZ_length_le [d]
          have hT2 := times_any A' (some ⟨w3.heap.size, 0, none⟩) n' _ c' 1 (Dec.limbs 1000000000 b) (Dec.limbs 1000000000 d) (w3.alloc (.cells #[.int .u32 (d : Int)] 118)).drew (hy3.below hbW) htr (by omega) (by simp only [List.length_singleton] at htl; omega) (Dec.limbs_small (by omega) b) (Dec.limbs_small (by omega) d)
          rw [Dec.lval_limbs (by omega), Dec.lval_limbs (by omega)] at hT2
          have HT2 := Lib.hid hT2
          have hle : b * d ≤ R' := by have := HDM.out; omega
          have HSub : Hid (R' - b * d = rr) := by have := HDM.out; show _ = _; omega
          clear hT2 htl hone htr HCm HSe m1 m2 m3 m4 hl3 hl4 hco hfo hlq
          go_cut [8, 9] (fun s8 s9 wx => s8 = .int .i64 ((j : Int) - 1) ∧ s9 = .int .u32 (d : Int) ∧ ∃ (A5 : Option Addr) (n5 c5 : Nat), Hid (BlkIs wx w.heap.size 97 #[.slice A' n' c']) ∧ Hid (BlkIs wx w1.heap.size 97 #[.slice A5 n5 c5]) ∧ Sl wx .u32 A5 n5 c5 (Dec.limbs 1000000000 rr) ∧ Hid (∀ b o, A5 = some ⟨b, o, none⟩ → b ≠ w.heap.size + 1 ∧ b ≠ w1.heap.size) ∧ Own wx w.heap.size 118 .u32 (some ⟨w.heap.size + 1, 0, none⟩) n n q ∧ Below w.heap.size w wx)
          case first =>
            go_region_law
              (first | (go_simp; go_at_call 160; refine HT1.out.mono ?_; rintro e wt ⟨rfl, rfl⟩) | (go_simp; go_at_call 144; refine HT2.out.mono ?_; rintro e w4 ⟨A4, n4, c4, rfl, hs4, hb4, hf4⟩; have hbw4 := hbW.trans (hb4.mono hbW.size); have z3 := (hbw4.cell (p := ⟨w1.heap.size, 0, none⟩) hly).trans y3; have hs24 := hs3.below hbw4; have HMi := Lib.hid (minus_any A2 A4 n2 n4 cc2 c4 _ _ w4 hs24 hs4 (by omega) (by rw [← hs24.len, ← hs4.len]; exact Dec.limbs_length_mono (by omega) hle) (Dec.limbs_small (by omega) _) (Dec.limbs_small (by omega) _) (by rw [Dec.lval_limbs (by omega), Dec.lval_limbs (by omega)]; exact hle))) | (go_simp; go_at_call 158; refine HMi.out.mono ?_; rintro e w5 ⟨A5, n5, c5, rfl, hs5, hb5, hf5⟩; have hbw5 := hbw4.trans (hb5.mono hbw4.size); have k1 := (hbw5.cell (p := ⟨w1.heap.size, 0, none⟩) hly).trans y3; have k3 := (hbw5.frozen (p := ⟨w1.heap.size, 0, none⟩) hly).trans y4; have k4 := Nat.lt_of_lt_of_le hly hbw5.size))
            all_goals (go_wp2_with fail; go_meet)
            all_goals
              rw [Dec.lval_limbs (by omega), Dec.lval_limbs (by omega), HSub.out] at hs5
              have hq1 := (hown3.lt rfl).2
              have hz4 := hbw4.size
              refine ⟨rfl, rfl, A5, n5, c5, Lib.hid ((Y1.out.below hbw5).far (by simp; omega) _), Lib.hid (by simpa using (Y2.out.below hbw5).set_ 0 (.slice A5 n5 c5)), hs5.far (p := ⟨w1.heap.size, 0, none⟩) (fun b o e => by have := hf5 b o e; show b ≠ w1.heap.size; omega) _, Lib.hid (fun b o e => by have := hf5 b o e; omega), (hown3.below hbw5).farSet (Y2.out.below hbw5) (by decide) _ _, (hbw3.trans (hbw5.mono hbw3.size)).setCell (p := ⟨w1.heap.size, 0, none⟩) hb1.size _⟩
          case rest =>
            obtain ⟨rfl, rfl, A5, n5, c5, V1, V2, hs5, HA5, hown5, hb5⟩ := hcut
            obtain ⟨hco, hfo, _, hlq⟩ := hown5.cellAt (i := j - 1) (by omega)
            generalize q.getD (j - 1) 0 = z at hco
            go_wp2
            go_roundw
            case rel => exact ⟨j - 1, rr, n5, c5, A5, q.set (j - 1) d, by omega, by go_num, Lib.hid (V1.out.far (by simp) _), Lib.hid (V2.out.far (by simp; omega) _), hs5.far (p := ⟨w.heap.size + 1, j - 1, none⟩) (fun b o e => (HA5.out b o e).1) _, HA5, hml, hown5.setInt (by omega) rfl, hsq.set hdg, HST, hb5.setCell (p := ⟨w.heap.size + 1, j - 1, none⟩) (by simp) _⟩
            case measure => simp only [intOf]; omega
    · have hjz : j = 0 := by omega
      subst hjz
      have HQ : Hid (Dec.lval 1000000000 q = a / b ∧ R = a % b) := by
        have h := HV.out
        rw [List.drop_zero, List.drop_zero, Dec.lval_limbs (by omega)] at h
        show _ ∧ _
        rw [h]
        exact ⟨by rw [Nat.add_comm, Nat.add_mul_div_right _ _ hb0, Nat.div_eq_of_lt hR, Nat.zero_add], by rw [Nat.add_comm, Nat.add_mul_mod_self_right, Nat.mod_eq_of_lt hR]⟩
      have hslq := hown.sl
      go_upto_region 12 with (fail)
      go_quiet ((go_at_call 160; exact Calls.quiet_of_same (trim_same _ _ _ _ _ (hslq.drew _) (by omega))))
      go_wp2
      go_ret2
      refine ⟨_, _, _, _, _, _, rfl, ?_, ?_, below_drewN hb _⟩
      · have := hslq.trimmed (B := 1000000000) (by omega) hsq
        rw [HQ.out.1] at this
        exact this.drew _
      · rw [← HQ.out.2]; exact hsr.drew _
end Go.Proofs.YtgphkgmhcmffnaaGreatDoor
