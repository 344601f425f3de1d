/- lispprovermake: Mod, left, Few, FewAll, User, Sym, part. -/
import Derived.Test.YtgphkgmhcmffnaaGreatDoorMkP
import Derived.Test.YtgphkgmhcmffnaaGreatDoorJW
namespace Go.Proofs.YtgphkgmhcmffnaaGreatDoor
open Go.RowKit

abbrev rawCells (o : Raw) (P : Value) : Array Value := #[.int .i64 o.kind, .int .i64 o.n, str o.s, P]
theorem BlkIs.four {w : World} {g : Nat} {t : TypeId} {c0 c1 c2 c3 : Value} (h : BlkIs w g t #[c0, c1, c2, c3]) :
    w.cell? ⟨g, 0, none⟩ = some c0 ∧ w.cell? ⟨g, 1, none⟩ = some c1 ∧ w.cell? ⟨g, 2, none⟩ = some c2 ∧ w.cell? ⟨g, 3, none⟩ = some c3 ∧ g < w.heap.size :=
  ⟨h.cell 0, h.cell 1, h.cell 2, h.cell 3, h.lt⟩
theorem BlkIs.frozen4 {w : World} {g : Nat} {t : TypeId} {cs : Array Value} (h : BlkIs w g t cs) : w.frozen? ⟨g, 0, none⟩ = false ∧ w.frozen? ⟨g, 1, none⟩ = false ∧ w.frozen? ⟨g, 2, none⟩ = false ∧ w.frozen? ⟨g, 3, none⟩ = false :=
  ⟨h.frozen 0, h.frozen 1, h.frozen 2, h.frozen 3⟩
theorem BlkIs.put4 {w : World} {g : Nat} {t : TypeId} {c0 c1 c2 c3 v0 v1 v2 v3 : Value} (h : BlkIs w g t #[c0, c1, c2, c3]) :
    BlkIs ((((w.setCell ⟨g, 0, none⟩ v0).setCell ⟨g, 1, none⟩ v1).setCell ⟨g, 2, none⟩ v2).setCell ⟨g, 3, none⟩ v3) g t #[v0, v1, v2, v3] := by
  have := (((h.set_ 0 v0).set_ 1 v1).set_ 2 v2).set_ 3 v3
  simpa using this
theorem set4 {a w : World} (h0 : Below a.heap.size a w) {g : Nat} (hg : a.heap.size ≤ g) (v0 v1 v2 v3 : Value) :
    Below a.heap.size a ((((w.setCell ⟨g, 0, none⟩ v0).setCell ⟨g, 1, none⟩ v1).setCell ⟨g, 2, none⟩ v2).setCell ⟨g, 3, none⟩ v3) :=
  set2 (set2 (set2 (set2 h0 hg _) hg _) hg _) hg _
set_option maxHeartbeats 400000 in
/-- a return of a raw tree that lies in the result's box -/
theorem ret_raw {fn : Func} {a : Act} {g r : Nat} {w : World} {t : TypeId} {c0 c1 c2 c3 : Value} {Q : Ending → World → Prop} (hf : fn.results = #[.cell r 41]) (ht : a.tmps[r]? = some (.pointer (some ⟨g, 0, none⟩))) (hB : BlkIs w g t #[c0, c1, c2, c3]) (hd : a.defers = []) (hR : Q (.returned (.agg #[c0, c1, c2, c3])) w) : bodyPost Tryz.prog fn Q .ret a w := by
  obtain ⟨h0, h1, h2, h3, _⟩ := hB.four
  refine bodyPost_ret (v := .agg #[c0, c1, c2, c3]) ?_ hd hR
  simp [results, hf, ht, go_sem, h0, h1, h2, h3]
theorem tmod_neg {n m : Int} (hm : 0 < m) (h : n.tmod m < 0) : n % m = n.tmod m + m := by
  have h1 := Int.tmod_eq_emod (a := n) (b := m)
  have h2 := Int.emod_nonneg n (by omega : m ≠ 0)
  have h3 := Int.emod_lt_of_pos n hm
  split at h1 <;> omega
theorem tmod_pos {n m : Int} (hm : 0 < m) (h : ¬ n.tmod m < 0) : n % m = n.tmod m := by
  have h1 := Int.tmod_eq_emod (a := n) (b := m)
  have h2 := Int.emod_nonneg n (by omega : m ≠ 0)
  have h3 := Int.emod_lt_of_pos n hm
  split at h1 <;> omega
set_option maxHeartbeats 400000 in
theorem mod_any (n m : Int) (w : World) (hm : 0 < m) (hm1 : m ≤ 1000000) : Calls Tryz.prog 16 #[.int .i64 n, .int .i64 m] w (RetPureV (.int .i64 (n % m)) w) := by
  have hne : ¬ m = 0 := by omega
  have hb : (m == 0) = false := by rw [beq_eq_false_iff_ne]; omega
  have hb' : (m == -1) = false := by rw [beq_eq_false_iff_ne]; omega
  have hlt : n.tmod m < m := Int.tmod_lt_of_pos n hm
  have hgt : -m < n.tmod m := by
    have h2 := Int.tmod_eq_emod (a := n) (b := m)
    have h3 := Int.emod_nonneg n hne
    have h4 := Int.emod_lt_of_pos n hm
    split at h2 <;> omega
  by_cases hn : n.tmod m < 0
  · rw [tmod_neg hm hn]
    go_enter Tryz.func16, Tryz.ntmps16
    go_wp2
    go_ret
    exact ⟨by go_num, rfl⟩
  · rw [tmod_pos hm hn]
    go_enter Tryz.func16, Tryz.ntmps16
    go_wp2
    go_ret
    exact ⟨by go_num, rfl⟩
def LeftIs (r : Raw) (most v : Int) : Prop := (0 ≤ v → Fit r ∧ v = most - r.size) ∧ -1 ≤ v ∧ v < most
def RetLeft (r : Raw) (most : Int) (w : World) (e : Ending) (w' : World) : Prop := ∃ v : Int, e = .returned (.int .i64 v) ∧ LeftIs r most v ∧ Below w.heap.size w w'
theorem sizeL_take {l : List Raw} {i : Nat} (h : i < l.length) : Raw.sizeL (l.take (i + 1)) = Raw.sizeL (l.take i) + l[i].size := by
  induction l generalizing i with
  | nil => cases h
  | cons a r ih =>
    cases i with
    | zero => simp [Raw.sizeL]
    | succ i =>
      simp only [List.take_succ_cons, Raw.sizeL, List.getElem_cons_succ]
      rw [ih (by simpa using h)]
      omega
theorem mem_take_succ {l : List Raw} {i : Nat} (h : i < l.length) {P : Raw → Prop} (h1 : ∀ x ∈ l.take i, P x) (h2 : P l[i]) : ∀ x ∈ l.take (i + 1), P x := by
  intro x hx
  rw [List.take_succ_eq_append_getElem h] at hx
  rcases List.mem_append.1 hx with hx | hx
  · exact h1 x hx
  · rw [List.mem_singleton] at hx
    rw [hx]; exact h2
set_option maxHeartbeats 2000000 in
set_option maxRecDepth 100000 in
theorem left_any (ok : Nat → Prop) : ∀ (N : Nat) (r : Raw), r.size ≤ N → r.Wf → ∀ (A : Option Addr) (n c : Nat) (most : Int) (w : World), Rd ok w (.slice A n c) (.row (r.l.map Raw.enc)) → 0 ≤ most → most ≤ 1000 →
    Calls Tryz.prog 51 #[rawV r (.slice A n c), .int .i64 most] w (RetLeft r most w) := by
  intro N
  induction N with
  | zero => intro r h; have := Raw.size_pos r; omega
  | succ N ih =>
    intro r hN hW A n c most w hP hm0 hm1
    have hlen := hP.len
    rw [List.length_map] at hlen
    have hls := hW.lens
    have hsl : r.s.length ≤ 9223372036854775807 := hls.1
    have hnl : n ≤ 9223372036854775807 := by rw [← hlen]; exact hls.2
    have hrs : r.size = Raw.sizeL r.l + 1 := by obtain ⟨k, n, s, l⟩ := r; rfl
    have hkid : ∀ x ∈ r.l, x.size ≤ N ∧ x.Wf := fun x hx => ⟨by have := Raw.size_l hx; omega, hW.kids hx⟩
    have HF : Hid (r.s.length ≤ 12 → r.l.length ≤ 6 → (∀ x ∈ r.l, Fit x) → Fit r) := fun a b c => .mk r a b c
    obtain ⟨rk, rn, rs, rl⟩ := r
    dsimp only at *
    have HLen := Lib.hid hlen
    have HRS := Lib.hid hrs
    have HK := Lib.hid hkid
    have HZ : ∀ v : Int, v = -1 → LeftIs ⟨rk, rn, rs, rl⟩ most v := fun v hv => ⟨fun h => by omega, by omega, by omega⟩
    clear hW hls hlen hrs hkid hN
    by_cases h12 : rs.length ≤ 12
    case neg =>
      go_enter Tryz.func51, Tryz.ntmps51
      go_wp2
      go_ret
      exact ⟨-1, rfl, HZ _ rfl, box _ _⟩
    by_cases h6 : n ≤ 6
    case neg =>
      go_enter Tryz.func51, Tryz.ntmps51
      go_wp2
      go_ret
      exact ⟨-1, rfl, HZ _ rfl, box _ _⟩
    have HS12 := Lib.hid h12
    go_enter Tryz.func51, Tryz.ntmps51
    go_wp2
    go_loopw [1, 5] (fun mv ix wr => ∃ (i : Nat) (m : Int), mv = .int .i64 m ∧ ix = .int .i64 i ∧ i ≤ n ∧ -1 ≤ m ∧ m ≤ most - 1 ∧ Hid (0 ≤ m → (∀ x ∈ rl.take i, Fit x) ∧ m = most - 1 - Raw.sizeL (rl.take i)) ∧ Hid (BlkIs wr w.heap.size 41 (rawCells ⟨rk, rn, rs, rl⟩ (.slice A n c))) ∧ Below w.heap.size w wr) (fun _ ix _ => n - (intOf ix).toNat)
    case atStart => exact ⟨0, most - 1, by go_num, rfl, Nat.zero_le _, by omega, by omega, Lib.hid (fun _ => ⟨(fun x hx => by simp at hx), by simp [Raw.sizeL]⟩), Lib.hid (BlkIs.new w _ _), box _ _⟩
    case round =>
      obtain ⟨i, m, rfl, rfl, hi, hm2, hm3, HI, X, hb⟩ := hrel
      obtain ⟨x0, x1, x2, x3, xl⟩ := X.out.four
      by_cases hin : i < n
      · by_cases hmp : 0 ≤ m
        · obtain ⟨b, q, hil, A3, n3, c3, rfl, hbl, _, a0, a1, a2, a3, ha⟩ := hP.raws hb (i := i) hin
          have hbl' := Nat.lt_of_lt_of_le hbl hb.size
          have hk := HK.out rl[i] (List.getElem_mem hil)
          have HC : Hid (Calls Tryz.prog 51 #[rawV rl[i] (.slice A3 n3 c3), .int .i64 m] wr (RetLeft rl[i] m wr)) := ih rl[i] hk.1 hk.2 A3 n3 c3 m wr (ha.under hb) hmp (by omega)
          have HM := Lib.hid (HI.out hmp)
          have HT := Lib.hid (sizeL_take hil)
          have HT2 := Lib.hid (fun (P : Raw → Prop) => mem_take_succ (P := P) hil)
          clear hk HI
          go_wp2_with fail
          refine HC.out.mono ?_
          rintro e w1 ⟨v, rfl, hv, hb1⟩
          have hv1 := hv.2.1
          have hv2 := hv.2.2
          have HV := Lib.hid hv.1
          clear hv
          go_wp2
          go_roundw
          case rel => exact ⟨i + 1, v, rfl, by go_num, by omega, by omega, by omega, Lib.hid (fun h => by
            obtain ⟨h1, h2⟩ := HV.out h
            obtain ⟨h3, h4⟩ := HM.out
            refine ⟨HT2.out Fit h3 h1, ?_⟩
            rw [HT.out]
            omega), Lib.hid (X.out.below hb1), then_ hb hb1⟩
          case measure => simp only [intOf]; omega
        · go_wp2
          go_ret
          exact ⟨m, rfl, ⟨fun h => by omega, by omega, by omega⟩, hb⟩
      · obtain rfl : i = n := by omega
        have HE : Hid (LeftIs ⟨rk, rn, rs, rl⟩ most m) := by
          refine ⟨fun h => ?_, by omega, by omega⟩
          obtain ⟨h1, h2⟩ := HI.out h
          rw [List.take_of_length_le (by have := HLen.out; omega)] at h1 h2
          refine ⟨HF.out HS12.out (by have := HLen.out; omega) h1, ?_⟩
          have := HRS.out
          omega
        go_wp2
        go_ret
        exact ⟨m, rfl, HE.out, hb⟩
/-- true: short strings and lists, and few nodes -/
def RetFew (r : Raw) (most : Nat) (w : World) (e : Ending) (w' : World) : Prop := ∃ b : Bool, e = .returned (.bool b) ∧ (b = true → Fit r ∧ r.size ≤ most) ∧ Below w.heap.size w w'
set_option maxHeartbeats 400000 in
theorem few_any (ok : Nat → Prop) (r : Raw) (hW : r.Wf) (A : Option Addr) (n c : Nat) (most : Nat) (w : World) (hP : Rd ok w (.slice A n c) (.row (r.l.map Raw.enc))) (hm : most ≤ 1000) :
    Calls Tryz.prog 20 #[rawV r (.slice A n c), .int .i64 most] w (RetFew r most w) := by
  have HC : Hid (∀ w' : World, Below w.heap.size w w' → Calls Tryz.prog 51 #[rawV r (.slice A n c), .int .i64 most] w' (RetLeft r most w')) := fun w' hb => left_any ok r.size r (Nat.le_refl _) hW A n c most w' (hP.under hb) (by omega) (by omega)
  go_enter Tryz.func20, Tryz.ntmps20
  go_wp2_with fail
  refine (HC.out _ (box _ _)).mono ?_
  rintro e w1 ⟨v, rfl, hv, hb1⟩
  have HV := Lib.hid hv.1
  clear hv
  go_wp2
  go_ret
  exact ⟨decide (0 ≤ v), rfl, fun h => by
    have h0 := of_decide_eq_true h
    have h1 := HV.out h0
    exact ⟨h1.1, by omega⟩, via hb1⟩
/-- true: at most 8 trees, each of them small -/
def RetFewAll (l : List Raw) (most : Nat) (w : World) (e : Ending) (w' : World) : Prop := ∃ b : Bool, e = .returned (.bool b) ∧ (b = true → l.length ≤ 8 ∧ ∀ r ∈ l, Fit r ∧ r.size ≤ most) ∧ Below w.heap.size w w'
set_option maxHeartbeats 400000 in
theorem user_any (l : List UInt8) (w : World) : Calls Tryz.prog 87 #[str l] w (RetBel (.agg #[str userB, str l]) w) := by
  go_enter Tryz.func87, Tryz.ntmps87
  go_wp2
  exact bodyPost_ret (v := .agg #[str userB, str l]) (by simp [results, Tryz.results87, go_sem]) rfl ⟨rfl, box _ _⟩
set_option maxHeartbeats 400000 in
theorem ret_sym {fn : Func} {a : Act} {g r : Nat} {w : World} {t : TypeId} {c0 c1 : Value} {Q : Ending → World → Prop} (hf : fn.results = #[.cell r 28]) (ht : a.tmps[r]? = some (.pointer (some ⟨g, 0, none⟩))) (hB : BlkIs w g t #[c0, c1]) (hd : a.defers = []) (hR : Q (.returned (.agg #[c0, c1])) w) : bodyPost Tryz.prog fn Q .ret a w := by
  obtain ⟨h0, h1, _⟩ := hB.two
  refine bodyPost_ret (v := .agg #[c0, c1]) ?_ hd hR
  simp [results, hf, ht, go_sem, h0, h1]
theorem BlkIs.put2 {w : World} {g : Nat} {t : TypeId} {c0 c1 v0 v1 : Value} (h : BlkIs w g t #[c0, c1]) : BlkIs ((w.setCell ⟨g, 0, none⟩ v0).setCell ⟨g, 1, none⟩ v1) g t #[v0, v1] := by
  have := (h.set_ 0 v0).set_ 1 v1
  simpa using this
set_option maxHeartbeats 1000000 in
set_option maxRecDepth 100000 in
theorem sym_0 (n : Int) (w : World) (hk : n % 13 = 0) : Calls Tryz.prog 53 #[.int .i64 n] w (RetBel (.agg #[str userB, str [97]]) w) := by
  have HM : Hid (∀ w' : World, Calls Tryz.prog 16 #[.int .i64 n, .int .i64 13] w' (RetPureV (.int .i64 0) w')) := fun w' => by
    have := mod_any n 13 w' (by omega) (by omega)
    rwa [hk] at this
  clear hk
  go_enter Tryz.func53, Tryz.ntmps53
  go_wp2_with fail
  refine (HM.out _).mono ?_
  rintro e w1 ⟨rfl, rfl⟩
  go_wp2_with fail
  refine (user_any [97] _).mono ?_
  rintro e w1 ⟨rfl, hb⟩
  have X := Lib.hid ((BlkIs.new w 28 #[str [], str []]).alloc _ |>.below hb)
  obtain ⟨x0, x1, f0, f1, xl⟩ := X.out.two
  go_wp2
  exact ret_sym Tryz.results53 rfl X.out.put2 rfl ⟨rfl, set2 (set2 (via (via hb)) (Nat.le_refl _) _) (Nat.le_refl _) _⟩
set_option maxHeartbeats 1000000 in
set_option maxRecDepth 100000 in
theorem sym_1 (n : Int) (w : World) (hk : n % 13 = 1) : Calls Tryz.prog 53 #[.int .i64 n] w (RetBel (.agg #[str userB, str [98]]) w) := by
  have HM : Hid (∀ w' : World, Calls Tryz.prog 16 #[.int .i64 n, .int .i64 13] w' (RetPureV (.int .i64 1) w')) := fun w' => by
    have := mod_any n 13 w' (by omega) (by omega)
    rwa [hk] at this
  clear hk
  go_enter Tryz.func53, Tryz.ntmps53
  go_wp2_with fail
  refine (HM.out _).mono ?_
  rintro e w1 ⟨rfl, rfl⟩
  go_wp2_with fail
  refine (user_any [98] _).mono ?_
  rintro e w1 ⟨rfl, hb⟩
  have X := Lib.hid ((BlkIs.new w 28 #[str [], str []]).alloc _ |>.below hb)
  obtain ⟨x0, x1, f0, f1, xl⟩ := X.out.two
  go_wp2
  exact ret_sym Tryz.results53 rfl X.out.put2 rfl ⟨rfl, set2 (set2 (via (via hb)) (Nat.le_refl _) _) (Nat.le_refl _) _⟩
set_option maxHeartbeats 1000000 in
set_option maxRecDepth 100000 in
theorem sym_2 (n : Int) (w : World) (hk : n % 13 = 2) : Calls Tryz.prog 53 #[.int .i64 n] w (RetBel (.agg #[str userB, str [102, 111, 111]]) w) := by
  have HM : Hid (∀ w' : World, Calls Tryz.prog 16 #[.int .i64 n, .int .i64 13] w' (RetPureV (.int .i64 2) w')) := fun w' => by
    have := mod_any n 13 w' (by omega) (by omega)
    rwa [hk] at this
  clear hk
  go_enter Tryz.func53, Tryz.ntmps53
  go_wp2_with fail
  refine (HM.out _).mono ?_
  rintro e w1 ⟨rfl, rfl⟩
  go_wp2_with fail
  refine (user_any [102, 111, 111] _).mono ?_
  rintro e w1 ⟨rfl, hb⟩
  have X := Lib.hid ((BlkIs.new w 28 #[str [], str []]).alloc _ |>.below hb)
  obtain ⟨x0, x1, f0, f1, xl⟩ := X.out.two
  go_wp2
  exact ret_sym Tryz.results53 rfl X.out.put2 rfl ⟨rfl, set2 (set2 (via (via hb)) (Nat.le_refl _) _) (Nat.le_refl _) _⟩
set_option maxHeartbeats 1000000 in
set_option maxRecDepth 100000 in
theorem sym_3 (n : Int) (w : World) (hk : n % 13 = 3) : Calls Tryz.prog 53 #[.int .i64 n] w (RetBel (.agg #[str userB, str [111, 100, 100, 32, 110, 97, 109, 101]]) w) := by
  have HM : Hid (∀ w' : World, Calls Tryz.prog 16 #[.int .i64 n, .int .i64 13] w' (RetPureV (.int .i64 3) w')) := fun w' => by
    have := mod_any n 13 w' (by omega) (by omega)
    rwa [hk] at this
  clear hk
  go_enter Tryz.func53, Tryz.ntmps53
  go_wp2_with fail
  refine (HM.out _).mono ?_
  rintro e w1 ⟨rfl, rfl⟩
  go_wp2_with fail
  refine (user_any [111, 100, 100, 32, 110, 97, 109, 101] _).mono ?_
  rintro e w1 ⟨rfl, hb⟩
  have X := Lib.hid ((BlkIs.new w 28 #[str [], str []]).alloc _ |>.below hb)
  obtain ⟨x0, x1, f0, f1, xl⟩ := X.out.two
  go_wp2
  exact ret_sym Tryz.results53 rfl X.out.put2 rfl ⟨rfl, set2 (set2 (via (via hb)) (Nat.le_refl _) _) (Nat.le_refl _) _⟩
set_option maxHeartbeats 1000000 in
set_option maxRecDepth 100000 in
theorem sym_4 (n : Int) (w : World) (hk : n % 13 = 4) : Calls Tryz.prog 53 #[.int .i64 n] w (RetBel (.agg #[str userB, str [49]]) w) := by
  have HM : Hid (∀ w' : World, Calls Tryz.prog 16 #[.int .i64 n, .int .i64 13] w' (RetPureV (.int .i64 4) w')) := fun w' => by
    have := mod_any n 13 w' (by omega) (by omega)
    rwa [hk] at this
  clear hk
  go_enter Tryz.func53, Tryz.ntmps53
  go_wp2_with fail
  refine (HM.out _).mono ?_
  rintro e w1 ⟨rfl, rfl⟩
  go_wp2_with fail
  refine (user_any [49] _).mono ?_
  rintro e w1 ⟨rfl, hb⟩
  have X := Lib.hid ((BlkIs.new w 28 #[str [], str []]).alloc _ |>.below hb)
  obtain ⟨x0, x1, f0, f1, xl⟩ := X.out.two
  go_wp2
  exact ret_sym Tryz.results53 rfl X.out.put2 rfl ⟨rfl, set2 (set2 (via (via hb)) (Nat.le_refl _) _) (Nat.le_refl _) _⟩
set_option maxHeartbeats 1000000 in
set_option maxRecDepth 100000 in
theorem sym_5 (n : Int) (w : World) (hk : n % 13 = 5) : Calls Tryz.prog 53 #[.int .i64 n] w (RetBel (.agg #[str userB, str [120, 124, 121]]) w) := by
  have HM : Hid (∀ w' : World, Calls Tryz.prog 16 #[.int .i64 n, .int .i64 13] w' (RetPureV (.int .i64 5) w')) := fun w' => by
    have := mod_any n 13 w' (by omega) (by omega)
    rwa [hk] at this
  clear hk
  go_enter Tryz.func53, Tryz.ntmps53
  go_wp2_with fail
  refine (HM.out _).mono ?_
  rintro e w1 ⟨rfl, rfl⟩
  go_wp2_with fail
  refine (user_any [120, 124, 121] _).mono ?_
  rintro e w1 ⟨rfl, hb⟩
  have X := Lib.hid ((BlkIs.new w 28 #[str [], str []]).alloc _ |>.below hb)
  obtain ⟨x0, x1, f0, f1, xl⟩ := X.out.two
  go_wp2
  exact ret_sym Tryz.results53 rfl X.out.put2 rfl ⟨rfl, set2 (set2 (via (via hb)) (Nat.le_refl _) _) (Nat.le_refl _) _⟩
set_option maxHeartbeats 1000000 in
set_option maxRecDepth 100000 in
theorem sym_6 (n : Int) (w : World) (hk : n % 13 = 6) : Calls Tryz.prog 53 #[.int .i64 n] w (RetBel (.agg #[str userB, str [46]]) w) := by
  have HM : Hid (∀ w' : World, Calls Tryz.prog 16 #[.int .i64 n, .int .i64 13] w' (RetPureV (.int .i64 6) w')) := fun w' => by
    have := mod_any n 13 w' (by omega) (by omega)
    rwa [hk] at this
  clear hk
  go_enter Tryz.func53, Tryz.ntmps53
  go_wp2_with fail
  refine (HM.out _).mono ?_
  rintro e w1 ⟨rfl, rfl⟩
  go_wp2_with fail
  refine (user_any [46] _).mono ?_
  rintro e w1 ⟨rfl, hb⟩
  have X := Lib.hid ((BlkIs.new w 28 #[str [], str []]).alloc _ |>.below hb)
  obtain ⟨x0, x1, f0, f1, xl⟩ := X.out.two
  go_wp2
  exact ret_sym Tryz.results53 rfl X.out.put2 rfl ⟨rfl, set2 (set2 (via (via hb)) (Nat.le_refl _) _) (Nat.le_refl _) _⟩
set_option maxHeartbeats 1000000 in
set_option maxRecDepth 100000 in
theorem sym_7 (n : Int) (w : World) (hk : n % 13 = 7) : Calls Tryz.prog 53 #[.int .i64 n] w (RetBel (.agg #[str userB, str [45, 50, 47, 51]]) w) := by
  have HM : Hid (∀ w' : World, Calls Tryz.prog 16 #[.int .i64 n, .int .i64 13] w' (RetPureV (.int .i64 7) w')) := fun w' => by
    have := mod_any n 13 w' (by omega) (by omega)
    rwa [hk] at this
  clear hk
  go_enter Tryz.func53, Tryz.ntmps53
  go_wp2_with fail
  refine (HM.out _).mono ?_
  rintro e w1 ⟨rfl, rfl⟩
  go_wp2_with fail
  refine (user_any [45, 50, 47, 51] _).mono ?_
  rintro e w1 ⟨rfl, hb⟩
  have X := Lib.hid ((BlkIs.new w 28 #[str [], str []]).alloc _ |>.below hb)
  obtain ⟨x0, x1, f0, f1, xl⟩ := X.out.two
  go_wp2
  exact ret_sym Tryz.results53 rfl X.out.put2 rfl ⟨rfl, set2 (set2 (via (via hb)) (Nat.le_refl _) _) (Nat.le_refl _) _⟩
set_option maxHeartbeats 1000000 in
set_option maxRecDepth 100000 in
theorem sym_8 (n : Int) (w : World) (hk : n % 13 = 8) : Calls Tryz.prog 53 #[.int .i64 n] w (RetBel (.agg #[str userB, str [35]]) w) := by
  have HM : Hid (∀ w' : World, Calls Tryz.prog 16 #[.int .i64 n, .int .i64 13] w' (RetPureV (.int .i64 8) w')) := fun w' => by
    have := mod_any n 13 w' (by omega) (by omega)
    rwa [hk] at this
  clear hk
  go_enter Tryz.func53, Tryz.ntmps53
  go_wp2_with fail
  refine (HM.out _).mono ?_
  rintro e w1 ⟨rfl, rfl⟩
  go_wp2_with fail
  refine (user_any [35] _).mono ?_
  rintro e w1 ⟨rfl, hb⟩
  have X := Lib.hid ((BlkIs.new w 28 #[str [], str []]).alloc _ |>.below hb)
  obtain ⟨x0, x1, f0, f1, xl⟩ := X.out.two
  go_wp2
  exact ret_sym Tryz.results53 rfl X.out.put2 rfl ⟨rfl, set2 (set2 (via (via hb)) (Nat.le_refl _) _) (Nat.le_refl _) _⟩
set_option maxHeartbeats 1000000 in
set_option maxRecDepth 100000 in
theorem sym_9 (n : Int) (w : World) (hk : n % 13 = 9) : Calls Tryz.prog 53 #[.int .i64 n] w (RetBel (.agg #[str lispB, str nilB]) w) := by
  have HM : Hid (∀ w' : World, Calls Tryz.prog 16 #[.int .i64 n, .int .i64 13] w' (RetPureV (.int .i64 9) w')) := fun w' => by
    have := mod_any n 13 w' (by omega) (by omega)
    rwa [hk] at this
  clear hk
  go_enter Tryz.func53, Tryz.ntmps53
  go_wp2_with fail
  refine (HM.out _).mono ?_
  rintro e w1 ⟨rfl, rfl⟩
  go_wp2_with fail
  refine (rLisp_any nilB _).mono ?_
  rintro e w1 ⟨rfl, hb⟩
  have X := Lib.hid ((BlkIs.new w 28 #[str [], str []]).alloc _ |>.below hb)
  obtain ⟨x0, x1, f0, f1, xl⟩ := X.out.two
  go_wp2
  exact ret_sym Tryz.results53 rfl X.out.put2 rfl ⟨rfl, set2 (set2 (via (via hb)) (Nat.le_refl _) _) (Nat.le_refl _) _⟩
set_option maxHeartbeats 1000000 in
set_option maxRecDepth 100000 in
theorem sym_10 (n : Int) (w : World) (hk : n % 13 = 10) : Calls Tryz.prog 53 #[.int .i64 n] w (RetBel (.agg #[str lispB, str [116]]) w) := by
  have HM : Hid (∀ w' : World, Calls Tryz.prog 16 #[.int .i64 n, .int .i64 13] w' (RetPureV (.int .i64 10) w')) := fun w' => by
    have := mod_any n 13 w' (by omega) (by omega)
    rwa [hk] at this
  clear hk
  go_enter Tryz.func53, Tryz.ntmps53
  go_wp2_with fail
  refine (HM.out _).mono ?_
  rintro e w1 ⟨rfl, rfl⟩
  go_wp2_with fail
  refine (rLisp_any [116] _).mono ?_
  rintro e w1 ⟨rfl, hb⟩
  have X := Lib.hid ((BlkIs.new w 28 #[str [], str []]).alloc _ |>.below hb)
  obtain ⟨x0, x1, f0, f1, xl⟩ := X.out.two
  go_wp2
  exact ret_sym Tryz.results53 rfl X.out.put2 rfl ⟨rfl, set2 (set2 (via (via hb)) (Nat.le_refl _) _) (Nat.le_refl _) _⟩
set_option maxHeartbeats 1000000 in
set_option maxRecDepth 100000 in
theorem sym_11 (n : Int) (w : World) (hk : n % 13 = 11) : Calls Tryz.prog 53 #[.int .i64 n] w (RetBel (.agg #[str lispB, str [99, 97, 114]]) w) := by
  have HM : Hid (∀ w' : World, Calls Tryz.prog 16 #[.int .i64 n, .int .i64 13] w' (RetPureV (.int .i64 11) w')) := fun w' => by
    have := mod_any n 13 w' (by omega) (by omega)
    rwa [hk] at this
  clear hk
  go_enter Tryz.func53, Tryz.ntmps53
  go_wp2_with fail
  refine (HM.out _).mono ?_
  rintro e w1 ⟨rfl, rfl⟩
  go_wp2_with fail
  refine (rLisp_any [99, 97, 114] _).mono ?_
  rintro e w1 ⟨rfl, hb⟩
  have X := Lib.hid ((BlkIs.new w 28 #[str [], str []]).alloc _ |>.below hb)
  obtain ⟨x0, x1, f0, f1, xl⟩ := X.out.two
  go_wp2
  exact ret_sym Tryz.results53 rfl X.out.put2 rfl ⟨rfl, set2 (set2 (via (via hb)) (Nat.le_refl _) _) (Nat.le_refl _) _⟩
set_option maxHeartbeats 1000000 in
set_option maxRecDepth 100000 in
theorem sym_12 (n : Int) (w : World) (hk : n % 13 = 12) : Calls Tryz.prog 53 #[.int .i64 n] w (RetBel (.agg #[str lispB, str [113, 117, 111, 116, 101]]) w) := by
  have HM : Hid (∀ w' : World, Calls Tryz.prog 16 #[.int .i64 n, .int .i64 13] w' (RetPureV (.int .i64 12) w')) := fun w' => by
    have := mod_any n 13 w' (by omega) (by omega)
    rwa [hk] at this
  clear hk
  go_enter Tryz.func53, Tryz.ntmps53
  go_wp2_with fail
  refine (HM.out _).mono ?_
  rintro e w1 ⟨rfl, rfl⟩
  go_wp2_with fail
  refine (rLisp_any [113, 117, 111, 116, 101] _).mono ?_
  rintro e w1 ⟨rfl, hb⟩
  have X := Lib.hid ((BlkIs.new w 28 #[str [], str []]).alloc _ |>.below hb)
  obtain ⟨x0, x1, f0, f1, xl⟩ := X.out.two
  go_wp2
  exact ret_sym Tryz.results53 rfl X.out.put2 rfl ⟨rfl, set2 (set2 (via (via hb)) (Nat.le_refl _) _) (Nat.le_refl _) _⟩
theorem sym_any (n : Int) (w : World) : Calls Tryz.prog 53 #[.int .i64 n] w (RetBel (.agg #[str (symP n).1, str (symP n).2]) w) := by
  have hc : n % 13 = 0 ∨ n % 13 = 1 ∨ n % 13 = 2 ∨ n % 13 = 3 ∨ n % 13 = 4 ∨ n % 13 = 5 ∨ n % 13 = 6 ∨ n % 13 = 7 ∨ n % 13 = 8 ∨ n % 13 = 9 ∨ n % 13 = 10 ∨ n % 13 = 11 ∨ n % 13 = 12 := by omega
  unfold symP
  rcases hc with h | h | h | h | h | h | h | h | h | h | h | h | h
  · rw [h]; exact sym_0 n w h
  · rw [h]; exact sym_1 n w h
  · rw [h]; exact sym_2 n w h
  · rw [h]; exact sym_3 n w h
  · rw [h]; exact sym_4 n w h
  · rw [h]; exact sym_5 n w h
  · rw [h]; exact sym_6 n w h
  · rw [h]; exact sym_7 n w h
  · rw [h]; exact sym_8 n w h
  · rw [h]; exact sym_9 n w h
  · rw [h]; exact sym_10 n w h
  · rw [h]; exact sym_11 n w h
  · rw [h]; exact sym_12 n w h
/-- the i-th part, or an empty tree -/
def partR (r : Raw) (i : Nat) : Raw := r.l.getD i ⟨0, 0, [], []⟩
def RetRaw (ok : Nat → Prop) (r : Raw) (w : World) (e : Ending) (w' : World) : Prop := ∃ A n c, e = .returned (rawV r (.slice A n c)) ∧ Rd ok w (.slice A n c) (.row (r.l.map Raw.enc)) ∧ Below w.heap.size w w'
set_option maxHeartbeats 1000000 in
set_option maxRecDepth 100000 in
theorem part_any (ok : Nat → Prop) (r : Raw) (i : Nat) (A : Option Addr) (n c : Nat) (w : World) (hP : Rd ok w (.slice A n c) (.row (r.l.map Raw.enc))) :
    Calls Tryz.prog 55 #[rawV r (.slice A n c), .int .i64 i] w (RetRaw ok (partR r i) w) := by
  have hlen := hP.len
  rw [List.length_map] at hlen
  by_cases hin : i < n
  · have e : partR r i = r.l[i]'(by omega) := by unfold partR; rw [List.getD_eq_getElem?_getD, List.getElem?_eq_getElem (by omega)]; rfl
    rw [e]
    clear e
    have hb : Below w.heap.size w (((w.alloc (.cells (rawCells r (.slice A n c)) 41)).alloc (.cells #[.int .i64 0, .int .i64 0, .string ⟨#[]⟩, .slice none 0 0] 41))) := box2 (box _ _) _
    obtain ⟨b, q, hil, A3, n3, c3, rfl, hbl, _, a0, a1, a2, a3, ha⟩ := hP.raws hb (i := i) hin
    have hbl' := Nat.lt_of_lt_of_le hbl hb.size
    clear hb
    go_enter Tryz.func55, Tryz.ntmps55
    go_wp2
    exact ret_raw Tryz.results55 rfl (BlkIs.new1 w _ _ _) rfl ⟨A3, n3, c3, rfl, ha, box2 (box _ _) _⟩
  · have e : partR r i = ⟨0, 0, [], []⟩ := by unfold partR; rw [List.getD_eq_getElem?_getD, List.getElem?_eq_none (by omega)]; rfl
    rw [e]
    clear e hlen
    go_enter Tryz.func55, Tryz.ntmps55
    go_wp2
    exact ret_raw Tryz.results55 rfl (BlkIs.new1 w _ _ _) rfl ⟨none, 0, 0, rfl, .nil _ _, box2 (box _ _) _⟩
end Go.Proofs.YtgphkgmhcmffnaaGreatDoor
