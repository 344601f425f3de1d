/- Which terms are valid: nodes and depth, the walks of the code's text. -/
import Derived.Test.YtlbbfmijemnjdaaGreatDoorOJ
import Derived.Test.YtlbbfmijemnjdaaGreatDoorOL
import Derived.Test.YtlbbfmijemnjdaaGreatDoorOF
import Derived.Test.YtlbbfmijemnjdaaGreatDoorOE
namespace Go.Proofs.YtlbbfmijemnjdaaGreatDoor
open Go.RowKit
open Te

theorem bin_ile {P : Program} {t : TypeId} {x y : Operand} {k : IntKind} {a b : Int} {r : Bool} (h : decide (a ≤ b) = r) : BinIs P .leq t x y (.int k a) (.int k b) (.bool r) := by
  subst h
  exact sbin_is (by simp [sbin])
theorem syGn : Tryz.prog.eqGuardType Tryz.prog.depth 29 = false := by kernel_rfl
theorem bin_syne {x y : Operand} {p s p' s' : List UInt8} {r : Bool} (h : (decide (p = p') && decide (s = s')) = !r) : BinIs Tryz.prog .neq 29 x y (.agg #[str p, str s]) (.agg #[str p', str s']) (.bool r) := by
  intro w
  rw [show r = !(decide (p = p') && decide (s = s')) by rw [h, Bool.not_not]]
  simp only [Sem.run_bind, run_eqGuard_agg w .neq _ x y _ _ syGn, Result.andThen_ok, run_neq_struct, sy_equal]
theorem p_oNodesO (o : Ob) : Puk 98 [obA o] (inA (nodesP o)) :=
  pk_ov (fnm Tryz.func98 rfl (by kernel_rfl)) fun ok A n c w _ hr => oNodes_any ok o A n c w hr
theorem p_rNodesO {o : Ob} (h : o.Wf) : Puk 48 [obA o] (inA (nodesP o)) :=
  pk_ov (fnm Tryz.func48 rfl (by kernel_rfl)) fun ok A n c w _ hr => rNodes_any ok o h A n c w hr
theorem p_oValidO {o : Ob} (h : o.Wf) (hs : o.Sm) : Puk 79 [obA o] (boA o.validB) :=
  pk_ov (fnm Tryz.func79 rfl (by kernel_rfl)) fun ok A n c w ht hr => oValid_any ok o h hs A n c w ht hr
theorem p_rValidO {o : Ob} (h : o.Wf) (hs : o.Sm) : Puk 87 [obA o] (boA o.validB) :=
  pk_ov (fnm Tryz.func87 rfl (by kernel_rfl)) fun ok A n c w _ hr => rValid_any ok o h hs A n c w hr
theorem RL.one_sy {M : Mm} {w : World} {p n : List UInt8} {vs : List Value} (h : RL M w [syA p n] vs) : vs = [symAgg ⟨p, n⟩] := by
  obtain ⟨u, us, rfl, ⟨ws, rfl, u0, us0, rfl, h0, u1, us1, rfl, h1, h2⟩, h3⟩ := h
  obtain rfl : us = [] := h3
  obtain rfl : us1 = [] := h2
  rw [Rd.val_eq h0, Rd.val_eq h1]
theorem p_symV (p n : List UInt8) (hp : p.length ≤ 9223372036854775807) (hn : n.length ≤ 9223372036854775807) : Puk 80 [syA p n] (boA (symOk ⟨p, n⟩)) :=
  ⟨fnm Tryz.func80 rfl (by kernel_rfl), fun ok w vs _ hv => by
    obtain rfl := hv.one_sy
    exact (symValid_any ⟨p, n⟩ w hp hn).mono fun _ _ h => h.pure⟩
theorem p_ref4V (p n : List UInt8) (hp : p.length ≤ 9223372036854775807) (hn : n.length ≤ 9223372036854775807) : Puk 88 [syA p n] (boA (symOk ⟨p, n⟩)) :=
  ⟨fnm Tryz.func88 rfl (by kernel_rfl), fun ok w vs _ hv => by
    obtain rfl := hv.one_sy
    exact (ref4Valid_any ⟨p, n⟩ w hp hn).mono fun _ _ h => h.pure⟩
/- rest -/
abbrev rsS (l : List Te) (m i : Int) : AS := ⟨stt 38 [(1, inA m), (21, tesA l), (22, inA l.length), (23, inA i)], []⟩
abbrev rsE (m : Int) : AS := ⟨stt 38 [(1, inA m)], []⟩
abbrev rsR (m : Int) : AS := ⟨stt 38 [(4, inA m)], []⟩
noncomputable abbrev rsB : Code := subC (bodyOf Tryz.f76) [1,0,1,0,1,1,1,0,1,0,1,0,0]
theorem rsB1 {l : List Te} {x : Te} {m k : Int} {i : Nat} (hx : l[i]? = some x) (hl : l.length ≤ 9223372036854775807) (hm : ¬ m ≤ 0) (h : Puk 76 [teA x, inA m] (inA k)) : Tri EX rsB (rsS l m i) .nxt (rsS l k ((i + 1 : Nat) : Int)) :=
  twalk (c := subC (bodyOf Tryz.f76) [1,0,1,0,1,1,1,0,1,0,1,0,0]) (s := rsS l m i) (an := [yT, .av (.pin ((encT x).map .dt)), yF, .av (inA k), .av (inA ((i + 1 : Nat) : Int))]) (ls := []) (ft := [1,21,22,23]) (nb := 0) (e := .nxt) (s' := rsS l k ((i + 1 : Nat) : Int)) (ps := [Bn .lss 3 (.tmp 23) (.tmp 22) (vi ↑i) (vi ↑l.length) bT, IxAt (List.map Te.enc l) ↑i 11 (encT x), Bn .leq 3 (.tmp 27) (.const (vi 0)) (vi m) (vi 0) bF, Puk 76 [(teA x), (inA m)] (inA k), Bn .add 3 (.tmp 23) (.const (vi 1)) (vi ↑i) (vi 1) (vi (↑(i + 1)))]) (by kernel_rfl)
    ⟨bin_ilt (decide_eq_true (by have := (List.getElem?_eq_some_iff.1 hx).1; omega)), ix_te hx, bin_ile (decide_eq_false hm), h, bin_iadd (by omega) (by omega) (by have := (List.getElem?_eq_some_iff.1 hx).1; omega), trivial⟩
theorem rsB2 {l : List Te} {m : Int} {i : Nat} (hi : i = l.length) : Tri EX rsB (rsS l m i) (.out 1) (rsE m) :=
  twalk (c := subC (bodyOf Tryz.f76) [1,0,1,0,1,1,1,0,1,0,1,0,0]) (s := rsS l m i) (an := [yF]) (ls := []) (ft := [1]) (nb := 0) (e := .out 1) (s' := rsE m) (ps := [Bn .lss 3 (.tmp 23) (.tmp 22) (vi ↑i) (vi ↑l.length) bF]) (by kernel_rfl)
    ⟨bin_ilt (decide_eq_false (by omega)), trivial⟩
theorem rsB3 {l : List Te} {x : Te} {m : Int} {i : Nat} (hx : l[i]? = some x) (hm : m ≤ 0) : Tri EX rsB (rsS l m i) .ret (rsR m) :=
  twalk (c := subC (bodyOf Tryz.f76) [1,0,1,0,1,1,1,0,1,0,1,0,0]) (s := rsS l m i) (an := [yT, .av (.pin ((encT x).map .dt)), yT, .av (inA m)]) (ls := []) (ft := [4]) (nb := 0) (e := .ret) (s' := rsR m) (ps := [Bn .lss 3 (.tmp 23) (.tmp 22) (vi ↑i) (vi ↑l.length) bT, IxAt (List.map Te.enc l) ↑i 11 (encT x), Bn .leq 3 (.tmp 27) (.const (vi 0)) (vi m) (vi 0) bT, (vi m) = (vi (if 0 < m then 0 else m))]) (by kernel_rfl)
    ⟨bin_ilt (decide_eq_true (by have := (List.getElem?_eq_some_iff.1 hx).1; omega)), ix_te hx, bin_ile (decide_eq_true hm), by rw [if_neg (by omega)], trivial⟩
theorem rs_loop {l : List Te} (hl : l.length ≤ 9223372036854775807) (h : ∀ x ∈ l, ∀ m : Int, 1 ≤ m → m ≤ 3001 → Puk 76 [teA x, inA m] (inA (rst x m))) : ∀ (s : List Te) (i : Nat) (m : Int), l.drop i = s → i ≤ l.length → m ≤ 3001 → Lps EX rsB (rsS l m i) (.out 1) (rsE (rstL s m)) ∨ Lps EX rsB (rsS l m i) .ret (rsR (rstL s m)) := by
  intro s
  induction s with
  | nil =>
    intro i m hd hi hm
    have e1 := congrArg List.length hd
    rw [List.length_drop, List.length_nil] at e1
    rw [rstL]
    exact .inl (.stop (rsB2 (by omega)) (fun h => by cases h))
  | cons x s ih =>
    intro i m hd hi hm
    have hx : l[i]? = some x := by rw [← List.head?_drop, hd]; rfl
    have hlt := (List.getElem?_eq_some_iff.1 hx).1
    have hd2 : l.drop (i + 1) = s := by rw [← List.drop_drop, hd]; rfl
    rw [rstL]
    by_cases h0 : m ≤ 0
    · rw [if_pos h0]
      exact .inr (.stop (rsB3 hx h0) (fun h => by cases h))
    · rw [if_neg h0]
      have hr := rst_law x m (by omega) hm
      have hc := h x (List.mem_of_getElem? hx) m (by omega) hm
      rcases ih (i + 1) (rst x m) hd2 (by omega) (by omega) with h1 | h1
      · exact .inl (.more (rsB1 hx hl h0 hc) h1)
      · exact .inr (.more (rsB1 hx hl h0 hc) h1)
theorem rst_eq (t : Te) (m : Int) : rst t m = if t.kind = 2 then m - nodesP t.val else if t.kind = 3 then rstL t.args (m - 1) else m - 1 := by obtain ⟨k, p, n, o, l⟩ := t; rw [rst]
theorem p_rst : ∀ (N : Nat) (t : Te) (m : Int), t.size ≤ N → t.Bd → 1 ≤ m → m ≤ 3001 → Puk 76 [teA t, inA m] (inA (rst t m)) := by
  intro N
  induction N with
  | zero => intro t m h; have := t.size_pos; omega
  | succ N ih =>
    intro t m hN hb h1 h2
    obtain ⟨hv, hs, hp, hn, hl⟩ := hb.parts
    have hkids : ∀ x ∈ t.args, ∀ m : Int, 1 ≤ m → m ≤ 3001 → Puk 76 [teA x, inA m] (inA (rst x m)) := fun x hx m h1 h2 => ih x m (by have := Te.size_args hx; omega) (hb.kids hx) h1 h2
    have hP := nodesP_min t.val
    rw [rst_eq]
    by_cases k2 : t.kind = 2
    · rw [if_pos k2]
      exact pwalk (an := [yT, .av (inA (nodesP t.val)), .av (inA (m - nodesP t.val))]) (ls := []) (ps := [Bn .eql 3 (.tmp 8) (.const (vi 2)) (vi t.kind) (vi 2) bT, Puk 98 [(obA t.val)] (inA (nodesP t.val)), Bn .sub 3 (.tmp 11) (.tmp 14) (vi m) (vi (nodesP t.val)) (vi (m - nodesP t.val))]) Tryz.func76 (by kernel_rfl) (by kernel_rfl) ⟨bin_ieq (yesD k2), p_oNodesO t.val, bin_isub rfl (by omega) (by omega), trivial⟩
    rw [if_neg k2]
    by_cases k3 : t.kind = 3
    · rw [if_pos k3]
      rcases rs_loop hl hkids t.args 0 (m - 1) rfl (Nat.zero_le _) (by omega) with h | h
      · have ht := h.tri
        generalize rstL t.args (m - 1) = r at *
        exact pwalk (an := [yF, yT, .av (inA (m - 1)), .av (inA t.args.length)]) (ls := [.inv [1,21,22,23] 0 (.out 1) (rsE r)]) (ps := [Bn .eql 3 (.tmp 8) (.const (vi 2)) (vi t.kind) (vi 2) bF, Bn .eql 3 (.tmp 8) (.const (vi 3)) (vi t.kind) (vi 3) bT, Bn .sub 3 (.tmp 18) (.const (vi 1)) (vi m) (vi 1) (vi (m - 1)), (vi ↑t.args.length) = (vi (↑(List.map Te.enc t.args).length)), Tri EX (.loop (subC (bodyOf Tryz.f76) [1,0,1,0,1,1,1,0,1,0,1,0,0])) (rsS t.args (m - 1) 0) (.out 1) (rsE r)]) Tryz.func76 (by kernel_rfl) (by kernel_rfl) ⟨bin_ieq (noD k2), bin_ieq (yesD k3), bin_isub rfl (by omega) (by omega), lenEncT _, ht, trivial⟩
      · have ht := h.tri
        generalize rstL t.args (m - 1) = r at *
        exact pwalk (an := [yF, yT, .av (inA (m - 1)), .av (inA t.args.length)]) (ls := [.inv [1,21,22,23] 0 (.ret) (rsR r)]) (ps := [Bn .eql 3 (.tmp 8) (.const (vi 2)) (vi t.kind) (vi 2) bF, Bn .eql 3 (.tmp 8) (.const (vi 3)) (vi t.kind) (vi 3) bT, Bn .sub 3 (.tmp 18) (.const (vi 1)) (vi m) (vi 1) (vi (m - 1)), (vi ↑t.args.length) = (vi (↑(List.map Te.enc t.args).length)), Tri EX (.loop (subC (bodyOf Tryz.f76) [1,0,1,0,1,1,1,0,1,0,1,0,0])) (rsS t.args (m - 1) 0) (.ret) (rsR r)]) Tryz.func76 (by kernel_rfl) (by kernel_rfl) ⟨bin_ieq (noD k2), bin_ieq (yesD k3), bin_isub rfl (by omega) (by omega), lenEncT _, ht, trivial⟩
    · rw [if_neg k3]
      exact pwalk (an := [yF, yF, .av (inA (m - 1))]) (ls := []) (ps := [Bn .eql 3 (.tmp 8) (.const (vi 2)) (vi t.kind) (vi 2) bF, Bn .eql 3 (.tmp 8) (.const (vi 3)) (vi t.kind) (vi 3) bF, Bn .sub 3 (.tmp 36) (.const (vi 1)) (vi m) (vi 1) (vi (m - 1))]) Tryz.func76 (by kernel_rfl) (by kernel_rfl) ⟨bin_ieq (noD k2), bin_ieq (noD k3), bin_isub rfl (by omega) (by omega), trivial⟩
theorem w_tNodes {t : Te} {r a k : Int} (h : Puk 76 [teA t, inA 3001] (inA r)) (ha : a = if r > 0 then r else 0) (hk : 3001 - a = k) (h0 : 0 ≤ k) (h1 : k ≤ 3001) : Puk 50 [teA t] (inA k) :=
  pwalk (an := [.av (inA r), .av (inA a), .av (inA k)]) (ls := []) (ps := [Puk 76 [(teA t), (inA 3001)] (inA r), (vi a) = (vi (if r > 0 then r else 0)), Bn .sub 3 (.const (vi 3001)) (.tmp 5) (vi 3001) (vi a) (vi k)]) Tryz.func50 (by kernel_rfl) (by kernel_rfl) ⟨h, by rw [ha], bin_isub hk (by omega) (by omega), trivial⟩
theorem p_tNodes {t : Te} (hb : t.Bd) : Puk 50 [teA t] (inA ((min t.nods 3001 : Nat) : Int)) := by
  have h := rst_law t 3001 (by omega) (by omega)
  exact w_tNodes (a := 3001 - ((min t.nods 3001 : Nat) : Int)) (p_rst _ t 3001 (Nat.le_refl _) hb (by omega) (by omega)) (by split <;> omega) (by omega) (by omega) (by omega)
/- depth -/
abbrev dpS (l : List Te) (m n i : Int) : AS := ⟨stt 36 [(1, inA m), (5, inA n), (17, tesA l), (18, inA l.length), (19, inA i)], []⟩
abbrev dpE (n : Int) : AS := ⟨stt 36 [(5, inA n)], []⟩
abbrev dpR (m : Int) : AS := ⟨stt 36 [(4, inA m)], []⟩
noncomputable abbrev dpB : Code := subC (bodyOf Tryz.f77) [1,1,1,0,1,0,0]
theorem dpB1 {l : List Te} {x : Te} {m n d k : Int} {i : Nat} (hx : l[i]? = some x) (hl : l.length ≤ 9223372036854775807) (hm : 1 < m) (hm2 : m ≤ 1000) (hd : 0 ≤ d) (hd2 : d ≤ 1000) (h : Puk 77 [teA x, inA (m - 1)] (inA d)) (hk : k = if 1 + d > n then 1 + d else n) (hk2 : ¬ m ≤ k) : Tri EX dpB (dpS l m n i) .nxt (dpS l m k ((i + 1 : Nat) : Int)) :=
  twalk (c := subC (bodyOf Tryz.f77) [1,1,1,0,1,0,0]) (s := dpS l m n i) (an := [yT, .av (.pin ((encT x).map .dt)), .av (inA (m - 1)), .av (inA d), .av (inA (1 + d)), .av (inA k), yF, .av (inA ((i + 1 : Nat) : Int))]) (ls := []) (ft := [1,5,17,18,19]) (nb := 0) (e := .nxt) (s' := dpS l m k ((i + 1 : Nat) : Int)) (ps := [Bn .lss 3 (.tmp 19) (.tmp 18) (vi ↑i) (vi ↑l.length) bT, IxAt (List.map Te.enc l) ↑i 11 (encT x), Bn .sub 3 (.tmp 25) (.const (vi 1)) (vi m) (vi 1) (vi (m - 1)), Puk 77 [(teA x), (inA (m - 1))] (inA d), Bn .add 3 (.const (vi 1)) (.tmp 27) (vi 1) (vi d) (vi (1 + d)), (vi k) = (vi (if 1 + d > n then 1 + d else n)), Bn .geq 3 (.tmp 30) (.tmp 31) (vi k) (vi m) bF, Bn .add 3 (.tmp 19) (.const (vi 1)) (vi ↑i) (vi 1) (vi (↑(i + 1)))]) (by kernel_rfl)
    ⟨bin_ilt (decide_eq_true (by have := (List.getElem?_eq_some_iff.1 hx).1; omega)), ix_te hx, bin_isub rfl (by omega) (by omega), h, bin_iadd rfl (by omega) (by omega), by rw [hk], bin_ige (decide_eq_false hk2), bin_iadd (by omega) (by omega) (by have := (List.getElem?_eq_some_iff.1 hx).1; omega), trivial⟩
theorem dpB2 {l : List Te} {m n : Int} {i : Nat} (hi : i = l.length) : Tri EX dpB (dpS l m n i) (.out 0) (dpE n) :=
  twalk (c := subC (bodyOf Tryz.f77) [1,1,1,0,1,0,0]) (s := dpS l m n i) (an := [yF]) (ls := []) (ft := [5]) (nb := 0) (e := .out 0) (s' := dpE n) (ps := [Bn .lss 3 (.tmp 19) (.tmp 18) (vi ↑i) (vi ↑l.length) bF]) (by kernel_rfl)
    ⟨bin_ilt (decide_eq_false (by omega)), trivial⟩
theorem dpB3 {l : List Te} {x : Te} {m n d k : Int} {i : Nat} (hx : l[i]? = some x) (hm : 1 < m) (hm2 : m ≤ 1000) (hd : 0 ≤ d) (hd2 : d ≤ 1000) (h : Puk 77 [teA x, inA (m - 1)] (inA d)) (hk : k = if 1 + d > n then 1 + d else n) (hk2 : m ≤ k) : Tri EX dpB (dpS l m n i) .ret (dpR m) :=
  twalk (c := subC (bodyOf Tryz.f77) [1,1,1,0,1,0,0]) (s := dpS l m n i) (an := [yT, .av (.pin ((encT x).map .dt)), .av (inA (m - 1)), .av (inA d), .av (inA (1 + d)), .av (inA k), yT]) (ls := []) (ft := [4]) (nb := 0) (e := .ret) (s' := dpR m) (ps := [Bn .lss 3 (.tmp 19) (.tmp 18) (vi ↑i) (vi ↑l.length) bT, IxAt (List.map Te.enc l) ↑i 11 (encT x), Bn .sub 3 (.tmp 25) (.const (vi 1)) (vi m) (vi 1) (vi (m - 1)), Puk 77 [(teA x), (inA (m - 1))] (inA d), Bn .add 3 (.const (vi 1)) (.tmp 27) (vi 1) (vi d) (vi (1 + d)), (vi k) = (vi (if 1 + d > n then 1 + d else n)), Bn .geq 3 (.tmp 30) (.tmp 31) (vi k) (vi m) bT]) (by kernel_rfl)
    ⟨bin_ilt (decide_eq_true (by have := (List.getElem?_eq_some_iff.1 hx).1; omega)), ix_te hx, bin_isub rfl (by omega) (by omega), h, bin_iadd rfl (by omega) (by omega), by rw [hk], bin_ige (decide_eq_true hk2), trivial⟩
theorem dp_loop {l : List Te} {m : Int} (hl : l.length ≤ 9223372036854775807) (hm : 1 < m) (hm2 : m ≤ 1000) (h : ∀ x ∈ l, Puk 77 [teA x, inA (m - 1)] (inA (dpt x (m - 1)))) : ∀ (s : List Te) (i : Nat) (n : Int), l.drop i = s → i ≤ l.length → Lps EX dpB (dpS l m n i) (.out 0) (dpE (dptL s m n)) ∨ (dptL s m n = m ∧ Lps EX dpB (dpS l m n i) .ret (dpR m)) := by
  intro s
  induction s with
  | nil =>
    intro i n hd hi
    have e1 := congrArg List.length hd
    rw [List.length_drop, List.length_nil] at e1
    rw [dptL]
    exact .inl (.stop (dpB2 (by omega)) (fun h => by cases h))
  | cons x s ih =>
    intro i n hd hi
    have hx : l[i]? = some x := by rw [← List.head?_drop, hd]; rfl
    have hlt := (List.getElem?_eq_some_iff.1 hx).1
    have hd2 : l.drop (i + 1) = s := by rw [← List.drop_drop, hd]; rfl
    rw [dptL]
    have hr := dpt_law x (m - 1) (by omega)
    have hc := h x (List.mem_of_getElem? hx)
    have hmx : max n (1 + dpt x (m - 1)) = if 1 + dpt x (m - 1) > n then 1 + dpt x (m - 1) else n := by split <;> omega
    by_cases h0 : m ≤ max n (1 + dpt x (m - 1))
    · rw [if_pos h0]
      exact .inr ⟨rfl, .stop (dpB3 hx hm hm2 (by omega) (by omega) hc hmx h0) (fun h => by cases h)⟩
    · rw [if_neg h0]
      rcases ih (i + 1) (max n (1 + dpt x (m - 1))) hd2 (by omega) with h1 | ⟨e, h1⟩
      · exact .inl (.more (dpB1 hx hl hm hm2 (by omega) (by omega) hc hmx h0) h1)
      · exact .inr ⟨e, .more (dpB1 hx hl hm hm2 (by omega) (by omega) hc hmx h0) h1⟩
theorem dpt_eq (t : Te) (m : Int) : dpt t m = if t.kind = 3 ∧ 1 < m then dptL t.args m 1 else 1 := by obtain ⟨k, p, n, o, l⟩ := t; rw [dpt]
theorem p_dpt : ∀ (N : Nat) (t : Te) (m : Int), t.size ≤ N → t.Bd → 1 ≤ m → m ≤ 1000 → Puk 77 [teA t, inA m] (inA (dpt t m)) := by
  intro N
  induction N with
  | zero => intro t m h; have := t.size_pos; omega
  | succ N ih =>
    intro t m hN hb h1 h2
    obtain ⟨hv, hs, hp, hn, hl⟩ := hb.parts
    rw [dpt_eq]
    by_cases k3 : t.kind = 3
    · by_cases hm : 1 < m
      · rw [if_pos ⟨k3, hm⟩]
        have hkids : ∀ x ∈ t.args, Puk 77 [teA x, inA (m - 1)] (inA (dpt x (m - 1))) := fun x hx => ih x (m - 1) (by have := Te.size_args hx; omega) (hb.kids hx) (by omega) (by omega)
        rcases dp_loop hl hm h2 hkids t.args 0 1 rfl (Nat.zero_le _) with h | ⟨e, h⟩
        · have ht := h.tri
          generalize dptL t.args m 1 = r at *
          exact pwalk (an := [yF, yF, .av (inA t.args.length)]) (ls := [.inv [1,5,17,18,19] 0 (.out 0) (dpE r)]) (ps := [Bn .neq 3 (.tmp 9) (.const (vi 3)) (vi t.kind) (vi 3) bF, Bn .leq 3 (.tmp 12) (.const (vi 1)) (vi m) (vi 1) bF, (vi ↑t.args.length) = (vi (↑(List.map Te.enc t.args).length)), Tri EX (.loop (subC (bodyOf Tryz.f77) [1,1,1,0,1,0,0])) (dpS t.args m 1 0) (.out 0) (dpE r)]) Tryz.func77 (by kernel_rfl) (by kernel_rfl) ⟨bin_ine (by simp [k3]), bin_ile (decide_eq_false (by omega)), lenEncT _, ht, trivial⟩
        · have ht := h.tri
          rw [e]
          exact pwalk (an := [yF, yF, .av (inA t.args.length)]) (ls := [.inv [1,5,17,18,19] 0 (.ret) (dpR m)]) (ps := [Bn .neq 3 (.tmp 9) (.const (vi 3)) (vi t.kind) (vi 3) bF, Bn .leq 3 (.tmp 12) (.const (vi 1)) (vi m) (vi 1) bF, (vi ↑t.args.length) = (vi (↑(List.map Te.enc t.args).length)), Tri EX (.loop (subC (bodyOf Tryz.f77) [1,1,1,0,1,0,0])) (dpS t.args m 1 0) (.ret) (dpR m)]) Tryz.func77 (by kernel_rfl) (by kernel_rfl) ⟨bin_ine (by simp [k3]), bin_ile (decide_eq_false (by omega)), lenEncT _, ht, trivial⟩
      · rw [if_neg (fun e => hm e.2)]
        exact pwalk (an := [yF, yT]) (ls := []) (ps := [Bn .neq 3 (.tmp 9) (.const (vi 3)) (vi t.kind) (vi 3) bF, Bn .leq 3 (.tmp 12) (.const (vi 1)) (vi m) (vi 1) bT]) Tryz.func77 (by kernel_rfl) (by kernel_rfl) ⟨bin_ine (by simp [k3]), bin_ile (decide_eq_true (by omega)), trivial⟩
    · rw [if_neg (fun e => k3 e.1)]
      exact pwalk (an := [yT]) (ls := []) (ps := [Bn .neq 3 (.tmp 9) (.const (vi 3)) (vi t.kind) (vi 3) bT]) Tryz.func77 (by kernel_rfl) (by kernel_rfl) ⟨bin_ine (by simp [k3]), trivial⟩
theorem p_tDepth {t : Te} (hb : t.Bd) : Puk 51 [teA t] (inA ((min t.dep 201 : Nat) : Int)) := by
  have h := p_dpt _ t 201 (Nat.le_refl _) hb (by omega) (by omega)
  rw [dpt_law t 201 (by omega), show min (201 : Int) (t.dep : Int) = ((min t.dep 201 : Nat) : Int) by omega] at h
  generalize ((min t.dep 201 : Nat) : Int) = r at *
  exact pwalk (an := [.av (inA r)]) (ls := []) (ps := [Puk 77 [(teA t), (inA 201)] (inA r)]) Tryz.func51 (by kernel_rfl) (by kernel_rfl) ⟨h, trivial⟩
end Go.Proofs.YtlbbfmijemnjdaaGreatDoor
/- Which terms are valid: the code's formed and Valid, of terms and clauses. -/
namespace Go.Proofs.YtlbbfmijemnjdaaGreatDoor
open Go.RowKit
open Te

abbrev ixST (c : List Te) (f : FuncId) (cs : List AV) (i : Int) : AS := ⟨stt 19 [(0, tesA c), (1, .clf f cs), (7, inA c.length), (8, inA i)], []⟩
abbrev ixRT (i : Int) : AS := ⟨stt 19 [(4, inA i)], []⟩
abbrev ixNT : AS := ⟨stt 19 [], []⟩
noncomputable abbrev ixBT : Code := subC (bodyOf Tryz.f100) [1, 0, 1, 0, 0]
theorem ixB1T {c : List Te} {f : FuncId} {cs : List AV} {x : Te} {i : Nat} (hx : c[i]? = some x) (hl : c.length ≤ 9223372036854775807) (h : Puk f ([teA x] ++ cs) (boA false)) : Tri EX ixBT (ixST c f cs i) .nxt (ixST c f cs ((i + 1 : Nat) : Int)) :=
  twalk (c := subC (bodyOf Tryz.f100) [1,0,1,0,0]) (s := ixST c f cs i) (an := [yT, .av (.pin ((encT x).map .dt)), yF, .av (inA ((i + 1 : Nat) : Int))]) (ls := []) (ft := [0,1,7,8]) (nb := 0) (e := .nxt) (s' := ixST c f cs ((i + 1 : Nat) : Int)) (ps := [Bn .lss 3 (.tmp 8) (.tmp 7) (vi ↑i) (vi ↑c.length) bT, IxAt (List.map Te.enc c) ↑i 11 (encT x), Puk f ([(teA x)] ++ cs) (boA false), Bn .add 3 (.tmp 8) (.const (vi 1)) (vi ↑i) (vi 1) (vi (↑(i + 1)))]) (by kernel_rfl)
    ⟨bin_ilt (decide_eq_true (by have := (List.getElem?_eq_some_iff.1 hx).1; omega)), ix_te hx, h, bin_iadd (by omega) (by omega) (by have := (List.getElem?_eq_some_iff.1 hx).1; omega), trivial⟩
theorem ixB2T {c : List Te} {f : FuncId} {cs : List AV} {i : Nat} (hi : i = c.length) : Tri EX ixBT (ixST c f cs i) (.out 0) ixNT :=
  twalk (c := subC (bodyOf Tryz.f100) [1,0,1,0,0]) (s := ixST c f cs i) (an := [yF]) (ls := []) (ft := []) (nb := 0) (e := .out 0) (s' := ixNT) (ps := [Bn .lss 3 (.tmp 8) (.tmp 7) (vi ↑i) (vi ↑c.length) bF]) (by kernel_rfl)
    ⟨bin_ilt (decide_eq_false (by omega)), trivial⟩
theorem ixB3T {c : List Te} {f : FuncId} {cs : List AV} {x : Te} {i : Nat} (hx : c[i]? = some x) (h : Puk f ([teA x] ++ cs) (boA true)) : Tri EX ixBT (ixST c f cs i) .ret (ixRT i) :=
  twalk (c := subC (bodyOf Tryz.f100) [1,0,1,0,0]) (s := ixST c f cs i) (an := [yT, .av (.pin ((encT x).map .dt)), yT]) (ls := []) (ft := [4]) (nb := 0) (e := .ret) (s' := ixRT i) (ps := [Bn .lss 3 (.tmp 8) (.tmp 7) (vi ↑i) (vi ↑c.length) bT, IxAt (List.map Te.enc c) ↑i 11 (encT x), Puk f ([(teA x)] ++ cs) (boA true)]) (by kernel_rfl)
    ⟨bin_ilt (decide_eq_true (by have := (List.getElem?_eq_some_iff.1 hx).1; omega)), ix_te hx, h, trivial⟩
theorem p_ixFuncT {c : List Te} {f : FuncId} {cs : List AV} {p : Te → Bool} (hl : c.length ≤ 9223372036854775807) (h : ∀ x ∈ c, Puk f ([teA x] ++ cs) (boA (p x))) : ∃ k : Int, Puk 100 [tesA c, .clf f cs] (inA k) ∧ decide (0 ≤ k) = c.any p := by
  have loop : ∀ (s : List Te) (i : Nat), c.drop i = s → i ≤ c.length → (s.any p = true → ∃ j : Nat, Lps EX ixBT (ixST c f cs i) .ret (ixRT j)) ∧ (s.any p = false → Lps EX ixBT (ixST c f cs i) (.out 0) ixNT) := by
    intro s
    induction s with
    | nil =>
      intro i hd hi
      have e1 := congrArg List.length hd
      rw [List.length_drop, List.length_nil] at e1
      exact ⟨fun h => by simp at h, fun _ => .stop (ixB2T (by omega)) (fun h => by cases h)⟩
    | cons x s ih =>
      intro i hd hi
      have hx : c[i]? = some x := by rw [← List.head?_drop, hd]; rfl
      have hlt := (List.getElem?_eq_some_iff.1 hx).1
      have hc := h x (List.mem_of_getElem? hx)
      obtain ⟨k1, k2⟩ := ih (i + 1) (by rw [← List.drop_drop, hd]; rfl) (by omega)
      rw [List.any_cons]
      cases hp : p x with
      | true =>
        rw [hp] at hc
        exact ⟨fun _ => ⟨i, .stop (ixB3T hx hc) (fun h => by cases h)⟩, fun e => by simp at e⟩
      | false =>
        rw [hp] at hc
        rw [Bool.false_or]
        exact ⟨fun e => (k1 e).elim fun j hj => ⟨j, .more (ixB1T hx hl hc) hj⟩, fun e => .more (ixB1T hx hl hc) (k2 e)⟩
  obtain ⟨k1, k2⟩ := loop c 0 rfl (Nat.zero_le _)
  cases hp : c.any p with
  | true =>
    obtain ⟨j, hj⟩ := k1 hp
    exact ⟨j, pwalk (an := [.av (inA c.length)]) (ls := [.inv [0,1,7,8] 0 (.ret) (ixRT j)]) (ps := [(vi ↑c.length) = (vi (↑(List.map Te.enc c).length)), Tri EX (.loop (subC (bodyOf Tryz.f100) [1, 0, 1, 0, 0])) (ixST c f cs 0) (.ret) (ixRT j)]) Tryz.func100 (by kernel_rfl) (by kernel_rfl) ⟨lenEncT _, hj.tri, trivial⟩, decide_eq_true (by omega)⟩
  | false => exact ⟨-1, pwalk (an := [.av (inA c.length)]) (ls := [.inv [0,1,7,8] 0 (.out 0) (ixNT)]) (ps := [(vi ↑c.length) = (vi (↑(List.map Te.enc c).length)), Tri EX (.loop (subC (bodyOf Tryz.f100) [1, 0, 1, 0, 0])) (ixST c f cs 0) (.out 0) (ixNT)]) Tryz.func100 (by kernel_rfl) (by kernel_rfl) ⟨lenEncT _, (k2 hp).tri, trivial⟩, rfl⟩
theorem p_ctFuncT {c : List Te} {f : FuncId} {cs : List AV} {p : Te → Bool} (hl : c.length ≤ 9223372036854775807) (h : ∀ x ∈ c, Puk f ([teA x] ++ cs) (boA (p x))) : Puk 81 [tesA c, .clf f cs] (boA (c.any p)) := by
  obtain ⟨k, h1, h2⟩ := p_ixFuncT hl h
  rw [← h2]
  exact pwalk (an := [.av (inA k), .av (boA (decide (0 ≤ k)))]) (ls := []) (ps := [Puk 100 [(.dt (.row (List.map Te.enc c))), (.clf f cs)] (inA k), Bn .geq 3 (.tmp 7) (.const (vi 0)) (vi k) (vi 0) (Value.bool (decide (0 ≤ k)))]) Tryz.func81 (by kernel_rfl) (by kernel_rfl) ⟨h1, bin_ige rfl, trivial⟩
theorem zOb_b {o : Ob} (h : o.Wf) : Puk 64 [obA o, obA zOb] (boA (decide (o = zOb))) := p_oEqO h zOb
theorem p_variable (p n : List UInt8) (hp : p.length ≤ 9223372036854775807) (hn : n.length ≤ 9223372036854775807) : Puk 78 [syA p n] (boA (varB p n)) := by
  have hs := p_symV p n hp hn
  unfold varB
  cases h1 : symOk ⟨p, n⟩ with
  | false =>
    rw [h1] at hs
    exact pwalk (an := [yF]) (ls := []) (ps := [Puk 80 [(syA p n)] (boA false)]) Tryz.func78 (by kernel_rfl) (by kernel_rfl) ⟨hs, trivial⟩
  | true =>
    rw [h1] at hs
    cases h2 : decide (p = lispB) && decide (n = nilB) with
    | true => exact pwalk (an := [yT, .av (obA nilO), yF]) (ls := []) (ps := [Puk 80 [(syA p n)] (boA true), Puk 68 [] (obA nilO), Bn .neq 29 (.tmp 6) (.tmp 8) (Value.agg #[str p, str n]) (Value.agg #[str nilO.sp, str nilO.sn]) bF]) Tryz.func78 (by kernel_rfl) (by kernel_rfl) ⟨hs, p_oNil, bin_syne h2, trivial⟩
    | false =>
      cases h3 : decide (p = lispB) && decide (n = [116]) with
      | true => exact pwalk (an := [yT, .av (obA nilO), yT, .av (obA tO), yF]) (ls := []) (ps := [Puk 80 [(syA p n)] (boA true), Puk 68 [] (obA nilO), Bn .neq 29 (.tmp 6) (.tmp 8) (Value.agg #[str p, str n]) (Value.agg #[str nilO.sp, str nilO.sn]) bT, Puk 67 [] (obA tO), Bn .neq 29 (.tmp 12) (.tmp 14) (Value.agg #[str p, str n]) (Value.agg #[str tO.sp, str tO.sn]) bF]) Tryz.func78 (by kernel_rfl) (by kernel_rfl) ⟨hs, p_oNil, bin_syne h2, p_oT, bin_syne h3, trivial⟩
      | false => exact pwalk (an := [yT, .av (obA nilO), yT, .av (obA tO), yT]) (ls := []) (ps := [Puk 80 [(syA p n)] (boA true), Puk 68 [] (obA nilO), Bn .neq 29 (.tmp 6) (.tmp 8) (Value.agg #[str p, str n]) (Value.agg #[str nilO.sp, str nilO.sn]) bT, Puk 67 [] (obA tO), Bn .neq 29 (.tmp 12) (.tmp 14) (Value.agg #[str p, str n]) (Value.agg #[str tO.sp, str tO.sn]) bT]) Tryz.func78 (by kernel_rfl) (by kernel_rfl) ⟨hs, p_oNil, bin_syne h2, p_oT, bin_syne h3, trivial⟩
theorem frm_eq (t : Te) : frm t = (if t.kind = 1 then varB t.np t.nn && decide (t.val = zOb) && decide (t.args.length = 0)
    else if t.kind = 2 then (decide (t.np = []) && decide (t.nn = [])) && t.val.validB && decide (t.args.length = 0)
    else if t.kind = 3 then symOk ⟨t.np, t.nn⟩ && decide (t.val = zOb) && decide (t.args.length ≤ 8) && frmL t.args
    else false) := by obtain ⟨k, p, n, o, l⟩ := t; rw [frm]
theorem frmL_any (l : List Te) : l.any (fun x => !frm x) = !frmL l := by
  induction l with
  | nil => rfl
  | cons x r ih => rw [List.any_cons, ih, frmL, Bool.not_and]
theorem p_formedC {x : Te} {b : Bool} (h : Puk 52 [teA x] (boA b)) : Puk 82 [teA x] (boA !b) := by
  cases b with
  | false => exact pwalk (an := [yF]) (ls := []) (ps := [Puk 52 [(teA x)] (boA false)]) Tryz.func82 (by kernel_rfl) (by kernel_rfl) ⟨h, trivial⟩
  | true => exact pwalk (an := [yT]) (ls := []) (ps := [Puk 52 [(teA x)] (boA true)]) Tryz.func82 (by kernel_rfl) (by kernel_rfl) ⟨h, trivial⟩
theorem p_formed : ∀ (N : Nat) (t : Te), t.size ≤ N → t.Bd → Puk 52 [teA t] (boA (frm t)) := by
  intro N
  induction N with
  | zero => intro t h; have := t.size_pos; omega
  | succ N ih =>
    intro t hN hb
    obtain ⟨hv, hs, hp, hn, hl⟩ := hb.parts
    rw [frm_eq]
    by_cases k1 : t.kind = 1
    · rw [if_pos k1]
      have h1 := p_variable t.np t.nn hp hn
      have h2 := zOb_b hv
      cases b1 : varB t.np t.nn with
      | false =>
        rw [b1] at h1
        exact pwalk (an := [yT, yF]) (ls := []) (ps := [Bn .eql 3 (.tmp 4) (.const (vi 1)) (vi t.kind) (vi 1) bT, Puk 78 [(syA t.np t.nn)] (boA false)]) Tryz.func52 (by kernel_rfl) (by kernel_rfl) ⟨bin_ieq (yesD k1), h1, trivial⟩
      | true =>
        rw [b1] at h1
        cases b2 : decide (t.val = zOb) with
        | false =>
          rw [b2] at h2
          exact pwalk (an := [yT, yT, yF]) (ls := []) (ps := [Bn .eql 3 (.tmp 4) (.const (vi 1)) (vi t.kind) (vi 1) bT, Puk 78 [(syA t.np t.nn)] (boA true), Puk 64 [(obA t.val), (.agg [(inA 0), (stA []), (stA []), (stA []), (stA []), (stA []), (.dt (.row []))])] (boA false)]) Tryz.func52 (by kernel_rfl) (by kernel_rfl) ⟨bin_ieq (yesD k1), h1, h2, trivial⟩
        | true =>
          rw [b2] at h2
          exact pwalk (an := [yT, yT, yT, .av (inA t.args.length), .av (boA (decide (t.args.length = 0)))]) (ls := []) (ps := [Bn .eql 3 (.tmp 4) (.const (vi 1)) (vi t.kind) (vi 1) bT, Puk 78 [(syA t.np t.nn)] (boA true), Puk 64 [(obA t.val), (.agg [(inA 0), (stA []), (stA []), (stA []), (stA []), (stA []), (.dt (.row []))])] (boA true), (vi ↑t.args.length) = (vi (↑(List.map Te.enc t.args).length)), Bn .eql 3 (.tmp 19) (.const (vi 0)) (vi ↑t.args.length) (vi 0) (Value.bool (decide (t.args.length = 0)))]) Tryz.func52 (by kernel_rfl) (by kernel_rfl) ⟨bin_ieq (yesD k1), h1, h2, lenEncT _, bin_ieq (by rw [decide_eq_decide]; omega), trivial⟩
    rw [if_neg k1]
    by_cases k2 : t.kind = 2
    · rw [if_pos k2]
      have h2 := p_oValidO hv hs
      cases b1 : decide (t.np = []) && decide (t.nn = []) with
      | false => exact pwalk (an := [yF, yT, yF]) (ls := []) (ps := [Bn .eql 3 (.tmp 4) (.const (vi 1)) (vi t.kind) (vi 1) bF, Bn .eql 3 (.tmp 4) (.const (vi 2)) (vi t.kind) (vi 2) bT, Bn .eql 29 (.tmp 25) (.tmp 26) (Value.agg #[str t.np, str t.nn]) (Value.agg #[Value.string { data := #[] : ByteArray }, Value.string { data := #[] : ByteArray }]) bF]) Tryz.func52 (by kernel_rfl) (by kernel_rfl) ⟨bin_ieq (noD k1), bin_ieq (yesD k2), bin_syeq b1, trivial⟩
      | true =>
        cases b2 : t.val.validB with
        | false =>
          rw [b2] at h2
          exact pwalk (an := [yF, yT, yT, yF]) (ls := []) (ps := [Bn .eql 3 (.tmp 4) (.const (vi 1)) (vi t.kind) (vi 1) bF, Bn .eql 3 (.tmp 4) (.const (vi 2)) (vi t.kind) (vi 2) bT, Bn .eql 29 (.tmp 25) (.tmp 26) (Value.agg #[str t.np, str t.nn]) (Value.agg #[Value.string { data := #[] : ByteArray }, Value.string { data := #[] : ByteArray }]) bT, Puk 79 [(obA t.val)] (boA false)]) Tryz.func52 (by kernel_rfl) (by kernel_rfl) ⟨bin_ieq (noD k1), bin_ieq (yesD k2), bin_syeq b1, h2, trivial⟩
        | true =>
          rw [b2] at h2
          exact pwalk (an := [yF, yT, yT, yT, .av (inA t.args.length), .av (boA (decide (t.args.length = 0)))]) (ls := []) (ps := [Bn .eql 3 (.tmp 4) (.const (vi 1)) (vi t.kind) (vi 1) bF, Bn .eql 3 (.tmp 4) (.const (vi 2)) (vi t.kind) (vi 2) bT, Bn .eql 29 (.tmp 25) (.tmp 26) (Value.agg #[str t.np, str t.nn]) (Value.agg #[Value.string { data := #[] : ByteArray }, Value.string { data := #[] : ByteArray }]) bT, Puk 79 [(obA t.val)] (boA true), (vi ↑t.args.length) = (vi (↑(List.map Te.enc t.args).length)), Bn .eql 3 (.tmp 36) (.const (vi 0)) (vi ↑t.args.length) (vi 0) (Value.bool (decide (t.args.length = 0)))]) Tryz.func52 (by kernel_rfl) (by kernel_rfl) ⟨bin_ieq (noD k1), bin_ieq (yesD k2), bin_syeq b1, h2, lenEncT _, bin_ieq (by rw [decide_eq_decide]; omega), trivial⟩
    rw [if_neg k2]
    by_cases k3 : t.kind = 3
    · rw [if_pos k3]
      have h1 := p_symV t.np t.nn hp hn
      have h2 := zOb_b hv
      cases b1 : symOk ⟨t.np, t.nn⟩ with
      | false =>
        rw [b1] at h1
        exact pwalk (an := [yF, yF, yT, yF]) (ls := []) (ps := [Bn .eql 3 (.tmp 4) (.const (vi 1)) (vi t.kind) (vi 1) bF, Bn .eql 3 (.tmp 4) (.const (vi 2)) (vi t.kind) (vi 2) bF, Bn .eql 3 (.tmp 4) (.const (vi 3)) (vi t.kind) (vi 3) bT, Puk 80 [(syA t.np t.nn)] (boA false)]) Tryz.func52 (by kernel_rfl) (by kernel_rfl) ⟨bin_ieq (noD k1), bin_ieq (noD k2), bin_ieq (yesD k3), h1, trivial⟩
      | true =>
        rw [b1] at h1
        cases b2 : decide (t.val = zOb) with
        | false =>
          rw [b2] at h2
          exact pwalk (an := [yF, yF, yT, yT, yF]) (ls := []) (ps := [Bn .eql 3 (.tmp 4) (.const (vi 1)) (vi t.kind) (vi 1) bF, Bn .eql 3 (.tmp 4) (.const (vi 2)) (vi t.kind) (vi 2) bF, Bn .eql 3 (.tmp 4) (.const (vi 3)) (vi t.kind) (vi 3) bT, Puk 80 [(syA t.np t.nn)] (boA true), Puk 64 [(obA t.val), (.agg [(inA 0), (stA []), (stA []), (stA []), (stA []), (stA []), (.dt (.row []))])] (boA false)]) Tryz.func52 (by kernel_rfl) (by kernel_rfl) ⟨bin_ieq (noD k1), bin_ieq (noD k2), bin_ieq (yesD k3), h1, h2, trivial⟩
        | true =>
          rw [b2] at h2
          cases b3 : decide (t.args.length ≤ 8) with
          | false =>
            have e := of_decide_eq_false b3
            exact pwalk (an := [yF, yF, yT, yT, yT, .av (inA t.args.length), yT]) (ls := []) (ps := [Bn .eql 3 (.tmp 4) (.const (vi 1)) (vi t.kind) (vi 1) bF, Bn .eql 3 (.tmp 4) (.const (vi 2)) (vi t.kind) (vi 2) bF, Bn .eql 3 (.tmp 4) (.const (vi 3)) (vi t.kind) (vi 3) bT, Puk 80 [(syA t.np t.nn)] (boA true), Puk 64 [(obA t.val), (.agg [(inA 0), (stA []), (stA []), (stA []), (stA []), (stA []), (.dt (.row []))])] (boA true), (vi ↑t.args.length) = (vi (↑(List.map Te.enc t.args).length)), Bn .gtr 3 (.tmp 55) (.const (vi 8)) (vi ↑t.args.length) (vi 8) bT]) Tryz.func52 (by kernel_rfl) (by kernel_rfl) ⟨bin_ieq (noD k1), bin_ieq (noD k2), bin_ieq (yesD k3), h1, h2, lenEncT _, bin_igt (decide_eq_true (by omega)), trivial⟩
          | true =>
            have e := of_decide_eq_true b3
            have h3 := p_ctFuncT (c := t.args) (f := 82) (cs := []) (p := fun x => !frm x) hl fun x hx => p_formedC (ih x (by have := Te.size_args hx; omega) (hb.kids hx))
            rw [frmL_any] at h3
            cases b4 : frmL t.args with
            | false =>
              rw [b4] at h3
              exact pwalk (an := [yF, yF, yT, yT, yT, .av (inA t.args.length), yF, yT]) (ls := []) (ps := [Bn .eql 3 (.tmp 4) (.const (vi 1)) (vi t.kind) (vi 1) bF, Bn .eql 3 (.tmp 4) (.const (vi 2)) (vi t.kind) (vi 2) bF, Bn .eql 3 (.tmp 4) (.const (vi 3)) (vi t.kind) (vi 3) bT, Puk 80 [(syA t.np t.nn)] (boA true), Puk 64 [(obA t.val), (.agg [(inA 0), (stA []), (stA []), (stA []), (stA []), (stA []), (.dt (.row []))])] (boA true), (vi ↑t.args.length) = (vi (↑(List.map Te.enc t.args).length)), Bn .gtr 3 (.tmp 55) (.const (vi 8)) (vi ↑t.args.length) (vi 8) bF, Puk 81 [(.dt (.row (List.map Te.enc t.args))), (.clf 82 [])] (boA true)]) Tryz.func52 (by kernel_rfl) (by kernel_rfl) ⟨bin_ieq (noD k1), bin_ieq (noD k2), bin_ieq (yesD k3), h1, h2, lenEncT _, bin_igt (decide_eq_false (by omega)), h3, trivial⟩
            | true =>
              rw [b4] at h3
              exact pwalk (an := [yF, yF, yT, yT, yT, .av (inA t.args.length), yF, yF]) (ls := []) (ps := [Bn .eql 3 (.tmp 4) (.const (vi 1)) (vi t.kind) (vi 1) bF, Bn .eql 3 (.tmp 4) (.const (vi 2)) (vi t.kind) (vi 2) bF, Bn .eql 3 (.tmp 4) (.const (vi 3)) (vi t.kind) (vi 3) bT, Puk 80 [(syA t.np t.nn)] (boA true), Puk 64 [(obA t.val), (.agg [(inA 0), (stA []), (stA []), (stA []), (stA []), (stA []), (.dt (.row []))])] (boA true), (vi ↑t.args.length) = (vi (↑(List.map Te.enc t.args).length)), Bn .gtr 3 (.tmp 55) (.const (vi 8)) (vi ↑t.args.length) (vi 8) bF, Puk 81 [(.dt (.row (List.map Te.enc t.args))), (.clf 82 [])] (boA false)]) Tryz.func52 (by kernel_rfl) (by kernel_rfl) ⟨bin_ieq (noD k1), bin_ieq (noD k2), bin_ieq (yesD k3), h1, h2, lenEncT _, bin_igt (decide_eq_false (by omega)), h3, trivial⟩
    · rw [if_neg k3]
      exact pwalk (an := [yF, yF, yF]) (ls := []) (ps := [Bn .eql 3 (.tmp 4) (.const (vi 1)) (vi t.kind) (vi 1) bF, Bn .eql 3 (.tmp 4) (.const (vi 2)) (vi t.kind) (vi 2) bF, Bn .eql 3 (.tmp 4) (.const (vi 3)) (vi t.kind) (vi 3) bF]) Tryz.func52 (by kernel_rfl) (by kernel_rfl) ⟨bin_ieq (noD k1), bin_ieq (noD k2), bin_ieq (noD k3), trivial⟩
theorem p_tValid {t : Te} (hb : t.Bd) : Puk 26 [teA t] (boA t.valid) := by
  have h1 := p_tNodes hb
  have h2 := p_tDepth hb
  have h3 := p_formed _ t (Nat.le_refl _) hb
  unfold Te.valid
  cases b1 : decide (t.nods ≤ 3000) with
  | false =>
    have e := of_decide_eq_false b1
    exact pwalk (an := [.av (inA ((min t.nods 3001 : Nat) : Int)), yF]) (ls := []) (ps := [Puk 50 [(teA t)] (inA (↑(min t.nods 3001))), Bn .leq 3 (.tmp 4) (.const (vi 3000)) (vi (↑(min t.nods 3001))) (vi 3000) bF]) Tryz.func26 (by kernel_rfl) (by kernel_rfl) ⟨h1, bin_ile (decide_eq_false (by omega)), trivial⟩
  | true =>
    have e := of_decide_eq_true b1
    cases b2 : decide (t.dep ≤ 200) with
    | false =>
      have e2 := of_decide_eq_false b2
      exact pwalk (an := [.av (inA ((min t.nods 3001 : Nat) : Int)), yT, .av (inA ((min t.dep 201 : Nat) : Int)), yF]) (ls := []) (ps := [Puk 50 [(teA t)] (inA (↑(min t.nods 3001))), Bn .leq 3 (.tmp 4) (.const (vi 3000)) (vi (↑(min t.nods 3001))) (vi 3000) bT, Puk 51 [(teA t)] (inA (↑(min t.dep 201))), Bn .leq 3 (.tmp 8) (.const (vi 200)) (vi (↑(min t.dep 201))) (vi 200) bF]) Tryz.func26 (by kernel_rfl) (by kernel_rfl) ⟨h1, bin_ile (decide_eq_true (by omega)), h2, bin_ile (decide_eq_false (by omega)), trivial⟩
    | true =>
      have e2 := of_decide_eq_true b2
      exact pwalk (an := [.av (inA ((min t.nods 3001 : Nat) : Int)), yT, .av (inA ((min t.dep 201 : Nat) : Int)), yT, .av (boA (frm t))]) (ls := []) (ps := [Puk 50 [(teA t)] (inA (↑(min t.nods 3001))), Bn .leq 3 (.tmp 4) (.const (vi 3000)) (vi (↑(min t.nods 3001))) (vi 3000) bT, Puk 51 [(teA t)] (inA (↑(min t.dep 201))), Bn .leq 3 (.tmp 8) (.const (vi 200)) (vi (↑(min t.dep 201))) (vi 200) bT, Puk 52 [(teA t)] (boA t.frm)]) Tryz.func26 (by kernel_rfl) (by kernel_rfl) ⟨h1, bin_ile (decide_eq_true (by omega)), h2, bin_ile (decide_eq_true (by omega)), h3, trivial⟩
/- clauses -/
abbrev vcS (c : List Te) (i : Int) : AS := ⟨stt 26 [(0, tesA c), (8, tesA c), (9, inA c.length), (10, inA i)], []⟩
abbrev vcR (b : Bool) : AS := ⟨stt 26 [(2, boA b)], []⟩
abbrev vcN : AS := ⟨stt 26 [], []⟩
noncomputable abbrev vcB : Code := subC (bodyOf Tryz.f9) [1, 1, 0, 1, 0, 0]
theorem slc_te {c : List Te} {i : Nat} (hi : i ≤ c.length) : SlcOK (c.map Te.enc) 11 0 (i : Int) ((c.take i).map Te.enc) := ⟨Int.le_refl _, by omega, by rw [List.length_map]; omega, by rw [Int.toNat_natCast, List.map_take]; rfl, .inl rfl⟩
theorem vcB1 {c : List Te} {x : Te} {i : Nat} (hx : c[i]? = some x) (hl : c.length ≤ 60) (h : Puk 26 [teA x] (boA true)) (h2 : Puk contF [tesA (c.take i), teA x] (boA false)) : Tri EX vcB (vcS c i) .nxt (vcS c ((i + 1 : Nat) : Int)) :=
  twalk (c := subC (bodyOf Tryz.f9) [1,1,0,1,0,0]) (s := vcS c i) (an := [yT, .av (.pin ((encT x).map .dt)), yT, .av (tesA (c.take i)), yF, .av (inA ((i + 1 : Nat) : Int))]) (ls := []) (ft := [0,8,9,10]) (nb := 0) (e := .nxt) (s' := vcS c ((i + 1 : Nat) : Int)) (ps := [Bn .lss 3 (.tmp 10) (.tmp 9) (vi ↑i) (vi ↑c.length) bT, IxAt (List.map Te.enc c) ↑i 11 (encT x), Puk 26 [(teA x)] (boA true), SlcOK (List.map Te.enc c) 11 (none.getD 0) ((some ↑i).getD ↑(List.map Te.enc c).length) (List.map Te.enc (List.take i c)), (none : Option Int) = none ∨ (none : Option Int) = some ↑i, Puk 27 [(.dt (.row (List.map Te.enc (List.take i c)))), (teA x)] (boA false), Bn .add 3 (.tmp 10) (.const (vi 1)) (vi ↑i) (vi 1) (vi (↑(i + 1)))]) (by kernel_rfl)
    ⟨bin_ilt (decide_eq_true (by have := (List.getElem?_eq_some_iff.1 hx).1; omega)), ix_te hx, h, slc_te (by have := (List.getElem?_eq_some_iff.1 hx).1; omega), .inl rfl, h2, bin_iadd (by omega) (by omega) (by have := (List.getElem?_eq_some_iff.1 hx).1; omega), trivial⟩
theorem vcB2 {c : List Te} {i : Nat} (hi : i = c.length) : Tri EX vcB (vcS c i) (.out 0) vcN :=
  twalk (c := subC (bodyOf Tryz.f9) [1,1,0,1,0,0]) (s := vcS c i) (an := [yF]) (ls := []) (ft := []) (nb := 0) (e := .out 0) (s' := vcN) (ps := [Bn .lss 3 (.tmp 10) (.tmp 9) (vi ↑i) (vi ↑c.length) bF]) (by kernel_rfl)
    ⟨bin_ilt (decide_eq_false (by omega)), trivial⟩
theorem vcB3 {c : List Te} {x : Te} {i : Nat} (hx : c[i]? = some x) (h : Puk 26 [teA x] (boA false)) : Tri EX vcB (vcS c i) .ret (vcR false) :=
  twalk (c := subC (bodyOf Tryz.f9) [1,1,0,1,0,0]) (s := vcS c i) (an := [yT, .av (.pin ((encT x).map .dt)), yF]) (ls := []) (ft := [2]) (nb := 0) (e := .ret) (s' := vcR false) (ps := [Bn .lss 3 (.tmp 10) (.tmp 9) (vi ↑i) (vi ↑c.length) bT, IxAt (List.map Te.enc c) ↑i 11 (encT x), Puk 26 [(teA x)] (boA false)]) (by kernel_rfl)
    ⟨bin_ilt (decide_eq_true (by have := (List.getElem?_eq_some_iff.1 hx).1; omega)), ix_te hx, h, trivial⟩
theorem vcB4 {c : List Te} {x : Te} {i : Nat} (hx : c[i]? = some x) (h : Puk 26 [teA x] (boA true)) (h2 : Puk contF [tesA (c.take i), teA x] (boA true)) : Tri EX vcB (vcS c i) .ret (vcR false) :=
  twalk (c := subC (bodyOf Tryz.f9) [1,1,0,1,0,0]) (s := vcS c i) (an := [yT, .av (.pin ((encT x).map .dt)), yT, .av (tesA (c.take i)), yT]) (ls := []) (ft := [2]) (nb := 0) (e := .ret) (s' := vcR false) (ps := [Bn .lss 3 (.tmp 10) (.tmp 9) (vi ↑i) (vi ↑c.length) bT, IxAt (List.map Te.enc c) ↑i 11 (encT x), Puk 26 [(teA x)] (boA true), SlcOK (List.map Te.enc c) 11 (none.getD 0) ((some ↑i).getD ↑(List.map Te.enc c).length) (List.map Te.enc (List.take i c)), (none : Option Int) = none ∨ (none : Option Int) = some ↑i, Puk 27 [(.dt (.row (List.map Te.enc (List.take i c)))), (teA x)] (boA true)]) (by kernel_rfl)
    ⟨bin_ilt (decide_eq_true (by have := (List.getElem?_eq_some_iff.1 hx).1; omega)), ix_te hx, h, slc_te (by have := (List.getElem?_eq_some_iff.1 hx).1; omega), .inl rfl, h2, trivial⟩
theorem vc_loop {c : List Te} (hl : c.length ≤ 60) (hb : ∀ x ∈ c, x.Bd) : ∀ (s : List Te) (i : Nat), c.drop i = s → i ≤ c.length → (okL (c.take i) s = true → Lps EX vcB (vcS c i) (.out 0) vcN) ∧ (okL (c.take i) s = false → Lps EX vcB (vcS c i) .ret (vcR false)) := by
  intro s
  induction s with
  | nil =>
    intro i hd hi
    have e1 := congrArg List.length hd
    rw [List.length_drop, List.length_nil] at e1
    rw [okL]
    exact ⟨fun _ => .stop (vcB2 (by omega)) (fun h => by cases h), fun h => by cases h⟩
  | cons x s ih =>
    intro i hd hi
    have hx : c[i]? = some x := by rw [← List.head?_drop, hd]; rfl
    have hlt := (List.getElem?_eq_some_iff.1 hx).1
    have hd2 : c.drop (i + 1) = s := by rw [← List.drop_drop, hd]; rfl
    have ht : c.take i ++ [x] = c.take (i + 1) := by rw [List.take_add_one, hx]; rfl
    obtain ⟨k1, k2⟩ := ih (i + 1) hd2 (by omega)
    rw [okL, ht]
    have h1 := p_tValid (hb x (List.mem_of_getElem? hx))
    have h2 := p_cont (c := c.take i) (by have := List.length_take_le i c; omega) (fun y hy => (hb y (List.mem_of_mem_take hy)).wf) x
    cases b1 : x.valid with
    | false =>
      rw [b1] at h1
      exact ⟨fun e => by simp at e, fun _ => .stop (vcB3 hx h1) (fun h => by cases h)⟩
    | true =>
      rw [b1] at h1
      cases b2 : decide (x ∈ c.take i) with
      | true =>
        rw [b2] at h2
        exact ⟨fun e => by simp at e, fun _ => .stop (vcB4 hx h1 h2) (fun h => by cases h)⟩
      | false =>
        rw [b2] at h2
        exact ⟨fun e => .more (vcB1 hx hl h1 h2) (k1 (by simpa using e)), fun e => .more (vcB1 hx hl h1 h2) (k2 (by simpa using e))⟩
theorem p_cValid {c : List Te} (hc : c.length ≤ 9223372036854775807) (hb : ∀ x ∈ c, x.Bd) : Puk 9 [tesA c] (boA (clsV c)) := by
  unfold clsV
  cases b1 : decide (c.length ≤ 60) with
  | false =>
    have e := of_decide_eq_false b1
    exact pwalk (an := [.av (inA c.length), yT]) (ls := []) (ps := [(vi ↑c.length) = (vi (↑(List.map Te.enc c).length)), Bn .gtr 3 (.tmp 6) (.const (vi 60)) (vi ↑c.length) (vi 60) bT]) Tryz.func9 (by kernel_rfl) (by kernel_rfl) ⟨lenEncT _, bin_igt (decide_eq_true (by omega)), trivial⟩
  | true =>
    have e := of_decide_eq_true b1
    obtain ⟨k1, k2⟩ := vc_loop e hb c 0 rfl (Nat.zero_le _)
    rw [List.take_zero] at k1 k2
    cases b2 : okL [] c with
    | false =>
      have ht := (k2 b2).tri
      exact pwalk (an := [.av (inA c.length), yF, .av (inA c.length)]) (ls := [.inv [0,8,9,10] 0 (.ret) (vcR false)]) (ps := [(vi ↑c.length) = (vi (↑(List.map Te.enc c).length)), Bn .gtr 3 (.tmp 6) (.const (vi 60)) (vi ↑c.length) (vi 60) bF, (vi ↑c.length) = (vi (↑(List.map Te.enc c).length)), Tri EX (.loop (subC (bodyOf Tryz.f9) [1,1,0,1,0,0])) (vcS c 0) (.ret) (vcR false)]) Tryz.func9 (by kernel_rfl) (by kernel_rfl) ⟨lenEncT _, bin_igt (decide_eq_false (by omega)), lenEncT _, ht, trivial⟩
    | true =>
      have ht := (k1 b2).tri
      exact pwalk (an := [.av (inA c.length), yF, .av (inA c.length)]) (ls := [.inv [0,8,9,10] 0 (.out 0) (vcN)]) (ps := [(vi ↑c.length) = (vi (↑(List.map Te.enc c).length)), Bn .gtr 3 (.tmp 6) (.const (vi 60)) (vi ↑c.length) (vi 60) bF, (vi ↑c.length) = (vi (↑(List.map Te.enc c).length)), Tri EX (.loop (subC (bodyOf Tryz.f9) [1,1,0,1,0,0])) (vcS c 0) (.out 0) (vcN)]) Tryz.func9 (by kernel_rfl) (by kernel_rfl) ⟨lenEncT _, bin_igt (decide_eq_false (by omega)), lenEncT _, ht, trivial⟩
end Go.Proofs.YtlbbfmijemnjdaaGreatDoor
/- ClauseMany. -/
namespace Go.Proofs.YtlbbfmijemnjdaaGreatDoor
open Go.RowKit
open Te

abbrev ctk (i : Nat) : Te := con (Tr.num (((i : Nat) : Int) : Rat)).ob
def ctl (n : Nat) : List Te := (List.range n).map ctk
theorem ctl_succ (n : Nat) : ctl (n + 1) = ctl n ++ [ctk n] := by unfold ctl; rw [List.range_succ, List.map_append]; rfl
theorem ctl_len (n : Nat) : (ctl n).length = n := by unfold ctl; rw [List.length_map, List.length_range]
theorem ctk_sm : ∀ i : Fin 61, let o := (Tr.num (((i.val : Nat) : Int) : Rat)).ob; o.num.length ≤ 100 ∧ o.den.length ≤ 100 ∧ o.sp = [] ∧ o.sn = [] ∧ o.text = [] ∧ o.pair = [] ∧ o.kind = 1 := by decide +kernel
theorem ctk_bd {i : Nat} (hi : i < 61) : (ctk i).Bd := by
  have hh : (Tr.num (((i : Nat) : Int) : Rat)).ob.num.length ≤ 100 ∧ (Tr.num (((i : Nat) : Int) : Rat)).ob.den.length ≤ 100 ∧ (Tr.num (((i : Nat) : Int) : Rat)).ob.sp = [] ∧ (Tr.num (((i : Nat) : Int) : Rat)).ob.sn = [] ∧ (Tr.num (((i : Nat) : Int) : Rat)).ob.text = [] ∧ (Tr.num (((i : Nat) : Int) : Rat)).ob.pair = [] ∧ (Tr.num (((i : Nat) : Int) : Rat)).ob.kind = 1 := ctk_sm ⟨i, hi⟩
  obtain ⟨h1, h2, h3, h4, h5, h6, h7⟩ := hh
  have hw : (Tr.num (((i : Nat) : Int) : Rat)).ob.Wf := .mk _ (by rw [h7]; decide) (by rw [h7]; decide) (by omega) (by omega) (by rw [h3]; decide) (by rw [h4]; decide) (by rw [h5]; decide) (by rw [h6]; decide) (fun x hx => by rw [h6] at hx; cases hx)
  have hs : (Tr.num (((i : Nat) : Int) : Rat)).ob.Sm := .mk _ (by omega) (by omega) (fun x hx => by rw [h6] at hx; cases hx)
  exact .mk _ hw hs (Nat.zero_le _) (Nat.zero_le _) (Nat.zero_le _) (fun x hx => by cases hx)
theorem ctl_bd {n : Nat} (hn : n ≤ 61) : ∀ x ∈ ctl n, x.Bd := fun x hx => by
  obtain ⟨i, hi, rfl⟩ := List.mem_map.1 hx
  exact ctk_bd (Nat.lt_of_lt_of_le (List.mem_range.1 hi) hn)
theorem ctl59 : clsV (ctl 59) = true := by decide +kernel
theorem ctl60 : clsV (ctl 60) = true := by decide +kernel
theorem ctl61 : clsV (ctl 61) = false := by decide +kernel
abbrev cmS (n : Int) (es : List (List Dt)) (i : Int) : AS := ⟨stt 26 [(0, inA n), (3, .own 0 es.length), (4, inA i)], [some (.buf 34 11 es)]⟩
noncomputable abbrev cmB : Code := subC (bodyOf Tryz.f4) [1,1,1,1,0,1,0,0]
theorem cmB1 {n : Int} {es : List (List Dt)} {i : Nat} {t : Te} {o : Ob} (hi : (i : Int) < n) (hn : n ≤ 61) (he : es.length ≤ 61) (h1 : Puk 14 [inA (i : Int)] (obA o)) (h2 : Puk 13 [obA o] (teA t)) : Tri EX cmB (cmS n es i) .nxt (cmS n (es ++ [encT t]) ((i + 1 : Nat) : Int)) :=
  twalk (c := subC (bodyOf Tryz.f4) [1,1,1,1,0,1,0,0]) (s := cmS n es i) (an := [yT, .av (obA o), .av (teA t), .av (.un), .av (inA ((i + 1 : Nat) : Int))]) (ls := []) (ft := [0,3,4]) (nb := 1) (e := .nxt) (s' := cmS n (es ++ [encT t]) ((i + 1 : Nat) : Int)) (ps := [Bn .lss 3 (.tmp 10) (.tmp 11) (vi ↑i) (vi n) bT, Puk 14 [(inA ↑i)] (obA o), Puk 13 [(obA o)] (teA t), (es.length) = (es.length), FitB 176 ((es ++ [encT t]).length), SrcOK 11 [encT t], Bn .add 3 (.tmp 13) (.const (vi 1)) (vi ↑i) (vi 1) (vi (↑(i + 1)))]) (by kernel_rfl)
    ⟨bin_ilt (decide_eq_true hi), h1, h2, rfl, fit_of (by omega) (by simp; omega), src_te1 t, bin_iadd (by omega) (by omega) (by omega), trivial⟩
theorem cmB2 {n : Int} {es : List (List Dt)} {i : Nat} (hi : ¬ (i : Int) < n) : Tri EX cmB (cmS n es i) (.out 0) (cmS n es i) :=
  twalk (c := subC (bodyOf Tryz.f4) [1,1,1,1,0,1,0,0]) (s := cmS n es i) (an := [yF]) (ls := []) (ft := [0,3,4]) (nb := 1) (e := .out 0) (s' := cmS n es i) (ps := [Bn .lss 3 (.tmp 10) (.tmp 11) (vi ↑i) (vi n) bF]) (by kernel_rfl)
    ⟨bin_ilt (decide_eq_false hi), trivial⟩
theorem cm_loop {n : Nat} (hn : n ≤ 61) : ∀ (j i : Nat), i + j = n → Lps EX cmB (cmS n (encTs (ctl i)) i) (.out 0) (cmS n (encTs (ctl n)) n) := by
  intro j
  induction j with
  | zero =>
    intro i h
    obtain rfl : i = n := by omega
    exact .stop (cmB2 (by omega)) (fun h => by cases h)
  | succ j ih =>
    intro i h
    have hl : (encTs (ctl i)).length = i := by rw [List.length_map, ctl_len]
    have h2 := cmB1 (n := (n : Int)) (es := encTs (ctl i)) (i := i) (t := ctk i) (by omega) (by omega) (by omega) (p_rInt ((i : Nat) : Int) (by omega) (by omega)) (p_rConst _)
    have e : encTs (ctl i) ++ [encT (ctk i)] = encTs (ctl (i + 1)) := by rw [ctl_succ]; unfold encTs; rw [List.map_append, row1]
    rw [e] at h2
    exact .more h2 (ih (i + 1) (by omega))
theorem w_many {n k m : Int} {es : List (List Dt)} {b : Bool} (hm : Puk 12 [inA n, inA 3] (inA k)) (h0 : 0 ≤ k) (h1 : k ≤ 2) (hk : 59 + k = m) (ht : Tri EX (.loop cmB) ⟨stt 26 [(0, inA m), (3, .nil), (4, inA 0)], []⟩ (.out 0) (cmS m es m)) (hv : Puk 9 [.dt (.row es)] (boA b)) (hb : decide (m ≤ 60) = b) : Puk 4 [inA n] (boA true) :=
  pwalk (an := [yT, .av (inA k), .av (inA m), .av (boA b), .av (boA b), yT]) (ls := [.inv [0,3,4] 0 (.out 0) (cmS m es m)]) (ps := [Puk 5 [] (boA true), Puk 12 [(inA n), (inA 3)] (inA k), Bn .add 3 (.const (vi 59)) (.tmp 8) (vi 59) (vi k) (vi m), Tri EX (.loop (subC (bodyOf Tryz.f4) [1,1,1,1,0,1,0,0])) (⟨stt 26 [(0, inA m), (3, .nil), (4, inA 0)], []⟩) (.out 0) (cmS m es m), Puk 9 [(.dt (.row es))] (boA b), (es.length) = (es.length), Bn .leq 3 (.tmp 23) (.const (vi 60)) (vi m) (vi 60) (Value.bool b), Bn .eql 4 (.tmp 22) (.tmp 24) (Value.bool b) (Value.bool b) bT]) Tryz.func4 (by kernel_rfl) (by kernel_rfl) ⟨p_first, hm, bin_iadd hk (by omega) (by omega), ht, hv, rfl, bin_ile hb, bin_beq (by kernel_rfl) (by simp), trivial⟩
theorem many_of {n : Int} {k m : Nat} (hk : n % 3 = k) (hm : 59 + k = m) (hm2 : m ≤ 61) {b : Bool} (hv : clsV (ctl m) = b) (hb : decide ((m : Int) ≤ 60) = b) : Puk 4 [inA n] (boA true) := by
  have h := p_mod n 3 (by omega) (by omega)
  rw [hk] at h
  have ht : Tri EX (.loop cmB) ⟨stt 26 [(0, inA m), (3, .nil), (4, inA 0)], []⟩ (.out 0) (cmS m (encTs (ctl m)) m) := Tri.own0 3 34 11 (by show 3 < 26; omega) rfl (cm_loop hm2 m 0 (by omega)).tri
  exact w_many h (by omega) (by omega) (by omega) ht ((p_cValid (by rw [ctl_len]; omega) (ctl_bd hm2)).b hv) hb
theorem many19 (n : Int) : Puk 4 [inA n] (boA true) := by
  have h : n % 3 = 0 ∨ n % 3 = 1 ∨ n % 3 = 2 := by omega
  rcases h with h | h | h
  · exact many_of (k := 0) (m := 59) h rfl (by omega) ctl59 (by decide)
  · exact many_of (k := 1) (m := 60) h rfl (by omega) ctl60 (by decide)
  · exact many_of (k := 2) (m := 61) h rfl (by omega) ctl61 (by decide)
theorem many19_any (W : World) (hG : Gx W) (n : Int) (_ : -9223372036854775808 ≤ n) (_ : n ≤ 9223372036854775807) : Says 4 #[.int .i64 n] W :=
  (many19 n).law (ok := fun _ => True) hG ⟨_, [], rfl, .val _, rfl⟩
end Go.Proofs.YtlbbfmijemnjdaaGreatDoor
/- Which terms are valid: the walks of the reference. -/
namespace Go.Proofs.YtlbbfmijemnjdaaGreatDoor
open Go.RowKit
open Te

theorem p_args (t : Te) : Puk 49 [teA t] (if t.kind = 3 then tesA t.args else .dt (.row [])) := by
  by_cases h : t.kind = 3
  · rw [if_pos h]
    exact pwalk (an := [yF]) (ls := []) (ps := [Bn .neq 3 (.tmp 4) (.const (vi 3)) (vi t.kind) (vi 3) bF]) Tryz.func49 (by kernel_rfl) (by kernel_rfl) ⟨bin_ine (by simp [h]), trivial⟩
  · rw [if_neg h]
    exact pwalk (an := [yT]) (ls := []) (ps := [Bn .neq 3 (.tmp 4) (.const (vi 3)) (vi t.kind) (vi 3) bT]) Tryz.func49 (by kernel_rfl) (by kernel_rfl) ⟨bin_ine (by simp [h]), trivial⟩
/- count -/
abbrev ctS (l : List Te) (m n i : Int) : AS := ⟨stt 40 [(1, inA m), (5, inA n), (6, tesA l), (7, inA i)], []⟩
abbrev ctE (n : Int) : AS := ⟨stt 40 [(5, inA n)], []⟩
noncomputable abbrev ctB : Code := subC (bodyOf Tryz.f24) [1,1,1,1,0,1,0,0]
theorem ctB1 {l : List Te} {x : Te} {m n k : Int} {i : Nat} (hx : l[i]? = some x) (hl : l.length ≤ 9223372036854775807) (hm : m ≤ 3001) (hn : 1 ≤ n) (h0 : n < m) (hk0 : 0 ≤ k) (hk1 : k ≤ 3001) (h : Puk 24 [teA x, inA (m - n)] (inA k)) : Tri EX ctB (ctS l m n i) .nxt (ctS l m (n + k) ((i + 1 : Nat) : Int)) :=
  twalk (c := subC (bodyOf Tryz.f24) [1,1,1,1,0,1,0,0]) (s := ctS l m n i) (an := [.av (inA l.length), yT, yT, .av (.pin ((encT x).map .dt)), .av (inA (m - n)), .av (inA k), .av (inA (n + k)), .av (inA ((i + 1 : Nat) : Int))]) (ls := []) (ft := [1,5,6,7]) (nb := 0) (e := .nxt) (s' := ctS l m (n + k) ((i + 1 : Nat) : Int)) (ps := [(vi ↑l.length) = (vi (↑(List.map Te.enc l).length)), Bn .lss 3 (.tmp 18) (.tmp 20) (vi ↑i) (vi ↑l.length) bT, Bn .lss 3 (.tmp 23) (.tmp 24) (vi n) (vi m) bT, IxAt (List.map Te.enc l) ↑i 11 (encT x), Bn .sub 3 (.tmp 34) (.tmp 35) (vi m) (vi n) (vi (m - n)), Puk 24 [(teA x), (inA (m - n))] (inA k), Bn .add 3 (.tmp 29) (.tmp 37) (vi n) (vi k) (vi (n + k)), Bn .add 3 (.tmp 27) (.const (vi 1)) (vi ↑i) (vi 1) (vi (↑(i + 1)))]) (by kernel_rfl)
    ⟨lenEncT _, bin_ilt (decide_eq_true (by have := (List.getElem?_eq_some_iff.1 hx).1; omega)), bin_ilt (decide_eq_true h0), ix_te hx, bin_isub rfl (by omega) (by omega), h, bin_iadd rfl (by omega) (by omega), bin_iadd (by omega) (by omega) (by have := (List.getElem?_eq_some_iff.1 hx).1; omega), trivial⟩
theorem ctB2 {l : List Te} {m n : Int} {i : Nat} (hi : i = l.length) : Tri EX ctB (ctS l m n i) (.out 0) (ctE n) :=
  twalk (c := subC (bodyOf Tryz.f24) [1,1,1,1,0,1,0,0]) (s := ctS l m n i) (an := [.av (inA l.length), yF]) (ls := []) (ft := [5]) (nb := 0) (e := .out 0) (s' := ctE n) (ps := [(vi ↑l.length) = (vi (↑(List.map Te.enc l).length)), Bn .lss 3 (.tmp 18) (.tmp 20) (vi ↑i) (vi ↑l.length) bF]) (by kernel_rfl)
    ⟨lenEncT _, bin_ilt (decide_eq_false (by omega)), trivial⟩
theorem ctB3 {l : List Te} {m n : Int} {i : Nat} (hi : i < l.length) (h0 : ¬ n < m) : Tri EX ctB (ctS l m n i) (.out 0) (ctE n) :=
  twalk (c := subC (bodyOf Tryz.f24) [1,1,1,1,0,1,0,0]) (s := ctS l m n i) (an := [.av (inA l.length), yT, yF]) (ls := []) (ft := [5]) (nb := 0) (e := .out 0) (s' := ctE n) (ps := [(vi ↑l.length) = (vi (↑(List.map Te.enc l).length)), Bn .lss 3 (.tmp 18) (.tmp 20) (vi ↑i) (vi ↑l.length) bT, Bn .lss 3 (.tmp 23) (.tmp 24) (vi n) (vi m) bF]) (by kernel_rfl)
    ⟨lenEncT _, bin_ilt (decide_eq_true (by omega)), bin_ilt (decide_eq_false h0), trivial⟩
theorem ct_loop {l : List Te} {m : Int} (hl : l.length ≤ 9223372036854775807) (hm : m ≤ 3001) (h : ∀ x ∈ l, ∀ m : Int, 1 ≤ m → m ≤ 3001 → Puk 24 [teA x, inA m] (inA (cnt x m))) : ∀ (s : List Te) (i : Nat) (n : Int), l.drop i = s → i ≤ l.length → 1 ≤ n → n ≤ m → Lps EX ctB (ctS l m n i) (.out 0) (ctE (cntL s m n)) := by
  intro s
  induction s with
  | nil =>
    intro i n hd hi hn hn2
    have e1 := congrArg List.length hd
    rw [List.length_drop, List.length_nil] at e1
    rw [cntL]
    exact .stop (ctB2 (by omega)) (fun h => by cases h)
  | cons x s ih =>
    intro i n hd hi hn hn2
    have hx : l[i]? = some x := by rw [← List.head?_drop, hd]; rfl
    have hlt := (List.getElem?_eq_some_iff.1 hx).1
    have hd2 : l.drop (i + 1) = s := by rw [← List.drop_drop, hd]; rfl
    rw [cntL]
    by_cases h0 : n < m
    · rw [if_pos h0]
      have hr := cnt_law x (m - n) (by omega) (by omega)
      exact .more (ctB1 hx hl hm hn h0 (by omega) (by omega) (h x (List.mem_of_getElem? hx) (m - n) (by omega) (by omega))) (ih (i + 1) _ hd2 (by omega) (by omega) (by omega))
    · rw [if_neg h0]
      exact .stop (ctB3 hlt h0) (fun h => by cases h)
theorem cnt_eq (t : Te) (m : Int) : cnt t m = if t.kind = 2 then min m (nodesP t.val) else cntL (if t.kind = 3 then t.args else []) m 1 := by
  obtain ⟨k, p, n, o, l⟩ := t
  rw [cnt]
  split
  · rfl
  · split
    · rfl
    · rw [cntL]
theorem p_cnt : ∀ (N : Nat) (t : Te) (m : Int), t.size ≤ N → t.Bd → 1 ≤ m → m ≤ 3001 → Puk 24 [teA t, inA m] (inA (cnt t m)) := by
  intro N
  induction N with
  | zero => intro t m h; have := t.size_pos; omega
  | succ N ih =>
    intro t m hN hb h1 h2
    obtain ⟨hv, hs, hp, hn, hl⟩ := hb.parts
    have hkids : ∀ x ∈ t.args, ∀ m : Int, 1 ≤ m → m ≤ 3001 → Puk 24 [teA x, inA m] (inA (cnt x m)) := fun x hx m h1 h2 => ih x m (by have := Te.size_args hx; omega) (hb.kids hx) h1 h2
    have hP := nodesP_min t.val
    rw [cnt_eq]
    by_cases k2 : t.kind = 2
    · rw [if_pos k2]
      exact pwalk (an := [yT, .av (inA (nodesP t.val)), .av (inA (min m (nodesP t.val)))]) (ls := []) (ps := [Bn .eql 3 (.tmp 9) (.const (vi 2)) (vi t.kind) (vi 2) bT, Puk 48 [(obA t.val)] (inA (nodesP t.val)), (vi (min m (nodesP t.val))) = (vi (if nodesP t.val < m then nodesP t.val else m))]) Tryz.func24 (by kernel_rfl) (by kernel_rfl) ⟨bin_ieq (yesD k2), p_rNodesO hv, by rw [show min m (nodesP t.val) = if nodesP t.val < m then nodesP t.val else m by split <;> omega], trivial⟩
    rw [if_neg k2]
    have ha := p_args t
    by_cases k3 : t.kind = 3
    · rw [if_pos k3] at ha ⊢
      have ht := (ct_loop hl h2 hkids t.args 0 1 rfl (Nat.zero_le _) (by omega) h1).tri
      generalize cntL t.args m 1 = r at *
      exact pwalk (an := [yF, .av (tesA t.args)]) (ls := [.inv [1,5,6,7] 0 (.out 0) (ctE r)]) (ps := [Bn .eql 3 (.tmp 9) (.const (vi 2)) (vi t.kind) (vi 2) bF, Puk 49 [(teA t)] (.dt (.row (List.map Te.enc t.args))), Tri EX (.loop (subC (bodyOf Tryz.f24) [1,1,1,1,0,1,0,0])) (ctS t.args m 1 0) (.out 0) (ctE r)]) Tryz.func24 (by kernel_rfl) (by kernel_rfl) ⟨bin_ieq (noD k2), ha, ht, trivial⟩
    · rw [if_neg k3] at ha ⊢
      have ht := (ct_loop (l := []) (by decide) h2 (fun x hx => by cases hx) [] 0 1 rfl (Nat.zero_le _) (by omega) h1).tri
      generalize cntL [] m 1 = r at *
      exact pwalk (an := [yF, .av (.dt (.row []))]) (ls := [.inv [1,5,6,7] 0 (.out 0) (ctE r)]) (ps := [Bn .eql 3 (.tmp 9) (.const (vi 2)) (vi t.kind) (vi 2) bF, Puk 49 [(teA t)] (.dt (.row [])), Tri EX (.loop (subC (bodyOf Tryz.f24) [1,1,1,1,0,1,0,0])) (ctS [] m 1 0) (.out 0) (ctE r)]) Tryz.func24 (by kernel_rfl) (by kernel_rfl) ⟨bin_ieq (noD k2), ha, ht, trivial⟩
theorem p_rNodes {t : Te} (hb : t.Bd) : Puk 7 [teA t] (inA ((min t.nods 3001 : Nat) : Int)) := by
  have h := p_cnt _ t 3001 (Nat.le_refl _) hb (by omega) (by omega)
  rw [cnt_law t 3001 (by omega) (by omega), show min (3001 : Int) (t.nods : Int) = ((min t.nods 3001 : Nat) : Int) by omega] at h
  generalize ((min t.nods 3001 : Nat) : Int) = r at *
  exact pwalk (an := [.av (inA r)]) (ls := []) (ps := [Puk 24 [(teA t), (inA 3001)] (inA r)]) Tryz.func7 (by kernel_rfl) (by kernel_rfl) ⟨h, trivial⟩
/- deep -/
abbrev deS (l : List Te) (m d i : Int) : AS := ⟨stt 31 [(1, inA m), (5, inA d), (6, tesA l), (7, inA i)], []⟩
abbrev deE (d : Int) : AS := ⟨stt 31 [(5, inA d)], []⟩
noncomputable abbrev deB : Code := subC (bodyOf Tryz.f25) [1,1,1,0,1,0,0]
theorem deB1 {l : List Te} {x : Te} {m d k j : Int} {i : Nat} (hx : l[i]? = some x) (hl : l.length ≤ 9223372036854775807) (h0 : 1 < m) (hm : m ≤ 1000) (h : Puk 25 [teA x, inA (m - 1)] (inA k)) (hj : j = if k > d then k else d) : Tri EX deB (deS l m d i) .nxt (deS l m j ((i + 1 : Nat) : Int)) :=
  twalk (c := subC (bodyOf Tryz.f25) [1,1,1,0,1,0,0]) (s := deS l m d i) (an := [.av (inA l.length), yT, yT, .av (.pin ((encT x).map .dt)), .av (inA (m - 1)), .av (inA k), .av (inA j), .av (inA ((i + 1 : Nat) : Int))]) (ls := []) (ft := [1,5,6,7]) (nb := 0) (e := .nxt) (s' := deS l m j ((i + 1 : Nat) : Int)) (ps := [(vi ↑l.length) = (vi (↑(List.map Te.enc l).length)), Bn .lss 3 (.tmp 10) (.tmp 12) (vi ↑i) (vi ↑l.length) bT, Bn .gtr 3 (.tmp 15) (.const (vi 1)) (vi m) (vi 1) bT, IxAt (List.map Te.enc l) ↑i 11 (encT x), Bn .sub 3 (.tmp 25) (.const (vi 1)) (vi m) (vi 1) (vi (m - 1)), Puk 25 [(teA x), (inA (m - 1))] (inA k), (vi j) = (vi (if k > d then k else d)), Bn .add 3 (.tmp 18) (.const (vi 1)) (vi ↑i) (vi 1) (vi (↑(i + 1)))]) (by kernel_rfl)
    ⟨lenEncT _, bin_ilt (decide_eq_true (by have := (List.getElem?_eq_some_iff.1 hx).1; omega)), bin_igt (decide_eq_true h0), ix_te hx, bin_isub rfl (by omega) (by omega), h, by rw [hj], bin_iadd (by omega) (by omega) (by have := (List.getElem?_eq_some_iff.1 hx).1; omega), trivial⟩
theorem deB2 {l : List Te} {m d : Int} {i : Nat} (hi : i = l.length) : Tri EX deB (deS l m d i) (.out 0) (deE d) :=
  twalk (c := subC (bodyOf Tryz.f25) [1,1,1,0,1,0,0]) (s := deS l m d i) (an := [.av (inA l.length), yF]) (ls := []) (ft := [5]) (nb := 0) (e := .out 0) (s' := deE d) (ps := [(vi ↑l.length) = (vi (↑(List.map Te.enc l).length)), Bn .lss 3 (.tmp 10) (.tmp 12) (vi ↑i) (vi ↑l.length) bF]) (by kernel_rfl)
    ⟨lenEncT _, bin_ilt (decide_eq_false (by omega)), trivial⟩
theorem deB3 {l : List Te} {m d : Int} {i : Nat} (hi : i < l.length) (h0 : ¬ 1 < m) : Tri EX deB (deS l m d i) (.out 0) (deE d) :=
  twalk (c := subC (bodyOf Tryz.f25) [1,1,1,0,1,0,0]) (s := deS l m d i) (an := [.av (inA l.length), yT, yF]) (ls := []) (ft := [5]) (nb := 0) (e := .out 0) (s' := deE d) (ps := [(vi ↑l.length) = (vi (↑(List.map Te.enc l).length)), Bn .lss 3 (.tmp 10) (.tmp 12) (vi ↑i) (vi ↑l.length) bT, Bn .gtr 3 (.tmp 15) (.const (vi 1)) (vi m) (vi 1) bF]) (by kernel_rfl)
    ⟨lenEncT _, bin_ilt (decide_eq_true (by omega)), bin_igt (decide_eq_false h0), trivial⟩
theorem de_loop {l : List Te} {m : Int} (hl : l.length ≤ 9223372036854775807) (hm : m ≤ 1000) (h : ∀ x ∈ l, 1 < m → Puk 25 [teA x, inA (m - 1)] (inA (dee x (m - 1)))) : ∀ (s : List Te) (i : Nat) (d : Int), l.drop i = s → i ≤ l.length → Lps EX deB (deS l m d i) (.out 0) (deE (deeL s m d)) := by
  intro s
  induction s with
  | nil =>
    intro i d hd hi
    have e1 := congrArg List.length hd
    rw [List.length_drop, List.length_nil] at e1
    rw [deeL]
    exact .stop (deB2 (by omega)) (fun h => by cases h)
  | cons x s ih =>
    intro i d hd hi
    have hx : l[i]? = some x := by rw [← List.head?_drop, hd]; rfl
    have hlt := (List.getElem?_eq_some_iff.1 hx).1
    have hd2 : l.drop (i + 1) = s := by rw [← List.drop_drop, hd]; rfl
    rw [deeL]
    by_cases h0 : 1 < m
    · rw [if_pos h0]
      exact .more (deB1 hx hl h0 hm (h x (List.mem_of_getElem? hx) h0) (by split <;> omega)) (ih (i + 1) _ hd2 (by omega))
    · rw [if_neg h0]
      exact .stop (deB3 hlt h0) (fun h => by cases h)
theorem dee_eq (t : Te) (m : Int) : dee t m = deeL (if t.kind = 3 then t.args else []) m 0 + 1 := by
  obtain ⟨k, p, n, o, l⟩ := t
  rw [dee]
  split
  · rfl
  · rw [deeL]; rfl
theorem p_dee : ∀ (N : Nat) (t : Te) (m : Int), t.size ≤ N → t.Bd → 1 ≤ m → m ≤ 1000 → Puk 25 [teA t, inA m] (inA (dee t m)) := by
  intro N
  induction N with
  | zero => intro t m h; have := t.size_pos; omega
  | succ N ih =>
    intro t m hN hb h1 h2
    obtain ⟨hv, hs, hp, hn, hl⟩ := hb.parts
    have hb1 := dee_law t m h1
    have hdp := t.dep_pos
    rw [dee_eq] at hb1 ⊢
    have ha := p_args t
    by_cases k3 : t.kind = 3
    · rw [if_pos k3] at ha hb1 ⊢
      have ht := (de_loop hl h2 (fun x hx h0 => ih x (m - 1) (by have := Te.size_args hx; omega) (hb.kids hx) (by omega) (by omega)) t.args 0 0 rfl (Nat.zero_le _)).tri
      generalize deeL t.args m 0 = r at *
      exact pwalk (an := [.av (tesA t.args), .av (inA (r + 1))]) (ls := [.inv [1,5,6,7] 0 (.out 0) (deE r)]) (ps := [Puk 49 [(teA t)] (.dt (.row (List.map Te.enc t.args))), Tri EX (.loop (subC (bodyOf Tryz.f25) [1,1,1,0,1,0,0])) (deS t.args m 0 0) (.out 0) (deE r), Bn .add 3 (.tmp 29) (.const (vi 1)) (vi r) (vi 1) (vi (r + 1))]) Tryz.func25 (by kernel_rfl) (by kernel_rfl) ⟨ha, ht, bin_iadd rfl (by omega) (by omega), trivial⟩
    · rw [if_neg k3] at ha hb1 ⊢
      have ht := (de_loop (l := []) (by decide) h2 (fun x hx => by cases hx) [] 0 0 rfl (Nat.zero_le _)).tri
      generalize deeL [] m 0 = r at *
      exact pwalk (an := [.av (.dt (.row [])), .av (inA (r + 1))]) (ls := [.inv [1,5,6,7] 0 (.out 0) (deE r)]) (ps := [Puk 49 [(teA t)] (.dt (.row [])), Tri EX (.loop (subC (bodyOf Tryz.f25) [1,1,1,0,1,0,0])) (deS [] m 0 0) (.out 0) (deE r), Bn .add 3 (.tmp 29) (.const (vi 1)) (vi r) (vi 1) (vi (r + 1))]) Tryz.func25 (by kernel_rfl) (by kernel_rfl) ⟨ha, ht, bin_iadd rfl (by omega) (by omega), trivial⟩
theorem p_rDepth {t : Te} (hb : t.Bd) : Puk 8 [teA t] (inA ((min t.dep 201 : Nat) : Int)) := by
  have h := p_dee _ t 201 (Nat.le_refl _) hb (by omega) (by omega)
  rw [dee_law t 201 (by omega), show min (201 : Int) (t.dep : Int) = ((min t.dep 201 : Nat) : Int) by omega] at h
  generalize ((min t.dep 201 : Nat) : Int) = r at *
  exact pwalk (an := [.av (inA r)]) (ls := []) (ps := [Puk 25 [(teA t), (inA 201)] (inA r)]) Tryz.func8 (by kernel_rfl) (by kernel_rfl) ⟨h, trivial⟩
end Go.Proofs.YtlbbfmijemnjdaaGreatDoor
