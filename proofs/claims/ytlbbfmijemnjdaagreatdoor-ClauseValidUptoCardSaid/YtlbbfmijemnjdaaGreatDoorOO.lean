/- The maker's terms and literals, over no world. -/
import Derived.Test.YtlbbfmijemnjdaaGreatDoorON
import Derived.Test.YtlbbfmijemnjdaaGreatDoorOF
import Derived.Test.YtlbbfmijemnjdaaGreatDoorOJ
namespace Go.Proofs.YtlbbfmijemnjdaaGreatDoor
open Go.RowKit
open Te

abbrev noW : AV := .dt (.row [])
abbrev prims : AV := .dt (.row (primL.map prow))
theorem p_NamesN : Puk 84 [noW] prims :=
  pwalk (an := [.av (prims), .no, .no]) (ls := [.run 1]) (ps := [Puk 103 [] (.dt (.row (List.map prow primL)))]) Tryz.func84 (by kernel_rfl) (by kernel_rfl) ⟨p_rNames, trivial⟩
theorem p_ArN {i : Nat} {s : List UInt8} {a : Nat} (h : primL[i]? = some (s, a)) : Puk 102 [noW, syA lispB s] (.tup [inA (a : Int), boA true]) :=
  pwalk (an := [.av (.tup [inA (a : Int), boA true])]) (ls := []) (ps := [Puk 122 [(syA lispB s)] (.tup [(inA ↑a), (boA true)])]) Tryz.func102 (by kernel_rfl) (by kernel_rfl) ⟨p_rAri h, trivial⟩
abbrev rwC (r : Raw) : Option Bx := some (.cells [inA r.kind, inA r.n, stA r.s, .dt (.row (r.l.map Raw.enc))])
abbrev zTc : Option Bx := some (.cells [inA 0, stA [], stA [], inA 0, stA [], stA [], stA [], stA [], stA [], .nil, .nil])
/-- a variable -/
theorem w_b0 {r : Raw} {k : Int} {nm : List UInt8} {t : Te} (h1 : Puk 12 [inA r.kind, inA 6] (inA k)) (hk : k < 2) (h2 : Puk 12 [inA r.n, inA 3] (inA (r.n % 3))) (hx : IxAt vars3 (r.n % 3) 2 (srow nm)) (hv : Puk 16 [syA userB nm] (teA t)) : Puk 83 [noW, prims, .dt (.row vars3), rawA r] (teA t) :=
  pwalk (an := [.av (inA k), yT, .no, .no, .no, .av (inA (r.n % 3)), .av (.pin [stA userB, stA nm]), .av (teA t)]) (ls := []) (ps := [Puk 12 [(inA r.kind), (inA 6)] (inA k), Bn .lss 3 (.tmp 18) (.const (vi 2)) (vi k) (vi 2) bT, Puk 12 [(inA r.n), (inA 3)] (inA (r.n % 3)), IxAt vars3 (r.n % 3) 2 ([(.val (str userB)), (.val (str nm))]), Puk 16 [(syA userB nm)] (teA t)]) Tryz.func83 (by kernel_rfl) (by kernel_rfl) ⟨h1, bin_ilt (decide_eq_true hk), h2, hx, hv, trivial⟩
/-- a constant -/
theorem w_b1 {r : Raw} {o : Ob} {t : Te} (h1 : Puk 12 [inA r.kind, inA 6] (inA 2)) (hl : r.l.length = 0) (h2 : Puk 12 [inA r.n, inA 7] (inA (r.n % 7))) (ho : Puk 14 [inA (r.n % 7 - 2)] (obA o)) (hc : Puk 13 [obA o] (teA t)) : Puk 83 [noW, prims, .dt (.row vars3), rawA r] (teA t) :=
  pwalk (an := [.av (inA 2), .no, .no, .av (inA r.l.length), yT, .av (inA (r.n % 7)), .av (inA (r.n % 7 - 2)), .av (obA o), .av (teA t)]) (ls := []) (ps := [Puk 12 [(inA r.kind), (inA 6)] (inA 2), (vi ↑r.l.length) = (vi (↑(List.map Raw.enc r.l).length)), Bn .eql 3 (.tmp 38) (.const (vi 0)) (vi ↑r.l.length) (vi 0) bT, Puk 12 [(inA r.n), (inA 7)] (inA (r.n % 7)), Bn .sub 3 (.tmp 42) (.const (vi 2)) (vi (r.n % 7)) (vi 2) (vi (r.n % 7 - 2)), Puk 14 [(inA (r.n % 7 - 2))] (obA o), Puk 13 [(obA o)] (teA t)]) Tryz.func83 (by kernel_rfl) (by kernel_rfl) ⟨h1, lenEncR _, bin_ieq (decide_eq_true (by omega)), h2, bin_isub rfl (by omega) (by omega), ho, hc, trivial⟩
theorem w_b2 {r x : Raw} {o : Ob} {t : Te} (h1 : Puk 12 [inA r.kind, inA 6] (inA 2)) (hx : r.l[0]? = some x) (ho : Puk 101 [rawA x] (obA o)) (hc : Puk 13 [obA o] (teA t)) : Puk 83 [noW, prims, .dt (.row vars3), rawA r] (teA t) :=
  pwalk (an := [.av (inA 2), .no, .no, .av (inA r.l.length), yF, .av (.pin ((encR x).map .dt)), .av (obA o), .av (teA t)]) (ls := []) (ps := [Puk 12 [(inA r.kind), (inA 6)] (inA 2), (vi ↑r.l.length) = (vi (↑(List.map Raw.enc r.l).length)), Bn .eql 3 (.tmp 38) (.const (vi 0)) (vi ↑r.l.length) (vi 0) bF, IxAt (List.map Raw.enc r.l) 0 4 (encR x), Puk 101 [(rawA x)] (obA o), Puk 13 [(obA o)] (teA t)]) Tryz.func83 (by kernel_rfl) (by kernel_rfl) ⟨h1, lenEncR _, bin_ieq (decide_eq_false (by have := (List.getElem?_eq_some_iff.1 hx).1; omega)), ix_raw hx, ho, hc, trivial⟩
/- a call -/
abbrev bdX (r : Raw) (nm : List UInt8) : List (Option Bx) := [rwC r, zTc, some (.cells [stA lispB, stA nm])]
abbrev bdS (r : Raw) (nm : List UInt8) (n : Int) (es : List (List Dt)) (i : Int) : AS := ⟨stt 84 [(0, noW), (1, prims), (2, .dt (.row vars3)), (7, .ptr 0 0), (8, .ptr 1 0), (10, .ptr 2 0), (11, inA n), (13, .own 3 es.length), (14, inA i)], bdX r nm ++ [some (.buf 34 11 es)]⟩
abbrev bd0 (r : Raw) (nm : List UInt8) (n : Int) : AS := ⟨stt 84 [(0, noW), (1, prims), (2, .dt (.row vars3)), (7, .ptr 0 0), (8, .ptr 1 0), (10, .ptr 2 0), (11, inA n), (13, .nil), (14, inA 0)], bdX r nm⟩
noncomputable abbrev bdB : Code := subC (bodyOf Tryz.f83) [1,1,1,1,1,1,1,0,1,0,0]
theorem bdB1 {r x : Raw} {nm : List UInt8} {n : Int} {es : List (List Dt)} {i : Nat} {t : Te} (hi : (i : Int) < n) (hn : n ≤ 8) (he : es.length ≤ 8) (h1 : Puk 55 [rawA r, inA (i : Int)] (rawA x)) (h2 : Puk 83 [noW, prims, .dt (.row vars3), rawA x] (teA t)) : Tri EX bdB (bdS r nm n es i) .nxt (bdS r nm n (es ++ [encT t]) ((i + 1 : Nat) : Int)) :=
  twalk (c := subC (bodyOf Tryz.f83) [1,1,1,1,1,1,1,0,1,0,0]) (s := bdS r nm n es i) (an := [yT, .av (rawA x), .av (teA t), .av (.un), .av (inA ((i + 1 : Nat) : Int))]) (ls := []) (ft := [0,1,2,7,8,10,11,13,14]) (nb := 4) (e := .nxt) (s' := bdS r nm n (es ++ [encT t]) ((i + 1 : Nat) : Int)) (ps := [Bn .lss 3 (.tmp 66) (.tmp 67) (vi ↑i) (vi n) bT, Puk 55 [(rawA r), (inA ↑i)] (rawA x), Puk 83 [(.dt (.row [])), (.dt (.row (List.map prow primL))), (.dt (.row [[(.val (str userB)), (.val (str [120]))], [(.val (str userB)), (.val (str [121]))], [(.val (str userB)), (.val (str [122]))]])), (rawA x)] (teA t), (es.length) = (es.length), FitB 176 ((es ++ [encT t]).length), SrcOK 11 [encT t], Bn .add 3 (.tmp 69) (.const (vi 1)) (vi ↑i) (vi 1) (vi (↑(i + 1)))]) (by kernel_rfl)
    ⟨bin_ilt (decide_eq_true hi), h1, h2, rfl, fit_of (by omega) (by simp; omega), src_te1 t, bin_iadd (by omega) (by omega) (by omega), trivial⟩
theorem bdB2 {r : Raw} {nm : List UInt8} {n : Int} {es : List (List Dt)} {i : Nat} (hi : ¬ (i : Int) < n) : Tri EX bdB (bdS r nm n es i) (.out 0) (bdS r nm n es i) :=
  twalk (c := subC (bodyOf Tryz.f83) [1,1,1,1,1,1,1,0,1,0,0]) (s := bdS r nm n es i) (an := [yF]) (ls := []) (ft := [0,1,2,7,8,10,11,13,14]) (nb := 4) (e := .out 0) (s' := bdS r nm n es i) (ps := [Bn .lss 3 (.tmp 66) (.tmp 67) (vi ↑i) (vi n) bF]) (by kernel_rfl)
    ⟨bin_ilt (decide_eq_false hi), trivial⟩
theorem bd_loop {r : Raw} {nm : List UInt8} {n : Nat} (hn : n ≤ 8) (h : ∀ i : Nat, ∃ x t, t.Bd ∧ Puk 55 [rawA r, inA (i : Int)] (rawA x) ∧ Puk 83 [noW, prims, .dt (.row vars3), rawA x] (teA t)) : ∀ (j i : Nat) (ts : List Te), i + j = n → ts.length = i → (∀ t ∈ ts, t.Bd) → ∃ ts', ts'.length = n ∧ (∀ t ∈ ts', t.Bd) ∧ Lps EX bdB (bdS r nm n (encTs ts) i) (.out 0) (bdS r nm n (encTs ts') n) := by
  intro j
  induction j with
  | zero =>
    intro i ts hi hl hb
    obtain rfl : i = n := by omega
    exact ⟨ts, hl, hb, .stop (bdB2 (by omega)) (fun h => by cases h)⟩
  | succ j ih =>
    intro i ts hi hl hb
    obtain ⟨x, t, ht, h1, h2⟩ := h i
    obtain ⟨ts', k1, k2, k3⟩ := ih (i + 1) (ts ++ [t]) (by omega) (by simp [hl]) (fun y hy => by
      rcases List.mem_append.1 hy with hy | hy
      · exact hb y hy
      · rw [List.mem_singleton] at hy; subst hy; exact ht)
    have hs := bdB1 (nm := nm) (n := (n : Int)) (es := encTs ts) (i := i) (by omega) (by omega) (by rw [List.length_map]; omega) h1 h2
    have e : encTs ts ++ [encT t] = encTs (ts ++ [t]) := by unfold encTs; rw [List.map_append, row1]
    rw [e] at hs
    exact ⟨ts', k1, k2, .more hs k3⟩
theorem w_b3 {r : Raw} {k a : Int} {nm : List UInt8} {es : List (List Dt)} {t : Te} (h1 : Puk 12 [inA r.kind, inA 6] (inA k)) (hk : 3 ≤ k) (h2 : Puk 12 [inA r.n, inA 25] (inA (r.n % 25))) (hx : IxAt (primL.map prow) (r.n % 25) 2 [.val (str lispB), .val (str nm)]) (ha : Puk 102 [noW, syA lispB nm] (.tup [inA a, boA true]))
    (ht : Tri EX (.loop bdB) (bd0 r nm a) (.out 0) (bdS r nm a es a)) (hp : Puk 35 [syA lispB nm, .dt (.row es)] (teA t)) : Puk 83 [noW, prims, .dt (.row vars3), rawA r] (teA t) :=
  pwalk (an := [.av (inA k), yF, yF, .av (inA 25), .av (inA (r.n % 25)), .av (.pin [stA lispB, stA nm]), .av (.tup [inA a, boA true]), .av (teA t)]) (ls := [.inv [0,1,2,7,8,10,11,13,14] 3 (.out 0) (bdS r nm a es a)]) (ps := [Puk 12 [(inA r.kind), (inA 6)] (inA k), Bn .lss 3 (.tmp 18) (.const (vi 2)) (vi k) (vi 2) bF, Bn .lss 3 (.tmp 34) (.const (vi 3)) (vi k) (vi 3) bF, (vi 25) = (vi 25), Puk 12 [(inA r.n), (inA 25)] (inA (r.n % 25)), IxAt (List.map prow primL) (r.n % 25) 2 ([(.val (str lispB)), (.val (str nm))]), Puk 102 [(.dt (.row [])), (syA lispB nm)] (.tup [(inA a), (boA true)]), Tri EX (.loop (subC (bodyOf Tryz.f83) [1,1,1,1,1,1,1,0,1,0,0])) (bd0 r nm a) (.out 0) (bdS r nm a es a), Puk 35 [(syA lispB nm), (.dt (.row es))] (teA t), (es.length) = (es.length)]) Tryz.func83 (by kernel_rfl) (by kernel_rfl) ⟨h1, bin_ilt (decide_eq_false (by omega)), bin_ilt (decide_eq_false (by omega)), rfl, h2, hx, ha, ht, hp, rfl, trivial⟩
theorem prims_ar : ∀ x ∈ primL, x.2 ≤ 3 := by decide
theorem ix_prim (n : Int) : IxAt (primL.map prow) (n % 25) 2 [.val (str lispB), .val (str (pickN n).1)] := ⟨by omega, by rw [List.getElem?_map, pick_get]; rfl, rfl⟩
theorem int_ok {n : Int} (h : n.natAbs < 10 ^ 4) : (Tr.num (n : Rat)).Ok 10000 := Tr.Ok.mono (k := 4) (by decide) (rb_int h)
theorem tr_bd {t : Tr} (h : t.Ok 10000) : (con t.ob).Bd := .mk _ (h.wf (by decide)) (h.sm (by decide)) (Nat.zero_le _) (Nat.zero_le _) (Nat.zero_le _) (fun x hx => by cases hx)
theorem var_bd {n : List UInt8} (h : n.length ≤ 1000) : (varT n).Bd := .mk _ zOb_wf (.mk _ (Nat.zero_le _) (Nat.zero_le _) (fun x hx => by cases hx)) (by show userB.length ≤ _; decide) (by show n.length ≤ _; omega) (Nat.zero_le _) (fun x hx => by cases hx)
theorem ap_bd {n : List UInt8} {l : List Te} (hn : n.length ≤ 1000) (hl : l.length ≤ 1000) (h : ∀ x ∈ l, x.Bd) : (Te.ap n l).Bd := .mk _ zOb_wf (.mk _ (Nat.zero_le _) (Nat.zero_le _) (fun x hx => by cases hx)) (by show lispB.length ≤ _; decide) (by show n.length ≤ _; omega) (by show l.length ≤ _; omega) h
theorem vn_len (k : Int) : (vn k).length ≤ 1000 := by unfold vn; split <;> (try split) <;> decide
theorem p_build0 {r : Raw} (hk : r.kind % 6 < 2) : ∃ t : Te, t.Bd ∧ Puk 83 [noW, prims, .dt (.row vars3), rawA r] (teA t) :=
  ⟨_, var_bd (vn_len _), w_b0 (p_mod _ _ (by omega) (by omega)) hk (p_mod _ _ (by omega) (by omega)) (ix_var r.n) (p_rVar _)⟩
theorem prim_len : ∀ x ∈ primL, x.1.length ≤ 1000 := by decide
theorem p_build : ∀ (N : Nat) (r : Raw), r.size ≤ N → Fit r → ∃ t : Te, t.Bd ∧ Puk 83 [noW, prims, .dt (.row vars3), rawA r] (teA t) := by
  intro N
  induction N with
  | zero => intro r h; have := r.size_pos; omega
  | succ N ih =>
    intro r hN hf
    by_cases h0 : r.kind % 6 < 2
    · exact p_build0 h0
    by_cases h2 : r.kind % 6 = 2
    · have hm := p_mod r.kind 6 (by omega) (by omega)
      rw [h2] at hm
      cases hl : r.l with
      | nil => exact ⟨_, tr_bd (t := Tr.num ((r.n % 7 - 2 : Int) : Rat)) (int_ok (by omega)), w_b1 hm (by rw [hl]; rfl) (p_mod _ _ (by omega) (by omega)) (p_rInt _ (by omega) (by omega)) (p_rConst _)⟩
      | cons x s =>
        have hx : r.l[0]? = some x := by rw [hl]; rfl
        have hfx := hf.kids (List.mem_of_getElem? hx)
        exact ⟨_, tr_bd (mk_ok hfx), w_b2 hm hx (p_mkOb _ x (Nat.le_refl _) hfx) (p_rConst _)⟩
    · have hkids : ∀ i : Nat, ∃ x t, t.Bd ∧ Puk 55 [rawA r, inA (i : Int)] (rawA x) ∧ Puk 83 [noW, prims, .dt (.row vars3), rawA x] (teA t) := fun i => by
        cases hx : r.l[i]? with
        | some x =>
          obtain ⟨t, k1, k2⟩ := ih x (by have := Raw.size_l (List.mem_of_getElem? hx); omega) (hf.kids (List.mem_of_getElem? hx))
          exact ⟨x, t, k1, p_part hx, k2⟩
        | none =>
          obtain ⟨t, k1, k2⟩ := p_build0 (r := ⟨0, 0, [], []⟩) (by decide)
          exact ⟨_, t, k1, p_part0 (List.getElem?_eq_none_iff.1 hx), k2⟩
      have hmem := pick_mem r.n
      have ha := prims_ar _ hmem
      obtain ⟨ts, l1, l2, l3⟩ := bd_loop (nm := (pickN r.n).1) (n := (pickN r.n).2) (by omega) hkids (pickN r.n).2 0 [] (by omega) rfl (fun t ht => by cases ht)
      have ht : Tri EX (.loop bdB) (bd0 r (pickN r.n).1 (pickN r.n).2) (.out 0) (bdS r (pickN r.n).1 (pickN r.n).2 (encTs ts) (pickN r.n).2) := Tri.own0 13 34 11 (by show 13 < 84; omega) rfl l3.tri
      exact ⟨Te.ap (pickN r.n).1 ts, ap_bd (prim_len _ hmem) (by omega) l2, w_b3 (p_mod _ _ (by omega) (by omega)) (by omega) (p_mod _ _ (by omega) (by omega)) (ix_prim r.n) (p_ArN (pick_get r.n)) ht (p_rApp _ _ _)⟩
/-- a term, a literal -/
theorem w_term {r : Raw} {t : Te} (h : Puk 83 [noW, prims, .dt (.row vars3), rawA r] (teA t)) : Puk 54 [noW, .dt (.row vars3), rawA r] (teA t) :=
  pwalk (an := [.av (prims), .av (teA t)]) (ls := []) (ps := [Puk 84 [(.dt (.row []))] (.dt (.row (List.map prow primL))), Puk 83 [(.dt (.row [])), (.dt (.row (List.map prow primL))), (.dt (.row [[(.val (str userB)), (.val (str [120]))], [(.val (str userB)), (.val (str [121]))], [(.val (str userB)), (.val (str [122]))]])), (rawA r)] (teA t)]) Tryz.func54 (by kernel_rfl) (by kernel_rfl) ⟨p_NamesN, h, trivial⟩
theorem w_lit1 {r x : Raw} {t u : Te} (h1 : Puk 55 [rawA r, inA 0] (rawA x)) (h2 : Puk 54 [noW, .dt (.row vars3), rawA x] (teA t)) (h3 : Puk 12 [inA r.kind, inA 2] (inA 1)) (h4 : Puk 18 [stA notB, .dt (.row [encT t])] (teA u)) : Puk 28 [noW, .dt (.row vars3), rawA r] (teA u) :=
  pwalk (an := [.av (rawA x), .av (teA t), .av (inA 1), .no, .av (teA u)]) (ls := []) (ps := [Puk 55 [(rawA r), (inA 0)] (rawA x), Puk 54 [(.dt (.row [])), (.dt (.row [[(.val (str userB)), (.val (str [120]))], [(.val (str userB)), (.val (str [121]))], [(.val (str userB)), (.val (str [122]))]])), (rawA x)] (teA t), Puk 12 [(inA r.kind), (inA 2)] (inA 1), Puk 18 [(stA [110, 111, 116]), (.dt (.row [encT t]))] (teA u)]) Tryz.func28 (by kernel_rfl) (by kernel_rfl) ⟨h1, h2, h3, h4, trivial⟩
theorem w_lit0 {r x : Raw} {t : Te} (h1 : Puk 55 [rawA r, inA 0] (rawA x)) (h2 : Puk 54 [noW, .dt (.row vars3), rawA x] (teA t)) (h3 : Puk 12 [inA r.kind, inA 2] (inA 0)) : Puk 28 [noW, .dt (.row vars3), rawA r] (teA t) :=
  pwalk (an := [.av (rawA x), .av (teA t), .av (inA 0), .no]) (ls := []) (ps := [Puk 55 [(rawA r), (inA 0)] (rawA x), Puk 54 [(.dt (.row [])), (.dt (.row [[(.val (str userB)), (.val (str [120]))], [(.val (str userB)), (.val (str [121]))], [(.val (str userB)), (.val (str [122]))]])), (rawA x)] (teA t), Puk 12 [(inA r.kind), (inA 2)] (inA 0)]) Tryz.func28 (by kernel_rfl) (by kernel_rfl) ⟨h1, h2, h3, trivial⟩
theorem p_lit {r : Raw} (hf : Fit r) : ∃ t : Te, t.Bd ∧ Puk 28 [noW, .dt (.row vars3), rawA r] (teA t) := by
  obtain ⟨x, t, hb, h1, h2⟩ : ∃ x t, Te.Bd t ∧ Puk 55 [rawA r, inA 0] (rawA x) ∧ Puk 83 [noW, prims, .dt (.row vars3), rawA x] (teA t) := by
    cases hx : r.l[0]? with
    | some x =>
      obtain ⟨t, k1, k2⟩ := p_build _ x (Nat.le_refl _) (hf.kids (List.mem_of_getElem? hx))
      exact ⟨x, t, k1, p_part hx, k2⟩
    | none =>
      obtain ⟨t, k1, k2⟩ := p_build0 (r := ⟨0, 0, [], []⟩) (by decide)
      exact ⟨_, t, k1, p_part0 (List.getElem?_eq_none_iff.1 hx), k2⟩
  have h3 := p_mod r.kind 2 (by omega) (by omega)
  have hm : r.kind % 2 = 0 ∨ r.kind % 2 = 1 := by omega
  rcases hm with hm | hm
  · rw [hm] at h3
    exact ⟨t, hb, w_lit0 h1 (w_term h2) h3⟩
  · rw [hm] at h3
    exact ⟨Te.ap notB [t], ap_bd (by decide) (by show 1 ≤ 1000; omega) (fun y hy => by rw [List.mem_singleton] at hy; subst hy; exact hb), w_lit1 h1 (w_term h2) h3 (p_rLisp1 _ _)⟩
end Go.Proofs.YtlbbfmijemnjdaaGreatDoor
/- ClauseValid. -/
namespace Go.Proofs.YtlbbfmijemnjdaaGreatDoor
open Go.RowKit
open Te

abbrev rwS (l : List Raw) (es : List (List Dt)) (i : Int) : AS := ⟨stt 21 [(0, rawsA l), (3, .own 0 es.length), (4, inA i)], [some (.buf 34 11 es)]⟩
noncomputable abbrev rwB : Code := subC (bodyOf Tryz.f10) [1,1,0,1,0,0]
theorem rwB1 {l : List Raw} {r : Raw} {es : List (List Dt)} {i : Nat} {t : Te} (hx : l[i]? = some r) (hl : l.length ≤ 8) (he : es.length ≤ 8) (h : Puk 28 [noW, .dt (.row vars3), rawA r] (teA t)) : Tri EX rwB (rwS l es i) .nxt (rwS l (es ++ [encT t]) ((i + 1 : Nat) : Int)) :=
  twalk (c := subC (bodyOf Tryz.f10) [1,1,0,1,0,0]) (s := rwS l es i) (an := [.av (inA l.length), yT, .av (.dt (.row vars3)), .av (.pin ((encR r).map .dt)), .av (teA t), .av (.un), .av (inA ((i + 1 : Nat) : Int))]) (ls := []) (ft := [0,3,4]) (nb := 1) (e := .nxt) (s' := rwS l (es ++ [encT t]) ((i + 1 : Nat) : Int)) (ps := [(vi ↑l.length) = (vi (↑(List.map Raw.enc l).length)), Bn .lss 3 (.tmp 5) (.tmp 7) (vi ↑i) (vi ↑l.length) bT, Puk 15 [(inA 3)] (.dt (.row [[(.val (str userB)), (.val (str [120]))], [(.val (str userB)), (.val (str [121]))], [(.val (str userB)), (.val (str [122]))]])), IxAt (List.map Raw.enc l) ↑i 4 (encR r), Puk 28 [(.dt (.row [])), (.dt (.row [[(.val (str userB)), (.val (str [120]))], [(.val (str userB)), (.val (str [121]))], [(.val (str userB)), (.val (str [122]))]])), (rawA r)] (teA t), (es.length) = (es.length), FitB 176 ((es ++ [encT t]).length), SrcOK 11 [encT t], Bn .add 3 (.tmp 9) (.const (vi 1)) (vi ↑i) (vi 1) (vi (↑(i + 1)))]) (by kernel_rfl)
    ⟨lenEncR _, bin_ilt (decide_eq_true (by have := (List.getElem?_eq_some_iff.1 hx).1; omega)), p_vars3, ix_raw hx, h, rfl, fit_of (by omega) (by simp; omega), src_te1 t, bin_iadd (by omega) (by omega) (by have := (List.getElem?_eq_some_iff.1 hx).1; omega), trivial⟩
theorem rwB2 {l : List Raw} {es : List (List Dt)} {i : Nat} (hi : i = l.length) : Tri EX rwB (rwS l es i) (.out 0) (rwS l es i) :=
  twalk (c := subC (bodyOf Tryz.f10) [1,1,0,1,0,0]) (s := rwS l es i) (an := [.av (inA l.length), yF]) (ls := []) (ft := [0,3,4]) (nb := 1) (e := .out 0) (s' := rwS l es i) (ps := [(vi ↑l.length) = (vi (↑(List.map Raw.enc l).length)), Bn .lss 3 (.tmp 5) (.tmp 7) (vi ↑i) (vi ↑l.length) bF]) (by kernel_rfl)
    ⟨lenEncR _, bin_ilt (decide_eq_false (by omega)), trivial⟩
theorem rw_loop {l : List Raw} (hl : l.length ≤ 6) (hf : ∀ r ∈ l, Fit r) : ∀ (s : List Raw) (i : Nat) (ts : List Te), l.drop i = s → i ≤ l.length → ts.length = i → (∀ t ∈ ts, t.Bd) → ∃ ts', ts'.length = l.length ∧ (∀ t ∈ ts', t.Bd) ∧ Lps EX rwB (rwS l (encTs ts) i) (.out 0) (rwS l (encTs ts') l.length) := by
  intro s
  induction s with
  | nil =>
    intro i ts hd hi ht hb
    have e1 := congrArg List.length hd
    rw [List.length_drop, List.length_nil] at e1
    obtain rfl : i = l.length := by omega
    exact ⟨ts, ht, hb, .stop (rwB2 rfl) (fun h => by cases h)⟩
  | cons r s ih =>
    intro i ts hd hi ht hb
    have hx : l[i]? = some r := by rw [← List.head?_drop, hd]; rfl
    have hlt := (List.getElem?_eq_some_iff.1 hx).1
    obtain ⟨t, h1, h2⟩ := p_lit (hf r (List.mem_of_getElem? hx))
    obtain ⟨ts', k1, k2, k3⟩ := ih (i + 1) (ts ++ [t]) (by rw [← List.drop_drop, hd]; rfl) (by omega) (by simp [ht]) (fun y hy => by
      rcases List.mem_append.1 hy with hy | hy
      · exact hb y hy
      · rw [List.mem_singleton] at hy; subst hy; exact h1)
    have hs := rwB1 (es := encTs ts) hx (by omega) (by rw [List.length_map]; omega) h2
    have e : encTs ts ++ [encT t] = encTs (ts ++ [t]) := by unfold encTs; rw [List.map_append, row1]
    rw [e] at hs
    exact ⟨ts', k1, k2, .more hs k3⟩
theorem w_raws {l : List Raw} {es : List (List Dt)} (ht : Tri EX (.loop rwB) ⟨stt 21 [(0, rawsA l), (3, .nil), (4, inA 0)], []⟩ (.out 0) (rwS l es l.length)) : Puk 10 [rawsA l] (.dt (.row es)) :=
  pwalk (an := []) (ls := [.inv [0,3,4] 0 (.out 0) (rwS l es l.length)]) (ps := [Tri EX (.loop (subC (bodyOf Tryz.f10) [1,1,0,1,0,0])) (⟨stt 21 [(0, rawsA l), (3, .nil), (4, inA 0)], []⟩) (.out 0) (rwS l es l.length), (es.length) = (es.length)]) Tryz.func10 (by kernel_rfl) (by kernel_rfl) ⟨ht, rfl, trivial⟩
/-- the literals made of raw trees -/
theorem p_raws {l : List Raw} (hl : l.length ≤ 6) (hf : ∀ r ∈ l, Fit r) : ∃ ts : List Te, ts.length = l.length ∧ (∀ t ∈ ts, t.Bd) ∧ Puk 10 [rawsA l] (tesA ts) := by
  obtain ⟨ts, k1, k2, k3⟩ := rw_loop hl hf l 0 [] rfl (Nat.zero_le _) rfl (fun t ht => by cases ht)
  exact ⟨ts, k1, k2, w_raws (Tri.own0 3 34 11 (by show 3 < 21; omega) rfl k3.tri)⟩
abbrev fewV (l : List Raw) : Bool := decide (l.length ≤ 6) && fewAllR l 10
theorem p_fewV (l : List Raw) (hl : l.length ≤ 9223372036854775807) : Puk 6 [.dt (.row [[.row (l.map Raw.enc)]])] (boA (fewV l)) := by
  have hf := p_FewAll l 10
  unfold fewV
  cases b1 : decide (l.length ≤ 6) with
  | false =>
    have e := of_decide_eq_false b1
    exact pwalk (an := [.no, .no, .no, .av (inA l.length), yT]) (ls := [.run 1]) (ps := [(vi ↑l.length) = (vi (↑(List.map Raw.enc l).length)), Bn .gtr 3 (.tmp 14) (.const (vi 6)) (vi ↑l.length) (vi 6) bT]) Tryz.func6 (by kernel_rfl) (by kernel_rfl) ⟨lenEncR _, bin_igt (decide_eq_true (by omega)), trivial⟩
  | true =>
    have e := of_decide_eq_true b1
    cases b2 : fewAllR l 10 with
    | false =>
      rw [b2] at hf
      exact pwalk (an := [.no, .no, .no, .av (inA l.length), yF, .no, yF]) (ls := [.run 1]) (ps := [(vi ↑l.length) = (vi (↑(List.map Raw.enc l).length)), Bn .gtr 3 (.tmp 14) (.const (vi 6)) (vi ↑l.length) (vi 6) bF, Puk 23 [(.dt (.row (List.map Raw.enc l))), (inA 10)] (boA false)]) Tryz.func6 (by kernel_rfl) (by kernel_rfl) ⟨lenEncR _, bin_igt (decide_eq_false (by omega)), hf, trivial⟩
    | true =>
      rw [b2] at hf
      exact pwalk (an := [.no, .no, .no, .av (inA l.length), yF, .no, yT, .no, .no, .no]) (ls := [.run 2]) (ps := [(vi ↑l.length) = (vi (↑(List.map Raw.enc l).length)), Bn .gtr 3 (.tmp 14) (.const (vi 6)) (vi ↑l.length) (vi 6) bF, Puk 23 [(.dt (.row (List.map Raw.enc l))), (inA 10)] (boA true)]) Tryz.func6 (by kernel_rfl) (by kernel_rfl) ⟨lenEncR _, bin_igt (decide_eq_false (by omega)), hf, trivial⟩
theorem fewV_fit {l : List Raw} (h : fewV l = true) : l.length ≤ 6 ∧ ∀ r ∈ l, Fit r := by
  unfold fewV fewAllR at h
  simp only [Bool.and_eq_true, decide_eq_true_eq, List.all_eq_true] at h
  exact ⟨h.1, fun r hr => fewR_fit (m := 10) (by decide) (by decide) (h.2.2 r hr)⟩
/- the clause's own literals -/
abbrev vlS (l : List Raw) (c : List Te) (i : Int) : AS := ⟨stt 51 [(0, rawsA l), (1, tesA c), (5, inA i)], []⟩
abbrev vlR : AS := ⟨stt 51 [(4, boA true)], []⟩
noncomputable abbrev vlB : Code := subC (bodyOf Tryz.f3) [1,1,1,0,1,0,0]
theorem vlB1 {l : List Raw} {c : List Te} {x : Te} {i : Nat} {k d : Int} (hx : c[i]? = some x) (hl : c.length ≤ 8) (h1 : Puk 7 [teA x] (inA k)) (hk : ¬ 30 < k) (h2 : Puk 8 [teA x] (inA d)) (hd : ¬ 30 < d) : Tri EX vlB (vlS l c i) .nxt (vlS l c ((i + 1 : Nat) : Int)) :=
  twalk (c := subC (bodyOf Tryz.f3) [1,1,1,0,1,0,0]) (s := vlS l c i) (an := [.av (inA c.length), yT, .av (.pin ((encT x).map .dt)), .av (inA k), yF, .av (.pin ((encT x).map .dt)), .av (inA d), yF, .av (inA ((i + 1 : Nat) : Int))]) (ls := []) (ft := [0,1,5]) (nb := 0) (e := .nxt) (s' := vlS l c ((i + 1 : Nat) : Int)) (ps := [(vi ↑c.length) = (vi (↑(List.map Te.enc c).length)), Bn .lss 3 (.tmp 17) (.tmp 19) (vi ↑i) (vi ↑c.length) bT, IxAt (List.map Te.enc c) ↑i 11 (encT x), Puk 7 [(teA x)] (inA k), Bn .gtr 3 (.tmp 27) (.const (vi 30)) (vi k) (vi 30) bF, IxAt (List.map Te.enc c) ↑i 11 (encT x), Puk 8 [(teA x)] (inA d), Bn .gtr 3 (.tmp 34) (.const (vi 30)) (vi d) (vi 30) bF, Bn .add 3 (.tmp 21) (.const (vi 1)) (vi ↑i) (vi 1) (vi (↑(i + 1)))]) (by kernel_rfl)
    ⟨lenEncT _, bin_ilt (decide_eq_true (by have := (List.getElem?_eq_some_iff.1 hx).1; omega)), ix_te hx, h1, bin_igt (decide_eq_false hk), ix_te hx, h2, bin_igt (decide_eq_false hd), bin_iadd (by omega) (by omega) (by have := (List.getElem?_eq_some_iff.1 hx).1; omega), trivial⟩
theorem vlB2 {l : List Raw} {c : List Te} {i : Nat} (hi : i = c.length) : Tri EX vlB (vlS l c i) (.out 0) (vlS l c i) :=
  twalk (c := subC (bodyOf Tryz.f3) [1,1,1,0,1,0,0]) (s := vlS l c i) (an := [.av (inA c.length), yF]) (ls := []) (ft := [0,1,5]) (nb := 0) (e := .out 0) (s' := vlS l c i) (ps := [(vi ↑c.length) = (vi (↑(List.map Te.enc c).length)), Bn .lss 3 (.tmp 17) (.tmp 19) (vi ↑i) (vi ↑c.length) bF]) (by kernel_rfl)
    ⟨lenEncT _, bin_ilt (decide_eq_false (by omega)), trivial⟩
theorem vlB3 {l : List Raw} {c : List Te} {x : Te} {i : Nat} {k : Int} (hx : c[i]? = some x) (h1 : Puk 7 [teA x] (inA k)) (hk : 30 < k) : Tri EX vlB (vlS l c i) .ret vlR :=
  twalk (c := subC (bodyOf Tryz.f3) [1,1,1,0,1,0,0]) (s := vlS l c i) (an := [.av (inA c.length), yT, .av (.pin ((encT x).map .dt)), .av (inA k), yT]) (ls := []) (ft := [4]) (nb := 0) (e := .ret) (s' := vlR) (ps := [(vi ↑c.length) = (vi (↑(List.map Te.enc c).length)), Bn .lss 3 (.tmp 17) (.tmp 19) (vi ↑i) (vi ↑c.length) bT, IxAt (List.map Te.enc c) ↑i 11 (encT x), Puk 7 [(teA x)] (inA k), Bn .gtr 3 (.tmp 27) (.const (vi 30)) (vi k) (vi 30) bT]) (by kernel_rfl)
    ⟨lenEncT _, bin_ilt (decide_eq_true (by have := (List.getElem?_eq_some_iff.1 hx).1; omega)), ix_te hx, h1, bin_igt (decide_eq_true hk), trivial⟩
theorem vlB4 {l : List Raw} {c : List Te} {x : Te} {i : Nat} {k d : Int} (hx : c[i]? = some x) (h1 : Puk 7 [teA x] (inA k)) (hk : ¬ 30 < k) (h2 : Puk 8 [teA x] (inA d)) (hd : 30 < d) : Tri EX vlB (vlS l c i) .ret vlR :=
  twalk (c := subC (bodyOf Tryz.f3) [1,1,1,0,1,0,0]) (s := vlS l c i) (an := [.av (inA c.length), yT, .av (.pin ((encT x).map .dt)), .av (inA k), yF, .av (.pin ((encT x).map .dt)), .av (inA d), yT]) (ls := []) (ft := [4]) (nb := 0) (e := .ret) (s' := vlR) (ps := [(vi ↑c.length) = (vi (↑(List.map Te.enc c).length)), Bn .lss 3 (.tmp 17) (.tmp 19) (vi ↑i) (vi ↑c.length) bT, IxAt (List.map Te.enc c) ↑i 11 (encT x), Puk 7 [(teA x)] (inA k), Bn .gtr 3 (.tmp 27) (.const (vi 30)) (vi k) (vi 30) bF, IxAt (List.map Te.enc c) ↑i 11 (encT x), Puk 8 [(teA x)] (inA d), Bn .gtr 3 (.tmp 34) (.const (vi 30)) (vi d) (vi 30) bT]) (by kernel_rfl)
    ⟨lenEncT _, bin_ilt (decide_eq_true (by have := (List.getElem?_eq_some_iff.1 hx).1; omega)), ix_te hx, h1, bin_igt (decide_eq_false hk), ix_te hx, h2, bin_igt (decide_eq_true hd), trivial⟩
theorem vl_loop {l : List Raw} {c : List Te} (hl : c.length ≤ 8) (hb : ∀ x ∈ c, x.Bd) : ∀ (s : List Te) (i : Nat), c.drop i = s → i ≤ c.length → Lps EX vlB (vlS l c i) (.out 0) (vlS l c c.length) ∨ Lps EX vlB (vlS l c i) .ret vlR := by
  intro s
  induction s with
  | nil =>
    intro i hd hi
    have e1 := congrArg List.length hd
    rw [List.length_drop, List.length_nil] at e1
    obtain rfl : i = c.length := by omega
    exact .inl (.stop (vlB2 rfl) (fun h => by cases h))
  | cons x s ih =>
    intro i hd hi
    have hx : c[i]? = some x := by rw [← List.head?_drop, hd]; rfl
    have hlt := (List.getElem?_eq_some_iff.1 hx).1
    have hbx := hb x (List.mem_of_getElem? hx)
    have h1 := p_rNodes hbx
    have h2 := p_rDepth hbx
    by_cases hk : (30 : Int) < ((min x.nods 3001 : Nat) : Int)
    · exact .inr (.stop (vlB3 hx h1 hk) (fun h => by cases h))
    by_cases hd2 : (30 : Int) < ((min x.dep 201 : Nat) : Int)
    · exact .inr (.stop (vlB4 hx h1 hk h2 hd2) (fun h => by cases h))
    rcases ih (i + 1) (by rw [← List.drop_drop, hd]; rfl) (by omega) with h | h
    · exact .inl (.more (vlB1 hx hl h1 hk h2 hd2) h)
    · exact .inr (.more (vlB1 hx hl h1 hk h2 hd2) h)
theorem w_valid {l : List Raw} {c : List Te} {ts : List (List Dt)} {a b : Bool} (hf : Puk 6 [.dt (.row [[.row (l.map Raw.enc)]])] (boA true)) (h8 : c.length ≤ 8) (ht : Tri EX (.loop vlB) (vlS l c 0) (.out 0) (vlS l c c.length)) (h1 : Puk 10 [rawsA l] (.dt (.row ts))) (h2 : Puk 9 [.dt (.row ts)] (boA a)) (h3 : Puk 11 [.dt (.row ts)] (boA a)) (h4 : Puk 9 [tesA c] (boA b)) (h5 : Puk 11 [tesA c] (boA b)) : Puk 3 [rawsA l, tesA c] (boA true) :=
  pwalk (an := [yT, yT, .av (inA c.length), yF, .av (.dt (.row ts)), .av (boA a), .av (.dt (.row ts)), .av (boA a), yT, .av (boA b), .av (boA b), yT]) (ls := [.inv [0,1,5] 0 (.out 0) (vlS l c c.length)]) (ps := [Puk 5 [] (boA true), Puk 6 [(.dt (.row [[(.row (List.map Raw.enc l))]]))] (boA true), (vi ↑c.length) = (vi (↑(List.map Te.enc c).length)), Bn .gtr 3 (.tmp 14) (.const (vi 8)) (vi ↑c.length) (vi 8) bF, Tri EX (.loop (subC (bodyOf Tryz.f3) [1,1,1,0,1,0,0])) (vlS l c 0) (.out 0) (vlS l c c.length), Puk 10 [(.dt (.row (List.map Raw.enc l)))] (.dt (.row ts)), Puk 9 [(.dt (.row ts))] (boA a), Puk 10 [(.dt (.row (List.map Raw.enc l)))] (.dt (.row ts)), Puk 11 [(.dt (.row ts))] (boA a), Bn .eql 4 (.tmp 39) (.tmp 42) (Value.bool a) (Value.bool a) bT, Puk 9 [(.dt (.row (List.map Te.enc c)))] (boA b), Puk 11 [(.dt (.row (List.map Te.enc c)))] (boA b), Bn .eql 4 (.tmp 46) (.tmp 48) (Value.bool b) (Value.bool b) bT]) Tryz.func3 (by kernel_rfl) (by kernel_rfl) ⟨p_first, hf, lenEncT _, bin_igt (decide_eq_false (by omega)), ht, h1, h2, h1, h3, bin_beq (by kernel_rfl) (by simp), h4, h5, bin_beq (by kernel_rfl) (by simp), trivial⟩
/-- the law -/
theorem valid19 {l : List Raw} {c : List Te} (hl : l.length ≤ 9223372036854775807) (hc : c.length ≤ 9223372036854775807) (hb : ∀ x ∈ c, x.Bd) : Puk 3 [rawsA l, tesA c] (boA true) := by
  have hf := p_fewV l hl
  cases b1 : fewV l with
  | false =>
    rw [b1] at hf
    exact pwalk (an := [yT, yF]) (ls := []) (ps := [Puk 5 [] (boA true), Puk 6 [(.dt (.row [[(.row (List.map Raw.enc l))]]))] (boA false)]) Tryz.func3 (by kernel_rfl) (by kernel_rfl) ⟨p_first, hf, trivial⟩
  | true =>
    rw [b1] at hf
    obtain ⟨g1, g2⟩ := fewV_fit b1
    by_cases h8 : c.length ≤ 8
    · obtain ⟨ts, k1, k2, k3⟩ := p_raws g1 g2
      rcases vl_loop (l := l) h8 hb c 0 rfl (Nat.zero_le _) with h | h
      · exact w_valid hf h8 h.tri k3 (p_cValid (by omega) k2) (p_rValidC (by omega) k2) (p_cValid hc hb) (p_rValidC hc hb)
      · have ht := h.tri
        exact pwalk (an := [yT, yT, .av (inA c.length), yF]) (ls := [.inv [0,1,5] 0 (.ret) (vlR)]) (ps := [Puk 5 [] (boA true), Puk 6 [(.dt (.row [[(.row (List.map Raw.enc l))]]))] (boA true), (vi ↑c.length) = (vi (↑(List.map Te.enc c).length)), Bn .gtr 3 (.tmp 14) (.const (vi 8)) (vi ↑c.length) (vi 8) bF, Tri EX (.loop (subC (bodyOf Tryz.f3) [1,1,1,0,1,0,0])) (vlS l c 0) (.ret) (vlR)]) Tryz.func3 (by kernel_rfl) (by kernel_rfl) ⟨p_first, hf, lenEncT _, bin_igt (decide_eq_false (by omega)), ht, trivial⟩
    · exact pwalk (an := [yT, yT, .av (inA c.length), yT]) (ls := []) (ps := [Puk 5 [] (boA true), Puk 6 [(.dt (.row [[(.row (List.map Raw.enc l))]]))] (boA true), (vi ↑c.length) = (vi (↑(List.map Te.enc c).length)), Bn .gtr 3 (.tmp 14) (.const (vi 8)) (vi ↑c.length) (vi 8) bT]) Tryz.func3 (by kernel_rfl) (by kernel_rfl) ⟨p_first, hf, lenEncT _, bin_igt (decide_eq_true (by omega)), trivial⟩
end Go.Proofs.YtlbbfmijemnjdaaGreatDoor
/- Terms and clauses among the arguments: what they read as, and that a small reading has short numerals. -/
namespace Go.Proofs.YtlbbfmijemnjdaaGreatDoor
open Go.RowKit Go.ChangeShapes Go.WideShapes Go.Deep

section
variable {H : Type} {enc : TypeId × Value → H} {w : World} {base : Nat} {spare : Nat → Bool} {held : Bool}
theorem cellsTe : Tryz.prog.cellsOf 34 = 11 := by kernel_rfl
theorem cellsTs : Tryz.prog.cellsOf 23 = 1 := by kernel_rfl
theorem Te.enc_len (t : Te) : t.enc.length = 11 := by rw [enc_T]; rfl
def TeR (t : Te) (d : DataW H) : Prop := Rows.uptoBulk d ≤ 1048576 → t.Bd
set_option maxRecDepth 100000 in
theorem read_te : ∀ (fuel : Nat) (cs : List Value) (x : DataW H × List MemPlace), DataW.trod enc Tryz.prog w base spare held fuel 34 cs = some x → ∃ t : Te, TeR t x.1 ∧ Reads w cs t.enc := by
  intro fuel
  induction fuel using Nat.strongRecOn with
  | _ fuel ih =>
    intro cs x h
    obtain ⟨xs, n, hfu, hxx, hlen, hxl, hf⟩ := DataW.trod_struct Tryz.underlying34 h
    rw [cellsTe] at hlen
    match cs, hlen with
    | [c0, c1, c2, c3, c4, c5, c6, c7, c8, c9, c10], _ =>
      have f0 : DataW.trod enc Tryz.prog w base spare held n 3 (List.take (Tryz.prog.cellsOf 3) (List.drop 0 [c0, c1, c2, c3, c4, c5, c6, c7, c8, c9, c10])) = xs[0]? := hf 0 _ rfl
      have f1 : DataW.trod enc Tryz.prog w base spare held n 29 (List.take (Tryz.prog.cellsOf 29) (List.drop 1 [c0, c1, c2, c3, c4, c5, c6, c7, c8, c9, c10])) = xs[1]? := hf 1 _ rfl
      have f2 : DataW.trod enc Tryz.prog w base spare held n 32 (List.take (Tryz.prog.cellsOf 32) (List.drop 3 [c0, c1, c2, c3, c4, c5, c6, c7, c8, c9, c10])) = xs[2]? := hf 2 _ rfl
      have f3 : DataW.trod enc Tryz.prog w base spare held n 23 (List.take (Tryz.prog.cellsOf 23) (List.drop 10 [c0, c1, c2, c3, c4, c5, c6, c7, c8, c9, c10])) = xs[3]? := hf 3 _ rfl
      rw [cellsIn] at f0
      rw [cellsSy] at f1
      rw [cellsOb] at f2
      rw [cellsTs] at f3
      match xs, hxl with
      | [y0, y1, y2, y3], _ =>
        replace f0 : DataW.trod enc Tryz.prog w base spare held n 3 [c0] = some y0 := f0
        replace f1 : DataW.trod enc Tryz.prog w base spare held n 29 [c1, c2] = some y1 := f1
        replace f2 : DataW.trod enc Tryz.prog w base spare held n 32 [c3, c4, c5, c6, c7, c8, c9] = some y2 := f2
        replace f3 : DataW.trod enc Tryz.prog w base spare held n 23 [c10] = some y3 := f3
        obtain ⟨k, e0, _, w0⟩ := DataW.trod_int Tryz.underlying3 f0
        obtain ⟨sp, sn, e1, e2, w1, w2⟩ := read_sym f1
        obtain ⟨o, ho, hro⟩ := read_obj n _ _ f2
        obtain ⟨A, n', c', l, e10, hr, hn, hg⟩ := read_rowsB Te.enc TeR 11 (by omega) Te.enc_len Tryz.underlying23 cellsTe f3 (fun n'' hn'' cs' y hy => ih n'' (by omega) cs' y hy)
        injection e0 with e0
        injection e10 with e10
        have hll : l.length = n' := by have := hr.len; rwa [List.length_map] at this
        have hbk : Rows.uptoBulk x.1 = Rows.uptoBulk y0.1 + (Rows.uptoBulk y1.1 + (Rows.uptoBulk y2.1 + Rows.uptoBulk y3.1)) + 1 := by
          rw [hxx]
          simp only [Rows.uptoBulk, List.map_cons, List.map_nil, Rows.uptoBulkAll, Nat.add_zero]
        obtain ⟨_, hro⟩ := hro
        simp only [Ob.enc_eq] at hro
        obtain ⟨u3, g3, r3⟩ := hro 0 (by simp)
        obtain ⟨u4, g4, r4⟩ := hro 1 (by simp)
        obtain ⟨u5, g5, r5⟩ := hro 2 (by simp)
        obtain ⟨u6, g6, r6⟩ := hro 3 (by simp)
        obtain ⟨u7, g7, r7⟩ := hro 4 (by simp)
        obtain ⟨u8, g8, r8⟩ := hro 5 (by simp)
        obtain ⟨u9, g9, r9⟩ := hro 6 (by simp)
        refine ⟨⟨k, sp, sn, o, l⟩, fun hB => .mk _ ho.1 (ho.2 (by omega)) w1 w2 (by show l.length ≤ _; rw [hll]; unfold maxLen at hn; exact hn) (fun a ha => ?_), by rw [Te.enc_len]; rfl, fun j hj => ?_⟩
        · obtain ⟨d', h1, h2⟩ := hg a ha
          exact h1 (by omega)
        · simp only [enc_T]
          rw [Te.enc_len] at hj
          rcases j with _ | _ | _ | _ | _ | _ | _ | _ | _ | _ | _ | j
          · exact ⟨c0, rfl, by rw [e0]; exact .val _⟩
          · exact ⟨c1, rfl, by rw [e1]; exact .val _⟩
          · exact ⟨c2, rfl, by rw [e2]; exact .val _⟩
          · exact ⟨u3, g3, r3⟩
          · exact ⟨u4, g4, r4⟩
          · exact ⟨u5, g5, r5⟩
          · exact ⟨u6, g6, r6⟩
          · exact ⟨u7, g7, r7⟩
          · exact ⟨u8, g8, r8⟩
          · exact ⟨u9, g9, r9⟩
          · exact ⟨c10, rfl, by rw [e10]; exact hr⟩
          · omega
set_option maxRecDepth 100000 in
theorem open_cls {r : Reach} {b0 : Nat} {v : Value} {d : DataW H} {p : List MemPlace} (hv : Value.okWide Tryz.prog w r b0 24 v) (h : DataW.Trod enc Tryz.prog w base spare held 24 v d p) :
    ∃ (l : List Te) (A : Option Addr) (n c : Nat), v = .slice A n c ∧ (Rows.uptoBulk d ≤ 1048576 → ∀ t ∈ l, t.Bd) ∧ n ≤ 9223372036854775807 ∧ Rd (fun _ => True) w (.slice A n c) (.row (l.map Te.enc)) := by
  obtain ⟨a, len, cap, rfl⟩ := okWide_slice Tryz.underlying24 hv
  obtain ⟨fuel, hf⟩ := h
  obtain ⟨A, n, c, l, e, hr, hn, hg⟩ := read_rowsB Te.enc TeR 11 (by omega) Te.enc_len Tryz.underlying24 cellsTe hf (fun n'' _ cs' y hy => read_te n'' cs' y hy)
  simp only [Value.cells, List.cons.injEq, and_true] at e
  unfold maxLen at hn
  refine ⟨l, A, n, c, by simpa using e, fun hB t ht => ?_, hn, hr⟩
  obtain ⟨d', h1, h2⟩ := hg t ht
  exact h1 (Nat.le_trans h2 hB)
end
end Go.Proofs.YtlbbfmijemnjdaaGreatDoor
/- ClauseValid as a contract of the machine. -/
namespace Go.Proofs.YtlbbfmijemnjdaaGreatDoor
open Go.RowKit

theorem valid19_any (W : World) (hG : Gx W) (l : List Raw) (_ : ∀ s ∈ l, s.Wf) (A : Option Addr) (n c : Nat) (hn : n ≤ 9223372036854775807) (hr : Rd (fun _ => True) W (.slice A n c) (.row (l.map Raw.enc)))
    (t : List Te) (hb : ∀ x ∈ t, x.Bd) (B : Option Addr) (m e : Nat) (hm : m ≤ 9223372036854775807) (ht : Rd (fun _ => True) W (.slice B m e) (.row (t.map Te.enc))) : Says 3 #[.slice A n c, .slice B m e] W :=
  (valid19 (by have := hr.len; rw [List.length_map] at this; omega) (by have := ht.len; rw [List.length_map] at this; omega) hb).law (ok := fun _ => True) hG ⟨_, _, rfl, hr, _, [], rfl, ht, rfl⟩
end Go.Proofs.YtlbbfmijemnjdaaGreatDoor
