/- Few, Vars, and the formulas of the law. -/
import Derived.Test.YtendgffijciehaaGreatDoorFH
import Derived.Test.YtendgffijciehaaGreatDoorFC
import Derived.Lib.SliceRun
import Derived.Test.YtendgffijciehaaGreatDoorFG
namespace Go.Proofs.YtendgffijciehaaGreatDoor
open Go.RowKit

abbrev wr (n : Int) : Int := IntKind.i64.wrap n
abbrev rawA (r : Raw) : AV := .agg [inA r.kind, inA r.n, stA r.s, .dt (.row (r.l.map Raw.enc))]
abbrev encR (r : Raw) : List Dt := [.val (.int .i64 r.kind), .val (.int .i64 r.n), .val (str r.s), .row (r.l.map Raw.enc)]
theorem enc_R (r : Raw) : r.enc = encR r := Raw.enc_eq r
theorem ix_raw {l : List Raw} {i : Nat} {o : Raw} (h : l[i]? = some o) : IxAt (l.map Raw.enc) (i : Int) 4 (encR o) := ⟨Int.natCast_nonneg _, by
  rw [Int.toNat_natCast, List.getElem?_map, h]
  exact congrArg some (enc_R o), rfl⟩
theorem lenEncR (l : List Raw) : Value.int .i64 (l.length : Int) = Value.int .i64 ((l.map Raw.enc).length : Int) := by rw [List.length_map]
theorem lenStr (l : List UInt8) : Value.int .i64 (l.length : Int) = Value.int .i64 (l.length : Int) := rfl
theorem p_mod (n m : Int) (hm : 0 < m) (hm1 : m ≤ 1000000) : Puk 19 [inA n, inA m] (inA (n % m)) :=
  ⟨fnm Tryz.func19 rfl (by kernel_rfl), fun ok w vs ht hv => by
    obtain ⟨u, us, rfl, h1, h2⟩ := hv
    obtain rfl := RL.one_val h2
    rw [Rd.val_eq h1]
    refine (mod_any n m w hm hm1).mono ?_
    rintro e w' ⟨rfl, rfl⟩
    exact ⟨_, rfl, Below.refl _ _, .val _⟩⟩
mutual
def leftW : Raw → Int → Int
  | ⟨_, _, s, l⟩, m => if 12 < s.length then -1 else if 6 < l.length then -1 else leftWL l (wr (m - 1))
def leftWL : List Raw → Int → Int
  | [], m => m
  | x :: r, m => if 0 ≤ m then leftWL r (leftW x m) else m
end
theorem leftW_eq (r : Raw) (m : Int) : leftW r m = if 12 < r.s.length then -1 else if 6 < r.l.length then -1 else leftWL r.l (wr (m - 1)) := by
  cases r; rw [leftW]
theorem leftWL_neg {l : List Raw} {m : Int} (h : m < 0) : leftWL l m = m := by
  cases l with
  | nil => rw [leftWL]
  | cons x r => rw [leftWL, if_neg (by omega)]
theorem wr_id {n : Int} (h0 : -9223372036854775808 ≤ n) (h1 : n ≤ 9223372036854775807) : wr n = n := by
  show IntKind.i64.wrap n = n
  rw [IntKind.wrap_i64]; omega
def fewR (r : Raw) (m : Int) : Bool := decide (0 ≤ leftW r m)
abbrev lfS (r : Raw) (i m : Int) : AS := ⟨stt 37 [(1, inA m), (2, .ptr 0 0), (4, inA 0), (5, inA i)], [some (.cells [inA r.kind, inA r.n, stA r.s, .dt (.row (r.l.map Raw.enc))])]⟩
noncomputable abbrev lfB : Code := subC (bodyOf Tryz.f43) [1, 1, 1, 0, 1, 0, 0]
theorem lfB1 {r x : Raw} {i : Nat} {m k : Int} (hx : r.l[i]? = some x) (hl : r.l.length ≤ 6) (h0 : 0 ≤ m) (hk : Puk 43 [rawA x, inA m] (inA k)) : Tri EX lfB (lfS r i m) .nxt (lfS r ((i + 1 : Nat) : Int) k) :=
  twalk (c := subC (bodyOf Tryz.f43) [1,1,1,0,1,0,0]) (s := lfS r i m) (an := [.av (inA r.l.length), yT, yT, .av (.pin ((encR x).map .dt)), .av (inA k), .av (inA ((i + 1 : Nat) : Int))]) (ls := []) (ft := [1,2,4,5]) (nb := 1) (e := .nxt) (s' := lfS r ((i + 1 : Nat) : Int) k) (ps := [(vi ↑r.l.length) = (vi (↑(List.map Raw.enc r.l).length)), Bn .lss 3 (.tmp 18) (.tmp 21) (vi ↑i) (vi ↑r.l.length) bT, Bn .geq 3 (.tmp 24) (.const (vi 0)) (vi m) (vi 0) bT, IxAt (List.map Raw.enc r.l) ↑i 4 (encR x), Puk 43 [(rawA x), (inA m)] (inA k), Bn .add 3 (.tmp 27) (.const (vi 1)) (vi ↑i) (vi 1) (vi (↑(i + 1)))]) (by kernel_rfl)
    ⟨lenEncR _, bin_ilt (decide_eq_true (by have := (List.getElem?_eq_some_iff.1 hx).1; omega)), bin_ige (decide_eq_true h0), ix_raw hx, hk, bin_iadd (by omega) (by omega) (by have := (List.getElem?_eq_some_iff.1 hx).1; omega), trivial⟩
theorem lfB2 {r : Raw} {i : Nat} {m : Int} (hi : i = r.l.length) : Tri EX lfB (lfS r i m) (.out 0) (lfS r i m) :=
  twalk (c := subC (bodyOf Tryz.f43) [1,1,1,0,1,0,0]) (s := lfS r i m) (an := [.av (inA r.l.length), yF]) (ls := []) (ft := [1,2,4,5]) (nb := 1) (e := .out 0) (s' := lfS r i m) (ps := [(vi ↑r.l.length) = (vi (↑(List.map Raw.enc r.l).length)), Bn .lss 3 (.tmp 18) (.tmp 21) (vi ↑i) (vi ↑r.l.length) bF]) (by kernel_rfl)
    ⟨lenEncR _, bin_ilt (decide_eq_false (by omega)), trivial⟩
theorem lfB3 {r : Raw} {i : Nat} {m : Int} (hi : i < r.l.length) (h0 : m < 0) : Tri EX lfB (lfS r i m) (.out 0) (lfS r i m) :=
  twalk (c := subC (bodyOf Tryz.f43) [1,1,1,0,1,0,0]) (s := lfS r i m) (an := [.av (inA r.l.length), yT, yF]) (ls := []) (ft := [1,2,4,5]) (nb := 1) (e := .out 0) (s' := lfS r i m) (ps := [(vi ↑r.l.length) = (vi (↑(List.map Raw.enc r.l).length)), Bn .lss 3 (.tmp 18) (.tmp 21) (vi ↑i) (vi ↑r.l.length) bT, Bn .geq 3 (.tmp 24) (.const (vi 0)) (vi m) (vi 0) bF]) (by kernel_rfl)
    ⟨lenEncR _, bin_ilt (decide_eq_true (by omega)), bin_ige (decide_eq_false (by omega)), trivial⟩
theorem p_left : ∀ (N : Nat) (r : Raw) (m : Int), r.size ≤ N → Puk 43 [rawA r, inA m] (inA (leftW r m)) := by
  intro N
  induction N with
  | zero => intro r m h; have := r.size_pos; omega
  | succ N ih =>
    intro r m hN
    rw [leftW_eq]
    by_cases h12 : 12 < r.s.length
    · rw [if_pos h12]
      exact pwalk (an := [.av (inA r.s.length), yT]) (ls := []) (ps := [(vi ↑r.s.length) = (vi (↑r.s.length)), Bn .gtr 3 (.tmp 8) (.const (vi 12)) (vi ↑r.s.length) (vi 12) bT]) Tryz.func43 (by kernel_rfl) (by kernel_rfl) ⟨lenStr _, bin_igt (decide_eq_true (by omega)), trivial⟩
    rw [if_neg h12]
    by_cases h6 : 6 < r.l.length
    · rw [if_pos h6]
      exact pwalk (an := [.av (inA r.s.length), yF, .av (inA r.l.length), yT]) (ls := []) (ps := [(vi ↑r.s.length) = (vi (↑r.s.length)), Bn .gtr 3 (.tmp 8) (.const (vi 12)) (vi ↑r.s.length) (vi 12) bF, (vi ↑r.l.length) = (vi (↑(List.map Raw.enc r.l).length)), Bn .gtr 3 (.tmp 13) (.const (vi 6)) (vi ↑r.l.length) (vi 6) bT]) Tryz.func43 (by kernel_rfl) (by kernel_rfl) ⟨lenStr _, bin_igt (decide_eq_false (by omega)), lenEncR _, bin_igt (decide_eq_true (by omega)), trivial⟩
    rw [if_neg h6]
    have loop : ∀ (l : List Raw) (i : Nat) (m : Int), r.l.drop i = l → i ≤ r.l.length → (∀ x ∈ l, x.size ≤ N) → ∃ j : Nat, Lps EX lfB (lfS r i m) (.out 0) (lfS r j (leftWL l m)) := by
      intro l
      induction l with
      | nil =>
        intro i m hd hi _
        have : i = r.l.length := by
          have := congrArg List.length hd
          rw [List.length_drop, List.length_nil] at this
          omega
        rw [leftWL]
        exact ⟨i, .stop (lfB2 this) (fun h => by cases h)⟩
      | cons x l ihl =>
        intro i m hd hi hs
        have hx : r.l[i]? = some x := by rw [← List.head?_drop, hd]; rfl
        have hlt := (List.getElem?_eq_some_iff.1 hx).1
        rw [leftWL]
        by_cases h0 : 0 ≤ m
        · rw [if_pos h0]
          obtain ⟨j, hj⟩ := ihl (i + 1) (leftW x m) (by rw [← List.drop_drop, hd]; rfl) (by omega) (fun y hy => hs y (List.mem_cons_of_mem _ hy))
          exact ⟨j, .more (lfB1 hx (by omega) h0 (ih x m (hs x (List.mem_cons_self ..)))) hj⟩
        · rw [if_neg h0]
          exact ⟨i, .stop (lfB3 hlt (by omega)) (fun h => by cases h)⟩
    obtain ⟨j, hj⟩ := loop r.l 0 (wr (m - 1)) rfl (Nat.zero_le _) (fun x hx => by have := Raw.size_l hx; omega)
    generalize leftWL r.l (wr (m - 1)) = k at *
    exact pwalk (an := [.av (inA r.s.length), yF, .av (inA r.l.length), yF, .no]) (ls := [.inv [1,2,4,5] 1 (.out 0) (lfS r j k)]) (ps := [(vi ↑r.s.length) = (vi (↑r.s.length)), Bn .gtr 3 (.tmp 8) (.const (vi 12)) (vi ↑r.s.length) (vi 12) bF, (vi ↑r.l.length) = (vi (↑(List.map Raw.enc r.l).length)), Bn .gtr 3 (.tmp 13) (.const (vi 6)) (vi ↑r.l.length) (vi 6) bF, Tri EX (.loop (subC (bodyOf Tryz.f43) [1, 1, 1, 0, 1, 0, 0])) (lfS r 0 (wr (m - 1))) (.out 0) (lfS r j k)]) Tryz.func43 (by kernel_rfl) (by kernel_rfl) ⟨lenStr _, bin_igt (decide_eq_false (by omega)), lenEncR _, bin_igt (decide_eq_false (by omega)), hj.tri, trivial⟩
theorem p_Few (r : Raw) (m : Int) : Puk 10 [rawA r, inA m] (boA (fewR r m)) :=
  pwalk (an := [.av (inA (leftW r m)), .av (boA (fewR r m))]) (ls := []) (ps := [Puk 43 [(rawA r), (inA m)] (inA (leftW r m)), Bn .geq 3 (.tmp 7) (.const (vi 0)) (vi (leftW r m)) (vi 0) (Value.bool (fewR r m))]) Tryz.func10 (by kernel_rfl) (by kernel_rfl) ⟨p_left _ r m (Nat.le_refl _), bin_ige rfl, trivial⟩
namespace Te
abbrev varT (n : List UInt8) : Te := ⟨1, userB, n, zOb, []⟩
abbrev equalB : List UInt8 := [101, 113, 117, 97, 108]
theorem row2 (a b : Te) : [encT a, encT b] = [a, b].map Te.enc := by simp only [List.map_cons, List.map_nil, enc_T]
end Te
open Te
theorem p_rLisp2 (n : List UInt8) (a b : Te) : Puk 15 [stA n, .dt (.row [encT a, encT b])] (teA (Te.ap n [a, b])) := p_rLisp n [a, b] (row2 a b)
theorem p_user (n : List UInt8) : Puk 48 [stA n] (syA userB n) := pwalk (an := []) (ls := []) (ps := []) Tryz.func48 (by kernel_rfl) (by kernel_rfl) trivial
abbrev srow (n : List UInt8) : List Dt := [.val (str userB), .val (str n)]
abbrev vars4 : List (List Dt) := [srow [120], srow [121], srow [122], srow [117]]
theorem p_vars4 : Puk 13 [inA 4] (.dt (.row vars4)) := pwalk (an := [.av (syA userB [120]), .av (syA userB [121]), .av (syA userB [122]), .av (syA userB [117]), .no, .no, .no]) (ls := []) (ps := [Puk 48 [(stA [120])] (syA userB [120]), Puk 48 [(stA [121])] (syA userB [121]), Puk 48 [(stA [122])] (syA userB [122]), Puk 48 [(stA [117])] (syA userB [117]), SlcOK vars4 2 0 4 vars4, (none : Option Int) = none ∨ (none : Option Int) = some (if (if 4 < 4 then 4 else 4) > 0 then if 4 < 4 then 4 else 4 else 0)]) Tryz.func13 (by kernel_rfl) (by kernel_rfl) ⟨p_user _, p_user _, p_user _, p_user _, ⟨by decide, by decide, by decide, rfl, .inl rfl⟩, .inl rfl, trivial⟩
theorem p_rVar (n : List UInt8) : Puk 39 [syA userB n] (teA (varT n)) := pwalk (an := []) (ls := []) (ps := []) Tryz.func39 (by kernel_rfl) (by kernel_rfl) trivial
theorem Te.var_gd (n : List UInt8) : (varT n).Gd := .mk _ zOb_wf (fun e => by cases e.1) (Nat.zero_le _) (fun x hx => by cases hx)
end Go.Proofs.YtendgffijciehaaGreatDoor
/- Lists of clauses; the copy of a slice; Add and Union of the code. -/
namespace Go.Proofs.YtendgffijciehaaGreatDoor
open Go.RowKit
open Te

/-- a function that returns no slice, seen as one that returns a growing row -/
theorem SOK.retNil {P : Program} {G : World → Prop} {f : FuncId} {args : List AV} {T : TypeId} {kk : Nat} (h : SOK P G f args [] .nil []) : SOK P G f args [] (.own 0 0) [some (.buf T kk [])] := by
  refine ⟨h.1, fun X M w vs hG hS hargs => (h.2 X M w vs hG hS hargs).mono ?_⟩
  rintro e w' ⟨v, M', h1, h2, h3, h4, h5⟩
  have hk : lk [] 0 = none := rfl
  refine ⟨v, M'.own0 0, h1, h2.trans (go_own0 h3 hk), ?_, h4, rv_own0 h5⟩
  have := sto_own0 h3 h2.below.size hk T kk
  rwa [show updX1 (lk []) 0 (.buf T kk []) = lk [some (.buf T kk [])] from funext fun b => by
    match b with
    | 0 => rfl
    | b + 1 => rfl] at this
/-- an empty slice: nil, or behind a pointer -/
theorem SOK.empty {P : Program} {G : World → Prop} {f : FuncId} {xs xs' : List (Option Bx)} {r : AV} (h0 : ∀ c, SOK P G f [.dt (.val (.slice none 0 c))] xs r xs') (h1 : ∀ A c, SOK P G f [.dt (.val (.slice (some A) 0 c))] xs r xs') : SOK P G f [.dt (.row [])] xs r xs' := by
  refine ⟨(h0 0).1, fun X M w vs hG hS hargs => ?_⟩
  obtain ⟨v, us, rfl, hv, hu⟩ := hargs
  obtain rfl : us = [] := hu
  have hv : Rd M.F w v (.row []) := hv
  cases hv with
  | nil A c =>
    cases A with
    | none => exact (h0 c).2 X M w _ hG hS ⟨_, [], rfl, Rd.val _, rfl⟩
    | some A => exact (h1 A c).2 X M w _ hG hS ⟨_, [], rfl, Rd.val _, rfl⟩
  | row b o n c k l f hn h0 => cases hn; exact absurd h0 (Nat.lt_irrefl _)
theorem bin_nil {t e : TypeId} {x y : Operand} {A : Option Addr} {n c : Nat} (hu : Tryz.prog.underlying t = some (.slice e)) : Bn .eql t x y (.slice A n c) (.slice none 0 0) (.bool A.isNone) := by
  intro w
  have := Lib.run_eql_slice_nil (P := Tryz.prog) w t e A n c 0 0 hu
  simp only [eqGuard, Sem.run_bind, Sem.run_pure, Result.andThen, Bool.not_true, Bool.false_eq_true, if_false, this]
theorem fitM0 : FitM 0 0 := ⟨by decide, by decide, by decide⟩
theorem p_clone0 : Suk 63 [.dt (.row [])] [] (.own 0 0) [some (.buf 37 11 [])] :=
  .empty (fun c => .retNil (psw (n := 0) (ks := []) (an := [yT]) (ls := []) (ps := [Bn .eql 29 (.tmp 3) (.const (Value.slice none 0 0)) (Value.slice none 0 c) (Value.slice none 0 0) bT]) Tryz.func63 (by kernel_rfl) (by kernel_rfl) ⟨bin_nil (e := 37) (by kernel_rfl), trivial⟩))
    fun A c => psw (n := 0) (ks := [0]) (an := [yF, .no]) (ls := []) (ps := [Bn .eql 29 (.tmp 3) (.const (Value.slice none 0 0)) (Value.slice (some A) 0 c) (Value.slice none 0 0) bF, FitM 0 0]) Tryz.func63 (by kernel_rfl) (by kernel_rfl) ⟨bin_nil (e := 37) (by kernel_rfl), fitM0, trivial⟩
theorem p_clone {es : List (List Dt)} (h0 : es ≠ []) (hl : es.length ≤ 1000) (hs : SrcOK 11 es) : Suk 63 [.dt (.row es)] [] (.own 0 es.length) [some (.buf 37 11 es)] :=
  psw (n := 0) (ks := [0]) (an := [.no, .av (.un)]) (ls := []) (ps := [es ≠ [], FitM 0 0, 0 = 0, FitB 176 (([] ++ es).length), SrcOK 11 es]) Tryz.func63 (by kernel_rfl) (by kernel_rfl) ⟨h0, fitM0, rfl, fit_of (by omega) (by rw [List.nil_append]; omega), hs, trivial⟩
theorem p_cloneA0 : Suk 129 [.dt (.row [])] [] (.own 0 0) [some (.buf 87 13 [])] :=
  .empty (fun c => .retNil (psw (n := 0) (ks := []) (an := [yT]) (ls := []) (ps := [Bn .eql 57 (.tmp 3) (.const (Value.slice none 0 0)) (Value.slice none 0 c) (Value.slice none 0 0) bT]) Tryz.func129 (by kernel_rfl) (by kernel_rfl) ⟨bin_nil (e := 87) (by kernel_rfl), trivial⟩))
    fun A c => psw (n := 0) (ks := [0]) (an := [yF, .no]) (ls := []) (ps := [Bn .eql 57 (.tmp 3) (.const (Value.slice none 0 0)) (Value.slice (some A) 0 c) (Value.slice none 0 0) bF, FitM 0 0]) Tryz.func129 (by kernel_rfl) (by kernel_rfl) ⟨bin_nil (e := 87) (by kernel_rfl), fitM0, trivial⟩
end Go.Proofs.YtendgffijciehaaGreatDoor
/- Add, Union, Tautology and Subsumes of the code on small clauses. -/
namespace Go.Proofs.YtendgffijciehaaGreatDoor
open Go.RowKit
open Te

theorem wfs1 {p : Te} (hp : p.Gd) : ∀ x ∈ [p], x.Wf := fun x hx => by rw [List.mem_singleton] at hx; subst hx; exact hp.wf
theorem wfs2 {p q : Te} (hp : p.Gd) (hq : q.Gd) : ∀ x ∈ [p, q], x.Wf := fun x hx => by
  simp only [List.mem_cons, List.not_mem_nil, or_false] at hx
  rcases hx with rfl | rfl
  · exact hp.wf
  · exact hq.wf
abbrev contF : FuncId := 24
theorem cont0 (t : Te) : Puk contF [.dt (.row []), teA t] (boA false) := (p_cont (c := []) (by decide) (fun x hx => by cases hx) t).b (noD (by simp))
theorem cont1 {p t : Te} (hp : p.Gd) {b : Bool} (h : decide (t ∈ [p]) = b) : Puk contF [.dt (.row [encT p]), teA t] (boA b) := by
  rw [row1]
  exact (p_cont (c := [p]) (by show 1 ≤ _; omega) (wfs1 hp) t).b h
theorem cont2 {p q t : Te} (hp : p.Gd) (hq : q.Gd) {b : Bool} (h : decide (t ∈ [p, q]) = b) : Puk contF [.dt (.row [encT p, encT q]), teA t] (boA b) := by
  rw [row2]
  exact (p_cont (c := [p, q]) (by show 2 ≤ _; omega) (wfs2 hp hq) t).b h
theorem p_add0 (p : Te) : Puk 27 [.dt (.row []), .dt (.row [encT p])] (.dt (.row [encT p])) :=
  pwalk (an := [.no, .no, .no, yF, .no, .no, .no]) (ls := [.scl 1 1 [] (.own 0 0) [some (.buf 37 11 [])], .run 2]) (ps := [Suk 63 [AV.dt (Dt.row [])] [] (AV.own 0 0) [some (Bx.buf 37 11 [])], Puk 24 [(.dt (.row [])), (teA p)] (boA false), 0 = 0, 1 = 1]) Tryz.func27 (by kernel_rfl) (by kernel_rfl) ⟨p_clone0, cont0 p, rfl, rfl, trivial⟩
theorem p_add1 {p q : Te} (hp : p.Gd) (hq : q.Gd) (hne : q ≠ p) : Puk 27 [.dt (.row [encT p]), .dt (.row [encT q, encT p])] (.dt (.row [encT p, encT q])) :=
  pwalk (an := [.no, .no, .no, yF, .no, .no, .no, .no, yT, .no, .no]) (ls := [.scl 1 1 [] (.own 0 1) [some (.buf 37 11 [encT p])], .run 3]) (ps := [Suk 63 [AV.dt (Dt.row [encT p])] [] (AV.own 0 1) [some (Bx.buf 37 11 [encT p])], Puk 24 [(.dt (.row [encT p])), (teA q)] (boA false), 1 = 1, Puk 24 [(.dt (.row [encT p, encT q])), (teA p)] (boA true), 2 = 2, 2 = 2]) Tryz.func27 (by kernel_rfl) (by kernel_rfl) ⟨p_clone (by simp) (by simp) (src_te1 p), cont1 hp (noD (by simp [hne])), rfl, cont2 hp hq (yesD (by simp)), rfl, rfl, trivial⟩
theorem p_union {p q : Te} (hp : p.Gd) (hq : q.Gd) (hne : q ≠ p) : Puk 28 [.dt (.row [[.row [encT p]], [.row [encT q, encT p]]])] (.dt (.row [encT p, encT q])) :=
  pwalk (an := [.no, .no, .no, .av (.dt (.row [encT p])), .no, .no, .no, .av (.dt (.row [encT p, encT q])), .no, .no]) (ls := [.run 3]) (ps := [Puk 27 [(.dt (.row [])), (.dt (.row [encT p]))] (.dt (.row [encT p])), Puk 27 [(.dt (.row [encT p])), (.dt (.row [encT q, encT p]))] (.dt (.row [encT p, encT q]))]) Tryz.func28 (by kernel_rfl) (by kernel_rfl) ⟨p_add0 p, p_add1 hp hq hne, trivial⟩
end Go.Proofs.YtendgffijciehaaGreatDoor
/- Tautology of the code on small clauses. -/
namespace Go.Proofs.YtendgffijciehaaGreatDoor
open Go.RowKit
open Te

/-- the closure of Tautology at a literal that is no constant, no equality, no negation -/
theorem w_tau1 {c : List Te} {l m : Te} {b : Bool} (h0 : l.kind ≠ 2) (h1 : Puk 56 [teA l, stA equalB, inA 2] (boA false)) (h2 : Puk 56 [teA l, stA notB, inA 1] (boA false)) (h3 : Puk 23 [teA l] (teA m)) (h4 : Puk contF [tesA c, teA m] (boA b)) : Puk 54 [teA l, .pin [tesA c]] (boA b) :=
  pwalk (an := [yF, yF, yF, .av (teA m), .av (boA b)]) (ls := []) (ps := [Bn .eql 3 (.tmp 5) (.const (vi 2)) (vi l.kind) (vi 2) bF, Puk 56 [(teA l), (stA [101, 113, 117, 97, 108]), (inA 2)] (boA false), Puk 56 [(teA l), (stA [110, 111, 116]), (inA 1)] (boA false), Puk 23 [(teA l)] (teA m), Puk 24 [(.dt (.row (List.map Te.enc c))), (teA m)] (boA b)]) Tryz.func54 (by kernel_rfl) (by kernel_rfl) ⟨bin_ieq (noD h0), h1, h2, h3, h4, trivial⟩
/-- at a negation -/
theorem w_tau2 {c : List Te} {l m y : Te} {b : Bool} (h0 : l.kind ≠ 2) (hx : l.args[0]? = some y) (h1 : Puk 56 [teA l, stA equalB, inA 2] (boA false)) (h2 : Puk 56 [teA l, stA notB, inA 1] (boA true)) (h5 : Puk 58 [boA false] (teA noT)) (h6 : Puk 57 [teA y, teA noT] (boA false)) (h3 : Puk 23 [teA l] (teA m)) (h4 : Puk contF [tesA c, teA m] (boA b)) : Puk 54 [teA l, .pin [tesA c]] (boA b) :=
  pwalk (an := [yF, yF, yT, .av (.pin ((encT y).map .dt)), .av (teA noT), yF, .av (teA m), .av (boA b)]) (ls := []) (ps := [Bn .eql 3 (.tmp 5) (.const (vi 2)) (vi l.kind) (vi 2) bF, Puk 56 [(teA l), (stA [101, 113, 117, 97, 108]), (inA 2)] (boA false), Puk 56 [(teA l), (stA [110, 111, 116]), (inA 1)] (boA true), IxAt (List.map Te.enc l.args) 0 11 (encT y), Puk 58 [(boA false)] (.agg [(inA 2), (stA noT.np), (stA noT.nn), (inA 2), (stA noT.val.num), (stA noT.val.den), (stA noT.val.sp), (stA noT.val.sn), (stA noT.val.text), (.dt (.row (List.map Ob.enc noT.val.pair))), (.dt (.row (List.map Te.enc noT.args)))]), Puk 57 [(teA y), (.agg [(inA 2), (stA noT.np), (stA noT.nn), (inA 2), (stA noT.val.num), (stA noT.val.den), (stA noT.val.sp), (stA noT.val.sn), (stA noT.val.text), (.dt (.row (List.map Ob.enc noT.val.pair))), (.dt (.row (List.map Te.enc noT.args)))])] (boA false), Puk 23 [(teA l)] (teA m), Puk 24 [(.dt (.row (List.map Te.enc c))), (teA m)] (boA b)]) Tryz.func54 (by kernel_rfl) (by kernel_rfl) ⟨bin_ieq (noD h0), h1, h2, ix_te hx, h5, h6, h3, h4, trivial⟩
theorem w_taut {c : List Te} {b : Bool} (h : Puk 53 [tesA c, .clf 54 [.pin [tesA c]]] (boA b)) : Puk 20 [tesA c] (boA b) :=
  pwalk (an := [.av (boA b)]) (ls := []) (ps := [Puk 53 [(.dt (.row (List.map Te.enc c))), (.clf 54 [(.pin [(.dt (.row (List.map Te.enc c)))])])] (boA b)]) Tryz.func20 (by kernel_rfl) (by kernel_rfl) ⟨h, trivial⟩
theorem p_taut {c : List Te} (hl : c.length ≤ 1000) {p : Te → Bool} (h : ∀ x ∈ c, Puk 54 [teA x, .pin [tesA c]] (boA (p x))) : Puk 20 [tesA c] (boA (c.any p)) :=
  w_taut (p_ctFunc (cs := [.pin [tesA c]]) (by omega) h)
/- matching a variable -/
abbrev asg (p y : Te) : List Dt := [.val (str p.np), .val (str p.nn)] ++ encT y
/-- the term of nothing, as it is built -/
abbrev zTn : AV := .agg [inA 0, stA [], stA [], inA 0, stA [], stA [], stA [], stA [], stA [], .nil, .nil]
theorem src_asg (p y : Te) : SrcOK 13 [asg p y] := by
  intro x hx
  rw [List.mem_singleton] at hx
  subst hx
  refine ⟨rfl, fun d hd => ?_⟩
  rcases List.mem_append.1 hd with hd | hd
  · simp only [List.mem_cons, List.not_mem_nil, or_false] at hd
    rcases hd with rfl | rfl <;> rfl
  · exact (src_te1 y _ (List.mem_singleton.2 rfl)).2 d hd
theorem p_lookup0 (a b : List UInt8) : Suk 154 [.own 0 0, syA a b] [some (.buf 87 13 [])] (.tup [zTn, boA false]) [some (.buf 87 13 [])] :=
  psw (n := 1) (ks := [0]) (an := [.no, .no]) (ls := [.run 1]) (ps := []) Tryz.func154 (by kernel_rfl) (by kernel_rfl) trivial
theorem p_match1 {p y : Te} (h : p.kind = 1) : Suk 130 [teA p, teA y, .own 0 0] [some (.buf 87 13 [])] (.tup [.own 0 1, boA true]) [some (.buf 87 13 [asg p y])] :=
  psw (n := 1) (ks := [0]) (an := [yT, .av (.un)]) (ls := [.scl 2 3 [0] (.tup [zTn, boA false]) [some (.buf 87 13 [])]]) (ps := [Bn .eql 3 (.tmp 15) (.const (vi 1)) (vi p.kind) (vi 1) bT, Suk 154 [AV.own 0 0, AV.agg [AV.dt (Dt.val (str p.np)), AV.dt (Dt.val (str p.nn))]] [some (Bx.buf 87 13 [])] (AV.tup [zTn, boA false]) [some (Bx.buf 87 13 [])], 0 = 0, FitB 208 1, SrcOK 13 [asg p y]]) Tryz.func130 (by kernel_rfl) (by kernel_rfl) ⟨bin_ieq (yesD h), p_lookup0 p.np p.nn, rfl, ⟨by decide, by decide⟩, src_asg p y, trivial⟩
theorem p_matchAll {p y : Te} (h : p.kind = 1) : Puk 107 [.dt (.row [encT p]), .dt (.row [encT y]), .dt (.row [])] (.tup [.dt (.row [asg p y]), boA true]) :=
  pwalk (an := [.no, .no, .no, .no, .no, .no, .no, .no, .no]) (ls := [.scl 3 1 [] (.own 0 0) [some (.buf 87 13 [])], .run 2, .scl 7 6 [0] (.tup [.own 0 1, boA true]) [some (.buf 87 13 [asg p y])]]) (ps := [Suk 129 [AV.dt (Dt.row [])] [] (AV.own 0 0) [some (Bx.buf 87 13 [])], Suk 130 [teA p, teA y, AV.own 0 0] [some (Bx.buf 87 13 [])] (AV.tup [AV.own 0 1, boA true]) [some (Bx.buf 87 13 [asg p y])], 1 = 1]) Tryz.func107 (by kernel_rfl) (by kernel_rfl) ⟨p_cloneA0, p_match1 h, rfl, trivial⟩
theorem p_matchV {p y : Te} (h : p.kind = 1) : Puk 88 [teA p, teA y, .dt (.row [])] (.tup [.dt (.row [asg p y]), boA true]) :=
  pwalk (an := [.av (.tup [.dt (.row [asg p y]), boA true])]) (ls := []) (ps := [Puk 107 [(.dt (.row [encT p])), (.dt (.row [encT y])), (.dt (.row []))] (.tup [(.dt (.row [[(.val (str p.np)), (.val (str p.nn)), (.val (vi y.kind)), (.val (str y.np)), (.val (str y.nn)), (.val (vi y.val.kind)), (.val (str y.val.num)), (.val (str y.val.den)), (.val (str y.val.sp)), (.val (str y.val.sn)), (.val (str y.val.text)), (.row (List.map Ob.enc y.val.pair)), (.row (List.map Te.enc y.args))]])), (boA true)])]) Tryz.func88 (by kernel_rfl) (by kernel_rfl) ⟨p_matchAll h, trivial⟩
theorem p_sub0 (b : List Te) (s : List (List Dt)) : Puk 67 [.dt (.row []), tesA b, .dt (.row s)] (boA true) :=
  pwalk (an := [.no, .no]) (ls := []) (ps := []) Tryz.func67 (by kernel_rfl) (by kernel_rfl) trivial
theorem p_subC {p y : Te} {b : List Te} (h : p.kind = 1) : Puk 87 [teA y, .pin [.dt (.row [encT p])], .pin [.dt (.row [])], .pin [tesA b]] (boA true) :=
  pwalk (an := [.no, .av (.tup [.dt (.row [asg p y]), boA true]), .no, yT]) (ls := []) (ps := [Puk 88 [(teA p), (teA y), (.dt (.row []))] (.tup [(.dt (.row [[(.val (str p.np)), (.val (str p.nn)), (.val (vi y.kind)), (.val (str y.np)), (.val (str y.nn)), (.val (vi y.val.kind)), (.val (str y.val.num)), (.val (str y.val.den)), (.val (str y.val.sp)), (.val (str y.val.sn)), (.val (str y.val.text)), (.row (List.map Ob.enc y.val.pair)), (.row (List.map Te.enc y.args))]])), (boA true)]), SlcOK [encT p] 11 ((some 1).getD 0) (none.getD ↑[encT p].length) [], (none : Option Int) = none ∨ (none : Option Int) = none, Puk 67 [(.dt (.row [])), (.dt (.row (List.map Te.enc b))), (.dt (.row [[(.val (str p.np)), (.val (str p.nn)), (.val (vi y.kind)), (.val (str y.np)), (.val (str y.nn)), (.val (vi y.val.kind)), (.val (str y.val.num)), (.val (str y.val.den)), (.val (str y.val.sp)), (.val (str y.val.sn)), (.val (str y.val.text)), (.row (List.map Ob.enc y.val.pair)), (.row (List.map Te.enc y.args))]]))] (boA true)]) Tryz.func87 (by kernel_rfl) (by kernel_rfl) ⟨p_matchV h, ⟨by show (0 : Int) ≤ 1; omega, by show (1 : Int) ≤ ((1 : Nat) : Int); omega, Int.le_refl _, rfl, .inr fun x hx => by rw [List.mem_singleton] at hx; subst hx; rfl⟩, .inl rfl, p_sub0 b _, trivial⟩
theorem p_sub1 {p : Te} {b : List Te} (hb : b.length ≤ 1000) (h : p.kind = 1) : Puk 67 [.dt (.row [encT p]), tesA b, .dt (.row [])] (boA (b.any fun _ => true)) :=
  pwalk (an := [.no, .no, .av (boA (b.any fun _ => true))]) (ls := []) (ps := [Puk 53 [(.dt (.row (List.map Te.enc b))), (.clf 87 [(.pin [(.dt (.row [encT p]))]), (.pin [(.dt (.row []))]), (.pin [(.dt (.row (List.map Te.enc b)))])])] (boA (b.any fun x => true))]) Tryz.func67 (by kernel_rfl) (by kernel_rfl) ⟨p_ctFunc (p := fun _ => true) (by omega) fun x _ => p_subC h, trivial⟩
theorem p_subs {p q r : Te} (h : p.kind = 1) : Puk 37 [.dt (.row [encT p]), .dt (.row [encT q, encT r])] (boA true) := by
  rw [row2]
  exact pwalk (an := [.no, .no, yT]) (ls := []) (ps := [Puk 67 [(.dt (.row [encT p])), (.dt (.row (List.map Te.enc [q, r]))), (.dt (.row []))] (boA true)]) Tryz.func37 (by kernel_rfl) (by kernel_rfl) ⟨(p_sub1 (b := [q, r]) (by show 2 ≤ 1000; omega) h).b rfl, trivial⟩
end Go.Proofs.YtendgffijciehaaGreatDoor
/- The law ClauseNormal: its first check, and the whole. -/
namespace Go.Proofs.YtendgffijciehaaGreatDoor
open Go.RowKit
open Te

abbrev cls2 (c d : List (List Dt)) : AV := .dt (.row [[.row c], [.row d]])
theorem w_first {p q r s x f m : Te} {c d : List (List Dt)} (h1 : Puk 39 [syA userB [120]] (teA p)) (h2 : Puk 39 [syA userB [121]] (teA q)) (h3 : Puk 39 [syA userB [122]] (teA r)) (h4 : Puk 39 [syA userB [117]] (teA s))
    (h5 : Puk 15 [stA ifB, .dt (.row [encT p, encT q, encT r])] (teA x)) (h6 : Puk 15 [stA impB, .dt (.row [encT x, encT s])] (teA f))
    (h7 : Puk 41 [teA f] (.tup [cls2 c d, inA 0])) (hc : c.length = 3) (hd : d.length = 3)
    (h8 : Puk 23 [teA p] (teA m)) (h9 : Puk 20 [.dt (.row [encT p, encT m])] (boA true)) (h10 : Puk 20 [.dt (.row [encT p])] (boA false))
    (h11 : Puk 37 [.dt (.row [encT p]), .dt (.row [encT q, encT r])] (boA true)) (h12 : Puk 28 [.dt (.row [[.row [encT p]], [.row [encT q, encT p]]])] (.dt (.row [encT p, encT q]))) : Puk 8 [] (boA true) :=
  pwalk (an := [.av (.dt (.row vars4)), .no, .av (teA p), .no, .av (teA q), .no, .av (teA r), .no, .av (teA s), .av (teA x), .av (teA f), .av (.tup [cls2 c d, inA 0]), .no, .no, .no, .no, .av (inA 3), .no, .no, .av (inA 3), .no, .av (teA m), yT, yF, yT, .av (.dt (.row [encT p, encT q])), .no, .no]) (ls := []) (ps := [Puk 13 [(inA 4)] (.dt (.row [[(.val (str userB)), (.val (str [120]))], [(.val (str userB)), (.val (str [121]))], [(.val (str userB)), (.val (str [122]))], [(.val (str userB)), (.val (str [117]))]])), Puk 39 [(syA userB [120])] (teA p), Puk 39 [(syA userB [121])] (teA q), Puk 39 [(syA userB [122])] (teA r), Puk 39 [(syA userB [117])] (teA s), Puk 15 [(stA [105, 102]), (.dt (.row [encT p, encT q, encT r]))] (teA x), Puk 15 [(stA [105, 109, 112, 108, 105, 101, 115]), (.dt (.row [encT x, encT s]))] (teA f), Puk 41 [(teA f)] (.tup [(.dt (.row [[(.row c)], [(.row d)]])), (inA 0)]), (vi 3) = (vi ↑c.length), (vi 3) = (vi ↑d.length), Puk 23 [(teA p)] (teA m), Puk 20 [(.dt (.row [encT p, encT m]))] (boA true), Puk 20 [(.dt (.row [encT p]))] (boA false), Puk 37 [(.dt (.row [encT p])), (.dt (.row [encT q, encT r]))] (boA true), Puk 28 [(.dt (.row [[(.row [encT p])], [(.row [encT q, encT p])]]))] (.dt (.row [encT p, encT q]))]) Tryz.func8 (by kernel_rfl) (by kernel_rfl)
    ⟨p_vars4, h1, h2, h3, h4, h5, h6, h7, by rw [hc]; rfl, by rw [hd]; rfl, h8, h9, h10, h11, h12, trivial⟩
abbrev pT : Te := varT [120]
abbrev qT : Te := varT [121]
abbrev rT : Te := varT [122]
abbrev sT : Te := varT [117]
abbrev fstT : Te := ap impB [ap ifB [pT, qT, rT], sT]
abbrev fst1 : List Te := [ap notB [pT], ap notB [qT], sT]
abbrev fst2 : List Te := [pT, ap notB [rT], sT]
theorem fst_exm : (exm id 20002 fstT [] ⟨[], 0, 0⟩).er = 0 ∧ (exm id 20002 fstT [] ⟨[], 0, 0⟩).out = [fst1, fst2] := by decide +kernel
theorem gd2 {a b : Te} (ha : a.Gd) (hb : b.Gd) : ∀ x ∈ [a, b], x.Gd := fun x hx => by
  simp only [List.mem_cons, List.not_mem_nil, or_false] at hx
  rcases hx with rfl | rfl
  · exact ha
  · exact hb
theorem fst_gd : fstT.Gd := .ap (by show 2 ≤ 1000; omega) (gd2 ((var_gd _).if_ (var_gd _) (var_gd _)) (var_gd _))
theorem p_fstN : Puk 41 [teA fstT] (.tup [cls2 (encTs fst1) (encTs fst2), inA 0]) := by
  have h := p_normalize fst_gd
  unfold nrmA at h
  rw [fst_exm.1, fst_exm.2] at h
  exact h
theorem neg_pT : neg pT = ap notB [pT] := by decide +kernel
theorem var_ne {n : List UInt8} : (varT n).kind ≠ 2 := by show (1 : Int) ≠ 2; decide
theorem var_is {n m : List UInt8} {k : Nat} : Puk 56 [teA (varT n), stA m, inA k] (boA false) := (p_is (varT n) m k).b (noD fun h => by cases h.1)
/-- Tautology of a variable and its negation, and of a variable -/
theorem p_tau1 : Puk 20 [.dt (.row [encT pT, encT (ap notB [pT])])] (boA true) := by
  rw [row2]
  refine (p_taut (c := [pT, ap notB [pT]]) (by show 2 ≤ 1000; omega) (p := fun _ => true) fun x hx => ?_).b rfl
  simp only [List.mem_cons, List.not_mem_nil, or_false] at hx
  have hc : ∀ t : Te, t ∈ [pT, ap notB [pT]] → Puk contF [tesA [pT, ap notB [pT]], teA t] (boA true) := fun t ht => by
    have := cont2 (p := pT) (q := ap notB [pT]) (var_gd _) (var_gd _).not (t := t) (yesD ht)
    rwa [row2] at this
  rcases hx with rfl | rfl
  · exact w_tau1 var_ne var_is var_is (p_neg pT) (by rw [neg_pT]; exact hc _ (by simp))
  · exact w_tau2 (y := pT) (by decide) rfl ((p_is (ap notB [pT]) equalB 2).b (by decide +kernel)) ((p_is (ap notB [pT]) notB 1).b (by decide +kernel)) (p_constant false) ((p_teq (var_gd _).wf noT).b (by decide +kernel)) (p_neg (ap notB [pT])) (by rw [neg_not]; exact hc _ (by simp))
theorem p_tau0 : Puk 20 [.dt (.row [encT pT])] (boA false) := by
  rw [row1]
  refine (p_taut (c := [pT]) (by show 1 ≤ 1000; omega) (p := fun _ => false) fun x hx => ?_).b rfl
  rw [List.mem_singleton] at hx
  subst hx
  have := cont1 (p := pT) (var_gd _) (t := ap notB [pT]) (b := false) (by decide +kernel)
  rw [row1] at this
  exact w_tau1 var_ne var_is var_is (p_neg pT) (by rw [neg_pT]; exact this)
/-- the first check -/
theorem p_first : Puk 8 [] (boA true) :=
  w_first (p_rVar _) (p_rVar _) (p_rVar _) (p_rVar _) (p_rLisp3 _ _ _ _) (p_rLisp2 _ _ _) p_fstN rfl rfl (by have := p_neg pT; rwa [neg_pT] at this) p_tau1 p_tau0 (p_subs rfl) (p_union (var_gd _) (var_gd _) (by decide +kernel))
end Go.Proofs.YtendgffijciehaaGreatDoor
/- Which terms are valid: nodes and depth, the walks of the code's text. -/
namespace Go.Proofs.YtendgffijciehaaGreatDoor
open Go.RowKit
open Te

theorem bin_ile {P : Program} {t : TypeId} {x y : Operand} {k : IntKind} {a b : Int} {r : Bool} (h : decide (a ≤ b) = r) : BinIs P .leq t x y (.int k a) (.int k b) (.bool r) := by
  subst h
  exact sbin_is (by simp [sbin])
theorem syGn : Tryz.prog.eqGuardType Tryz.prog.depth 32 = false := by kernel_rfl
theorem bin_syne {x y : Operand} {p s p' s' : List UInt8} {r : Bool} (h : (decide (p = p') && decide (s = s')) = !r) : BinIs Tryz.prog .neq 32 x y (.agg #[str p, str s]) (.agg #[str p', str s']) (.bool r) := by
  intro w
  rw [show r = !(decide (p = p') && decide (s = s')) by rw [h, Bool.not_not]]
  simp only [Sem.run_bind, run_eqGuard_agg w .neq _ x y _ _ syGn, Result.andThen_ok, run_neq_struct, sy_equal]
theorem p_rNodesO {o : Ob} (h : o.Wf) : Puk 118 [obA o] (inA (nodesP o)) :=
  pk_ov (fnm Tryz.func118 rfl (by kernel_rfl)) fun ok A n c w _ hr => rNodes_any ok o h A n c w hr
theorem p_rValidO {o : Ob} (h : o.Wf) (hs : o.Sm) : Puk 178 [obA o] (boA o.validB) :=
  pk_ov (fnm Tryz.func178 rfl (by kernel_rfl)) fun ok A n c w _ hr => rValid_any ok o h hs A n c w hr
theorem RL.one_sy {M : Mm} {w : World} {p n : List UInt8} {vs : List Value} (h : RL M w [syA p n] vs) : vs = [symAgg ⟨p, n⟩] := by
  obtain ⟨u, us, rfl, ⟨ws, rfl, u0, us0, rfl, h0, u1, us1, rfl, h1, h2⟩, h3⟩ := h
  obtain rfl : us = [] := h3
  obtain rfl : us1 = [] := h2
  rw [Rd.val_eq h0, Rd.val_eq h1]
theorem p_ref4V (p n : List UInt8) (hp : p.length ≤ 9223372036854775807) (hn : n.length ≤ 9223372036854775807) : Puk 170 [syA p n] (boA (symOk ⟨p, n⟩)) :=
  ⟨fnm Tryz.func170 rfl (by kernel_rfl), fun ok w vs _ hv => by
    obtain rfl := hv.one_sy
    exact (ref4Valid_any ⟨p, n⟩ w hp hn).mono fun _ _ h => h.pure⟩
/- rest -/
/- depth -/
end Go.Proofs.YtendgffijciehaaGreatDoor
/- Which terms are valid: the code's formed and Valid, of terms and clauses. -/
namespace Go.Proofs.YtendgffijciehaaGreatDoor
open Go.RowKit
open Te

theorem frm_eq (t : Te) : frm t = (if t.kind = 1 then varB t.np t.nn && decide (t.val = zOb) && decide (t.args.length = 0)
    else if t.kind = 2 then (decide (t.np = []) && decide (t.nn = [])) && t.val.validB && decide (t.args.length = 0)
    else if t.kind = 3 then symOk ⟨t.np, t.nn⟩ && decide (t.val = zOb) && decide (t.args.length ≤ 8) && frmL t.args
    else false) := by obtain ⟨k, p, n, o, l⟩ := t; rw [frm]
/- clauses -/
end Go.Proofs.YtendgffijciehaaGreatDoor
/- Which terms are valid: the walks of the reference. -/
namespace Go.Proofs.YtendgffijciehaaGreatDoor
open Go.RowKit
open Te

theorem p_args (t : Te) : Puk 192 [teA t] (if t.kind = 3 then tesA t.args else .dt (.row [])) := by
  by_cases h : t.kind = 3
  · rw [if_pos h]
    exact pwalk (an := [yF]) (ls := []) (ps := [Bn .neq 3 (.tmp 4) (.const (vi 3)) (vi t.kind) (vi 3) bF]) Tryz.func192 (by kernel_rfl) (by kernel_rfl) ⟨bin_ine (by simp [h]), trivial⟩
  · rw [if_neg h]
    exact pwalk (an := [yT]) (ls := []) (ps := [Bn .neq 3 (.tmp 4) (.const (vi 3)) (vi t.kind) (vi 3) bT]) Tryz.func192 (by kernel_rfl) (by kernel_rfl) ⟨bin_ine (by simp [h]), trivial⟩
/- count -/
abbrev ctS (l : List Te) (m n i : Int) : AS := ⟨stt 40 [(1, inA m), (5, inA n), (6, tesA l), (7, inA i)], []⟩
abbrev ctE (n : Int) : AS := ⟨stt 40 [(5, inA n)], []⟩
noncomputable abbrev ctB : Code := subC (bodyOf Tryz.f176) [1,1,1,1,0,1,0,0]
theorem ctB1 {l : List Te} {x : Te} {m n k : Int} {i : Nat} (hx : l[i]? = some x) (hl : l.length ≤ 9223372036854775807) (hm : m ≤ 3001) (hn : 1 ≤ n) (h0 : n < m) (hk0 : 0 ≤ k) (hk1 : k ≤ 3001) (h : Puk 176 [teA x, inA (m - n)] (inA k)) : Tri EX ctB (ctS l m n i) .nxt (ctS l m (n + k) ((i + 1 : Nat) : Int)) :=
  twalk (c := subC (bodyOf Tryz.f176) [1,1,1,1,0,1,0,0]) (s := ctS l m n i) (an := [.av (inA l.length), yT, yT, .av (.pin ((encT x).map .dt)), .av (inA (m - n)), .av (inA k), .av (inA (n + k)), .av (inA ((i + 1 : Nat) : Int))]) (ls := []) (ft := [1,5,6,7]) (nb := 0) (e := .nxt) (s' := ctS l m (n + k) ((i + 1 : Nat) : Int)) (ps := [(vi ↑l.length) = (vi (↑(List.map Te.enc l).length)), Bn .lss 3 (.tmp 18) (.tmp 20) (vi ↑i) (vi ↑l.length) bT, Bn .lss 3 (.tmp 23) (.tmp 24) (vi n) (vi m) bT, IxAt (List.map Te.enc l) ↑i 11 (encT x), Bn .sub 3 (.tmp 34) (.tmp 35) (vi m) (vi n) (vi (m - n)), Puk 176 [(teA x), (inA (m - n))] (inA k), Bn .add 3 (.tmp 29) (.tmp 37) (vi n) (vi k) (vi (n + k)), Bn .add 3 (.tmp 27) (.const (vi 1)) (vi ↑i) (vi 1) (vi (↑(i + 1)))]) (by kernel_rfl)
    ⟨lenEncT _, bin_ilt (decide_eq_true (by have := (List.getElem?_eq_some_iff.1 hx).1; omega)), bin_ilt (decide_eq_true h0), ix_te hx, bin_isub rfl (by omega) (by omega), h, bin_iadd rfl (by omega) (by omega), bin_iadd (by omega) (by omega) (by have := (List.getElem?_eq_some_iff.1 hx).1; omega), trivial⟩
theorem ctB2 {l : List Te} {m n : Int} {i : Nat} (hi : i = l.length) : Tri EX ctB (ctS l m n i) (.out 0) (ctE n) :=
  twalk (c := subC (bodyOf Tryz.f176) [1,1,1,1,0,1,0,0]) (s := ctS l m n i) (an := [.av (inA l.length), yF]) (ls := []) (ft := [5]) (nb := 0) (e := .out 0) (s' := ctE n) (ps := [(vi ↑l.length) = (vi (↑(List.map Te.enc l).length)), Bn .lss 3 (.tmp 18) (.tmp 20) (vi ↑i) (vi ↑l.length) bF]) (by kernel_rfl)
    ⟨lenEncT _, bin_ilt (decide_eq_false (by omega)), trivial⟩
theorem ctB3 {l : List Te} {m n : Int} {i : Nat} (hi : i < l.length) (h0 : ¬ n < m) : Tri EX ctB (ctS l m n i) (.out 0) (ctE n) :=
  twalk (c := subC (bodyOf Tryz.f176) [1,1,1,1,0,1,0,0]) (s := ctS l m n i) (an := [.av (inA l.length), yT, yF]) (ls := []) (ft := [5]) (nb := 0) (e := .out 0) (s' := ctE n) (ps := [(vi ↑l.length) = (vi (↑(List.map Te.enc l).length)), Bn .lss 3 (.tmp 18) (.tmp 20) (vi ↑i) (vi ↑l.length) bT, Bn .lss 3 (.tmp 23) (.tmp 24) (vi n) (vi m) bF]) (by kernel_rfl)
    ⟨lenEncT _, bin_ilt (decide_eq_true (by omega)), bin_ilt (decide_eq_false h0), trivial⟩
theorem ct_loop {l : List Te} {m : Int} (hl : l.length ≤ 9223372036854775807) (hm : m ≤ 3001) (h : ∀ x ∈ l, ∀ m : Int, 1 ≤ m → m ≤ 3001 → Puk 176 [teA x, inA m] (inA (cnt x m))) : ∀ (s : List Te) (i : Nat) (n : Int), l.drop i = s → i ≤ l.length → 1 ≤ n → n ≤ m → Lps EX ctB (ctS l m n i) (.out 0) (ctE (cntL s m n)) := by
  intro s
  induction s with
  | nil =>
    intro i n hd hi hn hn2
    have e1 := congrArg List.length hd
    rw [List.length_drop, List.length_nil] at e1
    rw [cntL]
    exact .stop (ctB2 (by omega)) (fun h => by cases h)
  | cons x s ih =>
    intro i n hd hi hn hn2
    have hx : l[i]? = some x := by rw [← List.head?_drop, hd]; rfl
    have hlt := (List.getElem?_eq_some_iff.1 hx).1
    have hd2 : l.drop (i + 1) = s := by rw [← List.drop_drop, hd]; rfl
    rw [cntL]
    by_cases h0 : n < m
    · rw [if_pos h0]
      have hr := cnt_law x (m - n) (by omega) (by omega)
      exact .more (ctB1 hx hl hm hn h0 (by omega) (by omega) (h x (List.mem_of_getElem? hx) (m - n) (by omega) (by omega))) (ih (i + 1) _ hd2 (by omega) (by omega) (by omega))
    · rw [if_neg h0]
      exact .stop (ctB3 hlt h0) (fun h => by cases h)
theorem cnt_eq (t : Te) (m : Int) : cnt t m = if t.kind = 2 then min m (nodesP t.val) else cntL (if t.kind = 3 then t.args else []) m 1 := by
  obtain ⟨k, p, n, o, l⟩ := t
  rw [cnt]
  split
  · rfl
  · split
    · rfl
    · rw [cntL]
theorem p_cnt : ∀ (N : Nat) (t : Te) (m : Int), t.size ≤ N → t.Bd → 1 ≤ m → m ≤ 3001 → Puk 176 [teA t, inA m] (inA (cnt t m)) := by
  intro N
  induction N with
  | zero => intro t m h; have := t.size_pos; omega
  | succ N ih =>
    intro t m hN hb h1 h2
    obtain ⟨hv, hs, hp, hn, hl⟩ := hb.parts
    have hkids : ∀ x ∈ t.args, ∀ m : Int, 1 ≤ m → m ≤ 3001 → Puk 176 [teA x, inA m] (inA (cnt x m)) := fun x hx m h1 h2 => ih x m (by have := Te.size_args hx; omega) (hb.kids hx) h1 h2
    have hP := nodesP_min t.val
    rw [cnt_eq]
    by_cases k2 : t.kind = 2
    · rw [if_pos k2]
      exact pwalk (an := [yT, .av (inA (nodesP t.val)), .av (inA (min m (nodesP t.val)))]) (ls := []) (ps := [Bn .eql 3 (.tmp 9) (.const (vi 2)) (vi t.kind) (vi 2) bT, Puk 118 [(obA t.val)] (inA (nodesP t.val)), (vi (min m (nodesP t.val))) = (vi (if nodesP t.val < m then nodesP t.val else m))]) Tryz.func176 (by kernel_rfl) (by kernel_rfl) ⟨bin_ieq (yesD k2), p_rNodesO hv, by rw [show min m (nodesP t.val) = if nodesP t.val < m then nodesP t.val else m by split <;> omega], trivial⟩
    rw [if_neg k2]
    have ha := p_args t
    by_cases k3 : t.kind = 3
    · rw [if_pos k3] at ha ⊢
      have ht := (ct_loop hl h2 hkids t.args 0 1 rfl (Nat.zero_le _) (by omega) h1).tri
      generalize cntL t.args m 1 = r at *
      exact pwalk (an := [yF, .av (tesA t.args)]) (ls := [.inv [1,5,6,7] 0 (.out 0) (ctE r)]) (ps := [Bn .eql 3 (.tmp 9) (.const (vi 2)) (vi t.kind) (vi 2) bF, Puk 192 [(teA t)] (.dt (.row (List.map Te.enc t.args))), Tri EX (.loop (subC (bodyOf Tryz.f176) [1,1,1,1,0,1,0,0])) (ctS t.args m 1 0) (.out 0) (ctE r)]) Tryz.func176 (by kernel_rfl) (by kernel_rfl) ⟨bin_ieq (noD k2), ha, ht, trivial⟩
    · rw [if_neg k3] at ha ⊢
      have ht := (ct_loop (l := []) (by decide) h2 (fun x hx => by cases hx) [] 0 1 rfl (Nat.zero_le _) (by omega) h1).tri
      generalize cntL [] m 1 = r at *
      exact pwalk (an := [yF, .av (.dt (.row []))]) (ls := [.inv [1,5,6,7] 0 (.out 0) (ctE r)]) (ps := [Bn .eql 3 (.tmp 9) (.const (vi 2)) (vi t.kind) (vi 2) bF, Puk 192 [(teA t)] (.dt (.row [])), Tri EX (.loop (subC (bodyOf Tryz.f176) [1,1,1,1,0,1,0,0])) (ctS [] m 1 0) (.out 0) (ctE r)]) Tryz.func176 (by kernel_rfl) (by kernel_rfl) ⟨bin_ieq (noD k2), ha, ht, trivial⟩
theorem p_rNodes {t : Te} (hb : t.Bd) : Puk 149 [teA t] (inA ((min t.nods 3001 : Nat) : Int)) := by
  have h := p_cnt _ t 3001 (Nat.le_refl _) hb (by omega) (by omega)
  rw [cnt_law t 3001 (by omega) (by omega), show min (3001 : Int) (t.nods : Int) = ((min t.nods 3001 : Nat) : Int) by omega] at h
  generalize ((min t.nods 3001 : Nat) : Int) = r at *
  exact pwalk (an := [.av (inA r)]) (ls := []) (ps := [Puk 176 [(teA t), (inA 3001)] (inA r)]) Tryz.func149 (by kernel_rfl) (by kernel_rfl) ⟨h, trivial⟩
/- deep -/
abbrev deS (l : List Te) (m d i : Int) : AS := ⟨stt 31 [(1, inA m), (5, inA d), (6, tesA l), (7, inA i)], []⟩
abbrev deE (d : Int) : AS := ⟨stt 31 [(5, inA d)], []⟩
noncomputable abbrev deB : Code := subC (bodyOf Tryz.f177) [1,1,1,0,1,0,0]
theorem deB1 {l : List Te} {x : Te} {m d k j : Int} {i : Nat} (hx : l[i]? = some x) (hl : l.length ≤ 9223372036854775807) (h0 : 1 < m) (hm : m ≤ 1000) (h : Puk 177 [teA x, inA (m - 1)] (inA k)) (hj : j = if k > d then k else d) : Tri EX deB (deS l m d i) .nxt (deS l m j ((i + 1 : Nat) : Int)) :=
  twalk (c := subC (bodyOf Tryz.f177) [1,1,1,0,1,0,0]) (s := deS l m d i) (an := [.av (inA l.length), yT, yT, .av (.pin ((encT x).map .dt)), .av (inA (m - 1)), .av (inA k), .av (inA j), .av (inA ((i + 1 : Nat) : Int))]) (ls := []) (ft := [1,5,6,7]) (nb := 0) (e := .nxt) (s' := deS l m j ((i + 1 : Nat) : Int)) (ps := [(vi ↑l.length) = (vi (↑(List.map Te.enc l).length)), Bn .lss 3 (.tmp 10) (.tmp 12) (vi ↑i) (vi ↑l.length) bT, Bn .gtr 3 (.tmp 15) (.const (vi 1)) (vi m) (vi 1) bT, IxAt (List.map Te.enc l) ↑i 11 (encT x), Bn .sub 3 (.tmp 25) (.const (vi 1)) (vi m) (vi 1) (vi (m - 1)), Puk 177 [(teA x), (inA (m - 1))] (inA k), (vi j) = (vi (if k > d then k else d)), Bn .add 3 (.tmp 18) (.const (vi 1)) (vi ↑i) (vi 1) (vi (↑(i + 1)))]) (by kernel_rfl)
    ⟨lenEncT _, bin_ilt (decide_eq_true (by have := (List.getElem?_eq_some_iff.1 hx).1; omega)), bin_igt (decide_eq_true h0), ix_te hx, bin_isub rfl (by omega) (by omega), h, by rw [hj], bin_iadd (by omega) (by omega) (by have := (List.getElem?_eq_some_iff.1 hx).1; omega), trivial⟩
theorem deB2 {l : List Te} {m d : Int} {i : Nat} (hi : i = l.length) : Tri EX deB (deS l m d i) (.out 0) (deE d) :=
  twalk (c := subC (bodyOf Tryz.f177) [1,1,1,0,1,0,0]) (s := deS l m d i) (an := [.av (inA l.length), yF]) (ls := []) (ft := [5]) (nb := 0) (e := .out 0) (s' := deE d) (ps := [(vi ↑l.length) = (vi (↑(List.map Te.enc l).length)), Bn .lss 3 (.tmp 10) (.tmp 12) (vi ↑i) (vi ↑l.length) bF]) (by kernel_rfl)
    ⟨lenEncT _, bin_ilt (decide_eq_false (by omega)), trivial⟩
theorem deB3 {l : List Te} {m d : Int} {i : Nat} (hi : i < l.length) (h0 : ¬ 1 < m) : Tri EX deB (deS l m d i) (.out 0) (deE d) :=
  twalk (c := subC (bodyOf Tryz.f177) [1,1,1,0,1,0,0]) (s := deS l m d i) (an := [.av (inA l.length), yT, yF]) (ls := []) (ft := [5]) (nb := 0) (e := .out 0) (s' := deE d) (ps := [(vi ↑l.length) = (vi (↑(List.map Te.enc l).length)), Bn .lss 3 (.tmp 10) (.tmp 12) (vi ↑i) (vi ↑l.length) bT, Bn .gtr 3 (.tmp 15) (.const (vi 1)) (vi m) (vi 1) bF]) (by kernel_rfl)
    ⟨lenEncT _, bin_ilt (decide_eq_true (by omega)), bin_igt (decide_eq_false h0), trivial⟩
theorem de_loop {l : List Te} {m : Int} (hl : l.length ≤ 9223372036854775807) (hm : m ≤ 1000) (h : ∀ x ∈ l, 1 < m → Puk 177 [teA x, inA (m - 1)] (inA (dee x (m - 1)))) : ∀ (s : List Te) (i : Nat) (d : Int), l.drop i = s → i ≤ l.length → Lps EX deB (deS l m d i) (.out 0) (deE (deeL s m d)) := by
  intro s
  induction s with
  | nil =>
    intro i d hd hi
    have e1 := congrArg List.length hd
    rw [List.length_drop, List.length_nil] at e1
    rw [deeL]
    exact .stop (deB2 (by omega)) (fun h => by cases h)
  | cons x s ih =>
    intro i d hd hi
    have hx : l[i]? = some x := by rw [← List.head?_drop, hd]; rfl
    have hlt := (List.getElem?_eq_some_iff.1 hx).1
    have hd2 : l.drop (i + 1) = s := by rw [← List.drop_drop, hd]; rfl
    rw [deeL]
    by_cases h0 : 1 < m
    · rw [if_pos h0]
      exact .more (deB1 hx hl h0 hm (h x (List.mem_of_getElem? hx) h0) (by split <;> omega)) (ih (i + 1) _ hd2 (by omega))
    · rw [if_neg h0]
      exact .stop (deB3 hlt h0) (fun h => by cases h)
theorem dee_eq (t : Te) (m : Int) : dee t m = deeL (if t.kind = 3 then t.args else []) m 0 + 1 := by
  obtain ⟨k, p, n, o, l⟩ := t
  rw [dee]
  split
  · rfl
  · rw [deeL]; rfl
theorem p_dee : ∀ (N : Nat) (t : Te) (m : Int), t.size ≤ N → t.Bd → 1 ≤ m → m ≤ 1000 → Puk 177 [teA t, inA m] (inA (dee t m)) := by
  intro N
  induction N with
  | zero => intro t m h; have := t.size_pos; omega
  | succ N ih =>
    intro t m hN hb h1 h2
    obtain ⟨hv, hs, hp, hn, hl⟩ := hb.parts
    have hb1 := dee_law t m h1
    have hdp := t.dep_pos
    rw [dee_eq] at hb1 ⊢
    have ha := p_args t
    by_cases k3 : t.kind = 3
    · rw [if_pos k3] at ha hb1 ⊢
      have ht := (de_loop hl h2 (fun x hx h0 => ih x (m - 1) (by have := Te.size_args hx; omega) (hb.kids hx) (by omega) (by omega)) t.args 0 0 rfl (Nat.zero_le _)).tri
      generalize deeL t.args m 0 = r at *
      exact pwalk (an := [.av (tesA t.args), .av (inA (r + 1))]) (ls := [.inv [1,5,6,7] 0 (.out 0) (deE r)]) (ps := [Puk 192 [(teA t)] (.dt (.row (List.map Te.enc t.args))), Tri EX (.loop (subC (bodyOf Tryz.f177) [1,1,1,0,1,0,0])) (deS t.args m 0 0) (.out 0) (deE r), Bn .add 3 (.tmp 29) (.const (vi 1)) (vi r) (vi 1) (vi (r + 1))]) Tryz.func177 (by kernel_rfl) (by kernel_rfl) ⟨ha, ht, bin_iadd rfl (by omega) (by omega), trivial⟩
    · rw [if_neg k3] at ha hb1 ⊢
      have ht := (de_loop (l := []) (by decide) h2 (fun x hx => by cases hx) [] 0 0 rfl (Nat.zero_le _)).tri
      generalize deeL [] m 0 = r at *
      exact pwalk (an := [.av (.dt (.row [])), .av (inA (r + 1))]) (ls := [.inv [1,5,6,7] 0 (.out 0) (deE r)]) (ps := [Puk 192 [(teA t)] (.dt (.row [])), Tri EX (.loop (subC (bodyOf Tryz.f177) [1,1,1,0,1,0,0])) (deS [] m 0 0) (.out 0) (deE r), Bn .add 3 (.tmp 29) (.const (vi 1)) (vi r) (vi 1) (vi (r + 1))]) Tryz.func177 (by kernel_rfl) (by kernel_rfl) ⟨ha, ht, bin_iadd rfl (by omega) (by omega), trivial⟩
theorem p_rDepth {t : Te} (hb : t.Bd) : Puk 150 [teA t] (inA ((min t.dep 201 : Nat) : Int)) := by
  have h := p_dee _ t 201 (Nat.le_refl _) hb (by omega) (by omega)
  rw [dee_law t 201 (by omega), show min (201 : Int) (t.dep : Int) = ((min t.dep 201 : Nat) : Int) by omega] at h
  generalize ((min t.dep 201 : Nat) : Int) = r at *
  exact pwalk (an := [.av (inA r)]) (ls := []) (ps := [Puk 177 [(teA t), (inA 201)] (inA r)]) Tryz.func150 (by kernel_rfl) (by kernel_rfl) ⟨h, trivial⟩
end Go.Proofs.YtendgffijciehaaGreatDoor
/- Which terms are valid: the reference's formed and Valid, of terms and clauses. -/
namespace Go.Proofs.YtendgffijciehaaGreatDoor
open Go.RowKit
open Te

theorem zOb_r {o : Ob} (h : o.Wf) : Puk 60 [obA o, obA zOb] (boA (decide (o = zOb))) := p_rEqO h zOb
theorem p_Variable (p n : List UInt8) (hp : p.length ≤ 9223372036854775807) (hn : n.length ≤ 9223372036854775807) : Puk 141 [syA p n] (boA (varB p n)) := by
  have hs := p_ref4V p n hp hn
  unfold varB
  cases h1 : symOk ⟨p, n⟩ with
  | false =>
    rw [h1] at hs
    exact pwalk (an := [yF]) (ls := []) (ps := [Puk 170 [(syA p n)] (boA false)]) Tryz.func141 (by kernel_rfl) (by kernel_rfl) ⟨hs, trivial⟩
  | true =>
    rw [h1] at hs
    cases h2 : decide (p = lispB) && decide (n = nilB) with
    | true => exact pwalk (an := [yT, .av (syA lispB nilB), yF]) (ls := []) (ps := [Puk 170 [(syA p n)] (boA true), Puk 51 [(stA [110, 105, 108])] (syA lispB nilB), Bn .neq 32 (.tmp 6) (.tmp 7) (Value.agg #[str p, str n]) (Value.agg #[str lispB, str nilB]) bF]) Tryz.func141 (by kernel_rfl) (by kernel_rfl) ⟨hs, p_lisp _, bin_syne h2, trivial⟩
    | false =>
      cases h3 : decide (p = lispB) && decide (n = [116]) with
      | true => exact pwalk (an := [yT, .av (syA lispB nilB), yT, .av (syA lispB [116]), yF]) (ls := []) (ps := [Puk 170 [(syA p n)] (boA true), Puk 51 [(stA [110, 105, 108])] (syA lispB nilB), Bn .neq 32 (.tmp 6) (.tmp 7) (Value.agg #[str p, str n]) (Value.agg #[str lispB, str nilB]) bT, Puk 51 [(stA [116])] (syA lispB [116]), Bn .neq 32 (.tmp 11) (.tmp 12) (Value.agg #[str p, str n]) (Value.agg #[str lispB, str [116]]) bF]) Tryz.func141 (by kernel_rfl) (by kernel_rfl) ⟨hs, p_lisp _, bin_syne h2, p_lisp _, bin_syne h3, trivial⟩
      | false => exact pwalk (an := [yT, .av (syA lispB nilB), yT, .av (syA lispB [116]), yT]) (ls := []) (ps := [Puk 170 [(syA p n)] (boA true), Puk 51 [(stA [110, 105, 108])] (syA lispB nilB), Bn .neq 32 (.tmp 6) (.tmp 7) (Value.agg #[str p, str n]) (Value.agg #[str lispB, str nilB]) bT, Puk 51 [(stA [116])] (syA lispB [116]), Bn .neq 32 (.tmp 11) (.tmp 12) (Value.agg #[str p, str n]) (Value.agg #[str lispB, str [116]]) bT]) Tryz.func141 (by kernel_rfl) (by kernel_rfl) ⟨hs, p_lisp _, bin_syne h2, p_lisp _, bin_syne h3, trivial⟩
abbrev frS (t : Te) (i : Int) : AS := ⟨stt 72 [(1, .ptr 0 0), (4, inA i)], [some (.cells ((encT t).map .dt))]⟩
abbrev frR (t : Te) (b : Bool) : AS := ⟨stt 72 [(2, boA b)], [some (.cells ((encT t).map .dt))]⟩
abbrev frN (t : Te) : AS := ⟨stt 72 [], [some (.cells ((encT t).map .dt))]⟩
noncomputable abbrev frB : Code := subC (bodyOf Tryz.f151) [1,1,0,1,0,1,1,1,1,1,0,1,0,1,0,0]
theorem frB1 {t x : Te} {i : Nat} (hx : t.args[i]? = some x) (hl : t.args.length ≤ 9223372036854775807) (h : Puk 151 [teA x] (boA true)) : Tri EX frB (frS t i) .nxt (frS t ((i + 1 : Nat) : Int)) :=
  twalk (c := subC (bodyOf Tryz.f151) [1,1,0,1,0,1,1,1,1,1,0,1,0,1,0,0]) (s := frS t i) (an := [.av (inA t.args.length), yT, .av (.pin ((encT x).map .dt)), yT, .av (inA ((i + 1 : Nat) : Int))]) (ls := []) (ft := [1,4]) (nb := 1) (e := .nxt) (s' := frS t ((i + 1 : Nat) : Int)) (ps := [(vi ↑t.args.length) = (vi (↑(List.map Te.enc t.args).length)), Bn .lss 3 (.tmp 58) (.tmp 61) (vi ↑i) (vi ↑t.args.length) bT, IxAt (List.map Te.enc t.args) ↑i 11 (encT x), Puk 151 [(teA x)] (boA true), Bn .add 3 (.tmp 63) (.const (vi 1)) (vi ↑i) (vi 1) (vi (↑(i + 1)))]) (by kernel_rfl)
    ⟨lenEncT _, bin_ilt (decide_eq_true (by have := (List.getElem?_eq_some_iff.1 hx).1; omega)), ix_te hx, h, bin_iadd (by omega) (by omega) (by have := (List.getElem?_eq_some_iff.1 hx).1; omega), trivial⟩
theorem frB2 {t : Te} {i : Nat} (hi : i = t.args.length) : Tri EX frB (frS t i) (.out 1) (frN t) :=
  twalk (c := subC (bodyOf Tryz.f151) [1,1,0,1,0,1,1,1,1,1,0,1,0,1,0,0]) (s := frS t i) (an := [.av (inA t.args.length), yF]) (ls := []) (ft := []) (nb := 1) (e := .out 1) (s' := frN t) (ps := [(vi ↑t.args.length) = (vi (↑(List.map Te.enc t.args).length)), Bn .lss 3 (.tmp 58) (.tmp 61) (vi ↑i) (vi ↑t.args.length) bF]) (by kernel_rfl)
    ⟨lenEncT _, bin_ilt (decide_eq_false (by omega)), trivial⟩
theorem frB3 {t x : Te} {i : Nat} (hx : t.args[i]? = some x) (h : Puk 151 [teA x] (boA false)) : Tri EX frB (frS t i) .ret (frR t false) :=
  twalk (c := subC (bodyOf Tryz.f151) [1,1,0,1,0,1,1,1,1,1,0,1,0,1,0,0]) (s := frS t i) (an := [.av (inA t.args.length), yT, .av (.pin ((encT x).map .dt)), yF]) (ls := []) (ft := [2]) (nb := 1) (e := .ret) (s' := frR t false) (ps := [(vi ↑t.args.length) = (vi (↑(List.map Te.enc t.args).length)), Bn .lss 3 (.tmp 58) (.tmp 61) (vi ↑i) (vi ↑t.args.length) bT, IxAt (List.map Te.enc t.args) ↑i 11 (encT x), Puk 151 [(teA x)] (boA false)]) (by kernel_rfl)
    ⟨lenEncT _, bin_ilt (decide_eq_true (by have := (List.getElem?_eq_some_iff.1 hx).1; omega)), ix_te hx, h, trivial⟩
theorem fr_loop {t : Te} (hl : t.args.length ≤ 9223372036854775807) (h : ∀ x ∈ t.args, Puk 151 [teA x] (boA (frm x))) : ∀ (s : List Te) (i : Nat), t.args.drop i = s → i ≤ t.args.length → (frmL s = true → Lps EX frB (frS t i) (.out 1) (frN t)) ∧ (frmL s = false → Lps EX frB (frS t i) .ret (frR t false)) := by
  intro s
  induction s with
  | nil =>
    intro i hd hi
    have e1 := congrArg List.length hd
    rw [List.length_drop, List.length_nil] at e1
    rw [frmL]
    exact ⟨fun _ => .stop (frB2 (by omega)) (fun h => by cases h), fun h => by cases h⟩
  | cons x s ih =>
    intro i hd hi
    have hx : t.args[i]? = some x := by rw [← List.head?_drop, hd]; rfl
    have hlt := (List.getElem?_eq_some_iff.1 hx).1
    have hd2 : t.args.drop (i + 1) = s := by rw [← List.drop_drop, hd]; rfl
    obtain ⟨k1, k2⟩ := ih (i + 1) hd2 (by omega)
    have hc := h x (List.mem_of_getElem? hx)
    rw [frmL]
    cases b : frm x with
    | false =>
      rw [b] at hc
      exact ⟨fun e => by simp at e, fun _ => .stop (frB3 hx hc) (fun h => by cases h)⟩
    | true =>
      rw [b] at hc
      exact ⟨fun e => .more (frB1 hx hl hc) (k1 (by simpa using e)), fun e => .more (frB1 hx hl hc) (k2 (by simpa using e))⟩
theorem p_rFormed : ∀ (N : Nat) (t : Te), t.size ≤ N → t.Bd → Puk 151 [teA t] (boA (frm t)) := by
  intro N
  induction N with
  | zero => intro t h; have := t.size_pos; omega
  | succ N ih =>
    intro t hN hb
    obtain ⟨hv, hs, hp, hn, hl⟩ := hb.parts
    rw [frm_eq]
    have h2 := zOb_r hv
    by_cases k1 : t.kind = 1
    · rw [if_pos k1]
      have h1 := p_Variable t.np t.nn hp hn
      cases b2 : decide (t.val = zOb) with
      | false =>
        rw [b2] at h2
        rw [Bool.and_false, Bool.false_and]
        exact pwalk (an := [yF, yT]) (ls := []) (ps := [Puk 60 [(obA t.val), (.agg [(inA 0), (stA []), (stA []), (stA []), (stA []), (stA []), (.dt (.row []))])] (boA false), Bn .eql 3 (.tmp 10) (.const (vi 1)) (vi t.kind) (vi 1) bT]) Tryz.func151 (by kernel_rfl) (by kernel_rfl) ⟨h2, bin_ieq (yesD k1), trivial⟩
      | true =>
        rw [b2] at h2
        cases b1 : varB t.np t.nn with
        | false =>
          rw [b1] at h1
          exact pwalk (an := [yT, yT, yF]) (ls := []) (ps := [Puk 60 [(obA t.val), (.agg [(inA 0), (stA []), (stA []), (stA []), (stA []), (stA []), (.dt (.row []))])] (boA true), Bn .eql 3 (.tmp 10) (.const (vi 1)) (vi t.kind) (vi 1) bT, Puk 141 [(syA t.np t.nn)] (boA false)]) Tryz.func151 (by kernel_rfl) (by kernel_rfl) ⟨h2, bin_ieq (yesD k1), h1, trivial⟩
        | true =>
          rw [b1] at h1
          exact pwalk (an := [yT, yT, yT, .av (inA t.args.length), .av (boA (decide (t.args.length = 0)))]) (ls := []) (ps := [Puk 60 [(obA t.val), (.agg [(inA 0), (stA []), (stA []), (stA []), (stA []), (stA []), (.dt (.row []))])] (boA true), Bn .eql 3 (.tmp 10) (.const (vi 1)) (vi t.kind) (vi 1) bT, Puk 141 [(syA t.np t.nn)] (boA true), (vi ↑t.args.length) = (vi (↑(List.map Te.enc t.args).length)), Bn .eql 3 (.tmp 22) (.const (vi 0)) (vi ↑t.args.length) (vi 0) (Value.bool (decide (t.args.length = 0)))]) Tryz.func151 (by kernel_rfl) (by kernel_rfl) ⟨h2, bin_ieq (yesD k1), h1, lenEncT _, bin_ieq (by rw [decide_eq_decide]; omega), trivial⟩
    rw [if_neg k1]
    by_cases k2 : t.kind = 2
    · rw [if_pos k2]
      have h3 := p_rValidO hv hs
      cases b1 : decide (t.np = []) && decide (t.nn = []) with
      | false => exact pwalk (an := [.av (boA (decide (t.val = zOb))), yF, yT, yF]) (ls := []) (ps := [Puk 60 [(obA t.val), (.agg [(inA 0), (stA []), (stA []), (stA []), (stA []), (stA []), (.dt (.row []))])] (boA (decide (t.val = zOb))), Bn .eql 3 (.tmp 10) (.const (vi 1)) (vi t.kind) (vi 1) bF, Bn .eql 3 (.tmp 10) (.const (vi 2)) (vi t.kind) (vi 2) bT, Bn .eql 32 (.tmp 28) (.tmp 29) (Value.agg #[str t.np, str t.nn]) (Value.agg #[Value.string { data := #[] : ByteArray }, Value.string { data := #[] : ByteArray }]) bF]) Tryz.func151 (by kernel_rfl) (by kernel_rfl) ⟨h2, bin_ieq (noD k1), bin_ieq (yesD k2), bin_syeq b1, trivial⟩
      | true =>
        cases b2 : t.val.validB with
        | false =>
          rw [b2] at h3
          exact pwalk (an := [.av (boA (decide (t.val = zOb))), yF, yT, yT, yF]) (ls := []) (ps := [Puk 60 [(obA t.val), (.agg [(inA 0), (stA []), (stA []), (stA []), (stA []), (stA []), (.dt (.row []))])] (boA (decide (t.val = zOb))), Bn .eql 3 (.tmp 10) (.const (vi 1)) (vi t.kind) (vi 1) bF, Bn .eql 3 (.tmp 10) (.const (vi 2)) (vi t.kind) (vi 2) bT, Bn .eql 32 (.tmp 28) (.tmp 29) (Value.agg #[str t.np, str t.nn]) (Value.agg #[Value.string { data := #[] : ByteArray }, Value.string { data := #[] : ByteArray }]) bT, Puk 178 [(obA t.val)] (boA false)]) Tryz.func151 (by kernel_rfl) (by kernel_rfl) ⟨h2, bin_ieq (noD k1), bin_ieq (yesD k2), bin_syeq b1, h3, trivial⟩
        | true =>
          rw [b2] at h3
          exact pwalk (an := [.av (boA (decide (t.val = zOb))), yF, yT, yT, yT, .av (inA t.args.length), .av (boA (decide (t.args.length = 0)))]) (ls := []) (ps := [Puk 60 [(obA t.val), (.agg [(inA 0), (stA []), (stA []), (stA []), (stA []), (stA []), (.dt (.row []))])] (boA (decide (t.val = zOb))), Bn .eql 3 (.tmp 10) (.const (vi 1)) (vi t.kind) (vi 1) bF, Bn .eql 3 (.tmp 10) (.const (vi 2)) (vi t.kind) (vi 2) bT, Bn .eql 32 (.tmp 28) (.tmp 29) (Value.agg #[str t.np, str t.nn]) (Value.agg #[Value.string { data := #[] : ByteArray }, Value.string { data := #[] : ByteArray }]) bT, Puk 178 [(obA t.val)] (boA true), (vi ↑t.args.length) = (vi (↑(List.map Te.enc t.args).length)), Bn .eql 3 (.tmp 39) (.const (vi 0)) (vi ↑t.args.length) (vi 0) (Value.bool (decide (t.args.length = 0)))]) Tryz.func151 (by kernel_rfl) (by kernel_rfl) ⟨h2, bin_ieq (noD k1), bin_ieq (yesD k2), bin_syeq b1, h3, lenEncT _, bin_ieq (by rw [decide_eq_decide]; omega), trivial⟩
    rw [if_neg k2]
    by_cases k3 : t.kind = 3
    · rw [if_pos k3]
      have h1 := p_ref4V t.np t.nn hp hn
      cases b2 : decide (t.val = zOb) with
      | false =>
        rw [b2] at h2
        rw [Bool.and_false, Bool.false_and, Bool.false_and]
        exact pwalk (an := [yF, yF, yF, yT]) (ls := []) (ps := [Puk 60 [(obA t.val), (.agg [(inA 0), (stA []), (stA []), (stA []), (stA []), (stA []), (.dt (.row []))])] (boA false), Bn .eql 3 (.tmp 10) (.const (vi 1)) (vi t.kind) (vi 1) bF, Bn .eql 3 (.tmp 10) (.const (vi 2)) (vi t.kind) (vi 2) bF, Bn .eql 3 (.tmp 10) (.const (vi 3)) (vi t.kind) (vi 3) bT]) Tryz.func151 (by kernel_rfl) (by kernel_rfl) ⟨h2, bin_ieq (noD k1), bin_ieq (noD k2), bin_ieq (yesD k3), trivial⟩
      | true =>
        rw [b2] at h2
        cases b1 : symOk ⟨t.np, t.nn⟩ with
        | false =>
          rw [b1] at h1
          exact pwalk (an := [yT, yF, yF, yT, yF]) (ls := []) (ps := [Puk 60 [(obA t.val), (.agg [(inA 0), (stA []), (stA []), (stA []), (stA []), (stA []), (.dt (.row []))])] (boA true), Bn .eql 3 (.tmp 10) (.const (vi 1)) (vi t.kind) (vi 1) bF, Bn .eql 3 (.tmp 10) (.const (vi 2)) (vi t.kind) (vi 2) bF, Bn .eql 3 (.tmp 10) (.const (vi 3)) (vi t.kind) (vi 3) bT, Puk 170 [(syA t.np t.nn)] (boA false)]) Tryz.func151 (by kernel_rfl) (by kernel_rfl) ⟨h2, bin_ieq (noD k1), bin_ieq (noD k2), bin_ieq (yesD k3), h1, trivial⟩
        | true =>
          rw [b1] at h1
          cases b3 : decide (t.args.length ≤ 8) with
          | false =>
            have e := of_decide_eq_false b3
            exact pwalk (an := [yT, yF, yF, yT, yT, .av (inA t.args.length), yT]) (ls := []) (ps := [Puk 60 [(obA t.val), (.agg [(inA 0), (stA []), (stA []), (stA []), (stA []), (stA []), (.dt (.row []))])] (boA true), Bn .eql 3 (.tmp 10) (.const (vi 1)) (vi t.kind) (vi 1) bF, Bn .eql 3 (.tmp 10) (.const (vi 2)) (vi t.kind) (vi 2) bF, Bn .eql 3 (.tmp 10) (.const (vi 3)) (vi t.kind) (vi 3) bT, Puk 170 [(syA t.np t.nn)] (boA true), (vi ↑t.args.length) = (vi (↑(List.map Te.enc t.args).length)), Bn .gtr 3 (.tmp 55) (.const (vi 8)) (vi ↑t.args.length) (vi 8) bT]) Tryz.func151 (by kernel_rfl) (by kernel_rfl) ⟨h2, bin_ieq (noD k1), bin_ieq (noD k2), bin_ieq (yesD k3), h1, lenEncT _, bin_igt (decide_eq_true (by omega)), trivial⟩
          | true =>
            have e := of_decide_eq_true b3
            obtain ⟨l1, l2⟩ := fr_loop hl (fun x hx => ih x (by have := Te.size_args hx; omega) (hb.kids hx)) t.args 0 rfl (Nat.zero_le _)
            cases b4 : frmL t.args with
            | false =>
              have ht := (l2 b4).tri
              exact pwalk (an := [yT, yF, yF, yT, yT, .av (inA t.args.length), yF]) (ls := [.inv [1,4] 1 (.ret) (frR t false)]) (ps := [Puk 60 [(obA t.val), (.agg [(inA 0), (stA []), (stA []), (stA []), (stA []), (stA []), (.dt (.row []))])] (boA true), Bn .eql 3 (.tmp 10) (.const (vi 1)) (vi t.kind) (vi 1) bF, Bn .eql 3 (.tmp 10) (.const (vi 2)) (vi t.kind) (vi 2) bF, Bn .eql 3 (.tmp 10) (.const (vi 3)) (vi t.kind) (vi 3) bT, Puk 170 [(syA t.np t.nn)] (boA true), (vi ↑t.args.length) = (vi (↑(List.map Te.enc t.args).length)), Bn .gtr 3 (.tmp 55) (.const (vi 8)) (vi ↑t.args.length) (vi 8) bF, Tri EX (.loop (subC (bodyOf Tryz.f151) [1,1,0,1,0,1,1,1,1,1,0,1,0,1,0,0])) (frS t 0) (.ret) (frR t false)]) Tryz.func151 (by kernel_rfl) (by kernel_rfl) ⟨h2, bin_ieq (noD k1), bin_ieq (noD k2), bin_ieq (yesD k3), h1, lenEncT _, bin_igt (decide_eq_false (by omega)), ht, trivial⟩
            | true =>
              have ht := (l1 b4).tri
              exact pwalk (an := [yT, yF, yF, yT, yT, .av (inA t.args.length), yF]) (ls := [.inv [1,4] 1 (.out 1) (frN t)]) (ps := [Puk 60 [(obA t.val), (.agg [(inA 0), (stA []), (stA []), (stA []), (stA []), (stA []), (.dt (.row []))])] (boA true), Bn .eql 3 (.tmp 10) (.const (vi 1)) (vi t.kind) (vi 1) bF, Bn .eql 3 (.tmp 10) (.const (vi 2)) (vi t.kind) (vi 2) bF, Bn .eql 3 (.tmp 10) (.const (vi 3)) (vi t.kind) (vi 3) bT, Puk 170 [(syA t.np t.nn)] (boA true), (vi ↑t.args.length) = (vi (↑(List.map Te.enc t.args).length)), Bn .gtr 3 (.tmp 55) (.const (vi 8)) (vi ↑t.args.length) (vi 8) bF, Tri EX (.loop (subC (bodyOf Tryz.f151) [1,1,0,1,0,1,1,1,1,1,0,1,0,1,0,0])) (frS t 0) (.out 1) (frN t)]) Tryz.func151 (by kernel_rfl) (by kernel_rfl) ⟨h2, bin_ieq (noD k1), bin_ieq (noD k2), bin_ieq (yesD k3), h1, lenEncT _, bin_igt (decide_eq_false (by omega)), ht, trivial⟩
    · rw [if_neg k3]
      exact pwalk (an := [.av (boA (decide (t.val = zOb))), yF, yF, yF]) (ls := []) (ps := [Puk 60 [(obA t.val), (.agg [(inA 0), (stA []), (stA []), (stA []), (stA []), (stA []), (.dt (.row []))])] (boA (decide (t.val = zOb))), Bn .eql 3 (.tmp 10) (.const (vi 1)) (vi t.kind) (vi 1) bF, Bn .eql 3 (.tmp 10) (.const (vi 2)) (vi t.kind) (vi 2) bF, Bn .eql 3 (.tmp 10) (.const (vi 3)) (vi t.kind) (vi 3) bF]) Tryz.func151 (by kernel_rfl) (by kernel_rfl) ⟨h2, bin_ieq (noD k1), bin_ieq (noD k2), bin_ieq (noD k3), trivial⟩
theorem p_rValidT {t : Te} (hb : t.Bd) : Puk 121 [teA t] (boA t.valid) := by
  have h1 := p_rNodes hb
  have h2 := p_rDepth hb
  have h3 := p_rFormed _ t (Nat.le_refl _) hb
  unfold Te.valid
  cases b1 : decide (t.nods ≤ 3000) with
  | false =>
    have e := of_decide_eq_false b1
    exact pwalk (an := [.av (inA ((min t.nods 3001 : Nat) : Int)), yF]) (ls := []) (ps := [Puk 149 [(teA t)] (inA (↑(min t.nods 3001))), Bn .leq 3 (.tmp 4) (.const (vi 3000)) (vi (↑(min t.nods 3001))) (vi 3000) bF]) Tryz.func121 (by kernel_rfl) (by kernel_rfl) ⟨h1, bin_ile (decide_eq_false (by omega)), trivial⟩
  | true =>
    have e := of_decide_eq_true b1
    cases b2 : decide (t.dep ≤ 200) with
    | false =>
      have e2 := of_decide_eq_false b2
      exact pwalk (an := [.av (inA ((min t.nods 3001 : Nat) : Int)), yT, .av (inA ((min t.dep 201 : Nat) : Int)), yF]) (ls := []) (ps := [Puk 149 [(teA t)] (inA (↑(min t.nods 3001))), Bn .leq 3 (.tmp 4) (.const (vi 3000)) (vi (↑(min t.nods 3001))) (vi 3000) bT, Puk 150 [(teA t)] (inA (↑(min t.dep 201))), Bn .leq 3 (.tmp 8) (.const (vi 200)) (vi (↑(min t.dep 201))) (vi 200) bF]) Tryz.func121 (by kernel_rfl) (by kernel_rfl) ⟨h1, bin_ile (decide_eq_true (by omega)), h2, bin_ile (decide_eq_false (by omega)), trivial⟩
    | true =>
      have e2 := of_decide_eq_true b2
      exact pwalk (an := [.av (inA ((min t.nods 3001 : Nat) : Int)), yT, .av (inA ((min t.dep 201 : Nat) : Int)), yT, .av (boA (frm t))]) (ls := []) (ps := [Puk 149 [(teA t)] (inA (↑(min t.nods 3001))), Bn .leq 3 (.tmp 4) (.const (vi 3000)) (vi (↑(min t.nods 3001))) (vi 3000) bT, Puk 150 [(teA t)] (inA (↑(min t.dep 201))), Bn .leq 3 (.tmp 8) (.const (vi 200)) (vi (↑(min t.dep 201))) (vi 200) bT, Puk 151 [(teA t)] (boA t.frm)]) Tryz.func121 (by kernel_rfl) (by kernel_rfl) ⟨h1, bin_ile (decide_eq_true (by omega)), h2, bin_ile (decide_eq_true (by omega)), h3, trivial⟩
/- clauses -/
end Go.Proofs.YtendgffijciehaaGreatDoor
/- A law that was walked, as a contract of the machine. -/
namespace Go.Proofs.YtendgffijciehaaGreatDoor
open Go.RowKit

theorem Puk.law {f : FuncId} {args : List AV} (h : Puk f args (boA true)) {ok : Nat → Prop} {W : World} {vs : List Value} (hG : Gx W) (hv : RL (M0 ok) W args vs) : Calls Tryz.prog f vs.toArray W fun e W' => e = .returned (.bool true) ∧ Below W.heap.size W W' :=
  (h.2 ok W vs hG hv).mono fun e W' ⟨v, he, hb, hr⟩ => ⟨by rw [he, Rd.val_eq hr], hb⟩
abbrev Says (f : FuncId) (args : Array Value) (W : World) : Prop := Calls Tryz.prog f args W fun e W' => e = .returned (.bool true) ∧ Below W.heap.size W W'
end Go.Proofs.YtendgffijciehaaGreatDoor
