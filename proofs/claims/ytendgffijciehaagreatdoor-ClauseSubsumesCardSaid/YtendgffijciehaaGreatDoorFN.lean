/- Add, Union, Without, Subset of both texts on clauses that the maker makes. -/
import Derived.Test.YtendgffijciehaaGreatDoorFM
import Derived.Test.YtendgffijciehaaGreatDoorFI
import Derived.Test.YtendgffijciehaaGreatDoorFL
namespace Go.Proofs.YtendgffijciehaaGreatDoor
open Go.RowKit
open Te

/- Add of the code -/
abbrev caS (l : List Te) (es : List (List Dt)) (i : Int) : AS := ⟨stt 26 [(5, .own 0 es.length), (10, tesA l), (11, inA l.length), (12, inA i)], [some (.buf 37 11 es)]⟩
noncomputable abbrev caB : Code := subC (bodyOf Tryz.f27) [1,1,0,1,0,0]
theorem caB1 {l : List Te} {es : List (List Dt)} {x : Te} {i : Nat} (hx : l[i]? = some x) (hl : l.length ≤ 1000) (h : Puk 24 [.dt (.row es), teA x] (boA true)) : Tri EX caB (caS l es i) .nxt (caS l es ((i + 1 : Nat) : Int)) :=
  have hi := (List.getElem?_eq_some_iff.1 hx).1
  twalk (c := subC (bodyOf Tryz.f27) [1,1,0,1,0,0]) (s := caS l es i) (an := [yT, .av (.pin ((encT x).map .dt)), yT, .av (inA ((i + 1 : Nat) : Int))]) (ls := []) (ft := [5,10,11,12]) (nb := 1) (e := .nxt) (s' := caS l es ((i + 1 : Nat) : Int)) (ps := [Bn .lss 3 (.tmp 12) (.tmp 11) (vi ↑i) (vi ↑l.length) bT, IxAt (List.map Te.enc l) ↑i 11 (encT x), Puk 24 [(.dt (.row es)), (teA x)] (boA true), (es.length) = (es.length), Bn .add 3 (.tmp 12) (.const (vi 1)) (vi ↑i) (vi 1) (vi (↑(i + 1)))]) (by kernel_rfl) ⟨bin_ilt (decide_eq_true (by omega)), ix_te hx, h, rfl, bin_iadd (by omega) (by omega) (by omega), trivial⟩
theorem caB2 {l : List Te} {es : List (List Dt)} {x : Te} {i : Nat} (hx : l[i]? = some x) (hl : l.length ≤ 1000) (ho : es.length ≤ 1000) (h : Puk 24 [.dt (.row es), teA x] (boA false)) : Tri EX caB (caS l es i) .nxt (caS l (es ++ [encT x]) ((i + 1 : Nat) : Int)) :=
  have hi := (List.getElem?_eq_some_iff.1 hx).1
  twalk (c := subC (bodyOf Tryz.f27) [1,1,0,1,0,0]) (s := caS l es i) (an := [yT, .av (.pin ((encT x).map .dt)), yF, .av (.un), .av (inA ((i + 1 : Nat) : Int))]) (ls := []) (ft := [5,10,11,12]) (nb := 1) (e := .nxt) (s' := caS l (es ++ [encT x]) ((i + 1 : Nat) : Int)) (ps := [Bn .lss 3 (.tmp 12) (.tmp 11) (vi ↑i) (vi ↑l.length) bT, IxAt (List.map Te.enc l) ↑i 11 (encT x), Puk 24 [(.dt (.row es)), (teA x)] (boA false), (es.length) = (es.length), (es.length) = (es.length), FitB 176 ((es ++ [encT x]).length), SrcOK 11 [encT x], Bn .add 3 (.tmp 12) (.const (vi 1)) (vi ↑i) (vi 1) (vi (↑(i + 1)))]) (by kernel_rfl) ⟨bin_ilt (decide_eq_true (by omega)), ix_te hx, h, rfl, rfl, fit_of (by omega) (by simp; omega), src_te1 x, bin_iadd (by omega) (by omega) (by omega), trivial⟩
theorem caB3 {l : List Te} {es : List (List Dt)} {i : Nat} (hi : i = l.length) : Tri EX caB (caS l es i) (.out 0) (caS l es i) :=
  twalk (c := subC (bodyOf Tryz.f27) [1,1,0,1,0,0]) (s := caS l es i) (an := [yF]) (ls := []) (ft := [5,10,11,12]) (nb := 1) (e := .out 0) (s' := caS l es i) (ps := [Bn .lss 3 (.tmp 12) (.tmp 11) (vi ↑i) (vi ↑l.length) bF]) (by kernel_rfl) ⟨bin_ilt (decide_eq_false (by omega)), trivial⟩
theorem ca_loop {l : List Te} (hl : l.length ≤ 500) : ∀ (s : List Te) (i : Nat) (out : List Te), l.drop i = s → i ≤ l.length → (∀ x ∈ out, x.Wf) → (∀ x ∈ l, x.Wf) → out.length ≤ 500 + i → Lps EX caB (caS l (encTs out) i) (.out 0) (caS l (encTs (addN out s)) l.length) := by
  intro s
  induction s with
  | nil =>
    intro i out hd hi _ _ _
    have e1 := congrArg List.length hd
    rw [List.length_drop, List.length_nil] at e1
    obtain rfl : i = l.length := by omega
    exact .stop (caB3 rfl) (fun h => by cases h)
  | cons x s ih =>
    intro i out hd hi ho hw hlo
    have hx : l[i]? = some x := by rw [← List.head?_drop, hd]; rfl
    have hlt := (List.getElem?_eq_some_iff.1 hx).1
    have hel : (encTs out).length = out.length := by unfold encTs; rw [List.length_map]
    have hc : Puk 24 [.dt (.row (encTs out)), teA x] (boA (decide (x ∈ out))) := p_cont (by omega) ho x
    rw [addN]
    by_cases hm : x ∈ out
    · rw [if_pos hm]
      rw [yesD hm] at hc
      exact .more (caB1 hx (by omega) hc) (ih (i + 1) out (by rw [← List.drop_drop, hd]; rfl) hlt ho hw (by omega))
    · rw [if_neg hm]
      rw [noD hm] at hc
      have hs := caB2 hx (by omega) (by omega) hc
      have e : encTs out ++ [encT x] = encTs (out ++ [x]) := by unfold encTs; rw [List.map_append, row1]
      rw [e] at hs
      refine .more hs (ih (i + 1) (out ++ [x]) (by rw [← List.drop_drop, hd]; rfl) hlt (fun y hy => ?_) hw (by simp; omega))
      rcases List.mem_append.1 hy with hy | hy
      · exact ho y hy
      · rw [List.mem_singleton] at hy; subst hy; exact hw _ (List.mem_of_getElem? hx)
theorem p_cloneT {c : List Te} (hl : c.length ≤ 1000) : Suk 63 [.dt (.row (encTs c))] [] (.own 0 (encTs c).length) [some (.buf 37 11 (encTs c))] := by
  cases c with
  | nil => exact p_clone0
  | cons x r => exact p_clone (by unfold encTs; simp) (by unfold encTs; rw [List.length_map]; exact hl) (src_te _)
theorem w_cAdd {l : List Te} {es rs : List (List Dt)} (hc : Suk 63 [.dt (.row es)] [] (.own 0 es.length) [some (.buf 37 11 es)]) (h : Tri EX (.loop caB) (caS l es 0) (.out 0) (caS l rs l.length)) : Puk 27 [.dt (.row es), tesA l] (.dt (.row rs)) :=
  pwalk (an := [.av (inA l.length)]) (ls := [.scl 1 1 [] (.own 0 es.length) [some (.buf 37 11 es)], .inv [5,10,11,12] 1 (.out 0) (caS l rs l.length)]) (ps := [Suk 63 [AV.dt (Dt.row es)] [] (AV.own 0 es.length) [some (Bx.buf 37 11 es)], (vi ↑l.length) = (vi (↑(List.map Te.enc l).length)), Tri EX (.loop (subC (bodyOf Tryz.f27) [1,1,0,1,0,0])) (caS l es 0) (.out 0) (caS l rs l.length), (rs.length) = (rs.length)]) Tryz.func27 (by kernel_rfl) (by kernel_rfl) ⟨hc, lenEncT _, h, rfl, trivial⟩
/-- Add of the code -/
theorem p_cAdd {c l : List Te} (hc : c.length ≤ 500) (hl : l.length ≤ 500) (hcw : ∀ y ∈ c, y.Wf) (hw : ∀ y ∈ l, y.Wf) : Puk 27 [tesA c, tesA l] (tesA (addN c l)) :=
  w_cAdd (p_cloneT (c := c) (by omega)) (ca_loop hl l 0 c rfl (Nat.zero_le _) hcw hw (by omega)).tri
/- Union -/
/- Without -/
/- Subset -/
abbrev sbS (a b : List Te) (i : Int) : AS := ⟨stt 19 [(0, tesA a), (1, tesA b), (5, inA i)], []⟩
abbrev sbR : AS := ⟨stt 19 [(4, boA false)], []⟩
noncomputable abbrev sbB : Code := subC (bodyOf Tryz.f33) [1,0,1,0,0]
theorem sbB1 {a b : List Te} {x : Te} {i : Nat} (hx : a[i]? = some x) (hl : a.length ≤ 1000) (h : Puk 25 [tesA b, teA x] (boA true)) : Tri EX sbB (sbS a b i) .nxt (sbS a b ((i + 1 : Nat) : Int)) :=
  have hi := (List.getElem?_eq_some_iff.1 hx).1
  twalk (c := subC (bodyOf Tryz.f33) [1,0,1,0,0]) (s := sbS a b i) (an := [.av (inA a.length), yT, .av (.pin ((encT x).map .dt)), yT, .av (inA ((i + 1 : Nat) : Int))]) (ls := []) (ft := [0,1,5]) (nb := 0) (e := .nxt) (s' := sbS a b ((i + 1 : Nat) : Int)) (ps := [(vi ↑a.length) = (vi (↑(List.map Te.enc a).length)), Bn .lss 3 (.tmp 6) (.tmp 8) (vi ↑i) (vi ↑a.length) bT, IxAt (List.map Te.enc a) ↑i 11 (encT x), Puk 25 [(.dt (.row (List.map Te.enc b))), (teA x)] (boA true), Bn .add 3 (.tmp 10) (.const (vi 1)) (vi ↑i) (vi 1) (vi (↑(i + 1)))]) (by kernel_rfl) ⟨lenEncT _, bin_ilt (decide_eq_true (by omega)), ix_te hx, h, bin_iadd (by omega) (by omega) (by omega), trivial⟩
theorem sbB2 {a b : List Te} {x : Te} {i : Nat} (hx : a[i]? = some x) (h : Puk 25 [tesA b, teA x] (boA false)) : Tri EX sbB (sbS a b i) .ret sbR :=
  have hi := (List.getElem?_eq_some_iff.1 hx).1
  twalk (c := subC (bodyOf Tryz.f33) [1,0,1,0,0]) (s := sbS a b i) (an := [.av (inA a.length), yT, .av (.pin ((encT x).map .dt)), yF]) (ls := []) (ft := [4]) (nb := 0) (e := .ret) (s' := sbR) (ps := [(vi ↑a.length) = (vi (↑(List.map Te.enc a).length)), Bn .lss 3 (.tmp 6) (.tmp 8) (vi ↑i) (vi ↑a.length) bT, IxAt (List.map Te.enc a) ↑i 11 (encT x), Puk 25 [(.dt (.row (List.map Te.enc b))), (teA x)] (boA false)]) (by kernel_rfl) ⟨lenEncT _, bin_ilt (decide_eq_true (by omega)), ix_te hx, h, trivial⟩
theorem sbB3 {a b : List Te} {i : Nat} (hi : i = a.length) : Tri EX sbB (sbS a b i) (.out 0) (sbS a b i) :=
  twalk (c := subC (bodyOf Tryz.f33) [1,0,1,0,0]) (s := sbS a b i) (an := [.av (inA a.length), yF]) (ls := []) (ft := [0,1,5]) (nb := 0) (e := .out 0) (s' := sbS a b i) (ps := [(vi ↑a.length) = (vi (↑(List.map Te.enc a).length)), Bn .lss 3 (.tmp 6) (.tmp 8) (vi ↑i) (vi ↑a.length) bF]) (by kernel_rfl) ⟨lenEncT _, bin_ilt (decide_eq_false (by omega)), trivial⟩
theorem sb_loop {a b : List Te} (hl : a.length ≤ 1000) (hb : b.length ≤ 1000) (hw : ∀ x ∈ b, x.Wf) : ∀ (s : List Te) (i : Nat), a.drop i = s → i ≤ a.length → (s.all (fun x => decide (x ∈ b)) = true → Lps EX sbB (sbS a b i) (.out 0) (sbS a b a.length)) ∧ (s.all (fun x => decide (x ∈ b)) = false → Lps EX sbB (sbS a b i) .ret sbR) := by
  intro s
  induction s with
  | nil =>
    intro i hd hi
    have e1 := congrArg List.length hd
    rw [List.length_drop, List.length_nil] at e1
    obtain rfl : i = a.length := by omega
    exact ⟨fun _ => .stop (sbB3 rfl) (fun h => by cases h), fun h => by simp at h⟩
  | cons x s ih =>
    intro i hd hi
    have hx : a[i]? = some x := by rw [← List.head?_drop, hd]; rfl
    have hlt := (List.getElem?_eq_some_iff.1 hx).1
    obtain ⟨k1, k2⟩ := ih (i + 1) (by rw [← List.drop_drop, hd]; rfl) hlt
    have hc := p_rcont (c := b) (by omega) hw x
    rw [List.all_cons]
    by_cases hm : x ∈ b
    · rw [yesD hm] at hc ⊢
      rw [Bool.true_and]
      exact ⟨fun h => .more (sbB1 hx hl hc) (k1 h), fun h => .more (sbB1 hx hl hc) (k2 h)⟩
    · rw [noD hm] at hc ⊢
      rw [Bool.false_and]
      exact ⟨(fun h => by cases h), fun _ => .stop (sbB2 hx hc) (fun h => by cases h)⟩
theorem w_rSb1 {a b : List Te} {k : Int} (h : Tri EX (.loop sbB) (sbS a b 0) (.out 0) (sbS a b k)) : Puk 33 [tesA a, tesA b] (boA true) :=
  pwalk (an := []) (ls := [.inv [0,1,5] 0 (.out 0) (sbS a b k)]) (ps := [Tri EX (.loop (subC (bodyOf Tryz.f33) [1,0,1,0,0])) (sbS a b 0) (.out 0) (sbS a b k)]) Tryz.func33 (by kernel_rfl) (by kernel_rfl) ⟨h, trivial⟩
theorem w_rSb0 {a b : List Te} (h : Tri EX (.loop sbB) (sbS a b 0) .ret sbR) : Puk 33 [tesA a, tesA b] (boA false) :=
  pwalk (an := []) (ls := [.inv [0,1,5] 0 (.ret) (sbR)]) (ps := [Tri EX (.loop (subC (bodyOf Tryz.f33) [1,0,1,0,0])) (sbS a b 0) (.ret) (sbR)]) Tryz.func33 (by kernel_rfl) (by kernel_rfl) ⟨h, trivial⟩
theorem p_rSb {a b : List Te} (hl : a.length ≤ 1000) (hb : b.length ≤ 1000) (hw : ∀ x ∈ b, x.Wf) : Puk 33 [tesA a, tesA b] (boA (a.all fun x => decide (x ∈ b))) := by
  obtain ⟨k1, k2⟩ := sb_loop hl hb hw a 0 rfl (Nat.zero_le _)
  cases h : a.all fun x => decide (x ∈ b) with
  | true => exact w_rSb1 (k1 h).tri
  | false => exact w_rSb0 (k2 h).tri
theorem w_cSb1 {b : List Te} {x : Te} {r : Bool} (h : Puk 24 [tesA b, teA x] (boA r)) : Puk 64 [teA x, .pin [tesA b]] (boA !r) :=
  pwalk (an := [.av (boA r)]) (ls := []) (ps := [Puk 24 [(.dt (.row (List.map Te.enc b))), (teA x)] (boA r)]) Tryz.func64 (by kernel_rfl) (by kernel_rfl) ⟨h, trivial⟩
theorem w_cSb {a b : List Te} {r : Bool} (h : Puk 53 [tesA a, .clf 64 [.pin [tesA b]]] (boA r)) : Puk 32 [tesA a, tesA b] (boA !r) :=
  pwalk (an := [.av (boA r)]) (ls := []) (ps := [Puk 53 [(.dt (.row (List.map Te.enc a))), (.clf 64 [(.pin [(.dt (.row (List.map Te.enc b)))])])] (boA r)]) Tryz.func32 (by kernel_rfl) (by kernel_rfl) ⟨h, trivial⟩
theorem all_any (a b : List Te) : (!a.any fun x => !decide (x ∈ b)) = a.all fun x => decide (x ∈ b) := by
  induction a with
  | nil => rfl
  | cons x r ih => rw [List.any_cons, List.all_cons, ← ih, Bool.not_or, Bool.not_not]
theorem p_cSb {a b : List Te} (hl : a.length ≤ 1000) (hb : b.length ≤ 1000) (hw : ∀ x ∈ b, x.Wf) : Puk 32 [tesA a, tesA b] (boA (a.all fun x => decide (x ∈ b))) := by
  rw [← all_any]
  exact w_cSb (p_ctFunc (cs := [.pin [tesA b]]) (by omega) fun x _ => w_cSb1 (p_cont (by omega) hw x))
end Go.Proofs.YtendgffijciehaaGreatDoor
/- Matching in the reference; Subsumes of both texts. -/
namespace Go.Proofs.YtendgffijciehaaGreatDoor
open Go.RowKit
open Te

theorem ix_as {s : As} {i : Nat} {x : Te × Te} (h : s[i]? = some x) : IxAt (asT s) (i : Int) 13 (asg x.1 x.2) := ⟨Int.natCast_nonneg _, by
  rw [Int.toNat_natCast, List.getElem?_map, h]
  rfl, rfl⟩
theorem lenAs (s : As) : Value.int .i64 (s.length : Int) = Value.int .i64 ((asT s).length : Int) := by rw [asT_len]
/- Assigned -/
abbrev agS (s : As) (a b : List UInt8) (i : Int) : AS := ⟨stt 26 [(0, .dt (.row (asT s))), (3, .ptr 0 0), (4, .ptr 1 0), (6, inA i)], [some (.cells [stA a, stA b]), zTc]⟩
abbrev agR (x : Te) (a b : List UInt8) : AS := ⟨stt 26 [(4, .ptr 1 0), (5, boA true)], [some (.cells [stA a, stA b]), some (.cells ((encT x).map .dt))]⟩
noncomputable abbrev agB : Code := subC (bodyOf Tryz.f106) [1,0,1,0,0]
theorem agB1 {s : As} {a b : List UInt8} {x : Te × Te} {i : Nat} (hx : s[i]? = some x) (hl : s.length ≤ 1000) (h : ¬ (x.1.np = a ∧ x.1.nn = b)) : Tri EX agB (agS s a b i) .nxt (agS s a b ((i + 1 : Nat) : Int)) :=
  have hi := (List.getElem?_eq_some_iff.1 hx).1
  twalk (c := subC (bodyOf Tryz.f106) [1,0,1,0,0]) (s := agS s a b i) (an := [.av (inA s.length), yT, .av (.pin ((asg x.1 x.2).map .dt)), yF, .av (inA ((i + 1 : Nat) : Int))]) (ls := []) (ft := [0,3,4,6]) (nb := 2) (e := .nxt) (s' := agS s a b ((i + 1 : Nat) : Int)) (ps := [(vi (↑(List.length s))) = (vi (↑(asT s).length)), Bn .lss 3 (.tmp 7) (.tmp 9) (vi ↑i) (vi (↑(List.length s))) bT, IxAt (asT s) ↑i 13 ([(.val (str x.fst.np)), (.val (str x.fst.nn)), (.val (vi x.snd.kind)), (.val (str x.snd.np)), (.val (str x.snd.nn)), (.val (vi x.snd.val.kind)), (.val (str x.snd.val.num)), (.val (str x.snd.val.den)), (.val (str x.snd.val.sp)), (.val (str x.snd.val.sn)), (.val (str x.snd.val.text)), (.row (List.map Ob.enc x.snd.val.pair)), (.row (List.map Te.enc x.snd.args))]), Bn .eql 32 (.tmp 17) (.tmp 18) (Value.agg #[str x.fst.np, str x.fst.nn]) (Value.agg #[str a, str b]) bF, Bn .add 3 (.tmp 11) (.const (vi 1)) (vi ↑i) (vi 1) (vi (↑(i + 1)))]) (by kernel_rfl) ⟨lenAs _, bin_ilt (decide_eq_true (by omega)), ix_as hx, bin_syeq (sy_no h), bin_iadd (by omega) (by omega) (by omega), trivial⟩
theorem agB2 {s : As} {a b : List UInt8} {x : Te × Te} {i : Nat} (hx : s[i]? = some x) (h : x.1.np = a ∧ x.1.nn = b) : Tri EX agB (agS s a b i) .ret (agR x.2 a b) :=
  have hi := (List.getElem?_eq_some_iff.1 hx).1
  twalk (c := subC (bodyOf Tryz.f106) [1,0,1,0,0]) (s := agS s a b i) (an := [.av (inA s.length), yT, .av (.pin ((asg x.1 x.2).map .dt)), yT, .av (.pin ((asg x.1 x.2).map .dt))]) (ls := []) (ft := [4,5]) (nb := 2) (e := .ret) (s' := agR x.2 a b) (ps := [(vi (↑(List.length s))) = (vi (↑(asT s).length)), Bn .lss 3 (.tmp 7) (.tmp 9) (vi ↑i) (vi (↑(List.length s))) bT, IxAt (asT s) ↑i 13 ([(.val (str x.fst.np)), (.val (str x.fst.nn)), (.val (vi x.snd.kind)), (.val (str x.snd.np)), (.val (str x.snd.nn)), (.val (vi x.snd.val.kind)), (.val (str x.snd.val.num)), (.val (str x.snd.val.den)), (.val (str x.snd.val.sp)), (.val (str x.snd.val.sn)), (.val (str x.snd.val.text)), (.row (List.map Ob.enc x.snd.val.pair)), (.row (List.map Te.enc x.snd.args))]), Bn .eql 32 (.tmp 17) (.tmp 18) (Value.agg #[str x.fst.np, str x.fst.nn]) (Value.agg #[str a, str b]) bT, IxAt (asT s) ↑i 13 ([(.val (str x.fst.np)), (.val (str x.fst.nn)), (.val (vi x.snd.kind)), (.val (str x.snd.np)), (.val (str x.snd.nn)), (.val (vi x.snd.val.kind)), (.val (str x.snd.val.num)), (.val (str x.snd.val.den)), (.val (str x.snd.val.sp)), (.val (str x.snd.val.sn)), (.val (str x.snd.val.text)), (.row (List.map Ob.enc x.snd.val.pair)), (.row (List.map Te.enc x.snd.args))])]) (by kernel_rfl) ⟨lenAs _, bin_ilt (decide_eq_true (by omega)), ix_as hx, bin_syeq (sy_yes h), ix_as hx, trivial⟩
theorem agB3 {s : As} {a b : List UInt8} {i : Nat} (hi : i = s.length) : Tri EX agB (agS s a b i) (.out 0) (agS s a b i) :=
  twalk (c := subC (bodyOf Tryz.f106) [1,0,1,0,0]) (s := agS s a b i) (an := [.av (inA s.length), yF]) (ls := []) (ft := [0,3,4,6]) (nb := 2) (e := .out 0) (s' := agS s a b i) (ps := [(vi (↑(List.length s))) = (vi (↑(asT s).length)), Bn .lss 3 (.tmp 7) (.tmp 9) (vi ↑i) (vi (↑(List.length s))) bF]) (by kernel_rfl) ⟨lenAs _, bin_ilt (decide_eq_false (by omega)), trivial⟩
theorem w_ag1 {s : As} {a b : List UInt8} {x : Te} (h : Tri EX (.loop agB) (agS s a b 0) .ret (agR x a b)) : Puk 106 [.dt (.row (asT s)), syA a b] (.tup [teA x, boA true]) :=
  pwalk (an := []) (ls := [.inv [0,3,4,6] 2 (.ret) (agR x a b)]) (ps := [Tri EX (.loop (subC (bodyOf Tryz.f106) [1,0,1,0,0])) (agS s a b 0) (.ret) (agR x a b)]) Tryz.func106 (by kernel_rfl) (by kernel_rfl) ⟨h, trivial⟩
theorem w_ag0 {s : As} {a b : List UInt8} {k : Int} (h : Tri EX (.loop agB) (agS s a b 0) (.out 0) (agS s a b k)) : Puk 106 [.dt (.row (asT s)), syA a b] (.tup [teA zTe, boA false]) :=
  pwalk (an := []) (ls := [.inv [0,3,4,6] 2 (.out 0) (agS s a b k)]) (ps := [Tri EX (.loop (subC (bodyOf Tryz.f106) [1,0,1,0,0])) (agS s a b 0) (.out 0) (agS s a b k)]) Tryz.func106 (by kernel_rfl) (by kernel_rfl) ⟨h, trivial⟩
theorem ag_loop {L : As} {a b : List UInt8} (hl : L.length ≤ 1000) : ∀ (s : As) (i : Nat), L.drop i = s → i ≤ L.length →
    (asgd s a b = none → Lps EX agB (agS L a b i) (.out 0) (agS L a b L.length)) ∧ (∀ t, asgd s a b = some t → Lps EX agB (agS L a b i) .ret (agR t a b)) := by
  intro s
  induction s with
  | nil =>
    intro i hd hi
    have e1 := congrArg List.length hd
    rw [List.length_drop, List.length_nil] at e1
    obtain rfl : i = L.length := by omega
    exact ⟨fun _ => .stop (agB3 rfl) (fun h => by cases h), fun t h => by cases h⟩
  | cons x s ih =>
    intro i hd hi
    have hx : L[i]? = some x := by rw [← List.head?_drop, hd]; rfl
    have hlt := (List.getElem?_eq_some_iff.1 hx).1
    obtain ⟨h1, h2⟩ := ih (i + 1) (by rw [← List.drop_drop, hd]; rfl) hlt
    rw [asgd]
    by_cases hc : x.1.np = a ∧ x.1.nn = b
    · rw [if_pos hc]
      exact ⟨fun h => (by cases h), fun t h => by cases h; exact .stop (agB2 hx hc) (fun h => by cases h)⟩
    · rw [if_neg hc]
      exact ⟨fun h => .more (agB1 hx hl hc) (h1 h), fun t h => .more (agB1 hx hl hc) (h2 t h)⟩
/-- Assigned -/
theorem p_rAsgd {s : As} {a b : List UInt8} (hl : s.length ≤ 1000) : (asgd s a b = none → Puk 106 [.dt (.row (asT s)), syA a b] (.tup [teA zTe, boA false])) ∧ (∀ t, asgd s a b = some t → Puk 106 [.dt (.row (asT s)), syA a b] (.tup [teA t, boA true])) := by
  obtain ⟨h1, h2⟩ := ag_loop (a := a) (b := b) hl s 0 rfl (Nat.zero_le _)
  exact ⟨fun h => w_ag0 (h1 h).tri, fun t h => w_ag1 (h2 t h).tri⟩
/- Match of the reference -/
abbrev rMt : FuncId := 89
theorem w_rmN {p t : Te} {s : As} (h : p.kind = 1) (hs : s.length ≤ 1000) (hl : Puk 106 [.dt (.row (asT s)), syA p.np p.nn] (.tup [teA zTe, boA false])) : Puk rMt [teA p, teA t, .dt (.row (asT s))] (.tup [.dt (.row (asT s ++ [asg p t])), boA true]) :=
  pwalk (an := [yT, .av (.tup [teA zTe, boA false]), .av (inA s.length), .av (inA (s.length + 1 : Nat)), .no, .av (.un), .av (.un)]) (ls := []) (ps := [Bn .eql 3 (.tmp 11) (.const (vi 1)) (vi p.kind) (vi 1) bT, Puk 106 [(.dt (.row (asT s))), (syA p.np p.nn)] (.tup [(.agg [(inA 0), (stA zTe.np), (stA zTe.nn), (inA 0), (stA zTe.val.num), (stA zTe.val.den), (stA zTe.val.sp), (stA zTe.val.sn), (stA zTe.val.text), (.dt (.row (List.map Ob.enc zTe.val.pair))), (.dt (.row (List.map Te.enc zTe.args)))]), (boA false)]), (vi (↑(List.length s))) = (vi (↑(asT s).length)), Bn .add 3 (.tmp 31) (.const (vi 1)) (vi (↑(List.length s))) (vi 1) (vi (↑(List.length s + 1))), FitM 208 (↑(List.length s + 1)), 0 = 0, FitB 208 (([] ++ asT s).length), SrcOK 13 (asT s), (([] ++ asT s).length) = (([] ++ asT s).length), FitB 208 (([] ++ asT s ++ [[Dt.val (str p.np), Dt.val (str p.nn), Dt.val (vi t.kind), Dt.val (str t.np), Dt.val (str t.nn), Dt.val (vi t.val.kind), Dt.val (str t.val.num), Dt.val (str t.val.den), Dt.val (str t.val.sp), Dt.val (str t.val.sn), Dt.val (str t.val.text), Dt.row (List.map Ob.enc t.val.pair), Dt.row (List.map Te.enc t.args)]]).length), SrcOK 13 [[(.val (str p.np)), (.val (str p.nn)), (.val (vi t.kind)), (.val (str t.np)), (.val (str t.nn)), (.val (vi t.val.kind)), (.val (str t.val.num)), (.val (str t.val.den)), (.val (str t.val.sp)), (.val (str t.val.sn)), (.val (str t.val.text)), (.row (List.map Ob.enc t.val.pair)), (.row (List.map Te.enc t.args))]], (([] ++ asT s ++ [[Dt.val (str p.np), Dt.val (str p.nn), Dt.val (vi t.kind), Dt.val (str t.np), Dt.val (str t.nn), Dt.val (vi t.val.kind), Dt.val (str t.val.num), Dt.val (str t.val.den), Dt.val (str t.val.sp), Dt.val (str t.val.sn), Dt.val (str t.val.text), Dt.row (List.map Ob.enc t.val.pair), Dt.row (List.map Te.enc t.args)]]).length) = (([] ++ asT s ++ [[Dt.val (str p.np), Dt.val (str p.nn), Dt.val (vi t.kind), Dt.val (str t.np), Dt.val (str t.nn), Dt.val (vi t.val.kind), Dt.val (str t.val.num), Dt.val (str t.val.den), Dt.val (str t.val.sp), Dt.val (str t.val.sn), Dt.val (str t.val.text), Dt.row (List.map Ob.enc t.val.pair), Dt.row (List.map Te.enc t.args)]]).length)]) Tryz.func89 (by kernel_rfl) (by kernel_rfl) ⟨bin_ieq (yesD h), hl, lenAs _, bin_iadd (by omega) (by omega) (by omega), ⟨by omega, by omega, by show ((s.length + 1 : Nat) : Int) ≤ ((2 ^ 63 - 1 : Nat) : Int); omega⟩, rfl, fit_a (by simp; omega), src_asT s, rfl, fit_a (by simp; omega), src_asg p t, rfl, trivial⟩
theorem w_rmS {p t x : Te} {s : As} (h : p.kind = 1) (hl : Puk 106 [.dt (.row (asT s)), syA p.np p.nn] (.tup [teA x, boA true])) (he : Puk 22 [teA x, teA t] (boA true)) : Puk rMt [teA p, teA t, .dt (.row (asT s))] (.tup [.dt (.row (asT s)), boA true]) :=
  pwalk (an := [yT, .av (.tup [teA x, boA true]), yT]) (ls := []) (ps := [Bn .eql 3 (.tmp 11) (.const (vi 1)) (vi p.kind) (vi 1) bT, Puk 106 [(.dt (.row (asT s))), (syA p.np p.nn)] (.tup [(teA x), (boA true)]), Puk 22 [(teA x), (teA t)] (boA true)]) Tryz.func89 (by kernel_rfl) (by kernel_rfl) ⟨bin_ieq (yesD h), hl, he, trivial⟩
theorem w_rmF {p t x : Te} {s : As} (h : p.kind = 1) (hl : Puk 106 [.dt (.row (asT s)), syA p.np p.nn] (.tup [teA x, boA true])) (he : Puk 22 [teA x, teA t] (boA false)) : Puk rMt [teA p, teA t, .dt (.row (asT s))] (.tup [.dt (.row []), boA false]) :=
  pwalk (an := [yT, .av (.tup [teA x, boA true]), yF]) (ls := []) (ps := [Bn .eql 3 (.tmp 11) (.const (vi 1)) (vi p.kind) (vi 1) bT, Puk 106 [(.dt (.row (asT s))), (syA p.np p.nn)] (.tup [(teA x), (boA true)]), Puk 22 [(teA x), (teA t)] (boA false)]) Tryz.func89 (by kernel_rfl) (by kernel_rfl) ⟨bin_ieq (yesD h), hl, he, trivial⟩
theorem w_rmC {p t : Te} {s : As} (h : p.kind = 2) (he : Puk 22 [teA p, teA t] (boA true)) : Puk rMt [teA p, teA t, .dt (.row (asT s))] (.tup [.dt (.row (asT s)), boA true]) :=
  pwalk (an := [yF, yT, yT]) (ls := []) (ps := [Bn .eql 3 (.tmp 11) (.const (vi 1)) (vi p.kind) (vi 1) bF, Bn .eql 3 (.tmp 11) (.const (vi 2)) (vi p.kind) (vi 2) bT, Puk 22 [(teA p), (teA t)] (boA true)]) Tryz.func89 (by kernel_rfl) (by kernel_rfl) ⟨bin_ieq (by simp [h]), bin_ieq (by simp [h]), he, trivial⟩
theorem w_rmD {p t : Te} {s : As} (h : p.kind = 2) (he : Puk 22 [teA p, teA t] (boA false)) : Puk rMt [teA p, teA t, .dt (.row (asT s))] (.tup [.dt (.row []), boA false]) :=
  pwalk (an := [yF, yT, yF]) (ls := []) (ps := [Bn .eql 3 (.tmp 11) (.const (vi 1)) (vi p.kind) (vi 1) bF, Bn .eql 3 (.tmp 11) (.const (vi 2)) (vi p.kind) (vi 2) bT, Puk 22 [(teA p), (teA t)] (boA false)]) Tryz.func89 (by kernel_rfl) (by kernel_rfl) ⟨bin_ieq (by simp [h]), bin_ieq (by simp [h]), he, trivial⟩
theorem w_rmK {p t : Te} {s : As} (h : p.kind = 3) (ht : t.kind ≠ 3) : Puk rMt [teA p, teA t, .dt (.row (asT s))] (.tup [.dt (.row []), boA false]) :=
  pwalk (an := [yF, yF, yT]) (ls := []) (ps := [Bn .eql 3 (.tmp 11) (.const (vi 1)) (vi p.kind) (vi 1) bF, Bn .eql 3 (.tmp 11) (.const (vi 2)) (vi p.kind) (vi 2) bF, Bn .neq 3 (.tmp 50) (.const (vi 3)) (vi t.kind) (vi 3) bT]) Tryz.func89 (by kernel_rfl) (by kernel_rfl) ⟨bin_ieq (by simp [h]), bin_ieq (by simp [h]), bin_ine (by simp [ht]), trivial⟩
theorem w_rmE {p t : Te} {s : As} (h : p.kind = 3) (ht : t.kind = 3) (hne : ¬ (t.np = p.np ∧ t.nn = p.nn)) : Puk rMt [teA p, teA t, .dt (.row (asT s))] (.tup [.dt (.row []), boA false]) :=
  pwalk (an := [yF, yF, yF, yT]) (ls := []) (ps := [Bn .eql 3 (.tmp 11) (.const (vi 1)) (vi p.kind) (vi 1) bF, Bn .eql 3 (.tmp 11) (.const (vi 2)) (vi p.kind) (vi 2) bF, Bn .neq 3 (.tmp 50) (.const (vi 3)) (vi t.kind) (vi 3) bF, Bn .neq 32 (.tmp 54) (.tmp 56) (Value.agg #[str t.np, str t.nn]) (Value.agg #[str p.np, str p.nn]) bT]) Tryz.func89 (by kernel_rfl) (by kernel_rfl) ⟨bin_ieq (by simp [h]), bin_ieq (by simp [h]), bin_ine (by simp [ht]), bin_synH (by rw [sy_no hne]; rfl), trivial⟩
theorem w_rmL {p t : Te} {s : As} {rs : List (List Dt)} {b : Bool} (h : p.kind = 3) (ht : t.kind = 3) (hne : t.np = p.np ∧ t.nn = p.nn) (hm : Puk 108 [tesA p.args, tesA t.args, .dt (.row (asT s))] (.tup [.dt (.row rs), boA b])) : Puk rMt [teA p, teA t, .dt (.row (asT s))] (.tup [.dt (.row rs), boA b]) :=
  pwalk (an := [yF, yF, yF, yF, .av (.tup [.dt (.row rs), boA b])]) (ls := []) (ps := [Bn .eql 3 (.tmp 11) (.const (vi 1)) (vi p.kind) (vi 1) bF, Bn .eql 3 (.tmp 11) (.const (vi 2)) (vi p.kind) (vi 2) bF, Bn .neq 3 (.tmp 50) (.const (vi 3)) (vi t.kind) (vi 3) bF, Bn .neq 32 (.tmp 54) (.tmp 56) (Value.agg #[str t.np, str t.nn]) (Value.agg #[str p.np, str p.nn]) bF, Puk 108 [(.dt (.row (List.map Te.enc p.args))), (.dt (.row (List.map Te.enc t.args))), (.dt (.row (asT s)))] (.tup [(.dt (.row rs)), (boA b)])]) Tryz.func89 (by kernel_rfl) (by kernel_rfl) ⟨bin_ieq (by simp [h]), bin_ieq (by simp [h]), bin_ine (by simp [ht]), bin_synH (by rw [sy_yes hne]; rfl), hm, trivial⟩
abbrev rmS (p t : List Te) (s : As) (i : Int) : AS := ⟨stt 39 [(0, tesA p), (1, tesA t), (2, .dt (.row (asT s))), (8, inA i)], []⟩
abbrev rmR : AS := ⟨stt 39 [(6, .nil), (7, boA false)], []⟩
noncomputable abbrev rmB : Code := subC (bodyOf Tryz.f108) [1,1,0,1,0,0]
theorem rmB1 {p t : List Te} {x y : Te} {s s' : As} {i : Nat} (hx : p[i]? = some x) (hy : t[i]? = some y) (hl : t.length ≤ 1000) (h : Puk rMt [teA x, teA y, .dt (.row (asT s))] (.tup [.dt (.row (asT s')), boA true])) : Tri EX rmB (rmS p t s i) .nxt (rmS p t s' ((i + 1 : Nat) : Int)) :=
  have hi := (List.getElem?_eq_some_iff.1 hy).1
  twalk (c := subC (bodyOf Tryz.f108) [1,1,0,1,0,0]) (s := rmS p t s i) (an := [.av (inA t.length), yT, .av (.pin ((encT x).map .dt)), .av (.pin ((encT y).map .dt)), .av (.tup [.dt (.row (asT s')), boA true]), .av (inA ((i + 1 : Nat) : Int))]) (ls := []) (ft := [0,1,2,8]) (nb := 0) (e := .nxt) (s' := rmS p t s' ((i + 1 : Nat) : Int)) (ps := [(vi ↑t.length) = (vi (↑(List.map Te.enc t).length)), Bn .lss 3 (.tmp 16) (.tmp 18) (vi ↑i) (vi ↑t.length) bT, IxAt (List.map Te.enc p) ↑i 11 (encT x), IxAt (List.map Te.enc t) ↑i 11 (encT y), Puk 89 [(teA x), (teA y), (.dt (.row (asT s)))] (.tup [(.dt (.row (asT s'))), (boA true)]), Bn .add 3 (.tmp 20) (.const (vi 1)) (vi ↑i) (vi 1) (vi (↑(i + 1)))]) (by kernel_rfl) ⟨lenEncT _, bin_ilt (decide_eq_true (by omega)), ix_te hx, ix_te hy, h, bin_iadd (by omega) (by omega) (by omega), trivial⟩
theorem rmB2 {p t : List Te} {x y : Te} {s : As} {i : Nat} (hx : p[i]? = some x) (hy : t[i]? = some y) (h : Puk rMt [teA x, teA y, .dt (.row (asT s))] (.tup [.dt (.row []), boA false])) : Tri EX rmB (rmS p t s i) .ret rmR :=
  have hi := (List.getElem?_eq_some_iff.1 hy).1
  twalk (c := subC (bodyOf Tryz.f108) [1,1,0,1,0,0]) (s := rmS p t s i) (an := [.av (inA t.length), yT, .av (.pin ((encT x).map .dt)), .av (.pin ((encT y).map .dt)), .av (.tup [.dt (.row []), boA false])]) (ls := []) (ft := [6,7]) (nb := 0) (e := .ret) (s' := rmR) (ps := [(vi ↑t.length) = (vi (↑(List.map Te.enc t).length)), Bn .lss 3 (.tmp 16) (.tmp 18) (vi ↑i) (vi ↑t.length) bT, IxAt (List.map Te.enc p) ↑i 11 (encT x), IxAt (List.map Te.enc t) ↑i 11 (encT y), Puk 89 [(teA x), (teA y), (.dt (.row (asT s)))] (.tup [(.dt (.row [])), (boA false)])]) (by kernel_rfl) ⟨lenEncT _, bin_ilt (decide_eq_true (by omega)), ix_te hx, ix_te hy, h, trivial⟩
theorem rmB3 {p t : List Te} {s : As} {i : Nat} (hi : i = t.length) : Tri EX rmB (rmS p t s i) (.out 0) (rmS p t s i) :=
  twalk (c := subC (bodyOf Tryz.f108) [1,1,0,1,0,0]) (s := rmS p t s i) (an := [.av (inA t.length), yF]) (ls := []) (ft := [0,1,2,8]) (nb := 0) (e := .out 0) (s' := rmS p t s i) (ps := [(vi ↑t.length) = (vi (↑(List.map Te.enc t).length)), Bn .lss 3 (.tmp 16) (.tmp 18) (vi ↑i) (vi ↑t.length) bF]) (by kernel_rfl) ⟨lenEncT _, bin_ilt (decide_eq_false (by omega)), trivial⟩
theorem w_rmA1 {p t : List Te} {s s' : As} (hl : p.length = t.length) (h : Tri EX (.loop rmB) (rmS p t s 0) (.out 0) (rmS p t s' t.length)) : Puk 108 [tesA p, tesA t, .dt (.row (asT s))] (.tup [.dt (.row (asT s')), boA true]) :=
  pwalk (an := [.av (inA p.length), .av (inA t.length), yF]) (ls := [.inv [0,1,2,8] 0 (.out 0) (rmS p t s' t.length)]) (ps := [(vi ↑p.length) = (vi (↑(List.map Te.enc p).length)), (vi ↑t.length) = (vi (↑(List.map Te.enc t).length)), Bn .neq 3 (.tmp 12) (.tmp 14) (vi ↑p.length) (vi ↑t.length) bF, Tri EX (.loop (subC (bodyOf Tryz.f108) [1,1,0,1,0,0])) (rmS p t s 0) (.out 0) (rmS p t s' t.length)]) Tryz.func108 (by kernel_rfl) (by kernel_rfl) ⟨lenEncT _, lenEncT _, bin_ine (by simp; omega), h, trivial⟩
theorem w_rmA2 {p t : List Te} {s : As} (hl : p.length = t.length) (h : Tri EX (.loop rmB) (rmS p t s 0) .ret rmR) : Puk 108 [tesA p, tesA t, .dt (.row (asT s))] (.tup [.dt (.row []), boA false]) :=
  pwalk (an := [.av (inA p.length), .av (inA t.length), yF]) (ls := [.inv [0,1,2,8] 0 (.ret) (rmR)]) (ps := [(vi ↑p.length) = (vi (↑(List.map Te.enc p).length)), (vi ↑t.length) = (vi (↑(List.map Te.enc t).length)), Bn .neq 3 (.tmp 12) (.tmp 14) (vi ↑p.length) (vi ↑t.length) bF, Tri EX (.loop (subC (bodyOf Tryz.f108) [1,1,0,1,0,0])) (rmS p t s 0) (.ret) (rmR)]) Tryz.func108 (by kernel_rfl) (by kernel_rfl) ⟨lenEncT _, lenEncT _, bin_ine (by simp; omega), h, trivial⟩
theorem w_rmA3 {p t : List Te} {s : As} (hl : p.length ≠ t.length) : Puk 108 [tesA p, tesA t, .dt (.row (asT s))] (.tup [.dt (.row []), boA false]) :=
  pwalk (an := [.av (inA p.length), .av (inA t.length), yT]) (ls := []) (ps := [(vi ↑p.length) = (vi (↑(List.map Te.enc p).length)), (vi ↑t.length) = (vi (↑(List.map Te.enc t).length)), Bn .neq 3 (.tmp 12) (.tmp 14) (vi ↑p.length) (vi ↑t.length) bT]) Tryz.func108 (by kernel_rfl) (by kernel_rfl) ⟨lenEncT _, lenEncT _, bin_ine (by simp; omega), trivial⟩
def RmOK (p : Te) : Prop := ∀ (t : Te) (s : As), t.Mkd → AsOK s → ((mt p t s).1 = true → Puk rMt [teA p, teA t, .dt (.row (asT s))] (.tup [.dt (.row (asT (mt p t s).2)), boA true])) ∧ ((mt p t s).1 = false → Puk rMt [teA p, teA t, .dt (.row (asT s))] (.tup [.dt (.row []), boA false]))
theorem rm_loop {P T : List Te} (hp : ∀ x ∈ P, x.Mkd) (ht : ∀ x ∈ T, x.Mkd) (hl : P.length = T.length) (hl1 : T.length ≤ 1000) (ih : ∀ x ∈ P, RmOK x) : ∀ (l m : List Te) (i : Nat) (s : As), P.drop i = l → T.drop i = m → i ≤ P.length → AsOK s →
    ((mtL l m s).1 = true → Lps EX rmB (rmS P T s i) (.out 0) (rmS P T (mtL l m s).2 T.length)) ∧ ((mtL l m s).1 = false → Lps EX rmB (rmS P T s i) .ret rmR) := by
  intro l
  induction l with
  | nil =>
    intro m i s hd hm hi hs
    have e1 := congrArg List.length hd
    rw [List.length_drop, List.length_nil] at e1
    obtain rfl : i = T.length := by omega
    have e : mtL [] m s = (true, s) := by cases m <;> (rw [mtL]; all_goals simp)
    rw [e]
    exact ⟨fun _ => .stop (rmB3 rfl) (fun h => by cases h), fun h => by cases h⟩
  | cons x l ihl =>
    intro m i s hd hm hi hs
    have hx : P[i]? = some x := by rw [← List.head?_drop, hd]; rfl
    have hlt := (List.getElem?_eq_some_iff.1 hx).1
    cases m with
    | nil =>
      have e1 := congrArg List.length hm
      rw [List.length_drop, List.length_nil] at e1
      omega
    | cons y m =>
      have hy : T[i]? = some y := by rw [← List.head?_drop, hm]; rfl
      have hxm := List.mem_of_getElem? hx
      have hyk := ht _ (List.mem_of_getElem? hy)
      have hok := mt_ok (hp _ hxm) y s hyk hs
      obtain ⟨k1, k2⟩ := ih x hxm y s hyk hs
      rw [mtL]
      cases hb : (mt x y s).1 with
      | true =>
        have e : mt x y s = (true, (mt x y s).2) := by rw [← hb]
        rw [e]
        obtain ⟨j1, j2⟩ := ihl m (i + 1) (mt x y s).2 (by rw [← List.drop_drop, hd]; rfl) (by rw [← List.drop_drop, hm]; rfl) hlt hok
        exact ⟨fun h => .more (rmB1 hx hy hl1 (k1 hb)) (j1 h), fun h => .more (rmB1 hx hy hl1 (k1 hb)) (j2 h)⟩
      | false =>
        have e : mt x y s = (false, (mt x y s).2) := by rw [← hb]
        rw [e]
        exact ⟨fun h => (by cases h), fun _ => .stop (rmB2 hx hy (k2 hb)) (fun h => by cases h)⟩
/-- Match of the reference -/
theorem p_rMt {p : Te} (hp : p.Mkd) : RmOK p := by
  induction hp with
  | var n hn =>
    intro t s ht hs
    have hlen := hs.len
    obtain ⟨g1, g2⟩ := p_rAsgd (s := s) (a := userB) (b := n) (by omega)
    rw [mt_var]
    cases hl : asgd s userB n with
    | none =>
      refine ⟨fun _ => ?_, fun h => by cases h⟩
      have := w_rmN (p := varT n) (t := t) rfl (by omega) (g1 hl)
      rw [asT_snoc] at this
      exact this
    | some x =>
      have he : Puk 22 [teA x, teA t] (boA (decide (x = t))) := p_req (hs.asgd hl).wf t
      refine ⟨fun h => ?_, fun h => ?_⟩
      · have h : decide (x = t) = true := h
        rw [h] at he
        exact w_rmS (p := varT n) rfl (g2 x hl) he
      · have h : decide (x = t) = false := h
        rw [h] at he
        exact w_rmF (p := varT n) rfl (g2 x hl) he
  | con o ho =>
    intro t s ht hs
    rw [mt_con]
    have he : Puk 22 [teA (Te.con o.ob), teA t] (boA (decide (Te.con o.ob = t))) := p_req (Mkd.con o ho).wf t
    refine ⟨fun h => ?_, fun h => ?_⟩
    · have h : decide (Te.con o.ob = t) = true := h
      rw [h] at he
      exact w_rmC (p := Te.con o.ob) rfl he
    · have h : decide (Te.con o.ob = t) = false := h
      rw [h] at he
      exact w_rmD (p := Te.con o.ob) rfl he
  | ap n l hn hl hx ih =>
    intro t s ht hs
    have htl := Mkd.len ht
    rw [mt_ap]
    by_cases hk : t.kind = 3
    · rw [if_pos hk]
      by_cases hc : t.np = lispB ∧ t.nn = n
      · by_cases hll : l.length = t.args.length
        · rw [if_pos ⟨hc.1.symm, hc.2.symm, hll⟩]
          obtain ⟨k1, k2⟩ := rm_loop hx (fun y hy => ht.kids hy) hll (by omega) ih l t.args 0 s rfl rfl (Nat.zero_le _) hs
          exact ⟨fun h => w_rmL (p := Te.ap n l) rfl hk hc (w_rmA1 hll (k1 h).tri), fun h => w_rmL (p := Te.ap n l) rfl hk hc (w_rmA2 hll (k2 h).tri)⟩
        · rw [if_neg (fun h => hll h.2.2)]
          exact ⟨fun h => (by cases h), fun _ => w_rmL (p := Te.ap n l) rfl hk hc (w_rmA3 hll)⟩
      · rw [if_neg (fun h => hc ⟨h.1.symm, h.2.1.symm⟩)]
        exact ⟨fun h => (by cases h), fun _ => w_rmE (p := Te.ap n l) rfl hk hc⟩
    · rw [if_neg hk]
      exact ⟨fun h => (by cases h), fun _ => w_rmK (p := Te.ap n l) rfl hk⟩
end Go.Proofs.YtendgffijciehaaGreatDoor
/- Subsumes of both texts. -/
namespace Go.Proofs.YtendgffijciehaaGreatDoor
open Go.RowKit
open Te

theorem enc_cons (p : Te) (r : List Te) : tesA (p :: r) = .dt (.row (encT p :: r.map Te.enc)) := by
  show AV.dt (.row (p.enc :: r.map Te.enc)) = _
  rw [enc_T]
/- the reference's search -/
abbrev srF : FuncId := 68
theorem w_sr0 {b : List Te} {ss : List (List Dt)} : Puk srF [tesA [], tesA b, .dt (.row ss)] (boA true) :=
  pwalk (an := [.no, .no]) (ls := []) (ps := []) Tryz.func68 (by kernel_rfl) (by kernel_rfl) trivial
abbrev srS (p : Te) (rs : List (List Dt)) (b : List Te) (ss : List (List Dt)) (i : Int) : AS := ⟨stt 39 [(0, .dt (.row (encT p :: rs))), (1, tesA b), (2, .dt (.row ss)), (7, inA i)], []⟩
abbrev srR : AS := ⟨stt 39 [(6, boA true)], []⟩
noncomputable abbrev srB : Code := subC (bodyOf Tryz.f68) [1,1,0,1,0,0]
theorem slc_1 (p : Te) (rs : List (List Dt)) (h : ∀ x ∈ rs, x.length = 11) : SlcOK (encT p :: rs) 11 ((some (1 : Int)).getD 0) ((none : Option Int).getD ((encT p :: rs).length : Int)) rs :=
  ⟨by show (0 : Int) ≤ 1; omega, by show (1 : Int) ≤ ((rs.length + 1 : Nat) : Int); omega, Int.le_refl _, by
    show rs = List.drop 1 (List.take (((rs.length + 1 : Nat) : Int)).toNat (encT p :: rs))
    rw [Int.toNat_natCast, List.take_of_length_le (by simp)]
    rfl, .inr fun x hx => by
    rcases List.mem_cons.1 hx with rfl | hx
    · rfl
    · exact h x hx⟩
theorem srB1 {p y : Te} {rs ss ss' : List (List Dt)} {b : List Te} {i : Nat} (hy : b[i]? = some y) (hr : ∀ x ∈ rs, x.length = 11) (h : Puk rMt [teA p, teA y, .dt (.row ss)] (.tup [.dt (.row ss'), boA true])) (hs : Puk srF [.dt (.row rs), tesA b, .dt (.row ss')] (boA true)) : Tri EX srB (srS p rs b ss i) .ret srR :=
  have hi := (List.getElem?_eq_some_iff.1 hy).1
  twalk (c := subC (bodyOf Tryz.f68) [1,1,0,1,0,0]) (s := srS p rs b ss i) (an := [.av (inA b.length), yT, .no, .av (.pin ((encT y).map .dt)), .av (.tup [.dt (.row ss'), boA true]), .av (.dt (.row rs)), yT]) (ls := []) (ft := [6]) (nb := 0) (e := .ret) (s' := srR) (ps := [(vi ↑b.length) = (vi (↑(List.map Te.enc b).length)), Bn .lss 3 (.tmp 13) (.tmp 15) (vi ↑i) (vi ↑b.length) bT, IxAt (List.map Te.enc b) ↑i 11 (encT y), Puk 89 [(teA p), (teA y), (.dt (.row ss))] (.tup [(.dt (.row ss')), (boA true)]), SlcOK (encT p :: rs) 11 ((some 1).getD 0) (none.getD ↑(encT p :: rs).length) rs, (none : Option Int) = none ∨ (none : Option Int) = none, Puk 68 [(.dt (.row rs)), (.dt (.row (List.map Te.enc b))), (.dt (.row ss'))] (boA true)]) (by kernel_rfl) ⟨lenEncT _, bin_ilt (decide_eq_true (by omega)), ix_te hy, h, slc_1 p rs hr, .inl rfl, hs, trivial⟩
theorem srB2 {p y : Te} {rs ss ss' : List (List Dt)} {b : List Te} {i : Nat} (hl : b.length ≤ 1000) (hy : b[i]? = some y) (hr : ∀ x ∈ rs, x.length = 11) (h : Puk rMt [teA p, teA y, .dt (.row ss)] (.tup [.dt (.row ss'), boA true])) (hs : Puk srF [.dt (.row rs), tesA b, .dt (.row ss')] (boA false)) : Tri EX srB (srS p rs b ss i) .nxt (srS p rs b ss ((i + 1 : Nat) : Int)) :=
  have hi := (List.getElem?_eq_some_iff.1 hy).1
  twalk (c := subC (bodyOf Tryz.f68) [1,1,0,1,0,0]) (s := srS p rs b ss i) (an := [.av (inA b.length), yT, .no, .av (.pin ((encT y).map .dt)), .av (.tup [.dt (.row ss'), boA true]), .av (.dt (.row rs)), yF, .av (inA ((i + 1 : Nat) : Int))]) (ls := []) (ft := [0,1,2,7]) (nb := 0) (e := .nxt) (s' := srS p rs b ss ((i + 1 : Nat) : Int)) (ps := [(vi ↑b.length) = (vi (↑(List.map Te.enc b).length)), Bn .lss 3 (.tmp 13) (.tmp 15) (vi ↑i) (vi ↑b.length) bT, IxAt (List.map Te.enc b) ↑i 11 (encT y), Puk 89 [(teA p), (teA y), (.dt (.row ss))] (.tup [(.dt (.row ss')), (boA true)]), SlcOK (encT p :: rs) 11 ((some 1).getD 0) (none.getD ↑(encT p :: rs).length) rs, (none : Option Int) = none ∨ (none : Option Int) = none, Puk 68 [(.dt (.row rs)), (.dt (.row (List.map Te.enc b))), (.dt (.row ss'))] (boA false), Bn .add 3 (.tmp 17) (.const (vi 1)) (vi ↑i) (vi 1) (vi (↑(i + 1)))]) (by kernel_rfl) ⟨lenEncT _, bin_ilt (decide_eq_true (by omega)), ix_te hy, h, slc_1 p rs hr, .inl rfl, hs, bin_iadd (by omega) (by omega) (by omega), trivial⟩
theorem srB3 {p y : Te} {rs ss : List (List Dt)} {b : List Te} {i : Nat} (hl : b.length ≤ 1000) (hy : b[i]? = some y) (h : Puk rMt [teA p, teA y, .dt (.row ss)] (.tup [.dt (.row []), boA false])) : Tri EX srB (srS p rs b ss i) .nxt (srS p rs b ss ((i + 1 : Nat) : Int)) :=
  have hi := (List.getElem?_eq_some_iff.1 hy).1
  twalk (c := subC (bodyOf Tryz.f68) [1,1,0,1,0,0]) (s := srS p rs b ss i) (an := [.av (inA b.length), yT, .no, .av (.pin ((encT y).map .dt)), .av (.tup [.dt (.row []), boA false]), .av (inA ((i + 1 : Nat) : Int))]) (ls := []) (ft := [0,1,2,7]) (nb := 0) (e := .nxt) (s' := srS p rs b ss ((i + 1 : Nat) : Int)) (ps := [(vi ↑b.length) = (vi (↑(List.map Te.enc b).length)), Bn .lss 3 (.tmp 13) (.tmp 15) (vi ↑i) (vi ↑b.length) bT, IxAt (List.map Te.enc b) ↑i 11 (encT y), Puk 89 [(teA p), (teA y), (.dt (.row ss))] (.tup [(.dt (.row [])), (boA false)]), Bn .add 3 (.tmp 17) (.const (vi 1)) (vi ↑i) (vi 1) (vi (↑(i + 1)))]) (by kernel_rfl) ⟨lenEncT _, bin_ilt (decide_eq_true (by omega)), ix_te hy, h, bin_iadd (by omega) (by omega) (by omega), trivial⟩
theorem srB4 {p : Te} {rs ss : List (List Dt)} {b : List Te} {i : Nat} (hi : i = b.length) : Tri EX srB (srS p rs b ss i) (.out 0) (srS p rs b ss i) :=
  twalk (c := subC (bodyOf Tryz.f68) [1,1,0,1,0,0]) (s := srS p rs b ss i) (an := [.av (inA b.length), yF]) (ls := []) (ft := [0,1,2,7]) (nb := 0) (e := .out 0) (s' := srS p rs b ss i) (ps := [(vi ↑b.length) = (vi (↑(List.map Te.enc b).length)), Bn .lss 3 (.tmp 13) (.tmp 15) (vi ↑i) (vi ↑b.length) bF]) (by kernel_rfl) ⟨lenEncT _, bin_ilt (decide_eq_false (by omega)), trivial⟩
theorem w_sr1 {p : Te} {rs ss : List (List Dt)} {b : List Te} (hl : rs.length ≤ 1000) (h : Tri EX (.loop srB) (srS p rs b ss 0) .ret srR) : Puk srF [.dt (.row (encT p :: rs)), tesA b, .dt (.row ss)] (boA true) :=
  pwalk (an := [.av (inA (rs.length + 1 : Nat)), yF]) (ls := [.inv [0,1,2,7] 0 (.ret) (srR)]) (ps := [(vi (↑(rs.length + 1))) = (vi (↑(encT p :: rs).length)), Bn .eql 3 (.tmp 11) (.const (vi 0)) (vi (↑(rs.length + 1))) (vi 0) bF, Tri EX (.loop (subC (bodyOf Tryz.f68) [1,1,0,1,0,0])) (srS p rs b ss 0) (.ret) (srR)]) Tryz.func68 (by kernel_rfl) (by kernel_rfl) ⟨rfl, bin_ieq (decide_eq_false (by omega)), h, trivial⟩
theorem w_sr2 {p : Te} {rs ss : List (List Dt)} {b : List Te} (hl : rs.length ≤ 1000) (h : Tri EX (.loop srB) (srS p rs b ss 0) (.out 0) (srS p rs b ss b.length)) : Puk srF [.dt (.row (encT p :: rs)), tesA b, .dt (.row ss)] (boA false) :=
  pwalk (an := [.av (inA (rs.length + 1 : Nat)), yF]) (ls := [.inv [0,1,2,7] 0 (.out 0) (srS p rs b ss b.length)]) (ps := [(vi (↑(rs.length + 1))) = (vi (↑(encT p :: rs).length)), Bn .eql 3 (.tmp 11) (.const (vi 0)) (vi (↑(rs.length + 1))) (vi 0) bF, Tri EX (.loop (subC (bodyOf Tryz.f68) [1,1,0,1,0,0])) (srS p rs b ss 0) (.out 0) (srS p rs b ss b.length)]) Tryz.func68 (by kernel_rfl) (by kernel_rfl) ⟨rfl, bin_ieq (decide_eq_false (by omega)), h, trivial⟩
theorem len11 (r : List Te) : ∀ x ∈ r.map Te.enc, x.length = 11 := fun x hx => by
  obtain ⟨y, _, rfl⟩ := List.mem_map.1 hx
  rw [enc_T]
  rfl
theorem sr_loop {p : Te} {r B : List Te} (hp : p.Mkd) (hb : ∀ y ∈ B, y.Mkd) (hl : B.length ≤ 1000) {s : As} (hs : AsOK s) (ih : ∀ s', AsOK s' → Puk srF [tesA r, tesA B, .dt (.row (asT s'))] (boA (srch r B s'))) : ∀ (b : List Te) (i : Nat), B.drop i = b → i ≤ B.length →
    ((b.any fun l => (mt p l s).1 && srch r B (mt p l s).2) = true → Lps EX srB (srS p (r.map Te.enc) B (asT s) i) .ret srR) ∧ ((b.any fun l => (mt p l s).1 && srch r B (mt p l s).2) = false → Lps EX srB (srS p (r.map Te.enc) B (asT s) i) (.out 0) (srS p (r.map Te.enc) B (asT s) B.length)) := by
  intro b
  induction b with
  | nil =>
    intro i hd hi
    have e1 := congrArg List.length hd
    rw [List.length_drop, List.length_nil] at e1
    obtain rfl : i = B.length := by omega
    exact ⟨fun h => (by cases h), fun _ => .stop (srB4 rfl) (fun h => by cases h)⟩
  | cons y b ihb =>
    intro i hd hi
    have hy : B[i]? = some y := by rw [← List.head?_drop, hd]; rfl
    have hlt := (List.getElem?_eq_some_iff.1 hy).1
    have hym := hb y (List.mem_of_getElem? hy)
    obtain ⟨k1, k2⟩ := p_rMt hp y s hym hs
    have hok := mt_ok hp y s hym hs
    obtain ⟨j1, j2⟩ := ihb (i + 1) (by rw [← List.drop_drop, hd]; rfl) hlt
    rw [List.any_cons]
    cases hm : (mt p y s).1 with
    | false =>
      rw [Bool.false_and, Bool.false_or]
      exact ⟨fun h => .more (srB3 hl hy (k2 hm)) (j1 h), fun h => .more (srB3 hl hy (k2 hm)) (j2 h)⟩
    | true =>
      have hi2 := ih _ hok
      rw [Bool.true_and]
      cases hc : srch r B (mt p y s).2 with
      | true =>
        rw [hc] at hi2
        exact ⟨fun _ => .stop (srB1 hy (len11 r) (k1 hm) hi2) (fun h => by cases h), fun h => by cases h⟩
      | false =>
        rw [hc] at hi2
        rw [Bool.false_or]
        exact ⟨fun h => .more (srB2 hl hy (len11 r) (k1 hm) hi2) (j1 h), fun h => .more (srB2 hl hy (len11 r) (k1 hm) hi2) (j2 h)⟩
theorem p_srch {B : List Te} (hb : ∀ y ∈ B, y.Mkd) (hl : B.length ≤ 1000) : ∀ (a : List Te) (s : As), a.length ≤ 1000 → (∀ x ∈ a, x.Mkd) → AsOK s → Puk srF [tesA a, tesA B, .dt (.row (asT s))] (boA (srch a B s))
  | [], s, _, _, _ => w_sr0
  | p :: r, s, ha, hm, hs => by
    have hr : r.length ≤ 1000 := by rw [List.length_cons] at ha; omega
    obtain ⟨k1, k2⟩ := sr_loop (r := r) (hm p (List.mem_cons_self ..)) hb hl hs (fun s' hs' => p_srch hb hl r s' hr (fun x hx => hm x (List.mem_cons_of_mem _ hx)) hs') B 0 rfl (Nat.zero_le _)
    rw [enc_cons, srch]
    cases hc : B.any fun l => (mt p l s).1 && srch r B (mt p l s).2 with
    | true => exact w_sr1 (by rw [List.length_map]; exact hr) (k1 hc).tri
    | false => exact w_sr2 (by rw [List.length_map]; exact hr) (k2 hc).tri
/- the code -/
abbrev suF : FuncId := 67
theorem w_suF {p y : Te} {rs ss : List (List Dt)} {b : List Te} (h : Puk 88 [teA p, teA y, .dt (.row ss)] (.tup [.dt (.row []), boA false])) : Puk 87 [teA y, .pin [.dt (.row (encT p :: rs))], .pin [.dt (.row ss)], .pin [tesA b]] (boA false) :=
  pwalk (an := [.no, .av (.tup [.dt (.row []), boA false])]) (ls := []) (ps := [Puk 88 [(teA p), (teA y), (.dt (.row ss))] (.tup [(.dt (.row [])), (boA false)])]) Tryz.func87 (by kernel_rfl) (by kernel_rfl) ⟨h, trivial⟩
theorem w_suT {p y : Te} {rs ss ss' : List (List Dt)} {b : List Te} {c : Bool} (hr : ∀ x ∈ rs, x.length = 11) (h : Puk 88 [teA p, teA y, .dt (.row ss)] (.tup [.dt (.row ss'), boA true])) (hs : Puk suF [.dt (.row rs), tesA b, .dt (.row ss')] (boA c)) : Puk 87 [teA y, .pin [.dt (.row (encT p :: rs))], .pin [.dt (.row ss)], .pin [tesA b]] (boA c) :=
  pwalk (an := [.no, .av (.tup [.dt (.row ss'), boA true]), .av (.dt (.row rs)), .av (boA c)]) (ls := []) (ps := [Puk 88 [(teA p), (teA y), (.dt (.row ss))] (.tup [(.dt (.row ss')), (boA true)]), SlcOK (encT p :: rs) 11 ((some 1).getD 0) (none.getD ↑(encT p :: rs).length) rs, (none : Option Int) = none ∨ (none : Option Int) = none, Puk 67 [(.dt (.row rs)), (.dt (.row (List.map Te.enc b))), (.dt (.row ss'))] (boA c)]) Tryz.func87 (by kernel_rfl) (by kernel_rfl) ⟨h, slc_1 p rs hr, .inl rfl, hs, trivial⟩
theorem w_su1 {p : Te} {rs ss : List (List Dt)} {b : List Te} {c : Bool} (hl : rs.length ≤ 1000) (h : Puk 53 [tesA b, .clf 87 [.pin [.dt (.row (encT p :: rs))], .pin [.dt (.row ss)], .pin [tesA b]]] (boA c)) : Puk suF [.dt (.row (encT p :: rs)), tesA b, .dt (.row ss)] (boA c) :=
  pwalk (an := [.av (inA (rs.length + 1 : Nat)), yF, .av (boA c)]) (ls := []) (ps := [(vi (↑(rs.length + 1))) = (vi (↑(encT p :: rs).length)), Bn .eql 3 (.tmp 8) (.const (vi 0)) (vi (↑(rs.length + 1))) (vi 0) bF, Puk 53 [(.dt (.row (List.map Te.enc b))), (.clf 87 [(.pin [(.dt (.row (encT p :: rs)))]), (.pin [(.dt (.row ss))]), (.pin [(.dt (.row (List.map Te.enc b)))])])] (boA c)]) Tryz.func67 (by kernel_rfl) (by kernel_rfl) ⟨rfl, bin_ieq (decide_eq_false (by omega)), h, trivial⟩
theorem p_subsu {B : List Te} (hb : ∀ y ∈ B, y.Mkd) (hl : B.length ≤ 1000) : ∀ (a : List Te) (s : As), a.length ≤ 1000 → (∀ x ∈ a, x.Mkd) → AsOK s → Puk suF [tesA a, tesA B, .dt (.row (asT s))] (boA (srch a B s))
  | [], s, _, _, _ => p_sub0 B (asT s)
  | p :: r, s, ha, hm, hs => by
    have hr : r.length ≤ 1000 := by rw [List.length_cons] at ha; omega
    have hpm := hm p (List.mem_cons_self ..)
    rw [enc_cons, srch]
    refine w_su1 (by rw [List.length_map]; exact hr) (p_ctFunc (cs := [.pin [.dt (.row (encT p :: r.map Te.enc))], .pin [.dt (.row (asT s))], .pin [tesA B]]) (p := fun l => (mt p l s).1 && srch r B (mt p l s).2) (by omega) fun y hy => ?_)
    obtain ⟨k1, k2⟩ := p_Match hpm (hb y hy) hs
    cases hc : (mt p y s).1 with
    | false => rw [Bool.false_and]; exact w_suF (k2 hc)
    | true => rw [Bool.true_and]; exact w_suT (len11 r) (k1 hc) (p_subsu hb hl r _ hr (fun x hx => hm x (List.mem_cons_of_mem _ hx)) (mt_ok hpm y s (hb y hy) hs))
/- Subsumes -/
def subs (a b : List Te) : Bool := if 8 < a.length then a.all (fun x => decide (x ∈ b)) else srch a b []
theorem w_cSu1 {a b : List Te} {c : Bool} (h : 8 < a.length) (hs : Puk 32 [tesA a, tesA b] (boA c)) : Puk 37 [tesA a, tesA b] (boA c) :=
  pwalk (an := [.av (inA a.length), yT, .av (boA c)]) (ls := []) (ps := [(vi ↑a.length) = (vi (↑(List.map Te.enc a).length)), Bn .gtr 3 (.tmp 6) (.const (vi 8)) (vi ↑a.length) (vi 8) bT, Puk 32 [(.dt (.row (List.map Te.enc a))), (.dt (.row (List.map Te.enc b)))] (boA c)]) Tryz.func37 (by kernel_rfl) (by kernel_rfl) ⟨lenEncT _, bin_igt (decide_eq_true (by omega)), hs, trivial⟩
theorem w_cSu2 {a b : List Te} {c : Bool} (h : ¬ 8 < a.length) (hs : Puk suF [tesA a, tesA b, .dt (.row [])] (boA c)) : Puk 37 [tesA a, tesA b] (boA c) :=
  pwalk (an := [.av (inA a.length), yF, .av (boA c)]) (ls := []) (ps := [(vi ↑a.length) = (vi (↑(List.map Te.enc a).length)), Bn .gtr 3 (.tmp 6) (.const (vi 8)) (vi ↑a.length) (vi 8) bF, Puk 67 [(.dt (.row (List.map Te.enc a))), (.dt (.row (List.map Te.enc b))), (.dt (.row []))] (boA c)]) Tryz.func37 (by kernel_rfl) (by kernel_rfl) ⟨lenEncT _, bin_igt (decide_eq_false (by omega)), hs, trivial⟩
theorem w_rSu1 {a b : List Te} {c : Bool} (h : 8 < a.length) (hs : Puk 33 [tesA a, tesA b] (boA c)) : Puk 38 [tesA a, tesA b] (boA c) :=
  pwalk (an := [.av (inA a.length), yT, .av (boA c)]) (ls := []) (ps := [(vi ↑a.length) = (vi (↑(List.map Te.enc a).length)), Bn .gtr 3 (.tmp 6) (.const (vi 8)) (vi ↑a.length) (vi 8) bT, Puk 33 [(.dt (.row (List.map Te.enc a))), (.dt (.row (List.map Te.enc b)))] (boA c)]) Tryz.func38 (by kernel_rfl) (by kernel_rfl) ⟨lenEncT _, bin_igt (decide_eq_true (by omega)), hs, trivial⟩
theorem w_rSu2 {a b : List Te} {c : Bool} (h : ¬ 8 < a.length) (hs : Puk srF [tesA a, tesA b, .dt (.row [])] (boA c)) : Puk 38 [tesA a, tesA b] (boA c) :=
  pwalk (an := [.av (inA a.length), yF, .av (boA c)]) (ls := []) (ps := [(vi ↑a.length) = (vi (↑(List.map Te.enc a).length)), Bn .gtr 3 (.tmp 6) (.const (vi 8)) (vi ↑a.length) (vi 8) bF, Puk 68 [(.dt (.row (List.map Te.enc a))), (.dt (.row (List.map Te.enc b))), (.dt (.row []))] (boA c)]) Tryz.func38 (by kernel_rfl) (by kernel_rfl) ⟨lenEncT _, bin_igt (decide_eq_false (by omega)), hs, trivial⟩
theorem p_Subs {a b : List Te} (ha : ∀ x ∈ a, x.Mkd) (hb : ∀ x ∈ b, x.Mkd) (hla : a.length ≤ 500) (hlb : b.length ≤ 500) : Puk 37 [tesA a, tesA b] (boA (subs a b)) ∧ Puk 38 [tesA a, tesA b] (boA (subs a b)) := by
  unfold subs
  by_cases h : 8 < a.length
  · rw [if_pos h]
    exact ⟨w_cSu1 h (p_cSb (by omega) (by omega) fun x hx => (hb x hx).wf), w_rSu1 h (p_rSb (by omega) (by omega) fun x hx => (hb x hx).wf)⟩
  · rw [if_neg h]
    exact ⟨w_cSu2 h (p_subsu hb (by omega) a [] (by omega) ha AsOK.nil), w_rSu2 h (p_srch hb (by omega) a [] (by omega) ha AsOK.nil)⟩
end Go.Proofs.YtendgffijciehaaGreatDoor
/- Substitute of the code. -/
namespace Go.Proofs.YtendgffijciehaaGreatDoor
open Go.RowKit
open Te

/- with: a call with other arguments -/
abbrev wiS (f : FuncId) (cs : List AV) (t : Te) (es : List (List Dt)) (i : Int) : AS := ⟨stt 34 [(1, .clf f cs), (2, .ptr 0 0), (4, .ptr 1 0), (5, .sl 2 t.args.length), (17, tesA t.args), (18, inA t.args.length), (19, inA i)], [some (.cells ((encT t).map .dt)), zTc, some (.rws 37 11 es)]⟩
noncomputable abbrev wiB : Code := subC (bodyOf Tryz.f84) [1,1,1,0,1,0,0]
theorem wiB1 {f : FuncId} {cs : List AV} {t x y : Te} {es : List (List Dt)} {i : Nat} (hx : t.args[i]? = some x) (hl : t.args.length ≤ 1000) (he : es.length = t.args.length) (h : Puk f ([teA x] ++ cs) (teA y)) : Tri EX wiB (wiS f cs t es i) .nxt (wiS f cs t (es.set i (encT y)) ((i + 1 : Nat) : Int)) :=
  have hi := (List.getElem?_eq_some_iff.1 hx).1
  twalk (c := subC (bodyOf Tryz.f84) [1,1,1,0,1,0,0]) (s := wiS f cs t es i) (an := [yT, .av (.pin ((encT x).map .dt)), .av (teA y), .av (.un), .av (inA ((i + 1 : Nat) : Int))]) (ls := []) (ft := [1,2,4,5,17,18,19]) (nb := 3) (e := .nxt) (s' := wiS f cs t (es.set i (encT y)) ((i + 1 : Nat) : Int)) (ps := [Bn .lss 3 (.tmp 19) (.tmp 18) (vi ↑i) (vi ↑t.args.length) bT, IxAt (List.map Te.enc t.args) ↑i 11 (encT x), Puk f ([(teA x)] ++ cs) (teA y), ((0 : Int) ≤ ↑i) ∧ ((↑i : Int) < ↑t.args.length), (Int.toNat ↑i) < es.length, Bn .add 3 (.tmp 19) (.const (vi 1)) (vi ↑i) (vi 1) (vi (↑(i + 1)))]) (by kernel_rfl) ⟨bin_ilt (decide_eq_true (by omega)), ix_te hx, h, ⟨Int.natCast_nonneg _, by omega⟩, by show i < es.length; omega, bin_iadd (by omega) (by omega) (by omega), trivial⟩
theorem wiB2 {f : FuncId} {cs : List AV} {t : Te} {es : List (List Dt)} {i : Nat} (hi : i = t.args.length) : Tri EX wiB (wiS f cs t es i) (.out 0) (wiS f cs t es i) :=
  twalk (c := subC (bodyOf Tryz.f84) [1,1,1,0,1,0,0]) (s := wiS f cs t es i) (an := [yF]) (ls := []) (ft := [1,2,4,5,17,18,19]) (nb := 3) (e := .out 0) (s' := wiS f cs t es i) (ps := [Bn .lss 3 (.tmp 19) (.tmp 18) (vi ↑i) (vi ↑t.args.length) bF]) (by kernel_rfl) ⟨bin_ilt (decide_eq_false (by omega)), trivial⟩
theorem w_with0 {f : FuncId} {cs : List AV} {t : Te} (h : t.kind ≠ 3) : Puk 84 [teA t, .clf f cs] (teA t) :=
  pwalk (an := [yT]) (ls := []) (ps := [Bn .neq 3 (.tmp 9) (.const (vi 3)) (vi t.kind) (vi 3) bT]) Tryz.func84 (by kernel_rfl) (by kernel_rfl) ⟨bin_ine (by simp [h]), trivial⟩
theorem w_with1 {f : FuncId} {cs : List AV} {t : Te} {es : List (List Dt)} (h : t.kind = 3) (hl : t.args.length ≤ 1000) (he : es.length = t.args.length) (ht : Tri EX (.loop wiB) (wiS f cs t (List.replicate t.args.length (encT zTe)) 0) (.out 0) (wiS f cs t es t.args.length)) : Puk 84 [teA t, .clf f cs] (.agg [inA t.kind, stA t.np, stA t.nn, inA t.val.kind, stA t.val.num, stA t.val.den, stA t.val.sp, stA t.val.sn, stA t.val.text, .dt (.row (t.val.pair.map Ob.enc)), .dt (.row es)]) :=
  pwalk (an := [yF, .av (inA t.args.length), .av (.sl 0 t.args.length), .av (inA t.args.length)]) (ls := [.inv [1,2,4,5,17,18,19] 3 (.out 0) (wiS f cs t es t.args.length)]) (ps := [Bn .neq 3 (.tmp 9) (.const (vi 3)) (vi t.kind) (vi 3) bF, (vi ↑t.args.length) = (vi (↑(List.map Te.enc t.args).length)), ((Int.ofNat t.args.length) = (Int.ofNat t.args.length)) ∧ (((Int.ofNat t.args.length) = (Int.ofNat t.args.length)) ∧ (FitM 176 ↑t.args.length)), (vi ↑t.args.length) = (vi (↑(List.map Te.enc t.args).length)), Tri EX (.loop (subC (bodyOf Tryz.f84) [1,1,1,0,1,0,0])) (wiS f cs t (List.replicate t.args.length (encT zTe)) 0) (.out 0) (wiS f cs t es t.args.length), es.length = t.args.length]) Tryz.func84 (by kernel_rfl) (by kernel_rfl) ⟨bin_ine (by simp [h]), lenEncT _, ⟨rfl, rfl, by omega, by omega, by show (t.args.length : Int) ≤ ((2 ^ 63 - 1 : Nat) : Int); omega⟩, lenEncT _, ht, he, trivial⟩
theorem wi_loop {f : FuncId} {cs : List AV} {t : Te} {g : Te → Te} (hl : t.args.length ≤ 1000) (h : ∀ x ∈ t.args, Puk f ([teA x] ++ cs) (teA (g x))) : ∀ (s : List Te) (i : Nat) (pre : List (List Dt)), t.args.drop i = s → i ≤ t.args.length → pre.length = i →
    Lps EX wiB (wiS f cs t (pre ++ List.replicate s.length (encT zTe)) i) (.out 0) (wiS f cs t (pre ++ s.map fun x => encT (g x)) t.args.length) := by
  intro s
  induction s with
  | nil =>
    intro i pre hd hi hp
    have e1 := congrArg List.length hd
    rw [List.length_drop, List.length_nil] at e1
    obtain rfl : i = t.args.length := by omega
    exact .stop (wiB2 rfl) (fun h => by cases h)
  | cons x s ih =>
    intro i pre hd hi hp
    have hx : t.args[i]? = some x := by rw [← List.head?_drop, hd]; rfl
    have hlt := (List.getElem?_eq_some_iff.1 hx).1
    have e1 := congrArg List.length hd
    rw [List.length_drop, List.length_cons] at e1
    have hs := wiB1 (es := pre ++ List.replicate (x :: s).length (encT zTe)) hx hl (by simp; omega) (h x (List.mem_of_getElem? hx))
    have e : (pre ++ List.replicate (x :: s).length (encT zTe)).set i (encT (g x)) = (pre ++ [encT (g x)]) ++ List.replicate s.length (encT zTe) := by
      rw [List.length_cons, List.replicate_succ, List.set_append_right i _ (by omega), hp, Nat.sub_self, List.set_cons_zero, List.append_assoc]
      rfl
    rw [e] at hs
    have k := ih (i + 1) (pre ++ [encT (g x)]) (by rw [← List.drop_drop, hd]; rfl) hlt (by simp [hp])
    rw [show pre ++ [encT (g x)] ++ s.map (fun x => encT (g x)) = pre ++ (x :: s).map (fun x => encT (g x)) by rw [List.append_assoc]; rfl] at k
    exact .more hs k
theorem mapEnc (l : List Te) (g : Te → Te) : (l.map fun x => encT (g x)) = (l.map g).map Te.enc := by
  rw [List.map_map]
  exact List.map_congr_left fun x _ => (enc_T (g x)).symm
theorem p_with {f : FuncId} {cs : List AV} {t : Te} {g : Te → Te} (h3 : t.kind = 3) (hl : t.args.length ≤ 1000) (h : ∀ x ∈ t.args, Puk f ([teA x] ++ cs) (teA (g x))) : Puk 84 [teA t, .clf f cs] (teA ⟨t.kind, t.np, t.nn, t.val, t.args.map g⟩) := by
  have k := (wi_loop hl h t.args 0 [] rfl (Nat.zero_le _) rfl).tri
  rw [List.nil_append, List.nil_append, mapEnc] at k
  exact w_with1 h3 hl (by simp) k
/- Substitute -/
abbrev sbX (t : Te) (s : As) (r : Option Bx) : List (Option Bx) := [some (.cells ((encT t).map .dt)), some (.cells [.dt (.row (asT s))]), r]
abbrev suS (t : Te) (s : As) (i : Int) : AS := ⟨stt 27 [(2, .ptr 0 0), (3, .ptr 1 0), (4, .ptr 2 0), (10, .dt (.row (asT s))), (11, inA s.length), (12, inA i)], sbX t s zTc⟩
abbrev suR (t : Te) (s : As) (x : Te) : AS := ⟨stt 27 [(4, .ptr 2 0)], sbX t s (some (.cells ((encT x).map .dt)))⟩
noncomputable abbrev suB : Code := subC (bodyOf Tryz.f65) [1,0,1,0,1,0,0]
theorem suB1 {t : Te} {s : As} {x : Te × Te} {i : Nat} (hx : s[i]? = some x) (hl : s.length ≤ 1000) (h : ¬ (x.1.np = t.np ∧ x.1.nn = t.nn)) : Tri EX suB (suS t s i) .nxt (suS t s ((i + 1 : Nat) : Int)) :=
  have hi := (List.getElem?_eq_some_iff.1 hx).1
  twalk (c := subC (bodyOf Tryz.f65) [1,0,1,0,1,0,0]) (s := suS t s i) (an := [yT, .av (.pin ((asg x.1 x.2).map .dt)), yF, .av (inA ((i + 1 : Nat) : Int))]) (ls := []) (ft := [2,3,4,10,11,12]) (nb := 3) (e := .nxt) (s' := suS t s ((i + 1 : Nat) : Int)) (ps := [Bn .lss 3 (.tmp 12) (.tmp 11) (vi ↑i) (vi (↑(List.length s))) bT, IxAt (asT s) ↑i 13 ([(.val (str x.fst.np)), (.val (str x.fst.nn)), (.val (vi x.snd.kind)), (.val (str x.snd.np)), (.val (str x.snd.nn)), (.val (vi x.snd.val.kind)), (.val (str x.snd.val.num)), (.val (str x.snd.val.den)), (.val (str x.snd.val.sp)), (.val (str x.snd.val.sn)), (.val (str x.snd.val.text)), (.row (List.map Ob.enc x.snd.val.pair)), (.row (List.map Te.enc x.snd.args))]), Bn .eql 32 (.tmp 17) (.tmp 19) (Value.agg #[str x.fst.np, str x.fst.nn]) (Value.agg #[str t.np, str t.nn]) bF, Bn .add 3 (.tmp 12) (.const (vi 1)) (vi ↑i) (vi 1) (vi (↑(i + 1)))]) (by kernel_rfl) ⟨bin_ilt (decide_eq_true (by omega)), ix_as hx, bin_syeq (sy_no h), bin_iadd (by omega) (by omega) (by omega), trivial⟩
theorem suB2 {t : Te} {s : As} {x : Te × Te} {i : Nat} (hx : s[i]? = some x) (h : x.1.np = t.np ∧ x.1.nn = t.nn) : Tri EX suB (suS t s i) .ret (suR t s x.2) :=
  have hi := (List.getElem?_eq_some_iff.1 hx).1
  twalk (c := subC (bodyOf Tryz.f65) [1,0,1,0,1,0,0]) (s := suS t s i) (an := [yT, .av (.pin ((asg x.1 x.2).map .dt)), yT]) (ls := []) (ft := [4]) (nb := 3) (e := .ret) (s' := suR t s x.2) (ps := [Bn .lss 3 (.tmp 12) (.tmp 11) (vi ↑i) (vi (↑(List.length s))) bT, IxAt (asT s) ↑i 13 ([(.val (str x.fst.np)), (.val (str x.fst.nn)), (.val (vi x.snd.kind)), (.val (str x.snd.np)), (.val (str x.snd.nn)), (.val (vi x.snd.val.kind)), (.val (str x.snd.val.num)), (.val (str x.snd.val.den)), (.val (str x.snd.val.sp)), (.val (str x.snd.val.sn)), (.val (str x.snd.val.text)), (.row (List.map Ob.enc x.snd.val.pair)), (.row (List.map Te.enc x.snd.args))]), Bn .eql 32 (.tmp 17) (.tmp 19) (Value.agg #[str x.fst.np, str x.fst.nn]) (Value.agg #[str t.np, str t.nn]) bT]) (by kernel_rfl) ⟨bin_ilt (decide_eq_true (by omega)), ix_as hx, bin_syeq (sy_yes h), trivial⟩
theorem suB3 {t : Te} {s : As} {i : Nat} (hi : i = s.length) : Tri EX suB (suS t s i) (.out 0) (suS t s i) :=
  twalk (c := subC (bodyOf Tryz.f65) [1,0,1,0,1,0,0]) (s := suS t s i) (an := [yF]) (ls := []) (ft := [2,3,4,10,11,12]) (nb := 3) (e := .out 0) (s' := suS t s i) (ps := [Bn .lss 3 (.tmp 12) (.tmp 11) (vi ↑i) (vi (↑(List.length s))) bF]) (by kernel_rfl) ⟨bin_ilt (decide_eq_false (by omega)), trivial⟩
abbrev sbC (s : As) : AV := .clf 85 [.pin [.dt (.row (asT s))]]
theorem w_su1v {t x : Te} {s : As} (h : t.kind = 1) (ht : Tri EX (.loop suB) (suS t s 0) .ret (suR t s x)) : Puk 65 [teA t, .dt (.row (asT s))] (teA x) :=
  pwalk (an := [yT, .av (inA s.length)]) (ls := [.inv [2,3,4,10,11,12] 3 (.ret) (suR t s x)]) (ps := [Bn .eql 3 (.tmp 8) (.const (vi 1)) (vi t.kind) (vi 1) bT, (vi (↑(List.length s))) = (vi (↑(asT s).length)), Tri EX (.loop (subC (bodyOf Tryz.f65) [1,0,1,0,1,0,0])) (suS t s 0) (.ret) (suR t s x)]) Tryz.func65 (by kernel_rfl) (by kernel_rfl) ⟨bin_ieq (yesD h), lenAs _, ht, trivial⟩
theorem w_su2v {t x : Te} {s : As} (h : t.kind = 1) (ht : Tri EX (.loop suB) (suS t s 0) (.out 0) (suS t s s.length)) (hw : Puk 84 [teA t, sbC s] (teA x)) : Puk 65 [teA t, .dt (.row (asT s))] (teA x) :=
  pwalk (an := [yT, .av (inA s.length), .av (teA x)]) (ls := [.inv [2,3,4,10,11,12] 3 (.out 0) (suS t s s.length)]) (ps := [Bn .eql 3 (.tmp 8) (.const (vi 1)) (vi t.kind) (vi 1) bT, (vi (↑(List.length s))) = (vi (↑(asT s).length)), Tri EX (.loop (subC (bodyOf Tryz.f65) [1,0,1,0,1,0,0])) (suS t s 0) (.out 0) (suS t s s.length), Puk 84 [(teA t), (.clf 85 [(.pin [(.dt (.row (asT s)))])])] (teA x)]) Tryz.func65 (by kernel_rfl) (by kernel_rfl) ⟨bin_ieq (yesD h), lenAs _, ht, hw, trivial⟩
theorem w_su3 {t x : Te} {s : As} (h : t.kind ≠ 1) (hw : Puk 84 [teA t, sbC s] (teA x)) : Puk 65 [teA t, .dt (.row (asT s))] (teA x) :=
  pwalk (an := [yF, .av (teA x)]) (ls := []) (ps := [Bn .eql 3 (.tmp 8) (.const (vi 1)) (vi t.kind) (vi 1) bF, Puk 84 [(teA t), (.clf 85 [(.pin [(.dt (.row (asT s)))])])] (teA x)]) Tryz.func65 (by kernel_rfl) (by kernel_rfl) ⟨bin_ieq (noD h), hw, trivial⟩
theorem w_suC {t x : Te} {s : As} (h : Puk 65 [teA t, .dt (.row (asT s))] (teA x)) : Puk 85 [teA t, .pin [.dt (.row (asT s))]] (teA x) :=
  pwalk (an := [.av (teA x)]) (ls := []) (ps := [Puk 65 [(teA t), (.dt (.row (asT s)))] (teA x)]) Tryz.func85 (by kernel_rfl) (by kernel_rfl) ⟨h, trivial⟩
theorem su_loop {L : As} {t : Te} (hl : L.length ≤ 1000) : ∀ (s : As) (i : Nat), L.drop i = s → i ≤ L.length →
    (asgd s t.np t.nn = none → Lps EX suB (suS t L i) (.out 0) (suS t L L.length)) ∧ (∀ x, asgd s t.np t.nn = some x → Lps EX suB (suS t L i) .ret (suR t L x)) := by
  intro s
  induction s with
  | nil =>
    intro i hd hi
    have e1 := congrArg List.length hd
    rw [List.length_drop, List.length_nil] at e1
    obtain rfl : i = L.length := by omega
    exact ⟨fun _ => .stop (suB3 rfl) (fun h => by cases h), fun t h => by cases h⟩
  | cons x s ih =>
    intro i hd hi
    have hx : L[i]? = some x := by rw [← List.head?_drop, hd]; rfl
    have hlt := (List.getElem?_eq_some_iff.1 hx).1
    obtain ⟨h1, h2⟩ := ih (i + 1) (by rw [← List.drop_drop, hd]; rfl) hlt
    rw [asgd]
    by_cases hc : x.1.np = t.np ∧ x.1.nn = t.nn
    · rw [if_pos hc]
      exact ⟨fun h => (by cases h), fun y h => by cases h; exact .stop (suB2 hx hc) (fun h => by cases h)⟩
    · rw [if_neg hc]
      exact ⟨fun h => .more (suB1 hx hl hc) (h1 h), fun y h => .more (suB1 hx hl hc) (h2 y h)⟩
/-- Substitute of the code -/
theorem p_cSub {σ : As} (hσ : σ.length ≤ 1000) {t : Te} (ht : t.Mkd) : Puk 65 [teA t, .dt (.row (asT σ))] (teA (sub σ t)) := by
  induction ht with
  | var n hn =>
    obtain ⟨k1, k2⟩ := su_loop (t := varT n) hσ σ 0 rfl (Nat.zero_le _)
    rw [sub_var]
    cases hl : asgd σ userB n with
    | none => exact w_su2v rfl (k1 hl).tri (w_with0 (show (1 : Int) ≠ 3 by decide))
    | some x => exact w_su1v rfl (k2 x hl).tri
  | con o ho =>
    rw [sub_con]
    exact w_su3 (show (2 : Int) ≠ 1 by decide) (w_with0 (show (2 : Int) ≠ 3 by decide))
  | ap n l hn hl hx ih =>
    rw [sub_ap]
    exact w_su3 (t := Te.ap n l) (show (3 : Int) ≠ 1 by decide) (p_with (t := Te.ap n l) (g := sub σ) rfl (by show l.length ≤ 1000; omega) fun x hx => w_suC (ih x hx))
end Go.Proofs.YtendgffijciehaaGreatDoor
/- ClauseTautology. -/
namespace Go.Proofs.YtendgffijciehaaGreatDoor
open Go.RowKit
open Te

abbrev fewV (l : List Raw) : Bool := decide (l.length ≤ 6) && fewAllR l 10
theorem p_fewV (l : List Raw) (hl : l.length ≤ 9223372036854775807) : Puk 9 [.dt (.row [[.row (l.map Raw.enc)]])] (boA (fewV l)) := by
  have hf := p_FewAll l 10
  unfold fewV
  cases b1 : decide (l.length ≤ 6) with
  | false =>
    have e := of_decide_eq_false b1
    exact pwalk (an := [.no, .no, .no, .av (inA l.length), yT]) (ls := [.run 1]) (ps := [(vi ↑l.length) = (vi (↑(List.map Raw.enc l).length)), Bn .gtr 3 (.tmp 14) (.const (vi 6)) (vi ↑l.length) (vi 6) bT]) Tryz.func9 (by kernel_rfl) (by kernel_rfl) ⟨lenEncR _, bin_igt (decide_eq_true (by omega)), trivial⟩
  | true =>
    have e := of_decide_eq_true b1
    cases b2 : fewAllR l 10 with
    | false =>
      rw [b2] at hf
      exact pwalk (an := [.no, .no, .no, .av (inA l.length), yF, .no, yF]) (ls := [.run 1]) (ps := [(vi ↑l.length) = (vi (↑(List.map Raw.enc l).length)), Bn .gtr 3 (.tmp 14) (.const (vi 6)) (vi ↑l.length) (vi 6) bF, Puk 42 [(.dt (.row (List.map Raw.enc l))), (inA 10)] (boA false)]) Tryz.func9 (by kernel_rfl) (by kernel_rfl) ⟨lenEncR _, bin_igt (decide_eq_false (by omega)), hf, trivial⟩
    | true =>
      rw [b2] at hf
      exact pwalk (an := [.no, .no, .no, .av (inA l.length), yF, .no, yT, .no, .no, .no]) (ls := [.run 2]) (ps := [(vi ↑l.length) = (vi (↑(List.map Raw.enc l).length)), Bn .gtr 3 (.tmp 14) (.const (vi 6)) (vi ↑l.length) (vi 6) bF, Puk 42 [(.dt (.row (List.map Raw.enc l))), (inA 10)] (boA true)]) Tryz.func9 (by kernel_rfl) (by kernel_rfl) ⟨lenEncR _, bin_igt (decide_eq_false (by omega)), hf, trivial⟩
theorem p_fewV2 (l m : List Raw) (hl : l.length ≤ 9223372036854775807) (hm : m.length ≤ 9223372036854775807) : Puk 9 [.dt (.row [[.row (l.map Raw.enc)], [.row (m.map Raw.enc)]])] (boA (fewV l && fewV m)) := by
  have hf := p_FewAll l 10
  have hg := p_FewAll m 10
  unfold fewV
  cases b1 : decide (l.length ≤ 6) with
  | false =>
    have e := of_decide_eq_false b1
    exact pwalk (an := [.no, .no, .no, .av (inA l.length), yT]) (ls := [.run 1]) (ps := [(vi ↑l.length) = (vi (↑(List.map Raw.enc l).length)), Bn .gtr 3 (.tmp 14) (.const (vi 6)) (vi ↑l.length) (vi 6) bT]) Tryz.func9 (by kernel_rfl) (by kernel_rfl) ⟨lenEncR _, bin_igt (decide_eq_true (by omega)), trivial⟩
  | true =>
    have e := of_decide_eq_true b1
    cases b2 : fewAllR l 10 with
    | false =>
      rw [b2] at hf
      exact pwalk (an := [.no, .no, .no, .av (inA l.length), yF, .no, yF]) (ls := [.run 1]) (ps := [(vi ↑l.length) = (vi (↑(List.map Raw.enc l).length)), Bn .gtr 3 (.tmp 14) (.const (vi 6)) (vi ↑l.length) (vi 6) bF, Puk 42 [(.dt (.row (List.map Raw.enc l))), (inA 10)] (boA false)]) Tryz.func9 (by kernel_rfl) (by kernel_rfl) ⟨lenEncR _, bin_igt (decide_eq_false (by omega)), hf, trivial⟩
    | true =>
      rw [b2] at hf
      cases b3 : decide (m.length ≤ 6) with
      | false =>
        have e3 := of_decide_eq_false b3
        exact pwalk (an := [.no, .no, .no, .av (inA l.length), yF, .no, yT, .no, .no, .no, .no, .av (inA m.length), yT]) (ls := [.run 2]) (ps := [(vi ↑l.length) = (vi (↑(List.map Raw.enc l).length)), Bn .gtr 3 (.tmp 14) (.const (vi 6)) (vi ↑l.length) (vi 6) bF, Puk 42 [(.dt (.row (List.map Raw.enc l))), (inA 10)] (boA true), (vi ↑m.length) = (vi (↑(List.map Raw.enc m).length)), Bn .gtr 3 (.tmp 14) (.const (vi 6)) (vi ↑m.length) (vi 6) bT]) Tryz.func9 (by kernel_rfl) (by kernel_rfl) ⟨lenEncR _, bin_igt (decide_eq_false (by omega)), hf, lenEncR _, bin_igt (decide_eq_true (by omega)), trivial⟩
      | true =>
        have e3 := of_decide_eq_true b3
        cases b4 : fewAllR m 10 with
        | false =>
          rw [b4] at hg
          exact pwalk (an := [.no, .no, .no, .av (inA l.length), yF, .no, yT, .no, .no, .no, .no, .av (inA m.length), yF, .no, yF]) (ls := [.run 2]) (ps := [(vi ↑l.length) = (vi (↑(List.map Raw.enc l).length)), Bn .gtr 3 (.tmp 14) (.const (vi 6)) (vi ↑l.length) (vi 6) bF, Puk 42 [(.dt (.row (List.map Raw.enc l))), (inA 10)] (boA true), (vi ↑m.length) = (vi (↑(List.map Raw.enc m).length)), Bn .gtr 3 (.tmp 14) (.const (vi 6)) (vi ↑m.length) (vi 6) bF, Puk 42 [(.dt (.row (List.map Raw.enc m))), (inA 10)] (boA false)]) Tryz.func9 (by kernel_rfl) (by kernel_rfl) ⟨lenEncR _, bin_igt (decide_eq_false (by omega)), hf, lenEncR _, bin_igt (decide_eq_false (by omega)), hg, trivial⟩
        | true =>
          rw [b4] at hg
          exact pwalk (an := [.no, .no, .no, .av (inA l.length), yF, .no, yT, .no, .no, .no, .no, .av (inA m.length), yF, .no, yT, .no, .no, .no]) (ls := [.run 3]) (ps := [(vi ↑l.length) = (vi (↑(List.map Raw.enc l).length)), Bn .gtr 3 (.tmp 14) (.const (vi 6)) (vi ↑l.length) (vi 6) bF, Puk 42 [(.dt (.row (List.map Raw.enc l))), (inA 10)] (boA true), (vi ↑m.length) = (vi (↑(List.map Raw.enc m).length)), Bn .gtr 3 (.tmp 14) (.const (vi 6)) (vi ↑m.length) (vi 6) bF, Puk 42 [(.dt (.row (List.map Raw.enc m))), (inA 10)] (boA true)]) Tryz.func9 (by kernel_rfl) (by kernel_rfl) ⟨lenEncR _, bin_igt (decide_eq_false (by omega)), hf, lenEncR _, bin_igt (decide_eq_false (by omega)), hg, trivial⟩
theorem fewV_fit {l : List Raw} (h : fewV l = true) : l.length ≤ 6 ∧ ∀ r ∈ l, Fit r := by
  unfold fewV fewAllR at h
  simp only [Bool.and_eq_true, decide_eq_true_eq, List.all_eq_true] at h
  exact ⟨h.1, fun r hr => fewR_fit (m := 10) (by decide) (by decide) (h.2.2 r hr)⟩
abbrev LspF : FuncId := 15
end Go.Proofs.YtendgffijciehaaGreatDoor
/- ClauseSets. -/
namespace Go.Proofs.YtendgffijciehaaGreatDoor
open Go.RowKit
open Te

theorem mem_addN : ∀ (l out : List Te) (x : Te), x ∈ out ∨ x ∈ l → x ∈ addN out l
  | [], out, x, h => by
    rw [addN]
    rcases h with h | h
    · exact h
    · cases h
  | y :: l, out, x, h => by
    rw [addN]
    refine mem_addN l _ x ?_
    rcases h with h | h
    · refine .inl ?_
      split
      · exact h
      · exact List.mem_append_left _ h
    · rcases List.mem_cons.1 h with rfl | h
      · refine .inl ?_
        split
        · assumption
        · exact List.mem_append_right _ (List.mem_singleton.2 rfl)
      · exact .inr h
end Go.Proofs.YtendgffijciehaaGreatDoor
/- Substitute of the reference; instances of both texts; the maker's substitutions. -/
namespace Go.Proofs.YtendgffijciehaaGreatDoor
open Go.RowKit
open Te

abbrev rsF : FuncId := 86
abbrev saS (l : List Te) (ss es : List (List Dt)) (i : Int) : AS := ⟨stt 23 [(0, tesA l), (1, .dt (.row ss)), (5, .own 0 es.length), (6, inA i)], [some (.buf 37 11 es)]⟩
abbrev sa0 (l : List Te) (ss : List (List Dt)) : AS := ⟨stt 23 [(0, tesA l), (1, .dt (.row ss)), (5, .nil), (6, inA 0)], []⟩
noncomputable abbrev saB : Code := subC (bodyOf Tryz.f66) [1,1,0,1,0,0]
theorem saB1 {l : List Te} {ss es : List (List Dt)} {x y : Te} {i : Nat} (hx : l[i]? = some x) (hl : l.length ≤ 1000) (he : es.length ≤ 1000) (h : Puk rsF [teA x, .dt (.row ss)] (teA y)) : Tri EX saB (saS l ss es i) .nxt (saS l ss (es ++ [encT y]) ((i + 1 : Nat) : Int)) :=
  have hi := (List.getElem?_eq_some_iff.1 hx).1
  twalk (c := subC (bodyOf Tryz.f66) [1,1,0,1,0,0]) (s := saS l ss es i) (an := [.av (inA l.length), yT, .av (.pin ((encT x).map .dt)), .av (teA y), .av (.un), .av (inA ((i + 1 : Nat) : Int))]) (ls := []) (ft := [0,1,5,6]) (nb := 1) (e := .nxt) (s' := saS l ss (es ++ [encT y]) ((i + 1 : Nat) : Int)) (ps := [(vi ↑l.length) = (vi (↑(List.map Te.enc l).length)), Bn .lss 3 (.tmp 7) (.tmp 9) (vi ↑i) (vi ↑l.length) bT, IxAt (List.map Te.enc l) ↑i 11 (encT x), Puk 86 [(teA x), (.dt (.row ss))] (teA y), (es.length) = (es.length), FitB 176 ((es ++ [encT y]).length), SrcOK 11 [encT y], Bn .add 3 (.tmp 11) (.const (vi 1)) (vi ↑i) (vi 1) (vi (↑(i + 1)))]) (by kernel_rfl) ⟨lenEncT _, bin_ilt (decide_eq_true (by omega)), ix_te hx, h, rfl, fit_of (by omega) (by simp; omega), src_te1 y, bin_iadd (by omega) (by omega) (by omega), trivial⟩
theorem saB2 {l : List Te} {ss es : List (List Dt)} {i : Nat} (hi : i = l.length) : Tri EX saB (saS l ss es i) (.out 0) (saS l ss es i) :=
  twalk (c := subC (bodyOf Tryz.f66) [1,1,0,1,0,0]) (s := saS l ss es i) (an := [.av (inA l.length), yF]) (ls := []) (ft := [0,1,5,6]) (nb := 1) (e := .out 0) (s' := saS l ss es i) (ps := [(vi ↑l.length) = (vi (↑(List.map Te.enc l).length)), Bn .lss 3 (.tmp 7) (.tmp 9) (vi ↑i) (vi ↑l.length) bF]) (by kernel_rfl) ⟨lenEncT _, bin_ilt (decide_eq_false (by omega)), trivial⟩
theorem w_sa {l : List Te} {ss rs : List (List Dt)} (h : Tri EX (.loop saB) (sa0 l ss) (.out 0) (saS l ss rs l.length)) : Puk 66 [tesA l, .dt (.row ss)] (.dt (.row rs)) :=
  pwalk (an := []) (ls := [.inv [0,1,5,6] 0 (.out 0) (saS l ss rs l.length)]) (ps := [Tri EX (.loop (subC (bodyOf Tryz.f66) [1,1,0,1,0,0])) (sa0 l ss) (.out 0) (saS l ss rs l.length), (rs.length) = (rs.length)]) Tryz.func66 (by kernel_rfl) (by kernel_rfl) ⟨h, rfl, trivial⟩
theorem sa_loop {L : List Te} {ss : List (List Dt)} {g : Te → Te} (hl : L.length ≤ 500) (h : ∀ x ∈ L, Puk rsF [teA x, .dt (.row ss)] (teA (g x))) : ∀ (s : List Te) (i : Nat) (out : List Te), L.drop i = s → i ≤ L.length → out.length ≤ i → Lps EX saB (saS L ss (encTs out) i) (.out 0) (saS L ss (encTs (out ++ s.map g)) L.length) := by
  intro s
  induction s with
  | nil =>
    intro i out hd hi ho
    have e1 := congrArg List.length hd
    rw [List.length_drop, List.length_nil] at e1
    obtain rfl : i = L.length := by omega
    rw [List.map_nil, List.append_nil]
    exact .stop (saB2 rfl) (fun h => by cases h)
  | cons x s ih =>
    intro i out hd hi ho
    have hx : L[i]? = some x := by rw [← List.head?_drop, hd]; rfl
    have hlt := (List.getElem?_eq_some_iff.1 hx).1
    have hel : (encTs out).length = out.length := by unfold encTs; rw [List.length_map]
    have hs := saB1 (es := encTs out) hx (by omega) (by omega) (h x (List.mem_of_getElem? hx))
    have e : encTs out ++ [encT (g x)] = encTs (out ++ [g x]) := by unfold encTs; rw [List.map_append, row1]
    rw [e] at hs
    have k := ih (i + 1) (out ++ [g x]) (by rw [← List.drop_drop, hd]; rfl) hlt (by simp; omega)
    rw [show out ++ [g x] ++ s.map g = out ++ (x :: s).map g by rw [List.append_assoc]; rfl] at k
    exact .more hs k
theorem p_sa {L : List Te} {ss : List (List Dt)} {g : Te → Te} (hl : L.length ≤ 500) (h : ∀ x ∈ L, Puk rsF [teA x, .dt (.row ss)] (teA (g x))) : Puk 66 [tesA L, .dt (.row ss)] (tesA (L.map g)) :=
  w_sa (Tri.own0 5 37 11 (by show 5 < 23; omega) rfl (sa_loop hl h L 0 [] rfl (Nat.zero_le _) (Nat.le_refl _)).tri)
theorem w_rs1 {t x : Te} {ss : List (List Dt)} (h : t.kind = 1) (hg : Puk 106 [.dt (.row ss), syA t.np t.nn] (.tup [teA x, boA true])) : Puk rsF [teA t, .dt (.row ss)] (teA x) :=
  pwalk (an := [yT, .av (.tup [teA x, boA true])]) (ls := []) (ps := [Bn .eql 3 (.tmp 8) (.const (vi 1)) (vi t.kind) (vi 1) bT, Puk 106 [(.dt (.row ss)), (syA t.np t.nn)] (.tup [(teA x), (boA true)])]) Tryz.func86 (by kernel_rfl) (by kernel_rfl) ⟨bin_ieq (yesD h), hg, trivial⟩
theorem w_rs2 {t : Te} {ss : List (List Dt)} (h : t.kind = 1) (hg : Puk 106 [.dt (.row ss), syA t.np t.nn] (.tup [teA zTe, boA false])) : Puk rsF [teA t, .dt (.row ss)] (teA t) :=
  pwalk (an := [yT, .av (.tup [teA zTe, boA false])]) (ls := []) (ps := [Bn .eql 3 (.tmp 8) (.const (vi 1)) (vi t.kind) (vi 1) bT, Puk 106 [(.dt (.row ss)), (syA t.np t.nn)] (.tup [(.agg [(inA 0), (stA zTe.np), (stA zTe.nn), (inA 0), (stA zTe.val.num), (stA zTe.val.den), (stA zTe.val.sp), (stA zTe.val.sn), (stA zTe.val.text), (.dt (.row (List.map Ob.enc zTe.val.pair))), (.dt (.row (List.map Te.enc zTe.args)))]), (boA false)])]) Tryz.func86 (by kernel_rfl) (by kernel_rfl) ⟨bin_ieq (yesD h), hg, trivial⟩
theorem w_rs3 {t : Te} {ss : List (List Dt)} (h : t.kind = 2) : Puk rsF [teA t, .dt (.row ss)] (teA t) :=
  pwalk (an := [yF, yF]) (ls := []) (ps := [Bn .eql 3 (.tmp 8) (.const (vi 1)) (vi t.kind) (vi 1) bF, Bn .eql 3 (.tmp 8) (.const (vi 3)) (vi t.kind) (vi 3) bF]) Tryz.func86 (by kernel_rfl) (by kernel_rfl) ⟨bin_ieq (by simp [h]), bin_ieq (by simp [h]), trivial⟩
theorem w_rs4 {t : Te} {ss rs : List (List Dt)} (h : t.kind = 3) (ha : Puk 66 [tesA t.args, .dt (.row ss)] (.dt (.row rs))) : Puk rsF [teA t, .dt (.row ss)] (rcT t.np t.nn rs) :=
  pwalk (an := [yF, yT, .av (.dt (.row rs)), .av (rcT t.np t.nn rs)]) (ls := []) (ps := [Bn .eql 3 (.tmp 8) (.const (vi 1)) (vi t.kind) (vi 1) bF, Bn .eql 3 (.tmp 8) (.const (vi 3)) (vi t.kind) (vi 3) bT, Puk 66 [(.dt (.row (List.map Te.enc t.args))), (.dt (.row ss))] (.dt (.row rs)), Puk 50 [(syA t.np t.nn), (.dt (.row rs))] (.agg [(inA 3), (stA t.np), (stA t.nn), (inA 0), (stA []), (stA []), (stA []), (stA []), (stA []), (.dt (.row [])), (.dt (.row rs))])]) Tryz.func86 (by kernel_rfl) (by kernel_rfl) ⟨bin_ieq (by simp [h]), bin_ieq (by simp [h]), ha, p_rApp _ _ _, trivial⟩
/-- Substitute of the reference -/
theorem p_rSub {σ : As} (hσ : σ.length ≤ 1000) {t : Te} (ht : t.Mkd) : Puk rsF [teA t, .dt (.row (asT σ))] (teA (sub σ t)) := by
  induction ht with
  | var n hn =>
    obtain ⟨k1, k2⟩ := p_rAsgd (s := σ) (a := userB) (b := n) hσ
    rw [sub_var]
    cases hl : asgd σ userB n with
    | none => exact w_rs2 (t := varT n) rfl (k1 hl)
    | some x => exact w_rs1 (t := varT n) rfl (k2 x hl)
  | con o ho =>
    rw [sub_con]
    exact w_rs3 (t := Te.con o.ob) rfl
  | ap n l hn hl hx ih =>
    rw [sub_ap]
    exact w_rs4 (t := Te.ap n l) rfl (p_sa (g := sub σ) (by show l.length ≤ 500; omega) ih)
/- instances -/
abbrev inS (c : List Te) (ss : List (List Dt)) (out : List Te) (i : Int) : AS := ⟨stt 22 [(1, .dt (.row ss)), (5, tesA out), (8, tesA c), (9, inA c.length), (10, inA i)], []⟩
abbrev in0 (c : List Te) (ss : List (List Dt)) : AS := ⟨stt 22 [(1, .dt (.row ss)), (5, .nil), (8, tesA c), (9, inA c.length), (10, inA 0)], []⟩
noncomputable abbrev istB : Code := subC (bodyOf Tryz.f34) [1,1,0,1,0,0]
theorem inB1 {c out out' : List Te} {ss : List (List Dt)} {x y : Te} {i : Nat} (hx : c[i]? = some x) (hl : c.length ≤ 1000) (h : Puk 65 [teA x, .dt (.row ss)] (teA y)) (ha : Puk 27 [tesA out, .dt (.row [encT y])] (tesA out')) : Tri EX istB (inS c ss out i) .nxt (inS c ss out' ((i + 1 : Nat) : Int)) :=
  have hi := (List.getElem?_eq_some_iff.1 hx).1
  twalk (c := subC (bodyOf Tryz.f34) [1,1,0,1,0,0]) (s := inS c ss out i) (an := [yT, .av (.pin ((encT x).map .dt)), .av (teA y), .av (tesA out'), .av (inA ((i + 1 : Nat) : Int))]) (ls := []) (ft := [1,5,8,9,10]) (nb := 0) (e := .nxt) (s' := inS c ss out' ((i + 1 : Nat) : Int)) (ps := [Bn .lss 3 (.tmp 10) (.tmp 9) (vi ↑i) (vi ↑c.length) bT, IxAt (List.map Te.enc c) ↑i 11 (encT x), Puk 65 [(teA x), (.dt (.row ss))] (teA y), Puk 27 [(.dt (.row (List.map Te.enc out))), (.dt (.row [encT y]))] (.dt (.row (List.map Te.enc out'))), Bn .add 3 (.tmp 10) (.const (vi 1)) (vi ↑i) (vi 1) (vi (↑(i + 1)))]) (by kernel_rfl) ⟨bin_ilt (decide_eq_true (by omega)), ix_te hx, h, ha, bin_iadd (by omega) (by omega) (by omega), trivial⟩
theorem inB2 {c out : List Te} {ss : List (List Dt)} {i : Nat} (hi : i = c.length) : Tri EX istB (inS c ss out i) (.out 0) (inS c ss out i) :=
  twalk (c := subC (bodyOf Tryz.f34) [1,1,0,1,0,0]) (s := inS c ss out i) (an := [yF]) (ls := []) (ft := [1,5,8,9,10]) (nb := 0) (e := .out 0) (s' := inS c ss out i) (ps := [Bn .lss 3 (.tmp 10) (.tmp 9) (vi ↑i) (vi ↑c.length) bF]) (by kernel_rfl) ⟨bin_ilt (decide_eq_false (by omega)), trivial⟩
theorem w_in {c out : List Te} {ss : List (List Dt)} (h : Tri EX (.loop istB) (in0 c ss) (.out 0) (inS c ss out c.length)) : Puk 34 [tesA c, .dt (.row ss)] (tesA out) :=
  pwalk (an := [.av (inA c.length)]) (ls := [.inv [1,5,8,9,10] 0 (.out 0) (inS c ss out c.length)]) (ps := [(vi ↑c.length) = (vi (↑(List.map Te.enc c).length)), Tri EX (.loop (subC (bodyOf Tryz.f34) [1,1,0,1,0,0])) (in0 c ss) (.out 0) (inS c ss out c.length)]) Tryz.func34 (by kernel_rfl) (by kernel_rfl) ⟨lenEncT _, h, trivial⟩
theorem w_rin {c d out : List Te} {ss : List (List Dt)} (h : Puk 66 [tesA c, .dt (.row ss)] (tesA d)) (ha : Puk 18 [.dt (.row []), tesA d] (tesA out)) : Puk 36 [tesA c, .dt (.row ss)] (tesA out) :=
  pwalk (an := [.av (tesA d), .av (tesA out)]) (ls := []) (ps := [Puk 66 [(.dt (.row (List.map Te.enc c))), (.dt (.row ss))] (.dt (.row (List.map Te.enc d))), Puk 18 [(.dt (.row [])), (.dt (.row (List.map Te.enc d)))] (.dt (.row (List.map Te.enc out)))]) Tryz.func36 (by kernel_rfl) (by kernel_rfl) ⟨h, ha, trivial⟩
theorem addN_one (out : List Te) (x : Te) (s : List Te) : addN (addN out [x]) s = addN out (x :: s) := by
  rw [addN, addN, addN]
theorem in_loop {C : List Te} {σ : As} (hσ : AsOK σ) (hl : C.length ≤ 400) (hm : ∀ x ∈ C, x.Mkd) : ∀ (s : List Te) (i : Nat) (out : List Te), C.drop i = s → i ≤ C.length → out.length ≤ i → (∀ x ∈ out, x.Mkd) → Lps EX istB (inS C (asT σ) out i) (.out 0) (inS C (asT σ) (addN out (s.map (sub σ))) C.length) := by
  intro s
  induction s with
  | nil =>
    intro i out hd hi ho hom
    have e1 := congrArg List.length hd
    rw [List.length_drop, List.length_nil] at e1
    obtain rfl : i = C.length := by omega
    exact .stop (inB2 rfl) (fun h => by cases h)
  | cons x s ih =>
    intro i out hd hi ho hom
    have hx : C[i]? = some x := by rw [← List.head?_drop, hd]; rfl
    have hlt := (List.getElem?_eq_some_iff.1 hx).1
    have hxm := hm x (List.mem_of_getElem? hx)
    have hlen := hσ.len
    have hym : ∀ y ∈ [sub σ x], y.Mkd := fun y hy => by rw [List.mem_singleton] at hy; subst hy; exact sub_mkd hσ hxm
    have ha := p_cAdd (c := out) (l := [sub σ x]) (by omega) (by show 1 ≤ 500; omega) (fun y hy => (hom y hy).wf) (fun y hy => (hym y hy).wf)
    rw [show tesA [sub σ x] = .dt (.row [encT (sub σ x)]) by unfold tesA; rw [row1]] at ha
    have k := ih (i + 1) (addN out [sub σ x]) (by rw [← List.drop_drop, hd]; rfl) hlt (by have := addN_len [sub σ x] out; simp only [List.length_cons, List.length_nil] at this; omega) (addN_mkd _ _ hom hym)
    rw [addN_one] at k
    exact .more (inB1 hx (by omega) (p_cSub (by omega) hxm) ha) k
/-- the instances of a clause -/
theorem p_Inst {c : List Te} {σ : As} (hσ : AsOK σ) (hl : c.length ≤ 400) (hm : ∀ x ∈ c, x.Mkd) : Puk 34 [tesA c, .dt (.row (asT σ))] (tesA (addN [] (c.map (sub σ)))) ∧ Puk 36 [tesA c, .dt (.row (asT σ))] (tesA (addN [] (c.map (sub σ)))) := by
  have hlen := hσ.len
  have hmm : ∀ y ∈ c.map (sub σ), y.Mkd := fun y hy => by
    obtain ⟨x, hx, rfl⟩ := List.mem_map.1 hy
    exact sub_mkd hσ (hm x hx)
  refine ⟨w_in (Tri.nilR 5 (by show 5 < 22; omega) rfl (in_loop hσ hl hm c 0 [] rfl (Nat.zero_le _) (Nat.le_refl _) (fun x hx => by cases hx)).tri), w_rin (p_sa (g := sub σ) (by omega) fun x hx => p_rSub (by omega) (hm x hx)) ?_⟩
  exact p_rAdd (c := []) (l := c.map (sub σ)) (by show 0 ≤ 100000; omega) (by rw [List.length_map]; omega) (fun x hx => by cases hx) (fun y hy => (hmm y hy).wf)
/- the maker's substitutions -/
theorem w_term0 {vl nl : List (List UInt8)} {r : Raw} {t : Te} (hn : Puk 76 [.dt (.row [])] (namA nl)) (hb : Puk 75 [.dt (.row []), namA nl, varA vl, rawA r] (teA t)) : Puk 46 [.dt (.row []), varA vl, rawA r] (teA t) :=
  pwalk (an := [.av (namA nl), .av (teA t)]) (ls := []) (ps := [Puk 76 [(.dt (.row []))] (.dt (.row (List.map lrow nl))), Puk 75 [(.dt (.row [])), (.dt (.row (List.map lrow nl))), (.dt (.row (List.map srow vl))), (rawA r)] (teA t)]) Tryz.func46 (by kernel_rfl) (by kernel_rfl) ⟨hn, hb, trivial⟩
theorem p_term0 {r : Raw} (hf : Fit r) : ∃ t : Te, t.Mkd ∧ Puk 46 [.dt (.row []), varA vl4, rawA r] (teA t) := by
  obtain ⟨t, h1, h2⟩ := p_build (mk0 vl4 (by decide) (by decide) vl4_ok) _ r (Nat.le_refl _) hf
  exact ⟨t, h1, w_term0 p_Names0 h2⟩
abbrev sbS' (l : List Raw) (vl : List (List UInt8)) (s : As) (i : Int) : AS := ⟨stt 35 [(0, .dt (.row [])), (1, rwsA l), (5, varA vl), (6, .own 0 s.length), (7, inA i)], [some (.buf 87 13 (asT s))]⟩
abbrev sbS0 (l : List Raw) (vl : List (List UInt8)) : AS := ⟨stt 35 [(0, .dt (.row [])), (1, rwsA l), (5, varA vl), (6, .nil), (7, inA 0)], []⟩
noncomputable abbrev sbsB : Code := subC (bodyOf Tryz.f35) [1,1,1,0,1,0,0]
theorem ix_vl {vl : List (List UInt8)} {i : Nat} {n : List UInt8} (h : vl[i]? = some n) : IxAt (vl.map srow) (i : Int) 2 (srow n) := ⟨Int.natCast_nonneg _, by
  rw [Int.toNat_natCast, List.getElem?_map, h]
  rfl, rfl⟩
theorem sbsB1 {l : List Raw} {vl : List (List UInt8)} {s : As} {i : Nat} {nm : List UInt8} {x : Raw} {t : Te} (hx : l[i]? = some x) (hi4 : i < 4) (hn : vl[i]? = some nm) (hs : (asT s).length = s.length) (hsl : s.length ≤ 4) (h : Puk 46 [.dt (.row []), varA vl, rawA x] (teA t)) : Tri EX sbsB (sbS' l vl s i) .nxt (sbS' l vl (s ++ [(varT nm, t)]) ((i + 1 : Nat) : Int)) := by
  have hi := (List.getElem?_eq_some_iff.1 hx).1
  have key : Tri EX sbsB (sbS' l vl s i) .nxt ⟨stt 35 [(0, .dt (.row [])), (1, rwsA l), (5, varA vl), (6, .own 0 (asT s ++ [asg (varT nm) t]).length), (7, inA ((i + 1 : Nat) : Int))], [some (.buf 87 13 (asT s ++ [asg (varT nm) t]))]⟩ :=
    twalk (c := subC (bodyOf Tryz.f35) [1,1,1,0,1,0,0]) (s := sbS' l vl s i) (an := [.av (inA l.length), yT, yT, .av (.pin [stA userB, stA nm]), .av (.pin ((encR x).map .dt)), .av (teA t), .av (.un), .av (inA ((i + 1 : Nat) : Int))]) (ls := []) (ft := [0,1,5,6,7]) (nb := 1) (e := .nxt) (s' := ⟨stt 35 [(0, .dt (.row [])), (1, rwsA l), (5, varA vl), (6, .own 0 (asT s ++ [asg (varT nm) t]).length), (7, inA ((i + 1 : Nat) : Int))], [some (.buf 87 13 (asT s ++ [asg (varT nm) t]))]⟩) (ps := [(vi ↑l.length) = (vi (↑(List.map Raw.enc l).length)), Bn .lss 3 (.tmp 9) (.tmp 11) (vi ↑i) (vi ↑l.length) bT, Bn .lss 3 (.tmp 14) (.const (vi 4)) (vi ↑i) (vi 4) bT, IxAt (List.map srow vl) ↑i 2 ([(.val (str userB)), (.val (str nm))]), IxAt (List.map Raw.enc l) ↑i 4 (encR x), Puk 46 [(.dt (.row [])), (.dt (.row (List.map srow vl))), (rawA x)] (teA t), ((asT s).length) = (s.length), FitB 208 ((asT s ++ [[Dt.val (str userB), Dt.val (str nm), Dt.val (vi t.kind), Dt.val (str t.np), Dt.val (str t.nn), Dt.val (vi t.val.kind), Dt.val (str t.val.num), Dt.val (str t.val.den), Dt.val (str t.val.sp), Dt.val (str t.val.sn), Dt.val (str t.val.text), Dt.row (List.map Ob.enc t.val.pair), Dt.row (List.map Te.enc t.args)]]).length), SrcOK 13 [[(.val (str userB)), (.val (str nm)), (.val (vi t.kind)), (.val (str t.np)), (.val (str t.nn)), (.val (vi t.val.kind)), (.val (str t.val.num)), (.val (str t.val.den)), (.val (str t.val.sp)), (.val (str t.val.sn)), (.val (str t.val.text)), (.row (List.map Ob.enc t.val.pair)), (.row (List.map Te.enc t.args))]], Bn .add 3 (.tmp 17) (.const (vi 1)) (vi ↑i) (vi 1) (vi (↑(i + 1)))]) (by kernel_rfl) ⟨lenEncR _, bin_ilt (decide_eq_true (by omega)), bin_ilt (decide_eq_true (by omega)), ix_vl hn, ix_raw hx, h, hs, fit_a (by simp; omega), src_asg (varT nm) t, bin_iadd (by omega) (by omega) (by omega), trivial⟩
  rw [asT_snoc, asT_len] at key
  exact key
theorem sbsB2 {l : List Raw} {vl : List (List UInt8)} {s : As} {i : Nat} (hi : l.length ≤ i) : Tri EX sbsB (sbS' l vl s i) (.out 0) (sbS' l vl s i) :=
  twalk (c := subC (bodyOf Tryz.f35) [1,1,1,0,1,0,0]) (s := sbS' l vl s i) (an := [.av (inA l.length), yF]) (ls := []) (ft := [0,1,5,6,7]) (nb := 1) (e := .out 0) (s' := sbS' l vl s i) (ps := [(vi ↑l.length) = (vi (↑(List.map Raw.enc l).length)), Bn .lss 3 (.tmp 9) (.tmp 11) (vi ↑i) (vi ↑l.length) bF]) (by kernel_rfl) ⟨lenEncR _, bin_ilt (decide_eq_false (by omega)), trivial⟩
theorem sbsB3 {l : List Raw} {vl : List (List UInt8)} {s : As} {i : Nat} (hi : i < l.length) (hi4 : i = 4) : Tri EX sbsB (sbS' l vl s i) (.out 0) (sbS' l vl s i) :=
  twalk (c := subC (bodyOf Tryz.f35) [1,1,1,0,1,0,0]) (s := sbS' l vl s i) (an := [.av (inA l.length), yT, yF]) (ls := []) (ft := [0,1,5,6,7]) (nb := 1) (e := .out 0) (s' := sbS' l vl s i) (ps := [(vi ↑l.length) = (vi (↑(List.map Raw.enc l).length)), Bn .lss 3 (.tmp 9) (.tmp 11) (vi ↑i) (vi ↑l.length) bT, Bn .lss 3 (.tmp 14) (.const (vi 4)) (vi ↑i) (vi 4) bF]) (by kernel_rfl) ⟨lenEncR _, bin_ilt (decide_eq_true (by omega)), bin_ilt (decide_eq_false (by omega)), trivial⟩
theorem w_sbs {l : List Raw} {vl : List (List UInt8)} {s : As} {k : Int} (hv : Puk 13 [inA 4] (varA vl)) (hs : (asT s).length = s.length) (h : Tri EX (.loop sbsB) (sbS0 l vl) (.out 0) (sbS' l vl s k)) : Puk 35 [.dt (.row []), rwsA l] (.dt (.row (asT s))) :=
  pwalk (an := [.av (varA vl)]) (ls := [.inv [0,1,5,6,7] 0 (.out 0) (sbS' l vl s k)]) (ps := [Puk 13 [(inA 4)] (.dt (.row (List.map srow vl))), Tri EX (.loop (subC (bodyOf Tryz.f35) [1,1,1,0,1,0,0])) (sbS0 l vl) (.out 0) (sbS' l vl s k), ((asT s).length) = (s.length)]) Tryz.func35 (by kernel_rfl) (by kernel_rfl) ⟨hv, h, hs, trivial⟩
theorem asgd_no : ∀ {s : As} {p n : List UInt8}, (∀ x ∈ s, x.1.nn ≠ n) → asgd s p n = none
  | [], _, _, _ => rfl
  | x :: r, p, n, h => by
    rw [asgd, if_neg (fun e => h x (List.mem_cons_self ..) e.2)]
    exact asgd_no fun y hy => h y (List.mem_cons_of_mem _ hy)
theorem vl4_at {i : Nat} (h : i < 4) : ∃ nm, vl4[i]? = some nm ∧ nm ∈ vlM ∧ nm ∉ vl4.take i ∧ vl4.take (i + 1) = vl4.take i ++ [nm] := by
  match i, h with
  | 0, _ => exact ⟨_, rfl, by decide, by decide, rfl⟩
  | 1, _ => exact ⟨_, rfl, by decide, by decide, rfl⟩
  | 2, _ => exact ⟨_, rfl, by decide, by decide, rfl⟩
  | 3, _ => exact ⟨_, rfl, by decide, by decide, rfl⟩
theorem sbs_loop {l : List Raw} (hf : ∀ x ∈ l, Fit x) : ∀ (j i : Nat) (s : As), i + j = min l.length 4 → AsOK s → (s.map fun x => x.1.nn) = vl4.take i → ∃ s' : As, AsOK s' ∧ Lps EX sbsB (sbS' l vl4 s i) (.out 0) (sbS' l vl4 s' (min l.length 4 : Nat)) := by
  intro j
  induction j with
  | zero =>
    intro i s hi hs _
    obtain rfl : i = min l.length 4 := by omega
    refine ⟨s, hs, ?_⟩
    by_cases h : l.length ≤ 4
    · exact .stop (sbsB2 (by omega)) (fun h => by cases h)
    · exact .stop (sbsB3 (by omega) (by omega)) (fun h => by cases h)
  | succ j ih =>
    intro i s hi hs hk
    have hlt : i < l.length := by omega
    obtain ⟨nm, n1, n2, n3, n4⟩ := vl4_at (i := i) (by omega)
    have hx : l[i]? = some l[i] := List.getElem?_eq_getElem hlt
    obtain ⟨t, t1, t2⟩ := p_term0 (hf _ (List.mem_of_getElem? hx))
    have hno : asgd s userB nm = none := asgd_no fun x hx e => n3 (by rw [← hk, ← e]; exact List.mem_map.2 ⟨x, hx, rfl⟩)
    obtain ⟨s', k1, k2⟩ := ih (i + 1) (s ++ [(varT nm, t)]) (by omega) (hs.snoc n2 hno t1) (by rw [List.map_append, hk, n4]; rfl)
    exact ⟨s', k1, .more (sbsB1 hx (by omega) n1 (asT_len s) hs.len t2) k2⟩
/-- Subst over no world -/
theorem p_Subst {l : List Raw} (hf : ∀ x ∈ l, Fit x) : ∃ σ : As, AsOK σ ∧ Puk 35 [.dt (.row []), rwsA l] (.dt (.row (asT σ))) := by
  obtain ⟨σ, h1, h2⟩ := sbs_loop hf (min l.length 4) 0 [] (by omega) AsOK.nil rfl
  exact ⟨σ, h1, w_sbs (vl := vl4) p_vars4 (asT_len σ) (Tri.own0 6 87 13 (by show 6 < 35; omega) rfl h2.tri)⟩
end Go.Proofs.YtendgffijciehaaGreatDoor
