/- Add, Union, Without, Subset of both texts on clauses that the maker makes. -/
import Derived.Test.YtendgffijciehaaGreatDoorEM
import Derived.Test.YtendgffijciehaaGreatDoorEI
import Derived.Test.YtendgffijciehaaGreatDoorEJ
namespace Go.Proofs.YtendgffijciehaaGreatDoor
open Go.RowKit
open Te

/- Add of the code -/
abbrev caS (l : List Te) (es : List (List Dt)) (i : Int) : AS := ⟨stt 26 [(5, .own 0 es.length), (10, tesA l), (11, inA l.length), (12, inA i)], [some (.buf 37 11 es)]⟩
noncomputable abbrev caB : Code := subC (bodyOf Tryz.f27) [1,1,0,1,0,0]
theorem caB1 {l : List Te} {es : List (List Dt)} {x : Te} {i : Nat} (hx : l[i]? = some x) (hl : l.length ≤ 1000) (h : Puk 24 [.dt (.row es), teA x] (boA true)) : Tri EX caB (caS l es i) .nxt (caS l es ((i + 1 : Nat) : Int)) :=
  have hi := (List.getElem?_eq_some_iff.1 hx).1
  twalk (c := subC (bodyOf Tryz.f27) [1,1,0,1,0,0]) (s := caS l es i) (an := [yT, .av (.pin ((encT x).map .dt)), yT, .av (inA ((i + 1 : Nat) : Int))]) (ls := []) (ft := [5,10,11,12]) (nb := 1) (e := .nxt) (s' := caS l es ((i + 1 : Nat) : Int)) (ps := [Bn .lss 3 (.tmp 12) (.tmp 11) (vi ↑i) (vi ↑l.length) bT, IxAt (List.map Te.enc l) ↑i 11 (encT x), Puk 24 [(.dt (.row es)), (teA x)] (boA true), (es.length) = (es.length), Bn .add 3 (.tmp 12) (.const (vi 1)) (vi ↑i) (vi 1) (vi (↑(i + 1)))]) (by kernel_rfl) ⟨bin_ilt (decide_eq_true (by omega)), ix_te hx, h, rfl, bin_iadd (by omega) (by omega) (by omega), trivial⟩
theorem caB2 {l : List Te} {es : List (List Dt)} {x : Te} {i : Nat} (hx : l[i]? = some x) (hl : l.length ≤ 1000) (ho : es.length ≤ 1000) (h : Puk 24 [.dt (.row es), teA x] (boA false)) : Tri EX caB (caS l es i) .nxt (caS l (es ++ [encT x]) ((i + 1 : Nat) : Int)) :=
  have hi := (List.getElem?_eq_some_iff.1 hx).1
  twalk (c := subC (bodyOf Tryz.f27) [1,1,0,1,0,0]) (s := caS l es i) (an := [yT, .av (.pin ((encT x).map .dt)), yF, .av (.un), .av (inA ((i + 1 : Nat) : Int))]) (ls := []) (ft := [5,10,11,12]) (nb := 1) (e := .nxt) (s' := caS l (es ++ [encT x]) ((i + 1 : Nat) : Int)) (ps := [Bn .lss 3 (.tmp 12) (.tmp 11) (vi ↑i) (vi ↑l.length) bT, IxAt (List.map Te.enc l) ↑i 11 (encT x), Puk 24 [(.dt (.row es)), (teA x)] (boA false), (es.length) = (es.length), (es.length) = (es.length), FitB 176 ((es ++ [encT x]).length), SrcOK 11 [encT x], Bn .add 3 (.tmp 12) (.const (vi 1)) (vi ↑i) (vi 1) (vi (↑(i + 1)))]) (by kernel_rfl) ⟨bin_ilt (decide_eq_true (by omega)), ix_te hx, h, rfl, rfl, fit_of (by omega) (by simp; omega), src_te1 x, bin_iadd (by omega) (by omega) (by omega), trivial⟩
theorem caB3 {l : List Te} {es : List (List Dt)} {i : Nat} (hi : i = l.length) : Tri EX caB (caS l es i) (.out 0) (caS l es i) :=
  twalk (c := subC (bodyOf Tryz.f27) [1,1,0,1,0,0]) (s := caS l es i) (an := [yF]) (ls := []) (ft := [5,10,11,12]) (nb := 1) (e := .out 0) (s' := caS l es i) (ps := [Bn .lss 3 (.tmp 12) (.tmp 11) (vi ↑i) (vi ↑l.length) bF]) (by kernel_rfl) ⟨bin_ilt (decide_eq_false (by omega)), trivial⟩
theorem ca_loop {l : List Te} (hl : l.length ≤ 500) : ∀ (s : List Te) (i : Nat) (out : List Te), l.drop i = s → i ≤ l.length → (∀ x ∈ out, x.Wf) → (∀ x ∈ l, x.Wf) → out.length ≤ 500 + i → Lps EX caB (caS l (encTs out) i) (.out 0) (caS l (encTs (addN out s)) l.length) := by
  intro s
  induction s with
  | nil =>
    intro i out hd hi _ _ _
    have e1 := congrArg List.length hd
    rw [List.length_drop, List.length_nil] at e1
    obtain rfl : i = l.length := by omega
    exact .stop (caB3 rfl) (fun h => by cases h)
  | cons x s ih =>
    intro i out hd hi ho hw hlo
    have hx : l[i]? = some x := by rw [← List.head?_drop, hd]; rfl
    have hlt := (List.getElem?_eq_some_iff.1 hx).1
    have hel : (encTs out).length = out.length := by unfold encTs; rw [List.length_map]
    have hc : Puk 24 [.dt (.row (encTs out)), teA x] (boA (decide (x ∈ out))) := p_cont (by omega) ho x
    rw [addN]
    by_cases hm : x ∈ out
    · rw [if_pos hm]
      rw [yesD hm] at hc
      exact .more (caB1 hx (by omega) hc) (ih (i + 1) out (by rw [← List.drop_drop, hd]; rfl) hlt ho hw (by omega))
    · rw [if_neg hm]
      rw [noD hm] at hc
      have hs := caB2 hx (by omega) (by omega) hc
      have e : encTs out ++ [encT x] = encTs (out ++ [x]) := by unfold encTs; rw [List.map_append, row1]
      rw [e] at hs
      refine .more hs (ih (i + 1) (out ++ [x]) (by rw [← List.drop_drop, hd]; rfl) hlt (fun y hy => ?_) hw (by simp; omega))
      rcases List.mem_append.1 hy with hy | hy
      · exact ho y hy
      · rw [List.mem_singleton] at hy; subst hy; exact hw _ (List.mem_of_getElem? hx)
theorem p_cloneT {c : List Te} (hl : c.length ≤ 1000) : Suk 63 [.dt (.row (encTs c))] [] (.own 0 (encTs c).length) [some (.buf 37 11 (encTs c))] := by
  cases c with
  | nil => exact p_clone0
  | cons x r => exact p_clone (by unfold encTs; simp) (by unfold encTs; rw [List.length_map]; exact hl) (src_te _)
theorem w_cAdd {l : List Te} {es rs : List (List Dt)} (hc : Suk 63 [.dt (.row es)] [] (.own 0 es.length) [some (.buf 37 11 es)]) (h : Tri EX (.loop caB) (caS l es 0) (.out 0) (caS l rs l.length)) : Puk 27 [.dt (.row es), tesA l] (.dt (.row rs)) :=
  pwalk (an := [.av (inA l.length)]) (ls := [.scl 1 1 [] (.own 0 es.length) [some (.buf 37 11 es)], .inv [5,10,11,12] 1 (.out 0) (caS l rs l.length)]) (ps := [Suk 63 [AV.dt (Dt.row es)] [] (AV.own 0 es.length) [some (Bx.buf 37 11 es)], (vi ↑l.length) = (vi (↑(List.map Te.enc l).length)), Tri EX (.loop (subC (bodyOf Tryz.f27) [1,1,0,1,0,0])) (caS l es 0) (.out 0) (caS l rs l.length), (rs.length) = (rs.length)]) Tryz.func27 (by kernel_rfl) (by kernel_rfl) ⟨hc, lenEncT _, h, rfl, trivial⟩
/-- Add of the code -/
theorem p_cAdd {c l : List Te} (hc : c.length ≤ 500) (hl : l.length ≤ 500) (hcw : ∀ y ∈ c, y.Wf) (hw : ∀ y ∈ l, y.Wf) : Puk 27 [tesA c, tesA l] (tesA (addN c l)) :=
  w_cAdd (p_cloneT (c := c) (by omega)) (ca_loop hl l 0 c rfl (Nat.zero_le _) hcw hw (by omega)).tri
/- Union -/
theorem w_cUn {a b u v w : List Te} (h1 : Puk 27 [.dt (.row []), tesA a] (tesA u)) (h2 : Puk 27 [tesA u, tesA b] (tesA v)) (h3 : Puk 27 [tesA v, tesA a] (tesA w)) : Puk 28 [.dt (.row [[.row (a.map Te.enc)], [.row (b.map Te.enc)], [.row (a.map Te.enc)]])] (tesA w) :=
  pwalk (an := [.no, .no, .no, .av (tesA u), .no, .no, .no, .av (tesA v), .no, .no, .no, .av (tesA w), .no, .no]) (ls := [.run 4]) (ps := [Puk 27 [(.dt (.row [])), (.dt (.row (List.map Te.enc a)))] (.dt (.row (List.map Te.enc u))), Puk 27 [(.dt (.row (List.map Te.enc u))), (.dt (.row (List.map Te.enc b)))] (.dt (.row (List.map Te.enc v))), Puk 27 [(.dt (.row (List.map Te.enc v))), (.dt (.row (List.map Te.enc a)))] (.dt (.row (List.map Te.enc w)))]) Tryz.func28 (by kernel_rfl) (by kernel_rfl) ⟨h1, h2, h3, trivial⟩
theorem w_rUn {a b u v w : List Te} (h1 : Puk 18 [.dt (.row []), tesA a] (tesA u)) (h2 : Puk 18 [tesA u, tesA b] (tesA v)) (h3 : Puk 18 [tesA v, tesA a] (tesA w)) : Puk 29 [.dt (.row [[.row (a.map Te.enc)], [.row (b.map Te.enc)], [.row (a.map Te.enc)]])] (tesA w) :=
  pwalk (an := [.no, .no, .no, .av (tesA u), .no, .no, .no, .no, .av (tesA v), .no, .no, .no, .no, .av (tesA w), .no, .no, .no]) (ls := [.run 4]) (ps := [Puk 18 [(.dt (.row [])), (.dt (.row (List.map Te.enc a)))] (.dt (.row (List.map Te.enc u))), Puk 18 [(.dt (.row (List.map Te.enc u))), (.dt (.row (List.map Te.enc b)))] (.dt (.row (List.map Te.enc v))), Puk 18 [(.dt (.row (List.map Te.enc v))), (.dt (.row (List.map Te.enc a)))] (.dt (.row (List.map Te.enc w)))]) Tryz.func29 (by kernel_rfl) (by kernel_rfl) ⟨h1, h2, h3, trivial⟩
/- Without -/
abbrev wtS (c : List Te) (t : Te) (es : List (List Dt)) (i : Int) : AS := ⟨stt 24 [(3, .ptr 0 0), (5, .own 1 es.length), (8, tesA c), (9, inA c.length), (10, inA i)], [some (.cells ((encT t).map .dt)), some (.buf 37 11 es)]⟩
abbrev wt0 (c : List Te) (t : Te) : AS := ⟨stt 24 [(3, .ptr 0 0), (5, .nil), (8, tesA c), (9, inA c.length), (10, inA 0)], [some (.cells ((encT t).map .dt))]⟩
noncomputable abbrev wtB : Code := subC (bodyOf Tryz.f30) [1,1,0,1,0,0]
theorem wtB1 {c : List Te} {es : List (List Dt)} {x t : Te} {i : Nat} (hx : c[i]? = some x) (hl : c.length ≤ 1000) (h : Puk 57 [teA x, teA t] (boA true)) : Tri EX wtB (wtS c t es i) .nxt (wtS c t es ((i + 1 : Nat) : Int)) :=
  have hi := (List.getElem?_eq_some_iff.1 hx).1
  twalk (c := subC (bodyOf Tryz.f30) [1,1,0,1,0,0]) (s := wtS c t es i) (an := [yT, .av (.pin ((encT x).map .dt)), yT, .av (inA ((i + 1 : Nat) : Int))]) (ls := []) (ft := [3,5,8,9,10]) (nb := 2) (e := .nxt) (s' := wtS c t es ((i + 1 : Nat) : Int)) (ps := [Bn .lss 3 (.tmp 10) (.tmp 9) (vi ↑i) (vi ↑c.length) bT, IxAt (List.map Te.enc c) ↑i 11 (encT x), Puk 57 [(teA x), (teA t)] (boA true), Bn .add 3 (.tmp 10) (.const (vi 1)) (vi ↑i) (vi 1) (vi (↑(i + 1)))]) (by kernel_rfl) ⟨bin_ilt (decide_eq_true (by omega)), ix_te hx, h, bin_iadd (by omega) (by omega) (by omega), trivial⟩
theorem wtB2 {c : List Te} {es : List (List Dt)} {x t : Te} {i : Nat} (hx : c[i]? = some x) (hl : c.length ≤ 1000) (ho : es.length ≤ 1000) (h : Puk 57 [teA x, teA t] (boA false)) : Tri EX wtB (wtS c t es i) .nxt (wtS c t (es ++ [encT x]) ((i + 1 : Nat) : Int)) :=
  have hi := (List.getElem?_eq_some_iff.1 hx).1
  twalk (c := subC (bodyOf Tryz.f30) [1,1,0,1,0,0]) (s := wtS c t es i) (an := [yT, .av (.pin ((encT x).map .dt)), yF, .av (.un), .av (inA ((i + 1 : Nat) : Int))]) (ls := []) (ft := [3,5,8,9,10]) (nb := 2) (e := .nxt) (s' := wtS c t (es ++ [encT x]) ((i + 1 : Nat) : Int)) (ps := [Bn .lss 3 (.tmp 10) (.tmp 9) (vi ↑i) (vi ↑c.length) bT, IxAt (List.map Te.enc c) ↑i 11 (encT x), Puk 57 [(teA x), (teA t)] (boA false), (es.length) = (es.length), FitB 176 ((es ++ [encT x]).length), SrcOK 11 [encT x], Bn .add 3 (.tmp 10) (.const (vi 1)) (vi ↑i) (vi 1) (vi (↑(i + 1)))]) (by kernel_rfl) ⟨bin_ilt (decide_eq_true (by omega)), ix_te hx, h, rfl, fit_of (by omega) (by simp; omega), src_te1 x, bin_iadd (by omega) (by omega) (by omega), trivial⟩
theorem wtB3 {c : List Te} {es : List (List Dt)} {t : Te} {i : Nat} (hi : i = c.length) : Tri EX wtB (wtS c t es i) (.out 0) (wtS c t es i) :=
  twalk (c := subC (bodyOf Tryz.f30) [1,1,0,1,0,0]) (s := wtS c t es i) (an := [yF]) (ls := []) (ft := [3,5,8,9,10]) (nb := 2) (e := .out 0) (s' := wtS c t es i) (ps := [Bn .lss 3 (.tmp 10) (.tmp 9) (vi ↑i) (vi ↑c.length) bF]) (by kernel_rfl) ⟨bin_ilt (decide_eq_false (by omega)), trivial⟩
abbrev wrS (c : List Te) (t : Te) (es : List (List Dt)) (i : Int) : AS := ⟨stt 28 [(0, tesA c), (3, .ptr 0 0), (5, .own 1 es.length), (6, inA i)], [some (.cells ((encT t).map .dt)), some (.buf 37 11 es)]⟩
abbrev wr0 (c : List Te) (t : Te) : AS := ⟨stt 28 [(0, tesA c), (3, .ptr 0 0), (5, .nil), (6, inA 0)], [some (.cells ((encT t).map .dt))]⟩
noncomputable abbrev wrB : Code := subC (bodyOf Tryz.f31) [1,1,0,1,0,0]
theorem wrB1 {c : List Te} {es : List (List Dt)} {x t : Te} {i : Nat} (hx : c[i]? = some x) (hl : c.length ≤ 1000) (h : Puk 22 [teA x, teA t] (boA true)) : Tri EX wrB (wrS c t es i) .nxt (wrS c t es ((i + 1 : Nat) : Int)) :=
  have hi := (List.getElem?_eq_some_iff.1 hx).1
  twalk (c := subC (bodyOf Tryz.f31) [1,1,0,1,0,0]) (s := wrS c t es i) (an := [.av (inA c.length), yT, .av (.pin ((encT x).map .dt)), yT, .av (inA ((i + 1 : Nat) : Int))]) (ls := []) (ft := [0,3,5,6]) (nb := 2) (e := .nxt) (s' := wrS c t es ((i + 1 : Nat) : Int)) (ps := [(vi ↑c.length) = (vi (↑(List.map Te.enc c).length)), Bn .lss 3 (.tmp 7) (.tmp 9) (vi ↑i) (vi ↑c.length) bT, IxAt (List.map Te.enc c) ↑i 11 (encT x), Puk 22 [(teA x), (teA t)] (boA true), Bn .add 3 (.tmp 11) (.const (vi 1)) (vi ↑i) (vi 1) (vi (↑(i + 1)))]) (by kernel_rfl) ⟨lenEncT _, bin_ilt (decide_eq_true (by omega)), ix_te hx, h, bin_iadd (by omega) (by omega) (by omega), trivial⟩
theorem wrB2 {c : List Te} {es : List (List Dt)} {x t : Te} {i : Nat} (hx : c[i]? = some x) (hl : c.length ≤ 1000) (ho : es.length ≤ 1000) (h : Puk 22 [teA x, teA t] (boA false)) : Tri EX wrB (wrS c t es i) .nxt (wrS c t (es ++ [encT x]) ((i + 1 : Nat) : Int)) :=
  have hi := (List.getElem?_eq_some_iff.1 hx).1
  twalk (c := subC (bodyOf Tryz.f31) [1,1,0,1,0,0]) (s := wrS c t es i) (an := [.av (inA c.length), yT, .av (.pin ((encT x).map .dt)), yF, .av (.pin ((encT x).map .dt)), .av (.un), .av (inA ((i + 1 : Nat) : Int))]) (ls := []) (ft := [0,3,5,6]) (nb := 2) (e := .nxt) (s' := wrS c t (es ++ [encT x]) ((i + 1 : Nat) : Int)) (ps := [(vi ↑c.length) = (vi (↑(List.map Te.enc c).length)), Bn .lss 3 (.tmp 7) (.tmp 9) (vi ↑i) (vi ↑c.length) bT, IxAt (List.map Te.enc c) ↑i 11 (encT x), Puk 22 [(teA x), (teA t)] (boA false), IxAt (List.map Te.enc c) ↑i 11 (encT x), (es.length) = (es.length), FitB 176 ((es ++ [encT x]).length), SrcOK 11 [encT x], Bn .add 3 (.tmp 11) (.const (vi 1)) (vi ↑i) (vi 1) (vi (↑(i + 1)))]) (by kernel_rfl) ⟨lenEncT _, bin_ilt (decide_eq_true (by omega)), ix_te hx, h, ix_te hx, rfl, fit_of (by omega) (by simp; omega), src_te1 x, bin_iadd (by omega) (by omega) (by omega), trivial⟩
theorem wrB3 {c : List Te} {es : List (List Dt)} {t : Te} {i : Nat} (hi : i = c.length) : Tri EX wrB (wrS c t es i) (.out 0) (wrS c t es i) :=
  twalk (c := subC (bodyOf Tryz.f31) [1,1,0,1,0,0]) (s := wrS c t es i) (an := [.av (inA c.length), yF]) (ls := []) (ft := [0,3,5,6]) (nb := 2) (e := .out 0) (s' := wrS c t es i) (ps := [(vi ↑c.length) = (vi (↑(List.map Te.enc c).length)), Bn .lss 3 (.tmp 7) (.tmp 9) (vi ↑i) (vi ↑c.length) bF]) (by kernel_rfl) ⟨lenEncT _, bin_ilt (decide_eq_false (by omega)), trivial⟩
/-- the literals that are not t -/
def woT (t : Te) : List Te → List Te
  | [] => []
  | x :: r => if x = t then woT t r else x :: woT t r
theorem woT_len (t : Te) : ∀ c : List Te, (woT t c).length ≤ c.length
  | [] => Nat.le_refl _
  | x :: r => by
    rw [woT]
    have := woT_len t r
    split
    · rw [List.length_cons]; omega
    · rw [List.length_cons, List.length_cons]; omega
theorem wt_loop {c : List Te} {t : Te} (hl : c.length ≤ 500) (hw : ∀ x ∈ c, x.Wf) : ∀ (s : List Te) (i : Nat) (out : List Te), c.drop i = s → i ≤ c.length → out.length ≤ i → Lps EX wtB (wtS c t (encTs out) i) (.out 0) (wtS c t (encTs (out ++ woT t s)) c.length) ∧ Lps EX wrB (wrS c t (encTs out) i) (.out 0) (wrS c t (encTs (out ++ woT t s)) c.length) := by
  intro s
  induction s with
  | nil =>
    intro i out hd hi _
    have e1 := congrArg List.length hd
    rw [List.length_drop, List.length_nil] at e1
    obtain rfl : i = c.length := by omega
    rw [woT, List.append_nil]
    exact ⟨.stop (wtB3 rfl) (fun h => by cases h), .stop (wrB3 rfl) (fun h => by cases h)⟩
  | cons x s ih =>
    intro i out hd hi ho
    have hx : c[i]? = some x := by rw [← List.head?_drop, hd]; rfl
    have hlt := (List.getElem?_eq_some_iff.1 hx).1
    have hel : (encTs out).length = out.length := by unfold encTs; rw [List.length_map]
    have hxw := hw x (List.mem_of_getElem? hx)
    have h1 : Puk 57 [teA x, teA t] (boA (decide (x = t))) := p_teq hxw t
    have h2 : Puk 22 [teA x, teA t] (boA (decide (x = t))) := p_req hxw t
    rw [woT]
    by_cases hm : x = t
    · rw [if_pos hm]
      rw [yesD hm] at h1 h2
      obtain ⟨k1, k2⟩ := ih (i + 1) out (by rw [← List.drop_drop, hd]; rfl) hlt (by omega)
      exact ⟨.more (wtB1 hx (by omega) h1) k1, .more (wrB1 hx (by omega) h2) k2⟩
    · rw [if_neg hm]
      rw [noD hm] at h1 h2
      have s1 := wtB2 (es := encTs out) hx (by omega) (by omega) h1
      have s2 := wrB2 (es := encTs out) hx (by omega) (by omega) h2
      have e : encTs out ++ [encT x] = encTs (out ++ [x]) := by unfold encTs; rw [List.map_append, row1]
      rw [e] at s1 s2
      obtain ⟨k1, k2⟩ := ih (i + 1) (out ++ [x]) (by rw [← List.drop_drop, hd]; rfl) hlt (by simp; omega)
      rw [List.append_assoc, List.singleton_append] at k1 k2
      exact ⟨.more s1 k1, .more s2 k2⟩
theorem w_cWo {c : List Te} {t : Te} {rs : List (List Dt)} (h : Tri EX (.loop wtB) (wt0 c t) (.out 0) (wtS c t rs c.length)) : Puk 30 [tesA c, teA t] (.dt (.row rs)) :=
  pwalk (an := [.av (inA c.length)]) (ls := [.inv [3,5,8,9,10] 1 (.out 0) (wtS c t rs c.length)]) (ps := [(vi ↑c.length) = (vi (↑(List.map Te.enc c).length)), Tri EX (.loop (subC (bodyOf Tryz.f30) [1,1,0,1,0,0])) (wt0 c t) (.out 0) (wtS c t rs c.length), (rs.length) = (rs.length)]) Tryz.func30 (by kernel_rfl) (by kernel_rfl) ⟨lenEncT _, h, rfl, trivial⟩
theorem w_rWo {c : List Te} {t : Te} {rs : List (List Dt)} (h : Tri EX (.loop wrB) (wr0 c t) (.out 0) (wrS c t rs c.length)) : Puk 31 [tesA c, teA t] (.dt (.row rs)) :=
  pwalk (an := []) (ls := [.inv [0,3,5,6] 1 (.out 0) (wrS c t rs c.length)]) (ps := [Tri EX (.loop (subC (bodyOf Tryz.f31) [1,1,0,1,0,0])) (wr0 c t) (.out 0) (wrS c t rs c.length), (rs.length) = (rs.length)]) Tryz.func31 (by kernel_rfl) (by kernel_rfl) ⟨h, rfl, trivial⟩
/-- Without of both texts -/
theorem p_Wo {c : List Te} {t : Te} (hl : c.length ≤ 500) (hw : ∀ x ∈ c, x.Wf) : Puk 30 [tesA c, teA t] (tesA (woT t c)) ∧ Puk 31 [tesA c, teA t] (tesA (woT t c)) := by
  obtain ⟨k1, k2⟩ := wt_loop (t := t) hl hw c 0 [] rfl (Nat.zero_le _) (Nat.le_refl _)
  exact ⟨w_cWo (Tri.own0 5 37 11 (by show 5 < 24; omega) rfl k1.tri), w_rWo (Tri.own0 5 37 11 (by show 5 < 28; omega) rfl k2.tri)⟩
/- Subset -/
abbrev sbS (a b : List Te) (i : Int) : AS := ⟨stt 19 [(0, tesA a), (1, tesA b), (5, inA i)], []⟩
abbrev sbR : AS := ⟨stt 19 [(4, boA false)], []⟩
noncomputable abbrev sbB : Code := subC (bodyOf Tryz.f33) [1,0,1,0,0]
theorem sbB1 {a b : List Te} {x : Te} {i : Nat} (hx : a[i]? = some x) (hl : a.length ≤ 1000) (h : Puk 25 [tesA b, teA x] (boA true)) : Tri EX sbB (sbS a b i) .nxt (sbS a b ((i + 1 : Nat) : Int)) :=
  have hi := (List.getElem?_eq_some_iff.1 hx).1
  twalk (c := subC (bodyOf Tryz.f33) [1,0,1,0,0]) (s := sbS a b i) (an := [.av (inA a.length), yT, .av (.pin ((encT x).map .dt)), yT, .av (inA ((i + 1 : Nat) : Int))]) (ls := []) (ft := [0,1,5]) (nb := 0) (e := .nxt) (s' := sbS a b ((i + 1 : Nat) : Int)) (ps := [(vi ↑a.length) = (vi (↑(List.map Te.enc a).length)), Bn .lss 3 (.tmp 6) (.tmp 8) (vi ↑i) (vi ↑a.length) bT, IxAt (List.map Te.enc a) ↑i 11 (encT x), Puk 25 [(.dt (.row (List.map Te.enc b))), (teA x)] (boA true), Bn .add 3 (.tmp 10) (.const (vi 1)) (vi ↑i) (vi 1) (vi (↑(i + 1)))]) (by kernel_rfl) ⟨lenEncT _, bin_ilt (decide_eq_true (by omega)), ix_te hx, h, bin_iadd (by omega) (by omega) (by omega), trivial⟩
theorem sbB2 {a b : List Te} {x : Te} {i : Nat} (hx : a[i]? = some x) (h : Puk 25 [tesA b, teA x] (boA false)) : Tri EX sbB (sbS a b i) .ret sbR :=
  have hi := (List.getElem?_eq_some_iff.1 hx).1
  twalk (c := subC (bodyOf Tryz.f33) [1,0,1,0,0]) (s := sbS a b i) (an := [.av (inA a.length), yT, .av (.pin ((encT x).map .dt)), yF]) (ls := []) (ft := [4]) (nb := 0) (e := .ret) (s' := sbR) (ps := [(vi ↑a.length) = (vi (↑(List.map Te.enc a).length)), Bn .lss 3 (.tmp 6) (.tmp 8) (vi ↑i) (vi ↑a.length) bT, IxAt (List.map Te.enc a) ↑i 11 (encT x), Puk 25 [(.dt (.row (List.map Te.enc b))), (teA x)] (boA false)]) (by kernel_rfl) ⟨lenEncT _, bin_ilt (decide_eq_true (by omega)), ix_te hx, h, trivial⟩
theorem sbB3 {a b : List Te} {i : Nat} (hi : i = a.length) : Tri EX sbB (sbS a b i) (.out 0) (sbS a b i) :=
  twalk (c := subC (bodyOf Tryz.f33) [1,0,1,0,0]) (s := sbS a b i) (an := [.av (inA a.length), yF]) (ls := []) (ft := [0,1,5]) (nb := 0) (e := .out 0) (s' := sbS a b i) (ps := [(vi ↑a.length) = (vi (↑(List.map Te.enc a).length)), Bn .lss 3 (.tmp 6) (.tmp 8) (vi ↑i) (vi ↑a.length) bF]) (by kernel_rfl) ⟨lenEncT _, bin_ilt (decide_eq_false (by omega)), trivial⟩
theorem sb_loop {a b : List Te} (hl : a.length ≤ 1000) (hb : b.length ≤ 1000) (hw : ∀ x ∈ b, x.Wf) : ∀ (s : List Te) (i : Nat), a.drop i = s → i ≤ a.length → (s.all (fun x => decide (x ∈ b)) = true → Lps EX sbB (sbS a b i) (.out 0) (sbS a b a.length)) ∧ (s.all (fun x => decide (x ∈ b)) = false → Lps EX sbB (sbS a b i) .ret sbR) := by
  intro s
  induction s with
  | nil =>
    intro i hd hi
    have e1 := congrArg List.length hd
    rw [List.length_drop, List.length_nil] at e1
    obtain rfl : i = a.length := by omega
    exact ⟨fun _ => .stop (sbB3 rfl) (fun h => by cases h), fun h => by simp at h⟩
  | cons x s ih =>
    intro i hd hi
    have hx : a[i]? = some x := by rw [← List.head?_drop, hd]; rfl
    have hlt := (List.getElem?_eq_some_iff.1 hx).1
    obtain ⟨k1, k2⟩ := ih (i + 1) (by rw [← List.drop_drop, hd]; rfl) hlt
    have hc := p_rcont (c := b) (by omega) hw x
    rw [List.all_cons]
    by_cases hm : x ∈ b
    · rw [yesD hm] at hc ⊢
      rw [Bool.true_and]
      exact ⟨fun h => .more (sbB1 hx hl hc) (k1 h), fun h => .more (sbB1 hx hl hc) (k2 h)⟩
    · rw [noD hm] at hc ⊢
      rw [Bool.false_and]
      exact ⟨(fun h => by cases h), fun _ => .stop (sbB2 hx hc) (fun h => by cases h)⟩
theorem w_rSb1 {a b : List Te} {k : Int} (h : Tri EX (.loop sbB) (sbS a b 0) (.out 0) (sbS a b k)) : Puk 33 [tesA a, tesA b] (boA true) :=
  pwalk (an := []) (ls := [.inv [0,1,5] 0 (.out 0) (sbS a b k)]) (ps := [Tri EX (.loop (subC (bodyOf Tryz.f33) [1,0,1,0,0])) (sbS a b 0) (.out 0) (sbS a b k)]) Tryz.func33 (by kernel_rfl) (by kernel_rfl) ⟨h, trivial⟩
theorem w_rSb0 {a b : List Te} (h : Tri EX (.loop sbB) (sbS a b 0) .ret sbR) : Puk 33 [tesA a, tesA b] (boA false) :=
  pwalk (an := []) (ls := [.inv [0,1,5] 0 (.ret) (sbR)]) (ps := [Tri EX (.loop (subC (bodyOf Tryz.f33) [1,0,1,0,0])) (sbS a b 0) (.ret) (sbR)]) Tryz.func33 (by kernel_rfl) (by kernel_rfl) ⟨h, trivial⟩
theorem p_rSb {a b : List Te} (hl : a.length ≤ 1000) (hb : b.length ≤ 1000) (hw : ∀ x ∈ b, x.Wf) : Puk 33 [tesA a, tesA b] (boA (a.all fun x => decide (x ∈ b))) := by
  obtain ⟨k1, k2⟩ := sb_loop hl hb hw a 0 rfl (Nat.zero_le _)
  cases h : a.all fun x => decide (x ∈ b) with
  | true => exact w_rSb1 (k1 h).tri
  | false => exact w_rSb0 (k2 h).tri
theorem w_cSb1 {b : List Te} {x : Te} {r : Bool} (h : Puk 24 [tesA b, teA x] (boA r)) : Puk 64 [teA x, .pin [tesA b]] (boA !r) :=
  pwalk (an := [.av (boA r)]) (ls := []) (ps := [Puk 24 [(.dt (.row (List.map Te.enc b))), (teA x)] (boA r)]) Tryz.func64 (by kernel_rfl) (by kernel_rfl) ⟨h, trivial⟩
theorem w_cSb {a b : List Te} {r : Bool} (h : Puk 53 [tesA a, .clf 64 [.pin [tesA b]]] (boA r)) : Puk 32 [tesA a, tesA b] (boA !r) :=
  pwalk (an := [.av (boA r)]) (ls := []) (ps := [Puk 53 [(.dt (.row (List.map Te.enc a))), (.clf 64 [(.pin [(.dt (.row (List.map Te.enc b)))])])] (boA r)]) Tryz.func32 (by kernel_rfl) (by kernel_rfl) ⟨h, trivial⟩
theorem all_any (a b : List Te) : (!a.any fun x => !decide (x ∈ b)) = a.all fun x => decide (x ∈ b) := by
  induction a with
  | nil => rfl
  | cons x r ih => rw [List.any_cons, List.all_cons, ← ih, Bool.not_or, Bool.not_not]
theorem p_cSb {a b : List Te} (hl : a.length ≤ 1000) (hb : b.length ≤ 1000) (hw : ∀ x ∈ b, x.Wf) : Puk 32 [tesA a, tesA b] (boA (a.all fun x => decide (x ∈ b))) := by
  rw [← all_any]
  exact w_cSb (p_ctFunc (cs := [.pin [tesA b]]) (by omega) fun x _ => w_cSb1 (p_cont (by omega) hw x))
end Go.Proofs.YtendgffijciehaaGreatDoor
/- ClauseTautology. -/
namespace Go.Proofs.YtendgffijciehaaGreatDoor
open Go.RowKit
open Te

abbrev fewV (l : List Raw) : Bool := decide (l.length ≤ 6) && fewAllR l 10
theorem p_fewV2 (l m : List Raw) (hl : l.length ≤ 9223372036854775807) (hm : m.length ≤ 9223372036854775807) : Puk 9 [.dt (.row [[.row (l.map Raw.enc)], [.row (m.map Raw.enc)]])] (boA (fewV l && fewV m)) := by
  have hf := p_FewAll l 10
  have hg := p_FewAll m 10
  unfold fewV
  cases b1 : decide (l.length ≤ 6) with
  | false =>
    have e := of_decide_eq_false b1
    exact pwalk (an := [.no, .no, .no, .av (inA l.length), yT]) (ls := [.run 1]) (ps := [(vi ↑l.length) = (vi (↑(List.map Raw.enc l).length)), Bn .gtr 3 (.tmp 14) (.const (vi 6)) (vi ↑l.length) (vi 6) bT]) Tryz.func9 (by kernel_rfl) (by kernel_rfl) ⟨lenEncR _, bin_igt (decide_eq_true (by omega)), trivial⟩
  | true =>
    have e := of_decide_eq_true b1
    cases b2 : fewAllR l 10 with
    | false =>
      rw [b2] at hf
      exact pwalk (an := [.no, .no, .no, .av (inA l.length), yF, .no, yF]) (ls := [.run 1]) (ps := [(vi ↑l.length) = (vi (↑(List.map Raw.enc l).length)), Bn .gtr 3 (.tmp 14) (.const (vi 6)) (vi ↑l.length) (vi 6) bF, Puk 42 [(.dt (.row (List.map Raw.enc l))), (inA 10)] (boA false)]) Tryz.func9 (by kernel_rfl) (by kernel_rfl) ⟨lenEncR _, bin_igt (decide_eq_false (by omega)), hf, trivial⟩
    | true =>
      rw [b2] at hf
      cases b3 : decide (m.length ≤ 6) with
      | false =>
        have e3 := of_decide_eq_false b3
        exact pwalk (an := [.no, .no, .no, .av (inA l.length), yF, .no, yT, .no, .no, .no, .no, .av (inA m.length), yT]) (ls := [.run 2]) (ps := [(vi ↑l.length) = (vi (↑(List.map Raw.enc l).length)), Bn .gtr 3 (.tmp 14) (.const (vi 6)) (vi ↑l.length) (vi 6) bF, Puk 42 [(.dt (.row (List.map Raw.enc l))), (inA 10)] (boA true), (vi ↑m.length) = (vi (↑(List.map Raw.enc m).length)), Bn .gtr 3 (.tmp 14) (.const (vi 6)) (vi ↑m.length) (vi 6) bT]) Tryz.func9 (by kernel_rfl) (by kernel_rfl) ⟨lenEncR _, bin_igt (decide_eq_false (by omega)), hf, lenEncR _, bin_igt (decide_eq_true (by omega)), trivial⟩
      | true =>
        have e3 := of_decide_eq_true b3
        cases b4 : fewAllR m 10 with
        | false =>
          rw [b4] at hg
          exact pwalk (an := [.no, .no, .no, .av (inA l.length), yF, .no, yT, .no, .no, .no, .no, .av (inA m.length), yF, .no, yF]) (ls := [.run 2]) (ps := [(vi ↑l.length) = (vi (↑(List.map Raw.enc l).length)), Bn .gtr 3 (.tmp 14) (.const (vi 6)) (vi ↑l.length) (vi 6) bF, Puk 42 [(.dt (.row (List.map Raw.enc l))), (inA 10)] (boA true), (vi ↑m.length) = (vi (↑(List.map Raw.enc m).length)), Bn .gtr 3 (.tmp 14) (.const (vi 6)) (vi ↑m.length) (vi 6) bF, Puk 42 [(.dt (.row (List.map Raw.enc m))), (inA 10)] (boA false)]) Tryz.func9 (by kernel_rfl) (by kernel_rfl) ⟨lenEncR _, bin_igt (decide_eq_false (by omega)), hf, lenEncR _, bin_igt (decide_eq_false (by omega)), hg, trivial⟩
        | true =>
          rw [b4] at hg
          exact pwalk (an := [.no, .no, .no, .av (inA l.length), yF, .no, yT, .no, .no, .no, .no, .av (inA m.length), yF, .no, yT, .no, .no, .no]) (ls := [.run 3]) (ps := [(vi ↑l.length) = (vi (↑(List.map Raw.enc l).length)), Bn .gtr 3 (.tmp 14) (.const (vi 6)) (vi ↑l.length) (vi 6) bF, Puk 42 [(.dt (.row (List.map Raw.enc l))), (inA 10)] (boA true), (vi ↑m.length) = (vi (↑(List.map Raw.enc m).length)), Bn .gtr 3 (.tmp 14) (.const (vi 6)) (vi ↑m.length) (vi 6) bF, Puk 42 [(.dt (.row (List.map Raw.enc m))), (inA 10)] (boA true)]) Tryz.func9 (by kernel_rfl) (by kernel_rfl) ⟨lenEncR _, bin_igt (decide_eq_false (by omega)), hf, lenEncR _, bin_igt (decide_eq_false (by omega)), hg, trivial⟩
theorem fewV_fit {l : List Raw} (h : fewV l = true) : l.length ≤ 6 ∧ ∀ r ∈ l, Fit r := by
  unfold fewV fewAllR at h
  simp only [Bool.and_eq_true, decide_eq_true_eq, List.all_eq_true] at h
  exact ⟨h.1, fun r hr => fewR_fit (m := 10) (by decide) (by decide) (h.2.2 r hr)⟩
end Go.Proofs.YtendgffijciehaaGreatDoor
/- ClauseSets. -/
namespace Go.Proofs.YtendgffijciehaaGreatDoor
open Go.RowKit
open Te

theorem mem_addN : ∀ (l out : List Te) (x : Te), x ∈ out ∨ x ∈ l → x ∈ addN out l
  | [], out, x, h => by
    rw [addN]
    rcases h with h | h
    · exact h
    · cases h
  | y :: l, out, x, h => by
    rw [addN]
    refine mem_addN l _ x ?_
    rcases h with h | h
    · refine .inl ?_
      split
      · exact h
      · exact List.mem_append_left _ h
    · rcases List.mem_cons.1 h with rfl | h
      · refine .inl ?_
        split
        · assumption
        · exact List.mem_append_right _ (List.mem_singleton.2 rfl)
      · exact .inr h
theorem woT_app (t : Te) : ∀ a : List Te, woT t (a ++ [t]) = woT t a
  | [] => by show (if t = t then woT t [] else t :: woT t []) = woT t []; rw [if_pos rfl]
  | x :: r => by
    rw [List.cons_append, woT, woT, woT_app t r]
theorem woT_add (t : Te) (a : List Te) : woT t (addN a [t]) = woT t a := by
  rw [addN, addN]
  split
  · rfl
  · exact woT_app t a
set_option maxRecDepth 100000 in
theorem w_sets {l m : List Raw} {r : Raw} {a b ab u z w ba : List Te} {t n : Te} {x s : Bool} (hf : Puk 9 [.dt (.row [[.row (l.map Raw.enc)], [.row (m.map Raw.enc)]])] (boA true)) (hr : Puk 10 [rawA r, inA 10] (boA true)) (h1 : Puk 11 [rawsA l] (tesA a)) (h2 : Puk 11 [rawsA m] (tesA b)) (h3 : Puk 12 [.dt (.row []), .dt (.row vars3), rawA r] (teA t))
    (n1 : Puk 23 [teA t] (teA n)) (n2 : Puk 14 [teA t] (teA n)) (n3 : Puk 22 [teA n, teA n] (boA true)) (c1 : Puk 24 [tesA a, teA t] (boA x)) (c2 : Puk 25 [tesA a, teA t] (boA x))
    (a1 : Puk 27 [tesA a, tesA b] (tesA ab)) (a2 : Puk 18 [tesA a, tesA b] (tesA ab)) (a3 : Puk 26 [tesA ab, tesA ab] (boA true)) (u1 : Puk 28 [.dt (.row [[.row (a.map Te.enc)], [.row (b.map Te.enc)], [.row (a.map Te.enc)]])] (tesA u)) (u2 : Puk 29 [.dt (.row [[.row (a.map Te.enc)], [.row (b.map Te.enc)], [.row (a.map Te.enc)]])] (tesA u)) (u3 : Puk 26 [tesA u, tesA u] (boA true))
    (z1 : Puk 18 [tesA a, .dt (.row [encT t])] (tesA z)) (w1 : Puk 30 [tesA z, teA t] (tesA w)) (w2 : Puk 31 [tesA a, teA t] (tesA w)) (w3 : Puk 26 [tesA w, tesA w] (boA true)) (s1 : Puk 32 [tesA a, tesA b] (boA s)) (s2 : Puk 33 [tesA a, tesA b] (boA s)) (b1 : Puk 18 [tesA b, tesA a] (tesA ba)) (b2 : Puk 32 [tesA a, tesA ba] (boA true)) : Puk 4 [rawsA l, rawsA m, rawA r] (boA true) :=
  pwalk (an := [yT, yT, yT, .av (tesA a), .av (tesA b), .av (.dt (.row vars3)), .av (teA t), .av (teA n), .av (teA n), yT, .av (boA x), .av (boA x), yT, .av (tesA ab), .av (tesA ab), yT, .av (tesA u), .av (tesA u), yT, .av (tesA z), .av (tesA w), .av (tesA w), yT, .av (boA s), .av (boA s), yT, .av (tesA ba), yT]) (ls := []) (ps := [Puk 8 [] (boA true), Puk 9 [(.dt (.row [[(.row (List.map Raw.enc l))], [(.row (List.map Raw.enc m))]]))] (boA true), Puk 10 [(rawA r), (inA 10)] (boA true), Puk 11 [(.dt (.row (List.map Raw.enc l)))] (.dt (.row (List.map Te.enc a))), Puk 11 [(.dt (.row (List.map Raw.enc m)))] (.dt (.row (List.map Te.enc b))), Puk 13 [(inA 3)] (.dt (.row [[(.val (str userB)), (.val (str [120]))], [(.val (str userB)), (.val (str [121]))], [(.val (str userB)), (.val (str [122]))]])), Puk 12 [(.dt (.row [])), (.dt (.row [[(.val (str userB)), (.val (str [120]))], [(.val (str userB)), (.val (str [121]))], [(.val (str userB)), (.val (str [122]))]])), (rawA r)] (teA t), Puk 23 [(teA t)] (teA n), Puk 14 [(teA t)] (teA n), Puk 22 [(teA n), (teA n)] (boA true), Puk 24 [(.dt (.row (List.map Te.enc a))), (teA t)] (boA x), Puk 25 [(.dt (.row (List.map Te.enc a))), (teA t)] (boA x), Bn .eql 4 (.tmp 37) (.tmp 40) (Value.bool x) (Value.bool x) bT, Puk 27 [(.dt (.row (List.map Te.enc a))), (.dt (.row (List.map Te.enc b)))] (.dt (.row (List.map Te.enc ab))), Puk 18 [(.dt (.row (List.map Te.enc a))), (.dt (.row (List.map Te.enc b)))] (.dt (.row (List.map Te.enc ab))), Puk 26 [(.dt (.row (List.map Te.enc ab))), (.dt (.row (List.map Te.enc ab)))] (boA true), Puk 28 [(.dt (.row [[(.row (List.map Te.enc a))], [(.row (List.map Te.enc b))], [(.row (List.map Te.enc a))]]))] (.dt (.row (List.map Te.enc u))), Puk 29 [(.dt (.row [[(.row (List.map Te.enc a))], [(.row (List.map Te.enc b))], [(.row (List.map Te.enc a))]]))] (.dt (.row (List.map Te.enc u))), Puk 26 [(.dt (.row (List.map Te.enc u))), (.dt (.row (List.map Te.enc u)))] (boA true), Puk 18 [(.dt (.row (List.map Te.enc a))), (.dt (.row [encT t]))] (.dt (.row (List.map Te.enc z))), Puk 30 [(.dt (.row (List.map Te.enc z))), (teA t)] (.dt (.row (List.map Te.enc w))), Puk 31 [(.dt (.row (List.map Te.enc a))), (teA t)] (.dt (.row (List.map Te.enc w))), Puk 26 [(.dt (.row (List.map Te.enc w))), (.dt (.row (List.map Te.enc w)))] (boA true), Puk 32 [(.dt (.row (List.map Te.enc a))), (.dt (.row (List.map Te.enc b)))] (boA s), Puk 33 [(.dt (.row (List.map Te.enc a))), (.dt (.row (List.map Te.enc b)))] (boA s), Bn .eql 4 (.tmp 80) (.tmp 83) (Value.bool s) (Value.bool s) bT, Puk 18 [(.dt (.row (List.map Te.enc b))), (.dt (.row (List.map Te.enc a)))] (.dt (.row (List.map Te.enc ba))), Puk 32 [(.dt (.row (List.map Te.enc a))), (.dt (.row (List.map Te.enc ba)))] (boA true)]) Tryz.func4 (by kernel_rfl) (by kernel_rfl) ⟨p_first, hf, hr, h1, h2, p_vars3, h3, n1, n2, n3, c1, c2, bin_beq (by kernel_rfl) (by simp), a1, a2, a3, u1, u2, u3, z1, w1, w2, w3, s1, s2, bin_beq (by kernel_rfl) (by simp), b1, b2, trivial⟩
theorem eqSelf {c : List Te} (hl : c.length ≤ 1000) (hm : ∀ x ∈ c, x.Mkd) : Puk 26 [tesA c, tesA c] (boA true) := by
  have h := p_eqAll (a := c) (b := c) (by omega) (fun x hx => (hm x hx).wf)
  rwa [show sameD c c = true from decide_eq_true rfl] at h
theorem sets19 {l m : List Raw} (hl : l.length ≤ 9223372036854775807) (hlm : m.length ≤ 9223372036854775807) (r : Raw) : Puk 4 [rawsA l, rawsA m, rawA r] (boA true) := by
  have hf := p_fewV2 l m hl hlm
  cases b1 : fewV l && fewV m with
  | false =>
    rw [b1] at hf
    exact pwalk (an := [yT, yF]) (ls := []) (ps := [Puk 8 [] (boA true), Puk 9 [(.dt (.row [[(.row (List.map Raw.enc l))], [(.row (List.map Raw.enc m))]]))] (boA false)]) Tryz.func4 (by kernel_rfl) (by kernel_rfl) ⟨p_first, hf, trivial⟩
  | true =>
    rw [b1] at hf
    rw [Bool.and_eq_true] at b1
    have hr := p_Few r 10
    cases b2 : fewR r 10 with
    | false =>
      rw [b2] at hr
      exact pwalk (an := [yT, yT, yF]) (ls := []) (ps := [Puk 8 [] (boA true), Puk 9 [(.dt (.row [[(.row (List.map Raw.enc l))], [(.row (List.map Raw.enc m))]]))] (boA true), Puk 10 [(rawA r), (inA 10)] (boA false)]) Tryz.func4 (by kernel_rfl) (by kernel_rfl) ⟨p_first, hf, hr, trivial⟩
    | true =>
      rw [b2] at hr
      obtain ⟨g1, g2⟩ := fewV_fit b1.1
      obtain ⟨g3, g4⟩ := fewV_fit b1.2
      obtain ⟨a, a1, a2, a3⟩ := p_made (by omega) g2
      obtain ⟨b, c1, c2, c3⟩ := p_made (by omega) g4
      obtain ⟨t, t1, t2⟩ := p_lit0 (fewR_fit (m := 10) (by decide) (by decide) b2)
      have aw : ∀ x ∈ a, x.Wf := fun x hx => (a1 x hx).wf
      have bw : ∀ x ∈ b, x.Wf := fun x hx => (c1 x hx).wf
      have tm : ∀ x ∈ [t], Te.Mkd x := fun x hx => by rw [List.mem_singleton] at hx; subst hx; exact t1
      have nil : ∀ x ∈ ([] : List Te), x.Mkd := fun x hx => by cases hx
      have abm := addN_mkd b a a1 c1
      have abl := addN_len b a
      have um := addN_mkd a [] nil a1
      have ul := addN_len a []
      have vm := addN_mkd b _ um c1
      have vl := addN_len b (addN [] a)
      have wm := addN_mkd a _ vm a1
      have wl := addN_len a (addN (addN [] a) b)
      have zm := addN_mkd [t] a a1 tm
      have zl := addN_len [t] a
      have bam := addN_mkd a b c1 a1
      have bal := addN_len a b
      simp only [List.length_nil, List.length_cons] at ul zl
      have wf : ∀ {c : List Te}, (∀ x ∈ c, x.Mkd) → ∀ x ∈ c, x.Wf := fun h x hx => (h x hx).wf
      have hn : Puk 22 [teA (neg t), teA (neg t)] (boA true) := by
        have h := p_req t1.neg.wf (neg t)
        rwa [show sameD (neg t) (neg t) = true from decide_eq_true rfl] at h
      have hz := p_rAdd (c := a) (l := [t]) (by omega) (by show 1 ≤ 100000; decide) aw (wf tm)
      rw [show tesA [t] = .dt (.row [encT t]) by unfold tesA; rw [row1]] at hz
      have hw1 := (p_Wo (c := addN a [t]) (t := t) (by omega) (wf zm)).1
      rw [woT_add] at hw1
      have hw2 := (p_Wo (c := a) (t := t) (by omega) aw).2
      have wom : ∀ x ∈ woT t a, x.Mkd := fun x hx => by
        refine a1 x ?_
        clear hw1 hw2
        revert hx
        generalize a = c
        induction c with
        | nil => intro hx; exact hx
        | cons y c ih =>
          intro hx
          rw [woT] at hx
          split at hx
          · exact List.mem_cons_of_mem _ (ih hx)
          · rcases List.mem_cons.1 hx with rfl | hx
            · exact List.mem_cons_self ..
            · exact List.mem_cons_of_mem _ (ih hx)
      have wol := woT_len t a
      have hsub := p_cSb (a := a) (b := addN b a) (by omega) (by omega) (wf bam)
      rw [show (a.all fun x => decide (x ∈ addN b a)) = true from List.all_eq_true.2 fun x hx => decide_eq_true (mem_addN a b x (.inr hx))] at hsub
      exact w_sets hf hr a3 c3 t2 (p_neg t) (p_rneg t) hn (p_cont (by omega) aw t) (p_rcont (by omega) aw t) (p_cAdd (by omega) (by omega) aw bw) (p_rAdd (by omega) (by omega) aw bw) (eqSelf (by omega) abm)
        (w_cUn (p_cAdd (c := []) (Nat.zero_le _) (by omega) (wf nil) aw) (p_cAdd (by omega) (by omega) (wf um) bw) (p_cAdd (by omega) (by omega) (wf vm) aw)) (w_rUn (p_rAdd (c := []) (Nat.zero_le _) (by omega) (wf nil) aw) (p_rAdd (by omega) (by omega) (wf um) bw) (p_rAdd (by omega) (by omega) (wf vm) aw)) (eqSelf (by omega) wm)
        hz hw1 hw2 (eqSelf (by omega) wom) (p_cSb (by omega) (by omega) bw) (p_rSb (by omega) (by omega) bw) (p_rAdd (by omega) (by omega) bw aw) hsub
end Go.Proofs.YtendgffijciehaaGreatDoor
/- ClauseSets as a contract of the machine. -/
namespace Go.Proofs.YtendgffijciehaaGreatDoor
open Go.RowKit

theorem sets19_any (W : World) (hG : Gx W) (l : List Raw) (_ : ∀ s ∈ l, s.Wf) (A : Option Addr) (n c : Nat) (_ : n ≤ 9223372036854775807) (hr : Rd (fun _ => True) W (.slice A n c) (.row (l.map Raw.enc)))
    (q : List Raw) (_ : ∀ s ∈ q, s.Wf) (A2 : Option Addr) (n2 c2 : Nat) (_ : n2 ≤ 9223372036854775807) (hq : Rd (fun _ => True) W (.slice A2 n2 c2) (.row (q.map Raw.enc)))
    (s : Raw) (_ : s.Wf) (B : Option Addr) (m e : Nat) (ht : Rd (fun _ => True) W (.slice B m e) (.row (s.l.map Raw.enc))) : Says 4 #[.slice A n c, .slice A2 n2 c2, rawV s (.slice B m e)] W :=
  (sets19 (by have := hr.len; rw [List.length_map] at this; omega) (by have := hq.len; rw [List.length_map] at this; omega) s).law (ok := fun _ => True) hG ⟨_, _, rfl, hr, _, _, rfl, hq, _, [], rfl, RV.ofRaw ht, rfl⟩
end Go.Proofs.YtendgffijciehaaGreatDoor
