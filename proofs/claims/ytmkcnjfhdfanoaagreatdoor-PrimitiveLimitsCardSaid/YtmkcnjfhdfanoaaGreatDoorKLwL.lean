/- Chapter 7: PrimitiveLimits. -/
import Derived.Test.YtmkcnjfhdfanoaaGreatDoorKN
namespace Go.Proofs.YtmkcnjfhdfanoaaGreatDoor
open Go.RowKit

abbrev li1 (n m c : Int) (l : List UInt8) (i : Int) : AS := ⟨stt 75 [(0, inA n), (1, inA m), (2, inA c), (6, boA false), (7, stA l), (8, inA i)], []⟩
abbrev li2 (n m c : Int) (s l : List UInt8) (i : Int) : AS := ⟨stt 75 [(0, inA n), (1, inA m), (2, inA c), (6, boA false), (7, stA s), (9, stA l), (10, inA i)], []⟩
noncomputable abbrev lb1 : Code := subC (bodyOf Tryz.f8) [1,1,1,0,1,0,0]
noncomputable abbrev lb2 : Code := subC (bodyOf Tryz.f8) [1,1,1,1,1,0,1,0,0]
theorem lb1_go {n m c i : Int} {l : List UInt8} (h0 : 0 ≤ i) (h : i < n % 52) (hl : l.length ≤ 100) : Tri EX lb1 (li1 n m c l i) .nxt (li1 n m c (l ++ [48]) (i + 1)) :=
  twalk (c := subC (bodyOf Tryz.f8) [1,1,1,0,1,0,0]) (s := li1 n m c l i) (an := [.av (inA (n % 52)), yT, .av (stA (l ++ [48])), .av (inA (i + 1))]) (ls := []) (ft := [0,1,2,6,7,8]) (nb := 0) (e := .nxt) (s' := li1 n m c (l ++ [48]) (i + 1)) (ps := [Puk 34 [(inA n), (inA 52)] (inA (n % 52)), Bn .lss 3 (.tmp 21) (.tmp 23) (vi i) (vi (n % 52)) bT, Bn .add 9 (.tmp 27) (.const (Value.string { data := #[48] : ByteArray })) (str l) (str [48]) (str (l ++ [48])), Bn .add 3 (.tmp 25) (.const (vi 1)) (vi i) (vi 1) (vi (i + 1))]) (by kernel_rfl)
    ⟨p_mod _ _ (by decide) (by decide), bin_ilt (decide_eq_true h), bin_strs (a := l) (b := [48]) (by show l.length + 1 ≤ _; omega), bin_iadd rfl (by omega) (by omega), trivial⟩
theorem lb1_end {n m c i : Int} {l : List UInt8} (h : ¬ i < n % 52) : Tri EX lb1 (li1 n m c l i) (.out 0) (li1 n m c l i) :=
  twalk (c := subC (bodyOf Tryz.f8) [1,1,1,0,1,0,0]) (s := li1 n m c l i) (an := [.av (inA (n % 52)), yF]) (ls := []) (ft := [0,1,2,6,7,8]) (nb := 0) (e := .out 0) (s' := li1 n m c l i) (ps := [Puk 34 [(inA n), (inA 52)] (inA (n % 52)), Bn .lss 3 (.tmp 21) (.tmp 23) (vi i) (vi (n % 52)) bF]) (by kernel_rfl)
    ⟨p_mod _ _ (by decide) (by decide), bin_ilt (decide_eq_false h), trivial⟩
theorem lb2_go {n m c i : Int} {s l : List UInt8} (h0 : 0 ≤ i) (h : i < m % 52) (hl : l.length ≤ 100) : Tri EX lb2 (li2 n m c s l i) .nxt (li2 n m c s (l ++ [51]) (i + 1)) :=
  twalk (c := subC (bodyOf Tryz.f8) [1,1,1,1,1,0,1,0,0]) (s := li2 n m c s l i) (an := [.av (inA (m % 52)), yT, .av (stA (l ++ [51])), .av (inA (i + 1))]) (ls := []) (ft := [0,1,2,6,7,9,10]) (nb := 0) (e := .nxt) (s' := li2 n m c s (l ++ [51]) (i + 1)) (ps := [Puk 34 [(inA m), (inA 52)] (inA (m % 52)), Bn .lss 3 (.tmp 29) (.tmp 31) (vi i) (vi (m % 52)) bT, Bn .add 9 (.tmp 35) (.const (Value.string { data := #[51] : ByteArray })) (str l) (str [51]) (str (l ++ [51])), Bn .add 3 (.tmp 33) (.const (vi 1)) (vi i) (vi 1) (vi (i + 1))]) (by kernel_rfl)
    ⟨p_mod _ _ (by decide) (by decide), bin_ilt (decide_eq_true h), bin_strs (a := l) (b := [51]) (by show l.length + 1 ≤ _; omega), bin_iadd rfl (by omega) (by omega), trivial⟩
theorem lb2_end {n m c i : Int} {s l : List UInt8} (h : ¬ i < m % 52) : Tri EX lb2 (li2 n m c s l i) (.out 2) (li2 n m c s l i) :=
  twalk (c := subC (bodyOf Tryz.f8) [1,1,1,1,1,0,1,0,0]) (s := li2 n m c s l i) (an := [.av (inA (m % 52)), yF]) (ls := []) (ft := [0,1,2,6,7,9,10]) (nb := 0) (e := .out 2) (s' := li2 n m c s l i) (ps := [Puk 34 [(inA m), (inA 52)] (inA (m % 52)), Bn .lss 3 (.tmp 29) (.tmp 31) (vi i) (vi (m % 52)) bF]) (by kernel_rfl)
    ⟨p_mod _ _ (by decide) (by decide), bin_ilt (decide_eq_false h), trivial⟩
theorem lb1_all (n m c : Int) : ∀ (k : Nat) (l : List UInt8) (i : Int), 0 ≤ i → i + k = n % 52 → l.length + k ≤ 100 → ∃ (l' : List UInt8) (j : Int), l'.length ≤ 100 ∧ Lps EX lb1 (li1 n m c l i) (.out 0) (li1 n m c l' j)
  | 0, l, i, _, h, hl => ⟨l, i, by omega, .stop (lb1_end (by omega)) (fun h => by cases h)⟩
  | k + 1, l, i, h0, h, hl => by
    obtain ⟨l', j, h1, h2⟩ := lb1_all n m c k (l ++ [48]) (i + 1) (by omega) (by omega) (by rw [List.length_append]; show l.length + 1 + k ≤ 100; omega)
    exact ⟨l', j, h1, .more (lb1_go h0 (by omega) (by omega)) h2⟩
theorem lb2_all (n m c : Int) (s : List UInt8) : ∀ (k : Nat) (l : List UInt8) (i : Int), 0 ≤ i → i + k = m % 52 → l.length + k ≤ 100 → ∃ (l' : List UInt8) (j : Int), l'.length ≤ 100 ∧ Lps EX lb2 (li2 n m c s l i) (.out 2) (li2 n m c s l' j)
  | 0, l, i, _, h, hl => ⟨l, i, by omega, .stop (lb2_end (by omega)) (fun h => by cases h)⟩
  | k + 1, l, i, h0, h, hl => by
    obtain ⟨l', j, h1, h2⟩ := lb2_all n m c s k (l ++ [51]) (i + 1) (by omega) (by omega) (by rw [List.length_append]; show l.length + 1 + k ≤ 100; omega)
    exact ⟨l', j, h1, .more (lb2_go h0 (by omega) (by omega)) h2⟩
theorem rat_arg {a b : List UInt8} (ha : a.length ≤ 100) (hb : b.length ≤ 100) : Arg (.num (Rat.divInt (Dec.dval a) (Dec.dval b))) :=
  ⟨(Rb.mk' (k := 120) (by decide) (Nat.lt_of_lt_of_le (dval_lt18 ha) (by decide +kernel)) (Nat.lt_of_lt_of_le (dval_lt18 hb) (by decide +kernel))), Nat.zero_le _⟩
/-- what Apply returns -/
def resO : Option Tr → Ob
  | some t => t.ob
  | none => zO
def resE : Option Tr → Int
  | some _ => 0
  | none => 2
theorem resT_eq (o : Option Tr) : resT o = .tup [obA (resO o), inA (resE o)] := by cases o <;> rfl
theorem resO_wf {t : Tr} {k : Nat} (h : t.Ok k) (hk : k ≤ 100000) : (resO (Tr.kept' t)).Wf := by
  unfold Tr.kept'
  split
  · exact h.wf hk
  · exact zO_wf
theorem p_PrimitiveLimits (n m c : Int) : Puk 8 [inA n, inA m, inA c] (boA true) := by
  obtain ⟨s, j, hs, h1⟩ := lb1_all n m c (n % 52).toNat [49] 0 (by omega) (by omega) (by show 1 + _ ≤ 100; omega)
  obtain ⟨t, j', ht, h2⟩ := lb2_all n m c s (m % 52).toNat [55] 0 (by omega) (by omega) (by show 1 + _ ≤ 100; omega)
  have r1 := p_rRat (a := s) (b := [49]) (by omega) (by decide)
  have hc := Int.emod_nonneg c (show (9 : Int) ≠ 0 by decide)
  have hc' := Int.emod_lt_of_pos c (show (0 : Int) < 9 by decide)
  have li : (Lib.itoa (c % 9)).length ≤ 100 := Nat.le_trans (itoa_len (k := 1) (by decide) (by omega)) (by decide)
  have r2 := p_rRat (a := Lib.itoa (c % 9)) (b := t) (by omega) (by omega)
  have ax := rat_arg hs (show [49].length ≤ 100 by decide)
  have ay := rat_arg li ht
  have r3 := p_rFrom (c % 9) (by omega) (by omega)
  generalize Rat.divInt (Dec.dval s) (Dec.dval [49]) = x at *
  generalize Rat.divInt (Dec.dval (Lib.itoa (c % 9))) (Dec.dval t) = y at *
  generalize Lib.itoa (c % 9) = z at *
  rcases (by omega : c % 2 = 0 ∨ c % 2 = 1) with h | h
  · have a1 := p_oApp11 ax ay
    have a2 := p_rApp11 ax ay
    have w := resO_wf (ap_ok ax ay nil_arg 11) (by decide)
    rw [resT_eq] at a1 a2
    have e : Tr.apO 11 (.num x) (.num y) nilT = Tr.kept' (Tr.ap 11 (.num x) (.num y) nilT) := rfl
    rw [e] at a1
    generalize resO (Tr.kept' (Tr.ap 11 (.num x) (.num y) nilT)) = o at *
    generalize resE (Tr.kept' (Tr.ap 11 (.num x) (.num y) nilT)) = er at *
    exact pwalk (an := [yT, .av (trA (.num x)), .av (inA (c % 9)), .av (stA z), .av (trA (.num y)), .av (inA 0), .no, .av (syA lispB [98, 105, 110, 97, 114, 121, 45, 42]), .av (.tup [obA o, inA er]), .av (.tup [obA o, inA er]), yT, yT]) (ls := [.inv [0,1,2,6,7,8] 0 (.out 0) (li1 n m c s j), .inv [0,1,2,6,7,9,10] 0 (.out 2) (li2 n m c s t j')]) (ps := [Puk 12 [] (boA true), Tri EX (.loop (subC (bodyOf Tryz.f8) [1,1,1,0,1,0,0])) (li1 n m c [49] 0) (.out 0) (li1 n m c s j), Tri EX (.loop (subC (bodyOf Tryz.f8) [1,1,1,1,1,0,1,0,0])) (li2 n m c s [55] 0) (.out 2) (li2 n m c s t j'), Puk 35 [(stA s), (stA [49])] (trA (Tr.num x)), Puk 34 [(inA c), (inA 9)] (inA (c % 9)), Puk 36 [(inA (c % 9))] (stA z), Puk 35 [(stA z), (stA t)] (trA (Tr.num y)), Puk 34 [(inA c), (inA 2)] (inA 0), Puk 33 [(stA [98, 105, 110, 97, 114, 121, 45, 42])] (syA lispB [98, 105, 110, 97, 114, 121, 45, 42]), Puk 20 [(syA lispB [98, 105, 110, 97, 114, 121, 45, 42]), (.dt (.row [encL (Tr.num x).ob, encL (Tr.num y).ob]))] (.tup [(obA o), (inA er)]), Puk 21 [(syA lispB [98, 105, 110, 97, 114, 121, 45, 42]), (.dt (.row [encL (Tr.num x).ob, encL (Tr.num y).ob]))] (.tup [(obA o), (inA er)]), Bn .eql 37 (.tmp 67) (.tmp 68) (vi er) (vi er) bT, Puk 22 [(obA o), (obA o)] (boA true)]) Tryz.func8 (by kernel_rfl) (by kernel_rfl)
      ⟨p_first, h1.tri, h2.tri, r1, p_mod _ _ (by decide) (by decide), r3, r2, (p_mod c 2 (by decide) (by decide)).val (by rw [h]), p_lisp _, a1, a2, bin_ieq (decide_eq_true rfl), p_rEqR o w, trivial⟩
  · have a1 := p_oApp10 ax ay
    have a2 := p_rApp10 ax ay
    have w := resO_wf (ap_ok ax ay nil_arg 10) (by decide)
    rw [resT_eq] at a1 a2
    have e : Tr.apO 10 (.num x) (.num y) nilT = Tr.kept' (Tr.ap 10 (.num x) (.num y) nilT) := rfl
    rw [e] at a1
    generalize resO (Tr.kept' (Tr.ap 10 (.num x) (.num y) nilT)) = o at *
    generalize resE (Tr.kept' (Tr.ap 10 (.num x) (.num y) nilT)) = er at *
    exact pwalk (an := [yT, .av (trA (.num x)), .av (inA (c % 9)), .av (stA z), .av (trA (.num y)), .av (inA 1), .no, .av (syA lispB [98, 105, 110, 97, 114, 121, 45, 43]), .av (.tup [obA o, inA er]), .av (.tup [obA o, inA er]), yT, yT]) (ls := [.inv [0,1,2,6,7,8] 0 (.out 0) (li1 n m c s j), .inv [0,1,2,6,7,9,10] 0 (.out 2) (li2 n m c s t j')]) (ps := [Puk 12 [] (boA true), Tri EX (.loop (subC (bodyOf Tryz.f8) [1,1,1,0,1,0,0])) (li1 n m c [49] 0) (.out 0) (li1 n m c s j), Tri EX (.loop (subC (bodyOf Tryz.f8) [1,1,1,1,1,0,1,0,0])) (li2 n m c s [55] 0) (.out 2) (li2 n m c s t j'), Puk 35 [(stA s), (stA [49])] (trA (Tr.num x)), Puk 34 [(inA c), (inA 9)] (inA (c % 9)), Puk 36 [(inA (c % 9))] (stA z), Puk 35 [(stA z), (stA t)] (trA (Tr.num y)), Puk 34 [(inA c), (inA 2)] (inA 1), Puk 33 [(stA [98, 105, 110, 97, 114, 121, 45, 43])] (syA lispB [98, 105, 110, 97, 114, 121, 45, 43]), Puk 20 [(syA lispB [98, 105, 110, 97, 114, 121, 45, 43]), (.dt (.row [encL (Tr.num x).ob, encL (Tr.num y).ob]))] (.tup [(obA o), (inA er)]), Puk 21 [(syA lispB [98, 105, 110, 97, 114, 121, 45, 43]), (.dt (.row [encL (Tr.num x).ob, encL (Tr.num y).ob]))] (.tup [(obA o), (inA er)]), Bn .eql 37 (.tmp 67) (.tmp 68) (vi er) (vi er) bT, Puk 22 [(obA o), (obA o)] (boA true)]) Tryz.func8 (by kernel_rfl) (by kernel_rfl)
      ⟨p_first, h1.tri, h2.tri, r1, p_mod _ _ (by decide) (by decide), r3, r2, (p_mod c 2 (by decide) (by decide)).val (by rw [h]), p_lisp _, a1, a2, bin_ieq (decide_eq_true rfl), p_rEqR o w, trivial⟩

theorem limits7_any (W : World) (hG : Gx W) (n : Int) (_ : -9223372036854775808 ≤ n) (_ : n ≤ 9223372036854775807) (m : Int) (_ : -9223372036854775808 ≤ m) (_ : m ≤ 9223372036854775807) (c : Int) (_ : -9223372036854775808 ≤ c) (_ : c ≤ 9223372036854775807) :
    Says 8 #[.int .i64 n, .int .i64 m, .int .i64 c] W :=
  (p_PrimitiveLimits n m c).law (ok := fun _ => True) hG ⟨_, _, rfl, .val _, _, _, rfl, .val _, _, _, rfl, .val _, rfl⟩
end Go.Proofs.YtmkcnjfhdfanoaaGreatDoor
