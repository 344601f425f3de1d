/- The maker's objects, the names and arities of the primitives in the reference, and FewAll, for the laws on clauses. -/
import Derived.Test.YtendgffijciehaaGreatDoorFI
import Derived.Test.YtendgffijciehaaGreatDoorFG
namespace Go.Proofs.YtendgffijciehaaGreatDoor
open Go.RowKit

abbrev wrow (w : List UInt8) : List Dt := [.val (str w)]
/-- the primitives: name and arity -/
abbrev primL : List (List UInt8 × Nat) := [([105, 102], 3), ([101, 113, 117, 97, 108], 2), ([99, 111, 110, 115], 2), ([99, 97, 114], 1), ([99, 100, 114], 1), ([99, 111, 110, 115, 112], 1), ([115, 121, 109, 98, 111, 108, 112], 1), ([115, 116, 114, 105, 110, 103, 112], 1), ([114, 97, 116, 105, 111, 110, 97, 108, 112], 1), ([105, 110, 116, 101, 103, 101, 114, 112], 1), ([98, 105, 110, 97, 114, 121, 45, 43], 2), ([98, 105, 110, 97, 114, 121, 45, 42], 2), ([117, 110, 97, 114, 121, 45, 45], 1), ([117, 110, 97, 114, 121, 45, 47], 1), ([60], 2), ([110, 117, 109, 101, 114, 97, 116, 111, 114], 1), ([100, 101, 110, 111, 109, 105, 110, 97, 116, 111, 114], 1), ([102, 108, 111, 111, 114], 1), ([115, 121, 109, 98, 111, 108, 45, 110, 97, 109, 101], 1), ([115, 121, 109, 98, 111, 108, 45, 112, 97, 99, 107, 97, 103, 101, 45, 110, 97, 109, 101], 1), ([105, 110, 116, 101, 114, 110], 2), ([115, 116, 114, 105, 110, 103, 45, 97, 112, 112, 101, 110, 100], 2), ([115, 116, 114, 105, 110, 103, 45, 108, 101, 110, 103, 116, 104], 1), ([115, 116, 114, 105, 110, 103, 45, 98, 121, 116, 101], 2), ([98, 121, 116, 101, 45, 115, 116, 114, 105, 110, 103], 1)]
abbrev prow (x : List UInt8 × Nat) : List Dt := [.val (str lispB), .val (str x.1)]
abbrev rrow (x : List UInt8 × Nat) : List Dt := [.val (str x.1), .val (.int .i64 x.2)]
theorem dropnil {α : Type} {l : List α} {i : Nat} (h : l.drop i = []) : l.length ≤ i := by
  have := congrArg List.length h
  rw [List.length_drop, List.length_nil] at this
  omega
theorem dropcons {α : Type} {l r : List α} {i : Nat} {b : α} (h : l.drop i = b :: r) : l[i]? = some b ∧ l.drop (i + 1) = r ∧ i < l.length := by
  have h1 : (l.drop i)[0]? = some b := by rw [h]; rfl
  rw [List.getElem?_drop, Nat.add_zero] at h1
  exact ⟨h1, by rw [← List.drop_drop, h]; rfl, (List.getElem?_eq_some_iff.1 h1).1⟩
theorem p_rText (t : List UInt8) : Puk 124 [stA t] (trA (.txt t)) :=
  ⟨fnm Tryz.func124 rfl (by kernel_rfl), fun ok w vs ht hv => by
    obtain rfl := hv.one_val
    exact (rText_any w t).mono fun _ _ h => RetLeaf.pure (r := txtO t) rfl h⟩
abbrev rowA (ts : List Tr) : AV := .dt (.row (ts.map fun t => encL t.ob))
theorem p_rRat {a b : List UInt8} (ha : a.length ≤ 1100000) (hb : b.length ≤ 1100000) : Puk 69 [stA a, stA b] (trA (.num (Rat.divInt (Dec.dval a) (Dec.dval b)))) :=
  ⟨fnm Tryz.func69 rfl (by kernel_rfl), fun ok w vs ht hv => by
    obtain ⟨u, us, rfl, h1, h2⟩ := hv
    obtain rfl := RL.one_val h2
    rw [Rd.val_eq h1]
    exact (rRationalQ a b w ha hb).mono fun _ _ h => RetLeaf.pure (r := ratO (Rat.divInt (Dec.dval a) (Dec.dval b))) rfl h⟩
theorem p_rFrom (n : Int) (h0 : -9223372036854775808 ≤ n) (h1 : n ≤ 9223372036854775807) : Puk 70 [inA n] (stA (Lib.itoa n)) :=
  ⟨fnm Tryz.func70 rfl (by kernel_rfl), fun ok w vs ht hv => by
    obtain rfl := hv.one_val
    refine (refFromInt_any n w ht.1 h0 h1).mono ?_
    rintro e w' ⟨rfl, h2⟩
    exact ⟨_, rfl, h2, .val _⟩⟩
theorem p_User (l : List UInt8) : Puk 48 [stA l] (syA userB l) := pwalk (an := []) (ls := []) (ps := []) Tryz.func48 (by kernel_rfl) (by kernel_rfl) trivial
theorem ix_name {k : Nat} {s : List UInt8} (h : symNames[k]? = some s) : IxAt (symNames.map wrow) (k : Int) 1 [.val (str s)] := ⟨Int.natCast_nonneg _, by
  rw [Int.toNat_natCast, List.getElem?_map, h]; rfl, rfl⟩
theorem p_SymA {n : Int} {k : Nat} {s : List UInt8} (hk : n % 13 = k) (h9 : k < 9) (hs : symNames[k]? = some s) : Puk 123 [inA n] (syA userB s) :=
  pwalk (an := [.no, .no, .av (inA k), .no, yT, .av (.pin [stA s]), .av (syA userB s)]) (ls := []) (ps := [Puk 19 [(inA n), (inA 13)] (inA ↑k), Bn .lss 3 (.tmp 12) (.tmp 14) (vi ↑k) (vi 9) bT, IxAt (symNames.map wrow) (k : Int) 1 [.val (str s)], Puk 48 [(stA s)] (syA userB s)]) Tryz.func123 (by kernel_rfl) (by kernel_rfl) ⟨(p_mod n 13 (by decide) (by decide)).val (by rw [hk]), bin_ilt (decide_eq_true (by omega)), ix_name hs, p_User s, trivial⟩
theorem p_Sym (n : Int) : Puk 123 [inA n] (syA (symP n).1 (symP n).2) := by
  obtain ⟨k, hk, hlt⟩ : ∃ k : Nat, n % 13 = k ∧ k < 13 := ⟨(n % 13).toNat, by omega, by omega⟩
  have e : symP n = symTab.getD k (userB, []) := by unfold symP; rw [hk]; rfl
  rw [e]
  match k, hlt, hk with
  | 0, _, hk => exact p_SymA hk (by decide) rfl
  | 1, _, hk => exact p_SymA hk (by decide) rfl
  | 2, _, hk => exact p_SymA hk (by decide) rfl
  | 3, _, hk => exact p_SymA hk (by decide) rfl
  | 4, _, hk => exact p_SymA hk (by decide) rfl
  | 5, _, hk => exact p_SymA hk (by decide) rfl
  | 6, _, hk => exact p_SymA hk (by decide) rfl
  | 7, _, hk => exact p_SymA hk (by decide) rfl
  | 8, _, hk => exact p_SymA hk (by decide) rfl
  | 9, _, hk => exact pwalk (an := [.no, .no, .av (inA 9), .no, .no, .no, .no, .av (syA lispB nilB)]) (ls := []) (ps := [Puk 19 [(inA n), (inA 13)] (inA 9), Puk 51 [(stA [110, 105, 108])] (syA lispB nilB)]) Tryz.func123 (by kernel_rfl) (by kernel_rfl) ⟨(p_mod n 13 (by decide) (by decide)).val (by rw [hk]; rfl), p_lisp _, trivial⟩
  | 10, _, hk => exact pwalk (an := [.no, .no, .av (inA 10), .no, .no, .no, .no, .no, .no, .no, .av (syA lispB [116])]) (ls := []) (ps := [Puk 19 [(inA n), (inA 13)] (inA 10), Puk 51 [(stA [116])] (syA lispB [116])]) Tryz.func123 (by kernel_rfl) (by kernel_rfl) ⟨(p_mod n 13 (by decide) (by decide)).val (by rw [hk]; rfl), p_lisp _, trivial⟩
  | 11, _, hk => exact pwalk (an := [.no, .no, .av (inA 11), .no, .no, .no, .no, .no, .no, .no, .no, .no, .no, .av (syA lispB [99, 97, 114])]) (ls := []) (ps := [Puk 19 [(inA n), (inA 13)] (inA 11), Puk 51 [(stA [99, 97, 114])] (syA lispB [99, 97, 114])]) Tryz.func123 (by kernel_rfl) (by kernel_rfl) ⟨(p_mod n 13 (by decide) (by decide)).val (by rw [hk]; rfl), p_lisp _, trivial⟩
  | 12, _, hk => exact pwalk (an := [.no, .no, .av (inA 12), .no, .no, .no, .no, .no, .no, .no, .no, .no, .no, .av (syA lispB [113, 117, 111, 116, 101])]) (ls := []) (ps := [Puk 19 [(inA n), (inA 13)] (inA 12), Puk 51 [(stA [113, 117, 111, 116, 101])] (syA lispB [113, 117, 111, 116, 101])]) Tryz.func123 (by kernel_rfl) (by kernel_rfl) ⟨(p_mod n 13 (by decide) (by decide)).val (by rw [hk]; rfl), p_lisp _, trivial⟩
theorem p_part {r x : Raw} {i : Nat} (h : r.l[i]? = some x) : Puk 47 [rawA r, inA i] (rawA x) :=
  pwalk (an := [.av (inA r.l.length), yT, .av (.pin ((encR x).map .dt))]) (ls := []) (ps := [(vi ↑r.l.length) = (vi (↑(List.map Raw.enc r.l).length)), Bn .lss 3 (.tmp 5) (.tmp 8) (vi ↑i) (vi ↑r.l.length) bT, IxAt (List.map Raw.enc r.l) ↑i 4 (encR x)]) Tryz.func47 (by kernel_rfl) (by kernel_rfl) ⟨lenEncR _, bin_ilt (decide_eq_true (by have := (List.getElem?_eq_some_iff.1 h).1; omega)), ix_raw h, trivial⟩
theorem p_part0 {r : Raw} {i : Nat} (h : r.l.length ≤ i) : Puk 47 [rawA r, inA i] (rawA ⟨0, 0, [], []⟩) :=
  pwalk (an := [.av (inA r.l.length), yF]) (ls := []) (ps := [(vi ↑r.l.length) = (vi (↑(List.map Raw.enc r.l).length)), Bn .lss 3 (.tmp 5) (.tmp 8) (vi ↑i) (vi ↑r.l.length) bF]) Tryz.func47 (by kernel_rfl) (by kernel_rfl) ⟨lenEncR _, bin_ilt (decide_eq_false (by omega)), trivial⟩
def prt (r : Raw) (i : Nat) : Raw := r.l.getD i ⟨0, 0, [], []⟩
theorem p_prt (r : Raw) (i : Nat) : Puk 47 [rawA r, inA i] (rawA (prt r i)) := by
  unfold prt
  rw [List.getD_eq_getElem?_getD]
  rcases Nat.lt_or_ge i r.l.length with h | h
  · rw [List.getElem?_eq_getElem h]; exact p_part (List.getElem?_eq_getElem h)
  · rw [List.getElem?_eq_none h]; exact p_part0 h
theorem prt_mk (r : Raw) (i : Nat) : mkT (prt r i) = (r.l.map mkT).getD i zeroT := by
  unfold prt
  rw [List.getD_eq_getElem?_getD, List.getD_eq_getElem?_getD, List.getElem?_map]
  cases r.l[i]? with
  | some x => rfl
  | none => rfl
theorem p_rList {ts : List Tr} (h : ts.length ≤ 1000000) : Puk 126 [rowA ts] (trA (Tr.list ts)) :=
  ⟨fnm Tryz.func126 rfl (by kernel_rfl), fun ok w vs ht hv => by
    obtain ⟨v, us, rfl, h1, h2⟩ := hv
    obtain rfl : us = [] := h2
    have h1' : Rd ok w v (.row (ts.map fun t => encL t.ob)) := h1
    obtain ⟨A, n, c, rfl, hn⟩ := Rd.slice h1'
    have e : (ts.map fun t => encL t.ob) = (ts.map Tr.ob).map Ob.enc := by
      rw [List.map_map]
      exact List.map_congr_left fun t _ => (enc_L t.ob).symm
    rw [e] at h1'
    have hl := h1'.len
    rw [List.length_map, List.length_map] at hl
    have hL := (rList_any ok (ts.map Tr.ob) A n c w h1' (by omega)).mono fun _ _ h => RetObj.pure h
    rw [← Tr.list_ob] at hL
    exact hL⟩
theorem mk_k0 {r : Raw} (hk : r.kind % 8 = 0) : Puk 103 [rawA r] (trA (.num ((r.n % 2001 - 1000 : Int) : Rat))) := pwalk (an := [.av (inA 0), .no, .av (inA (r.n % 2001)), .av (inA (r.n % 2001 - 1000)), .av (trA (.num ((r.n % 2001 - 1000 : Int) : Rat)))]) (ls := []) (ps := [Puk 19 [(inA r.kind), (inA 8)] (inA 0), Puk 19 [(inA r.n), (inA 2001)] (inA (r.n % 2001)), Bn .sub 3 (.tmp 13) (.const (vi 1000)) (vi (r.n % 2001)) (vi 1000) (vi (r.n % 2001 - 1000)), Puk 40 [(inA (r.n % 2001 - 1000))] (obA ((Tr.num ↑(r.n % 2001 - 1000)).ob))]) Tryz.func103 (by kernel_rfl) (by kernel_rfl) ⟨(p_mod r.kind 8 (by decide) (by decide)).val (by rw [hk]), p_mod _ _ (by decide) (by decide), bin_isub rfl (by omega) (by omega), p_rInt _ (by omega) (by omega), trivial⟩
theorem mk_k1 {r : Raw} (hk : r.kind % 8 = 1) : Puk 103 [rawA r] (trA (.num ((r.n % 2001 - 1000 : Int) : Rat))) := pwalk (an := [.av (inA 1), .no, .no, .av (inA (r.n % 2001)), .av (inA (r.n % 2001 - 1000)), .av (trA (.num ((r.n % 2001 - 1000 : Int) : Rat)))]) (ls := []) (ps := [Puk 19 [(inA r.kind), (inA 8)] (inA 1), Puk 19 [(inA r.n), (inA 2001)] (inA (r.n % 2001)), Bn .sub 3 (.tmp 13) (.const (vi 1000)) (vi (r.n % 2001)) (vi 1000) (vi (r.n % 2001 - 1000)), Puk 40 [(inA (r.n % 2001 - 1000))] (obA ((Tr.num ↑(r.n % 2001 - 1000)).ob))]) Tryz.func103 (by kernel_rfl) (by kernel_rfl) ⟨(p_mod r.kind 8 (by decide) (by decide)).val (by rw [hk]), p_mod _ _ (by decide) (by decide), bin_isub rfl (by omega) (by omega), p_rInt _ (by omega) (by omega), trivial⟩
theorem mk_k3 {r : Raw} (hk : r.kind % 8 = 3) : Puk 103 [rawA r] (trA (.sym (symP r.n).1 (symP r.n).2)) := pwalk (an := [.av (inA 3), .no, .no, .no, .no, .av (syA (symP r.n).1 (symP r.n).2), .av (trA (.sym (symP r.n).1 (symP r.n).2))]) (ls := []) (ps := [Puk 19 [(inA r.kind), (inA 8)] (inA 3), Puk 123 [(inA r.n)] (syA (symP r.n).fst (symP r.n).snd), Puk 52 [(syA (symP r.n).fst (symP r.n).snd)] (obA ((Tr.sym (symP r.n).fst (symP r.n).snd).ob))]) Tryz.func103 (by kernel_rfl) (by kernel_rfl) ⟨(p_mod r.kind 8 (by decide) (by decide)).val (by rw [hk]), p_Sym r.n, p_rSym _ _, trivial⟩
theorem mk_k4 {r : Raw} (hk : r.kind % 8 = 4) : Puk 103 [rawA r] (trA (.txt r.s)) := pwalk (an := [.av (inA 4), .no, .no, .no, .no, .no, .av (trA (.txt r.s))]) (ls := []) (ps := [Puk 19 [(inA r.kind), (inA 8)] (inA 4), Puk 124 [(stA r.s)] (trA (Tr.txt r.s))]) Tryz.func103 (by kernel_rfl) (by kernel_rfl) ⟨(p_mod r.kind 8 (by decide) (by decide)).val (by rw [hk]), p_rText r.s, trivial⟩
theorem w_k2 {r : Raw} {x y : List UInt8} {q : Rat} (hk : r.kind % 8 = 2) (hs : r.s.length ≤ 12) (hx : Puk 70 [inA (r.n % 41 - 20)] (stA x)) (hy : Puk 70 [inA (1 + r.s.length)] (stA y)) (hr : Puk 69 [stA x, stA y] (trA (.num q))) : Puk 103 [rawA r] (trA (.num q)) :=
  pwalk (an := [.av (inA 2), .no, .no, .no, .av (inA (r.n % 41)), .av (inA (r.n % 41 - 20)), .av (stA x), .av (inA r.s.length), .av (inA (1 + r.s.length)), .av (stA y), .av (trA (.num q))]) (ls := []) (ps := [Puk 19 [(inA r.kind), (inA 8)] (inA 2), Puk 19 [(inA r.n), (inA 41)] (inA (r.n % 41)), Bn .sub 3 (.tmp 20) (.const (vi 20)) (vi (r.n % 41)) (vi 20) (vi (r.n % 41 - 20)), Puk 70 [(inA (r.n % 41 - 20))] (stA x), (vi ↑r.s.length) = (vi (↑r.s.length)), Bn .add 3 (.const (vi 1)) (.tmp 25) (vi 1) (vi ↑r.s.length) (vi (1 + ↑r.s.length)), Puk 70 [(inA (1 + ↑r.s.length))] (stA y), Puk 69 [(stA x), (stA y)] (trA (Tr.num q))]) Tryz.func103 (by kernel_rfl) (by kernel_rfl) ⟨(p_mod r.kind 8 (by decide) (by decide)).val (by rw [hk]), p_mod _ _ (by decide) (by decide), bin_isub rfl (by omega) (by omega), hx, lenStr _, bin_iadd rfl (by omega) (by omega), hy, hr, trivial⟩
theorem mk_k2 {r : Raw} (hk : r.kind % 8 = 2) (hs : r.s.length ≤ 12) : Puk 103 [rawA r] (trA (.num (Rat.divInt (r.n % 41 - 20) (1 + r.s.length)))) := by
  have h := p_rRat (a := Lib.itoa (r.n % 41 - 20)) (b := Lib.itoa (1 + r.s.length : Int)) (Nat.le_trans (itoa_length_any _ (k := 2) (by decide) (by omega)) (by decide)) (Nat.le_trans (itoa_length_any _ (k := 2) (by decide) (by omega)) (by decide))
  rw [Dec.dval_itoa, Dec.dval_itoa] at h
  exact w_k2 hk hs (p_rFrom _ (by omega) (by omega)) (p_rFrom _ (by omega) (by omega)) h
theorem mk_k5 {r : Raw} {a b : Tr} (hk : r.kind % 8 = 5) (ha : Puk 103 [rawA (prt r 0)] (trA a)) (hb : Puk 103 [rawA (prt r 1)] (trA b)) : Puk 103 [rawA r] (trA (.cons a b)) :=
  pwalk (an := [.av (inA 5), .no, .no, .no, .no, .no, .no, .av (rawA (prt r 0)), .av (trA a), .av (rawA (prt r 1)), .av (trA b), .av (trA (.cons a b))]) (ls := []) (ps := [Puk 19 [(inA r.kind), (inA 8)] (inA 5), Puk 47 [(rawA r), (inA 0)] (.agg [(inA ((prt r 0).kind)), (inA ((prt r 0).n)), (stA (prt r 0).s), (.dt (.row (List.map Raw.enc (prt r 0).l)))]), Puk 103 [(.agg [(inA ((prt r 0).kind)), (inA ((prt r 0).n)), (stA (prt r 0).s), (.dt (.row (List.map Raw.enc (prt r 0).l)))])] (obA a.ob), Puk 47 [(rawA r), (inA 1)] (.agg [(inA ((prt r 1).kind)), (inA ((prt r 1).n)), (stA (prt r 1).s), (.dt (.row (List.map Raw.enc (prt r 1).l)))]), Puk 103 [(.agg [(inA ((prt r 1).kind)), (inA ((prt r 1).n)), (stA (prt r 1).s), (.dt (.row (List.map Raw.enc (prt r 1).l)))])] (obA b.ob), Puk 125 [(obA a.ob), (obA b.ob)] (trA (a.cons b))]) Tryz.func103 (by kernel_rfl) (by kernel_rfl) ⟨(p_mod r.kind 8 (by decide) (by decide)).val (by rw [hk]), p_prt r 0, ha, p_prt r 1, hb, p_rCons a.ob b.ob, trivial⟩
abbrev encOs (ts : List Tr) : List (List Dt) := ts.map fun t => encL t.ob
abbrev oq0 (r : Raw) : AS := ⟨stt 67 [(1, .ptr 0 0), (2, .ptr 1 0), (3, .nil), (4, inA 0)], [some (.cells [inA r.kind, inA r.n, stA r.s, .dt (.row (r.l.map Raw.enc))]), some (.cells [inA 0, stA [], stA [], stA [], stA [], stA [], .nil])]⟩
abbrev oqS (r : Raw) (es : List (List Dt)) (n : Nat) (i : Int) : AS := ⟨stt 67 [(1, .ptr 0 0), (2, .ptr 1 0), (3, .own 2 n), (4, inA i)], [some (.cells [inA r.kind, inA r.n, stA r.s, .dt (.row (r.l.map Raw.enc))]), some (.cells [inA 0, stA [], stA [], stA [], stA [], stA [], .nil]), some (.buf 35 7 es)]⟩
noncomputable abbrev oqB : Code := subC (bodyOf Tryz.f103) [1,1,1,0,1,0,0]
theorem one_src (t : Tr) : SrcOK 7 [encL t.ob] := by
  intro x hx
  rw [List.mem_singleton] at hx
  subst hx
  refine ⟨rfl, fun d hd => ?_⟩
  simp only [List.mem_cons, List.not_mem_nil, or_false] at hd
  rcases hd with rfl | rfl | rfl | rfl | rfl | rfl | rfl <;> rfl
theorem oqA {r x : Raw} {t : Tr} (hx : r.l[0]? = some x) (hl : r.l.length ≤ 8) (ht : Puk 103 [rawA x] (trA t)) : Tri EX oqB (oq0 r) .nxt (oqS r [encL t.ob] 1 ((1 : Nat) : Int)) :=
  twalk (c := subC (bodyOf Tryz.f103) [1,1,1,0,1,0,0]) (s := oq0 r) (an := [.av (inA r.l.length), yT, .av (.pin ((encR x).map .dt)), .av (trA t), .av (.un), .av (inA ((1 : Nat) : Int))]) (ls := []) (ft := [1,2,3,4]) (nb := 3) (e := .nxt) (s' := oqS r [encL t.ob] 1 ((1 : Nat) : Int)) (ps := [Value.int .i64 (r.l.length : Int) = Value.int .i64 ((r.l.map Raw.enc).length : Int), BinIs Tryz.prog .lss 3 (.tmp 49) (.tmp 52) (.int .i64 0) (.int .i64 (r.l.length : Int)) (.bool true), IxAt (r.l.map Raw.enc) 0 4 (encR x), Puk 103 [rawA x] (trA t), FitB 112 1, SrcOK 7 [encL t.ob], BinIs Tryz.prog .add 3 (.tmp 54) (.const (.int .i64 1)) (.int .i64 0) (.int .i64 1) (.int .i64 ((1 : Nat) : Int))]) (by kernel_rfl)
    ⟨lenEncR _, bin_ilt (decide_eq_true (by have := (List.getElem?_eq_some_iff.1 hx).1; omega)), ix_raw hx, ht, ⟨by decide, by decide⟩, one_src t, bin_iadd (by omega) (by omega) (by omega), trivial⟩
theorem oqE {r : Raw} : r.l = [] → Tri EX oqB (oq0 r) (.out 1) (oq0 r) := fun h =>
  twalk (c := subC (bodyOf Tryz.f103) [1,1,1,0,1,0,0]) (s := oq0 r) (an := [.av (inA r.l.length), yF]) (ls := []) (ft := [1,2,3,4]) (nb := 2) (e := .out 1) (s' := oq0 r) (ps := [(vi ↑r.l.length) = (vi (↑(List.map Raw.enc r.l).length)), Bn .lss 3 (.tmp 49) (.tmp 52) (vi 0) (vi ↑r.l.length) bF]) (by kernel_rfl)
    ⟨lenEncR _, bin_ilt (decide_eq_false (by rw [h]; decide)), trivial⟩
theorem oqN {r x : Raw} {t : Tr} {es : List (List Dt)} {n i : Nat} (hx : r.l[i]? = some x) (hl : r.l.length ≤ 8) (hn : es.length = n) (hi : n ≤ 8) (ht : Puk 103 [rawA x] (trA t)) : Tri EX oqB (oqS r es n i) .nxt (oqS r (es ++ [encL t.ob]) (es ++ [encL t.ob]).length ((i + 1 : Nat) : Int)) :=
  twalk (c := subC (bodyOf Tryz.f103) [1,1,1,0,1,0,0]) (s := oqS r es n i) (an := [.av (inA r.l.length), yT, .av (.pin ((encR x).map .dt)), .av (trA t), .av (.un), .av (inA ((i + 1 : Nat) : Int))]) (ls := []) (ft := [1,2,3,4]) (nb := 3) (e := .nxt) (s' := oqS r (es ++ [encL t.ob]) (es ++ [encL t.ob]).length ((i + 1 : Nat) : Int)) (ps := [Value.int .i64 (r.l.length : Int) = Value.int .i64 ((r.l.map Raw.enc).length : Int), BinIs Tryz.prog .lss 3 (.tmp 49) (.tmp 52) (.int .i64 (i : Int)) (.int .i64 (r.l.length : Int)) (.bool true), IxAt (r.l.map Raw.enc) (i : Int) 4 (encR x), Puk 103 [rawA x] (trA t), es.length = n, FitB 112 (es ++ [encL t.ob]).length, SrcOK 7 [encL t.ob], BinIs Tryz.prog .add 3 (.tmp 54) (.const (.int .i64 1)) (.int .i64 (i : Int)) (.int .i64 1) (.int .i64 ((i + 1 : Nat) : Int))]) (by kernel_rfl)
    ⟨lenEncR _, bin_ilt (decide_eq_true (by have := (List.getElem?_eq_some_iff.1 hx).1; omega)), ix_raw hx, ht, hn, ⟨by rw [List.length_append, hn]; exact Nat.le_trans (show n + 1 ≤ 9 by omega) (by decide), by rw [List.length_append, hn]; exact Nat.le_trans (Nat.mul_le_mul_right _ (show n + 1 ≤ 9 by omega)) (by decide)⟩, one_src t, bin_iadd (by omega) (by omega) (by have := (List.getElem?_eq_some_iff.1 hx).1; omega), trivial⟩
theorem oqF {r : Raw} {es : List (List Dt)} {n i : Nat} (hi : r.l.length ≤ i) : Tri EX oqB (oqS r es n i) (.out 1) (oqS r es n i) :=
  twalk (c := subC (bodyOf Tryz.f103) [1,1,1,0,1,0,0]) (s := oqS r es n i) (an := [.av (inA r.l.length), yF]) (ls := []) (ft := [1,2,3,4]) (nb := 3) (e := .out 1) (s' := oqS r es n i) (ps := [(vi ↑r.l.length) = (vi (↑(List.map Raw.enc r.l).length)), Bn .lss 3 (.tmp 49) (.tmp 52) (vi ↑i) (vi ↑r.l.length) bF]) (by kernel_rfl)
    ⟨lenEncR _, bin_ilt (decide_eq_false (by omega)), trivial⟩
theorem oq_go {r : Raw} (h8 : r.l.length ≤ 8) (hf : ∀ x ∈ r.l, Puk 103 [rawA x] (trA (mkT x))) : ∀ (s : List Raw) (i n : Nat) (es : List (List Dt)), r.l.drop i = s → i ≤ r.l.length → es.length = n → n + s.length ≤ 8 → ∃ j : Nat, Lps EX oqB (oqS r es n i) (.out 1) (oqS r (es ++ encOs (s.map mkT)) (es ++ encOs (s.map mkT)).length j) := by
  intro s
  induction s with
  | nil =>
    intro i n es hd hi hn _
    have := dropnil hd
    refine ⟨i, ?_⟩
    simp only [List.map_nil, encOs, List.append_nil]
    rw [hn]
    exact .stop (oqF this) (fun h => by cases h)
  | cons x s ih =>
    intro i n es hd hi hn h9
    obtain ⟨hx, hd', hlt⟩ := dropcons hd
    rw [List.length_cons] at h9
    obtain ⟨j, hj⟩ := ih (i + 1) (es ++ [encL (mkT x).ob]).length (es ++ [encL (mkT x).ob]) hd' (by omega) rfl (by rw [List.length_append, hn]; show n + 1 + _ ≤ 8; omega)
    refine ⟨j, .more (oqN hx h8 hn (by omega) (hf x (List.mem_of_getElem? hx))) ?_⟩
    have e : es ++ [encL (mkT x).ob] ++ encOs (s.map mkT) = es ++ encOs ((x :: s).map mkT) := by
      rw [List.append_assoc]; rfl
    rw [e] at hj
    exact hj
theorem mk_k60 {r : Raw} {ts : List Tr} (hk : r.kind % 8 = 6) (hr : r.l = []) (hts : ts = []) : Puk 103 [rawA r] (trA (Tr.list ts)) := by
  subst hts
  have hl := (Lps.stop (oqE hr) (fun h => by cases h)).tri
  have h2 := p_rList (ts := []) (Nat.zero_le _)
  exact pwalk (an := [.av (inA 6), .no, .no, .no, .no, .no, .no, .av (trA (Tr.list []))]) (ls := [.inv [1,2,3,4] 2 (.out 1) (oq0 r)]) (ps := [Puk 19 [inA r.kind, inA 8] (inA 6), Tri EX (.loop oqB) (oq0 r) (.out 1) (oq0 r), Puk 126 [rowA []] (trA (Tr.list []))]) Tryz.func103 (by kernel_rfl) (by kernel_rfl) ⟨(p_mod r.kind 8 (by decide) (by decide)).val (by rw [hk]), hl, h2, trivial⟩
theorem mk_k6 {r : Raw} {ts : List Tr} {j : Nat} (hk : r.kind % 8 = 6) (hl : Tri EX (.loop oqB) (oq0 r) (.out 1) (oqS r (encOs ts) (encOs ts).length j)) (h8 : ts.length ≤ 8) : Puk 103 [rawA r] (trA (Tr.list ts)) :=
  pwalk (an := [.av (inA 6), .no, .no, .no, .no, .no, .no, .av (trA (Tr.list ts))]) (ls := [.inv [1,2,3,4] 3 (.out 1) (oqS r (encOs ts) (encOs ts).length j)]) (ps := [Puk 19 [inA r.kind, inA 8] (inA 6), Tri EX (.loop oqB) (oq0 r) (.out 1) (oqS r (encOs ts) (encOs ts).length j), Puk 126 [rowA ts] (trA (Tr.list ts)), (encOs ts).length = (encOs ts).length]) Tryz.func103 (by kernel_rfl) (by kernel_rfl) ⟨(p_mod r.kind 8 (by decide) (by decide)).val (by rw [hk]), hl, p_rList (by omega), rfl, trivial⟩
theorem mk_k70 {r : Raw} {ts : List Tr} (hk : r.kind % 8 = 7) (hr : r.l = []) (hts : ts = []) : Puk 103 [rawA r] (trA (Tr.list ts)) := by
  subst hts
  have hl := (Lps.stop (oqE hr) (fun h => by cases h)).tri
  have h2 := p_rList (ts := []) (Nat.zero_le _)
  exact pwalk (an := [.av (inA 7), .no, .no, .no, .no, .no, .no, .av (trA (Tr.list []))]) (ls := [.inv [1,2,3,4] 2 (.out 1) (oq0 r)]) (ps := [Puk 19 [inA r.kind, inA 8] (inA 7), Tri EX (.loop oqB) (oq0 r) (.out 1) (oq0 r), Puk 126 [rowA []] (trA (Tr.list []))]) Tryz.func103 (by kernel_rfl) (by kernel_rfl) ⟨(p_mod r.kind 8 (by decide) (by decide)).val (by rw [hk]), hl, h2, trivial⟩
theorem mk_k7 {r : Raw} {ts : List Tr} {j : Nat} (hk : r.kind % 8 = 7) (hl : Tri EX (.loop oqB) (oq0 r) (.out 1) (oqS r (encOs ts) (encOs ts).length j)) (h8 : ts.length ≤ 8) : Puk 103 [rawA r] (trA (Tr.list ts)) :=
  pwalk (an := [.av (inA 7), .no, .no, .no, .no, .no, .no, .av (trA (Tr.list ts))]) (ls := [.inv [1,2,3,4] 3 (.out 1) (oqS r (encOs ts) (encOs ts).length j)]) (ps := [Puk 19 [inA r.kind, inA 8] (inA 7), Tri EX (.loop oqB) (oq0 r) (.out 1) (oqS r (encOs ts) (encOs ts).length j), Puk 126 [rowA ts] (trA (Tr.list ts)), (encOs ts).length = (encOs ts).length]) Tryz.func103 (by kernel_rfl) (by kernel_rfl) ⟨(p_mod r.kind 8 (by decide) (by decide)).val (by rw [hk]), hl, p_rList (by omega), rfl, trivial⟩
theorem mk_list {r : Raw} (hk : r.kind % 8 = 6 ∨ r.kind % 8 = 7) (h8 : r.l.length ≤ 8) (hf : ∀ x ∈ r.l, Puk 103 [rawA x] (trA (mkT x))) : Puk 103 [rawA r] (trA (Tr.list (r.l.map mkT))) := by
  have go := oq_go h8 hf
  match hr : r.l, h8, hf, go with
  | [], _, _, _ =>
    rcases hk with hk | hk
    · exact mk_k60 hk hr rfl
    · exact mk_k70 hk hr rfl
  | x :: s, h8, hf, go =>
    rw [List.length_cons] at h8
    obtain ⟨j, hj⟩ := go s 1 1 [encL (mkT x).ob] rfl (by simp) rfl (by omega)
    have h1 := oqA (r := r) (x := x) (by rw [hr]; rfl) (by rw [hr, List.length_cons]; omega) (hf x (List.mem_cons_self ..))
    have hl := (Lps.more h1 hj).tri
    have e : [encL (mkT x).ob] ++ encOs (s.map mkT) = encOs ((x :: s).map mkT) := rfl
    rw [e] at hl
    have l8 : ((x :: s).map mkT).length ≤ 8 := by rw [List.length_map, List.length_cons]; omega
    rcases hk with hk | hk
    · exact mk_k6 hk hl l8
    · exact mk_k7 hk hl l8
theorem p_mkOb : ∀ (N : Nat) (r : Raw), r.size ≤ N → Fit r → Puk 103 [rawA r] (trA (mkT r)) := by
  intro N
  induction N with
  | zero => intro r h; have := r.size_pos; omega
  | succ N ih =>
    intro r hN hf
    have kid : ∀ x ∈ r.l, Puk 103 [rawA x] (trA (mkT x)) := fun x hx => ih x (by have := Raw.size_l hx; omega) (hf.kids hx)
    have hp : ∀ i, Puk 103 [rawA (prt r i)] (trA (mkT (prt r i))) := fun i => by
      unfold prt
      rw [List.getD_eq_getElem?_getD]
      rcases Nat.lt_or_ge i r.l.length with h | h
      · rw [List.getElem?_eq_getElem h]; exact kid _ (List.getElem_mem h)
      · rw [List.getElem?_eq_none h]; exact mk_k0 (r := ⟨0, 0, [], []⟩) rfl
    rw [mkT_eq]
    unfold mkK
    have hb := Int.emod_nonneg r.kind (show (8 : Int) ≠ 0 by decide)
    have hb' := Int.emod_lt_of_pos r.kind (show (0 : Int) < 8 by decide)
    split
    · rename_i h
      rcases h with h | h
      · exact mk_k0 h
      · exact mk_k1 h
    · split
      · rename_i h; exact mk_k2 h hf.s
      · split
        · rename_i h; exact mk_k3 h
        · split
          · rename_i h; exact mk_k4 h
          · split
            · rename_i h
              rw [← prt_mk, ← prt_mk]
              exact mk_k5 h (hp 0) (hp 1)
            · exact mk_list (by omega) (by have := hf.l; omega) kid
theorem p_rows : Puk 122 [] (.dt (.row (primL.map rrow))) := pwalk (an := []) (ls := []) (ps := []) Tryz.func122 (by kernel_rfl) (by kernel_rfl) trivial
theorem p_rNames : Puk 102 [] (.dt (.row (primL.map prow))) := pwalk (an := [.av (.dt (.row (primL.map rrow))), .no, .no, .no, .av (syA lispB [105, 102]), .no, .no, .no, .no, .no, .av (syA lispB [101, 113, 117, 97, 108]), .no, .no, .no, .no, .no, .av (syA lispB [99, 111, 110, 115]), .no, .no, .no, .no, .no, .av (syA lispB [99, 97, 114]), .no, .no, .no, .no, .no, .av (syA lispB [99, 100, 114]), .no, .no, .no, .no, .no, .av (syA lispB [99, 111, 110, 115, 112]), .no, .no, .no, .no, .no, .av (syA lispB [115, 121, 109, 98, 111, 108, 112]), .no, .no, .no, .no, .no, .av (syA lispB [115, 116, 114, 105, 110, 103, 112]), .no, .no, .no, .no, .no, .av (syA lispB [114, 97, 116, 105, 111, 110, 97, 108, 112]), .no, .no, .no, .no, .no, .av (syA lispB [105, 110, 116, 101, 103, 101, 114, 112]), .no, .no, .no, .no, .no, .av (syA lispB [98, 105, 110, 97, 114, 121, 45, 43]), .no, .no, .no, .no, .no, .av (syA lispB [98, 105, 110, 97, 114, 121, 45, 42]), .no, .no, .no, .no, .no, .av (syA lispB [117, 110, 97, 114, 121, 45, 45]), .no, .no, .no, .no, .no, .av (syA lispB [117, 110, 97, 114, 121, 45, 47]), .no, .no, .no, .no, .no, .av (syA lispB [60]), .no, .no, .no, .no, .no, .av (syA lispB [110, 117, 109, 101, 114, 97, 116, 111, 114]), .no, .no, .no, .no, .no, .av (syA lispB [100, 101, 110, 111, 109, 105, 110, 97, 116, 111, 114]), .no, .no, .no, .no, .no, .av (syA lispB [102, 108, 111, 111, 114]), .no, .no, .no, .no, .no, .av (syA lispB [115, 121, 109, 98, 111, 108, 45, 110, 97, 109, 101]), .no, .no, .no, .no, .no, .av (syA lispB [115, 121, 109, 98, 111, 108, 45, 112, 97, 99, 107, 97, 103, 101, 45, 110, 97, 109, 101]), .no, .no, .no, .no, .no, .av (syA lispB [105, 110, 116, 101, 114, 110]), .no, .no, .no, .no, .no, .av (syA lispB [115, 116, 114, 105, 110, 103, 45, 97, 112, 112, 101, 110, 100]), .no, .no, .no, .no, .no, .av (syA lispB [115, 116, 114, 105, 110, 103, 45, 108, 101, 110, 103, 116, 104]), .no, .no, .no, .no, .no, .av (syA lispB [115, 116, 114, 105, 110, 103, 45, 98, 121, 116, 101]), .no, .no, .no, .no, .no, .av (syA lispB [98, 121, 116, 101, 45, 115, 116, 114, 105, 110, 103]), .no, .no]) (ls := []) (ps := [Puk 122 [] (.dt (.row (List.map rrow primL))), Puk 51 [(stA ([105, 102], 3).fst)] (syA lispB [105, 102]), Puk 51 [(stA ([101, 113, 117, 97, 108], 2).fst)] (syA lispB [101, 113, 117, 97, 108]), Puk 51 [(stA ([99, 111, 110, 115], 2).fst)] (syA lispB [99, 111, 110, 115]), Puk 51 [(stA ([99, 97, 114], 1).fst)] (syA lispB [99, 97, 114]), Puk 51 [(stA ([99, 100, 114], 1).fst)] (syA lispB [99, 100, 114]), Puk 51 [(stA ([99, 111, 110, 115, 112], 1).fst)] (syA lispB [99, 111, 110, 115, 112]), Puk 51 [(stA ([115, 121, 109, 98, 111, 108, 112], 1).fst)] (syA lispB [115, 121, 109, 98, 111, 108, 112]), Puk 51 [(stA ([115, 116, 114, 105, 110, 103, 112], 1).fst)] (syA lispB [115, 116, 114, 105, 110, 103, 112]), Puk 51 [(stA ([114, 97, 116, 105, 111, 110, 97, 108, 112], 1).fst)] (syA lispB [114, 97, 116, 105, 111, 110, 97, 108, 112]), Puk 51 [(stA ([105, 110, 116, 101, 103, 101, 114, 112], 1).fst)] (syA lispB [105, 110, 116, 101, 103, 101, 114, 112]), Puk 51 [(stA ([98, 105, 110, 97, 114, 121, 45, 43], 2).fst)] (syA lispB [98, 105, 110, 97, 114, 121, 45, 43]), Puk 51 [(stA ([98, 105, 110, 97, 114, 121, 45, 42], 2).fst)] (syA lispB [98, 105, 110, 97, 114, 121, 45, 42]), Puk 51 [(stA ([117, 110, 97, 114, 121, 45, 45], 1).fst)] (syA lispB [117, 110, 97, 114, 121, 45, 45]), Puk 51 [(stA ([117, 110, 97, 114, 121, 45, 47], 1).fst)] (syA lispB [117, 110, 97, 114, 121, 45, 47]), Puk 51 [(stA ([60], 2).fst)] (syA lispB [60]), Puk 51 [(stA ([110, 117, 109, 101, 114, 97, 116, 111, 114], 1).fst)] (syA lispB [110, 117, 109, 101, 114, 97, 116, 111, 114]), Puk 51 [(stA ([100, 101, 110, 111, 109, 105, 110, 97, 116, 111, 114], 1).fst)] (syA lispB [100, 101, 110, 111, 109, 105, 110, 97, 116, 111, 114]), Puk 51 [(stA ([102, 108, 111, 111, 114], 1).fst)] (syA lispB [102, 108, 111, 111, 114]), Puk 51 [(stA ([115, 121, 109, 98, 111, 108, 45, 110, 97, 109, 101], 1).fst)] (syA lispB [115, 121, 109, 98, 111, 108, 45, 110, 97, 109, 101]), Puk 51 [(stA ([115, 121, 109, 98, 111, 108, 45, 112, 97, 99, 107, 97, 103, 101, 45, 110, 97, 109, 101], 1).fst)] (syA lispB [115, 121, 109, 98, 111, 108, 45, 112, 97, 99, 107, 97, 103, 101, 45, 110, 97, 109, 101]), Puk 51 [(stA ([105, 110, 116, 101, 114, 110], 2).fst)] (syA lispB [105, 110, 116, 101, 114, 110]), Puk 51 [(stA ([115, 116, 114, 105, 110, 103, 45, 97, 112, 112, 101, 110, 100], 2).fst)] (syA lispB [115, 116, 114, 105, 110, 103, 45, 97, 112, 112, 101, 110, 100]), Puk 51 [(stA ([115, 116, 114, 105, 110, 103, 45, 108, 101, 110, 103, 116, 104], 1).fst)] (syA lispB [115, 116, 114, 105, 110, 103, 45, 108, 101, 110, 103, 116, 104]), Puk 51 [(stA ([115, 116, 114, 105, 110, 103, 45, 98, 121, 116, 101], 2).fst)] (syA lispB [115, 116, 114, 105, 110, 103, 45, 98, 121, 116, 101]), Puk 51 [(stA ([98, 121, 116, 101, 45, 115, 116, 114, 105, 110, 103], 1).fst)] (syA lispB [98, 121, 116, 101, 45, 115, 116, 114, 105, 110, 103]), 25 = 25]) Tryz.func102 (by kernel_rfl) (by kernel_rfl) ⟨p_rows, p_lisp _, p_lisp _, p_lisp _, p_lisp _, p_lisp _, p_lisp _, p_lisp _, p_lisp _, p_lisp _, p_lisp _, p_lisp _, p_lisp _, p_lisp _, p_lisp _, p_lisp _, p_lisp _, p_lisp _, p_lisp _, p_lisp _, p_lisp _, p_lisp _, p_lisp _, p_lisp _, p_lisp _, p_lisp _, by decide +kernel, trivial⟩
theorem p_rAr0 : Puk 127 [syA lispB [105, 102]] (.tup [inA 3, boA true]) := pwalk (an := [.no, .av (.dt (.row (primL.map rrow)))]) (ls := []) (ps := [Puk 122 [] (.dt (.row (List.map rrow primL)))]) Tryz.func127 (by kernel_rfl) (by kernel_rfl) ⟨p_rows, trivial⟩
theorem p_rAr1 : Puk 127 [syA lispB [101, 113, 117, 97, 108]] (.tup [inA 2, boA true]) := pwalk (an := [.no, .av (.dt (.row (primL.map rrow)))]) (ls := []) (ps := [Puk 122 [] (.dt (.row (List.map rrow primL)))]) Tryz.func127 (by kernel_rfl) (by kernel_rfl) ⟨p_rows, trivial⟩
theorem p_rAr2 : Puk 127 [syA lispB [99, 111, 110, 115]] (.tup [inA 2, boA true]) := pwalk (an := [.no, .av (.dt (.row (primL.map rrow)))]) (ls := []) (ps := [Puk 122 [] (.dt (.row (List.map rrow primL)))]) Tryz.func127 (by kernel_rfl) (by kernel_rfl) ⟨p_rows, trivial⟩
theorem p_rAr3 : Puk 127 [syA lispB [99, 97, 114]] (.tup [inA 1, boA true]) := pwalk (an := [.no, .av (.dt (.row (primL.map rrow)))]) (ls := []) (ps := [Puk 122 [] (.dt (.row (List.map rrow primL)))]) Tryz.func127 (by kernel_rfl) (by kernel_rfl) ⟨p_rows, trivial⟩
theorem p_rAr4 : Puk 127 [syA lispB [99, 100, 114]] (.tup [inA 1, boA true]) := pwalk (an := [.no, .av (.dt (.row (primL.map rrow)))]) (ls := []) (ps := [Puk 122 [] (.dt (.row (List.map rrow primL)))]) Tryz.func127 (by kernel_rfl) (by kernel_rfl) ⟨p_rows, trivial⟩
theorem p_rAr5 : Puk 127 [syA lispB [99, 111, 110, 115, 112]] (.tup [inA 1, boA true]) := pwalk (an := [.no, .av (.dt (.row (primL.map rrow)))]) (ls := []) (ps := [Puk 122 [] (.dt (.row (List.map rrow primL)))]) Tryz.func127 (by kernel_rfl) (by kernel_rfl) ⟨p_rows, trivial⟩
theorem p_rAr6 : Puk 127 [syA lispB [115, 121, 109, 98, 111, 108, 112]] (.tup [inA 1, boA true]) := pwalk (an := [.no, .av (.dt (.row (primL.map rrow)))]) (ls := []) (ps := [Puk 122 [] (.dt (.row (List.map rrow primL)))]) Tryz.func127 (by kernel_rfl) (by kernel_rfl) ⟨p_rows, trivial⟩
theorem p_rAr7 : Puk 127 [syA lispB [115, 116, 114, 105, 110, 103, 112]] (.tup [inA 1, boA true]) := pwalk (an := [.no, .av (.dt (.row (primL.map rrow)))]) (ls := []) (ps := [Puk 122 [] (.dt (.row (List.map rrow primL)))]) Tryz.func127 (by kernel_rfl) (by kernel_rfl) ⟨p_rows, trivial⟩
theorem p_rAr8 : Puk 127 [syA lispB [114, 97, 116, 105, 111, 110, 97, 108, 112]] (.tup [inA 1, boA true]) := pwalk (an := [.no, .av (.dt (.row (primL.map rrow)))]) (ls := []) (ps := [Puk 122 [] (.dt (.row (List.map rrow primL)))]) Tryz.func127 (by kernel_rfl) (by kernel_rfl) ⟨p_rows, trivial⟩
theorem p_rAr9 : Puk 127 [syA lispB [105, 110, 116, 101, 103, 101, 114, 112]] (.tup [inA 1, boA true]) := pwalk (an := [.no, .av (.dt (.row (primL.map rrow)))]) (ls := []) (ps := [Puk 122 [] (.dt (.row (List.map rrow primL)))]) Tryz.func127 (by kernel_rfl) (by kernel_rfl) ⟨p_rows, trivial⟩
theorem p_rAr10 : Puk 127 [syA lispB [98, 105, 110, 97, 114, 121, 45, 43]] (.tup [inA 2, boA true]) := pwalk (an := [.no, .av (.dt (.row (primL.map rrow)))]) (ls := []) (ps := [Puk 122 [] (.dt (.row (List.map rrow primL)))]) Tryz.func127 (by kernel_rfl) (by kernel_rfl) ⟨p_rows, trivial⟩
theorem p_rAr11 : Puk 127 [syA lispB [98, 105, 110, 97, 114, 121, 45, 42]] (.tup [inA 2, boA true]) := pwalk (an := [.no, .av (.dt (.row (primL.map rrow)))]) (ls := []) (ps := [Puk 122 [] (.dt (.row (List.map rrow primL)))]) Tryz.func127 (by kernel_rfl) (by kernel_rfl) ⟨p_rows, trivial⟩
theorem p_rAr12 : Puk 127 [syA lispB [117, 110, 97, 114, 121, 45, 45]] (.tup [inA 1, boA true]) := pwalk (an := [.no, .av (.dt (.row (primL.map rrow)))]) (ls := []) (ps := [Puk 122 [] (.dt (.row (List.map rrow primL)))]) Tryz.func127 (by kernel_rfl) (by kernel_rfl) ⟨p_rows, trivial⟩
theorem p_rAr13 : Puk 127 [syA lispB [117, 110, 97, 114, 121, 45, 47]] (.tup [inA 1, boA true]) := pwalk (an := [.no, .av (.dt (.row (primL.map rrow)))]) (ls := []) (ps := [Puk 122 [] (.dt (.row (List.map rrow primL)))]) Tryz.func127 (by kernel_rfl) (by kernel_rfl) ⟨p_rows, trivial⟩
theorem p_rAr14 : Puk 127 [syA lispB [60]] (.tup [inA 2, boA true]) := pwalk (an := [.no, .av (.dt (.row (primL.map rrow)))]) (ls := []) (ps := [Puk 122 [] (.dt (.row (List.map rrow primL)))]) Tryz.func127 (by kernel_rfl) (by kernel_rfl) ⟨p_rows, trivial⟩
theorem p_rAr15 : Puk 127 [syA lispB [110, 117, 109, 101, 114, 97, 116, 111, 114]] (.tup [inA 1, boA true]) := pwalk (an := [.no, .av (.dt (.row (primL.map rrow)))]) (ls := []) (ps := [Puk 122 [] (.dt (.row (List.map rrow primL)))]) Tryz.func127 (by kernel_rfl) (by kernel_rfl) ⟨p_rows, trivial⟩
theorem p_rAr16 : Puk 127 [syA lispB [100, 101, 110, 111, 109, 105, 110, 97, 116, 111, 114]] (.tup [inA 1, boA true]) := pwalk (an := [.no, .av (.dt (.row (primL.map rrow)))]) (ls := []) (ps := [Puk 122 [] (.dt (.row (List.map rrow primL)))]) Tryz.func127 (by kernel_rfl) (by kernel_rfl) ⟨p_rows, trivial⟩
theorem p_rAr17 : Puk 127 [syA lispB [102, 108, 111, 111, 114]] (.tup [inA 1, boA true]) := pwalk (an := [.no, .av (.dt (.row (primL.map rrow)))]) (ls := []) (ps := [Puk 122 [] (.dt (.row (List.map rrow primL)))]) Tryz.func127 (by kernel_rfl) (by kernel_rfl) ⟨p_rows, trivial⟩
theorem p_rAr18 : Puk 127 [syA lispB [115, 121, 109, 98, 111, 108, 45, 110, 97, 109, 101]] (.tup [inA 1, boA true]) := pwalk (an := [.no, .av (.dt (.row (primL.map rrow)))]) (ls := []) (ps := [Puk 122 [] (.dt (.row (List.map rrow primL)))]) Tryz.func127 (by kernel_rfl) (by kernel_rfl) ⟨p_rows, trivial⟩
theorem p_rAr19 : Puk 127 [syA lispB [115, 121, 109, 98, 111, 108, 45, 112, 97, 99, 107, 97, 103, 101, 45, 110, 97, 109, 101]] (.tup [inA 1, boA true]) := pwalk (an := [.no, .av (.dt (.row (primL.map rrow)))]) (ls := []) (ps := [Puk 122 [] (.dt (.row (List.map rrow primL)))]) Tryz.func127 (by kernel_rfl) (by kernel_rfl) ⟨p_rows, trivial⟩
theorem p_rAr20 : Puk 127 [syA lispB [105, 110, 116, 101, 114, 110]] (.tup [inA 2, boA true]) := pwalk (an := [.no, .av (.dt (.row (primL.map rrow)))]) (ls := []) (ps := [Puk 122 [] (.dt (.row (List.map rrow primL)))]) Tryz.func127 (by kernel_rfl) (by kernel_rfl) ⟨p_rows, trivial⟩
theorem p_rAr21 : Puk 127 [syA lispB [115, 116, 114, 105, 110, 103, 45, 97, 112, 112, 101, 110, 100]] (.tup [inA 2, boA true]) := pwalk (an := [.no, .av (.dt (.row (primL.map rrow)))]) (ls := []) (ps := [Puk 122 [] (.dt (.row (List.map rrow primL)))]) Tryz.func127 (by kernel_rfl) (by kernel_rfl) ⟨p_rows, trivial⟩
theorem p_rAr22 : Puk 127 [syA lispB [115, 116, 114, 105, 110, 103, 45, 108, 101, 110, 103, 116, 104]] (.tup [inA 1, boA true]) := pwalk (an := [.no, .av (.dt (.row (primL.map rrow)))]) (ls := []) (ps := [Puk 122 [] (.dt (.row (List.map rrow primL)))]) Tryz.func127 (by kernel_rfl) (by kernel_rfl) ⟨p_rows, trivial⟩
theorem p_rAr23 : Puk 127 [syA lispB [115, 116, 114, 105, 110, 103, 45, 98, 121, 116, 101]] (.tup [inA 2, boA true]) := pwalk (an := [.no, .av (.dt (.row (primL.map rrow)))]) (ls := []) (ps := [Puk 122 [] (.dt (.row (List.map rrow primL)))]) Tryz.func127 (by kernel_rfl) (by kernel_rfl) ⟨p_rows, trivial⟩
theorem p_rAr24 : Puk 127 [syA lispB [98, 121, 116, 101, 45, 115, 116, 114, 105, 110, 103]] (.tup [inA 1, boA true]) := pwalk (an := [.no, .av (.dt (.row (primL.map rrow)))]) (ls := []) (ps := [Puk 122 [] (.dt (.row (List.map rrow primL)))]) Tryz.func127 (by kernel_rfl) (by kernel_rfl) ⟨p_rows, trivial⟩
theorem p_rAri : ∀ {i : Nat} {s : List UInt8} {a : Nat}, primL[i]? = some (s, a) → Puk 127 [syA lispB s] (.tup [inA (a : Int), boA true])
  | 0, _, _, h => by cases h; exact p_rAr0
  | 1, _, _, h => by cases h; exact p_rAr1
  | 2, _, _, h => by cases h; exact p_rAr2
  | 3, _, _, h => by cases h; exact p_rAr3
  | 4, _, _, h => by cases h; exact p_rAr4
  | 5, _, _, h => by cases h; exact p_rAr5
  | 6, _, _, h => by cases h; exact p_rAr6
  | 7, _, _, h => by cases h; exact p_rAr7
  | 8, _, _, h => by cases h; exact p_rAr8
  | 9, _, _, h => by cases h; exact p_rAr9
  | 10, _, _, h => by cases h; exact p_rAr10
  | 11, _, _, h => by cases h; exact p_rAr11
  | 12, _, _, h => by cases h; exact p_rAr12
  | 13, _, _, h => by cases h; exact p_rAr13
  | 14, _, _, h => by cases h; exact p_rAr14
  | 15, _, _, h => by cases h; exact p_rAr15
  | 16, _, _, h => by cases h; exact p_rAr16
  | 17, _, _, h => by cases h; exact p_rAr17
  | 18, _, _, h => by cases h; exact p_rAr18
  | 19, _, _, h => by cases h; exact p_rAr19
  | 20, _, _, h => by cases h; exact p_rAr20
  | 21, _, _, h => by cases h; exact p_rAr21
  | 22, _, _, h => by cases h; exact p_rAr22
  | 23, _, _, h => by cases h; exact p_rAr23
  | 24, _, _, h => by cases h; exact p_rAr24
  | _ + 25, _, _, h => by cases h
/-- what 'Few' says -/
theorem left_fit : ∀ (N : Nat) (r : Raw), r.size ≤ N → ∀ m : Int, 0 ≤ m → m ≤ 1000 → 0 ≤ leftW r m → Fit r ∧ leftW r m + r.size ≤ m := by
  intro N
  induction N with
  | zero => intro r h; have := r.size_pos; omega
  | succ N ih =>
    intro r hN m h0 h1 hl
    have hr : r.size = Raw.sizeL r.l + 1 := by obtain ⟨k, n, s, l⟩ := r; rfl
    rw [leftW_eq] at hl ⊢
    split at hl
    · omega
    · rename_i hs
      rw [if_neg hs]
      split at hl
      · omega
      · rename_i h6
        rw [if_neg h6]
        rw [wr_id (by omega) (by omega)] at hl ⊢
        have key : ∀ (l : List Raw) (m : Int), (∀ x ∈ l, x.size ≤ N) → -1 ≤ m → m ≤ 1000 → 0 ≤ leftWL l m → (∀ x ∈ l, Fit x) ∧ leftWL l m + Raw.sizeL l ≤ m := by
          intro l
          induction l with
          | nil => intro m _ _ h1 _; rw [leftWL]; exact ⟨(fun x hx => by cases hx), by rw [Raw.sizeL]; omega⟩
          | cons x r ihr =>
            intro m hsz hm0 hm1 hp
            rw [leftWL] at hp ⊢
            split at hp
            · rename_i h0m
              rw [if_pos h0m]
              have hx : 0 ≤ leftW x m := by
                rcases Int.lt_or_le (leftW x m) 0 with h | h
                · rw [leftWL_neg h] at hp; omega
                · exact h
              obtain ⟨f1, f2⟩ := ih x (hsz x (List.mem_cons_self ..)) m h0m hm1 hx
              obtain ⟨g1, g2⟩ := ihr (leftW x m) (fun y hy => hsz y (List.mem_cons_of_mem _ hy)) (by omega) (by omega) hp
              refine ⟨fun y hy => ?_, by rw [Raw.sizeL]; omega⟩
              rcases List.mem_cons.1 hy with rfl | hy
              · exact f1
              · exact g1 y hy
            · omega
        obtain ⟨k1, k2⟩ := key r.l (m - 1) (fun x hx => by have := Raw.size_l hx; omega) (by omega) (by omega) hl
        exact ⟨.mk r (by omega) (by omega) k1, by omega⟩
theorem fewR_fit {r : Raw} {m : Int} (h0 : 0 ≤ m) (h1 : m ≤ 1000) (h : fewR r m = true) : Fit r := (left_fit _ r (Nat.le_refl _) m h0 h1 (of_decide_eq_true h)).1
theorem mk_ok {r : Raw} (h : Fit r) : (mkT r).Ok 10000 := (mkT_ok r h).mono (by decide)
/-- all of them -/
def fewAllR (l : List Raw) (m : Int) : Bool := decide (l.length ≤ 8) && l.all fun r => fewR r m
abbrev rawsA (l : List Raw) : AV := .dt (.row (l.map Raw.enc))
abbrev faS (l : List Raw) (m i : Int) : AS := ⟨stt 22 [(0, rawsA l), (1, inA m), (4, boA false), (5, inA i)], []⟩
noncomputable abbrev faB : Code := subC (bodyOf Tryz.f42) [1, 1, 0, 1, 0, 0]
theorem faB1 {l : List Raw} {x : Raw} {i : Nat} {m : Int} (hx : l[i]? = some x) (hl : l.length ≤ 8) (hf : fewR x m = true) : Tri EX faB (faS l m i) .nxt (faS l m ((i + 1 : Nat) : Int)) :=
  twalk (c := subC (bodyOf Tryz.f42) [1,1,0,1,0,0]) (s := faS l m i) (an := [.av (inA l.length), yT, .av (.pin ((encR x).map .dt)), yT, .av (inA ((i + 1 : Nat) : Int))]) (ls := []) (ft := [0,1,4,5]) (nb := 0) (e := .nxt) (s' := faS l m ((i + 1 : Nat) : Int)) (ps := [(vi ↑l.length) = (vi (↑(List.map Raw.enc l).length)), Bn .lss 3 (.tmp 9) (.tmp 11) (vi ↑i) (vi ↑l.length) bT, IxAt (List.map Raw.enc l) ↑i 4 (encR x), Puk 10 [(rawA x), (inA m)] (boA true), Bn .add 3 (.tmp 13) (.const (vi 1)) (vi ↑i) (vi 1) (vi (↑(i + 1)))]) (by kernel_rfl)
    ⟨lenEncR _, bin_ilt (decide_eq_true (by have := (List.getElem?_eq_some_iff.1 hx).1; omega)), ix_raw hx, (p_Few x m).b hf, bin_iadd (by omega) (by omega) (by have := (List.getElem?_eq_some_iff.1 hx).1; omega), trivial⟩
theorem faB2 {l : List Raw} {i : Nat} {m : Int} (hi : i = l.length) : Tri EX faB (faS l m i) (.out 0) (faS l m i) :=
  twalk (c := subC (bodyOf Tryz.f42) [1,1,0,1,0,0]) (s := faS l m i) (an := [.av (inA l.length), yF]) (ls := []) (ft := [0,1,4,5]) (nb := 0) (e := .out 0) (s' := faS l m i) (ps := [(vi ↑l.length) = (vi (↑(List.map Raw.enc l).length)), Bn .lss 3 (.tmp 9) (.tmp 11) (vi ↑i) (vi ↑l.length) bF]) (by kernel_rfl)
    ⟨lenEncR _, bin_ilt (decide_eq_false (by omega)), trivial⟩
theorem faB3 {l : List Raw} {x : Raw} {i : Nat} {m : Int} (hx : l[i]? = some x) (hf : fewR x m = false) : Tri EX faB (faS l m i) .ret (faS l m i) :=
  twalk (c := subC (bodyOf Tryz.f42) [1,1,0,1,0,0]) (s := faS l m i) (an := [.av (inA l.length), yT, .av (.pin ((encR x).map .dt)), yF]) (ls := []) (ft := [0,1,4,5]) (nb := 0) (e := .ret) (s' := faS l m i) (ps := [(vi ↑l.length) = (vi (↑(List.map Raw.enc l).length)), Bn .lss 3 (.tmp 9) (.tmp 11) (vi ↑i) (vi ↑l.length) bT, IxAt (List.map Raw.enc l) ↑i 4 (encR x), Puk 10 [(rawA x), (inA m)] (boA false)]) (by kernel_rfl)
    ⟨lenEncR _, bin_ilt (decide_eq_true (by have := (List.getElem?_eq_some_iff.1 hx).1; omega)), ix_raw hx, (p_Few x m).b hf, trivial⟩
theorem p_FewAll (l : List Raw) (m : Int) : Puk 42 [rawsA l, inA m] (boA (fewAllR l m)) := by
  unfold fewAllR
  by_cases h8 : l.length ≤ 8
  · rw [decide_eq_true h8, Bool.true_and]
    have loop : ∀ (s : List Raw) (i : Nat), l.drop i = s → i ≤ l.length → (s.all (fun r => fewR r m) = true → Lps EX faB (faS l m i) (.out 0) (faS l m l.length)) ∧ (s.all (fun r => fewR r m) = false → ∃ j : Nat, Lps EX faB (faS l m i) .ret (faS l m j)) := by
      intro s
      induction s with
      | nil =>
        intro i hd hi
        have := dropnil hd
        obtain rfl : i = l.length := by omega
        exact ⟨fun _ => .stop (faB2 rfl) (fun h => by cases h), fun h => by cases h⟩
      | cons x s ih =>
        intro i hd hi
        obtain ⟨hx, hd', hlt⟩ := dropcons hd
        obtain ⟨i1, i2⟩ := ih (i + 1) hd' (by omega)
        cases hf : fewR x m with
        | true =>
          rw [List.all_cons, hf, Bool.true_and]
          refine ⟨fun h => .more (faB1 hx h8 hf) (i1 h), fun h => ?_⟩
          obtain ⟨j, hj⟩ := i2 h
          exact ⟨j, .more (faB1 hx h8 hf) hj⟩
        | false =>
          rw [List.all_cons, hf, Bool.false_and]
          exact ⟨fun h => (by cases h), fun _ => ⟨i, .stop (faB3 hx hf) (fun h => by cases h)⟩⟩
    obtain ⟨l1, l2⟩ := loop l 0 rfl (Nat.zero_le _)
    cases ha : l.all (fun r => fewR r m) with
    | true =>
      have l1 := l1 ha
      exact pwalk (an := [.av (inA l.length), yF]) (ls := [.inv [0,1,4,5] 0 (.out 0) (faS l m l.length)]) (ps := [(vi ↑l.length) = (vi (↑(List.map Raw.enc l).length)), Bn .gtr 3 (.tmp 7) (.const (vi 8)) (vi ↑l.length) (vi 8) bF, Tri EX (.loop (subC (bodyOf Tryz.f42) [1, 1, 0, 1, 0, 0])) (faS l m 0) (.out 0) (faS l m l.length)]) Tryz.func42 (by kernel_rfl) (by kernel_rfl) ⟨lenEncR _, bin_igt (decide_eq_false (by omega)), l1.tri, trivial⟩
    | false =>
      obtain ⟨j, hj⟩ := l2 ha
      exact pwalk (an := [.av (inA l.length), yF]) (ls := [.inv [0,1,4,5] 0 (.ret) (faS l m j)]) (ps := [(vi ↑l.length) = (vi (↑(List.map Raw.enc l).length)), Bn .gtr 3 (.tmp 7) (.const (vi 8)) (vi ↑l.length) (vi 8) bF, Tri EX (.loop (subC (bodyOf Tryz.f42) [1, 1, 0, 1, 0, 0])) (faS l m 0) (.ret) (faS l m j)]) Tryz.func42 (by kernel_rfl) (by kernel_rfl) ⟨lenEncR _, bin_igt (decide_eq_false (by omega)), hj.tri, trivial⟩
  · rw [decide_eq_false h8, Bool.false_and]
    exact pwalk (an := [.av (inA l.length), yT]) (ls := []) (ps := [(vi ↑l.length) = (vi (↑(List.map Raw.enc l).length)), Bn .gtr 3 (.tmp 7) (.const (vi 8)) (vi ↑l.length) (vi 8) bT]) Tryz.func42 (by kernel_rfl) (by kernel_rfl) ⟨lenEncR _, bin_igt (decide_eq_true (by omega)), trivial⟩
end Go.Proofs.YtendgffijciehaaGreatDoor
/- Reading and translating, as plain functions: the words, tokens, objects and terms of a text, for the texts that use few letters. -/
namespace Go.Proofs.YtendgffijciehaaGreatDoor
open Go.RowKit

namespace Rdr
/- letters -/
def blk (c : UInt8) : Bool := c == 32 || c == 9 || c == 10 || c == 13
def cst (c : UInt8) : Bool := decide (33 ≤ c.toNat) && decide (c.toNat ≤ 126) && !(c == 40) && !(c == 41) && !(c == 39) && !(c == 34) && !(c == 59) && !(c == 124) && !(c == 58)
def dig (c : UInt8) : Bool := decide (48 ≤ c.toNat) && decide (c.toNat ≤ 57)
/-- a letter of the built-in text: a blank, a parenthesis, or part of a word, and none of those that begin something else -/
def few (c : UInt8) : Bool := blk c || c == 40 || c == 41 || (cst c && !(c == 35) && !(c == 46) && !(c == 47))
/-- a word that has the form of a number -/
def isNum (w : List UInt8) : Bool :=
  let r := if w.head? = some 45 then w.drop 1 else w
  !(r.takeWhile dig).isEmpty && (r.takeWhile dig).length == r.length
structure Tok where
  kind : Int
  pos : Nat
  text : List UInt8
  den : List UInt8
/-- the tokens of what is left of a text, from the offset i on: blanks, parentheses and words -/
def toks : Nat → Nat → List UInt8 → List Tok
  | 0, _, _ => []
  | _ + 1, i, [] => [⟨0, i, [], []⟩]
  | f + 1, i, c :: r =>
    if blk c then toks f (i + 1) r
    else if c == 40 then ⟨1, i, [], []⟩ :: toks f (i + 1) r
    else if c == 41 then ⟨2, i, [], []⟩ :: toks f (i + 1) r
    else (if isNum (c :: r.takeWhile cst) then ⟨5, i, c :: r.takeWhile cst, [49]⟩ else ⟨6, i, c :: r.takeWhile cst, []⟩) :: toks f (i + ((r.takeWhile cst).length + 1)) (r.dropWhile cst)
/-- a word that this reader takes: one of three numbers, or a name of at most 40 letters -/
def wOK (w : List UInt8) : Bool := if isNum w then w == [48] || w == [49] || w == [45, 49] else decide (w.length ≤ 40) && (match w with | [] => false | c :: _ => !(c == 45) && !dig c) && !(w == [46])
def toksOK (l : List Tok) : Bool := l.all fun t => if t.kind = 5 ∨ t.kind = 6 then wOK t.text else true
def numOf (w : List UInt8) : Rat := if w = [49] then 1 else if w = [45, 49] then -1 else 0
/- objects -/
mutual
def prO : Nat → Nat → List Tok → Option (Tr × List Tok)
  | 0, _, _ => none
  | f + 1, d, ts => match ts with
    | [] => none
    | t :: r =>
      if t.kind = 5 then some (.num (numOf t.text), r)
      else if t.kind = 6 then some (.sym lispB t.text, r)
      else if t.kind = 1 ∧ d ≤ 200 then match prL f (d + 1) r with
        | some (l, r') => some (Tr.list l, r')
        | none => none
      else none
def prL : Nat → Nat → List Tok → Option (List Tr × List Tok)
  | 0, _, _ => none
  | f + 1, d, ts => match ts with
    | [] => none
    | t :: r =>
      if t.kind = 2 then some ([], r)
      else match prO f d (t :: r) with
        | some (x, r1) => match prL f d r1 with
          | some (l, r2) => some (x :: l, r2)
          | none => none
        | none => none
end
def prs : Nat → List Tok → Option (List Tr)
  | 0, _ => none
  | f + 1, ts => match ts with
    | [] => none
    | t :: r =>
      if t.kind = 0 then some []
      else match prO f 0 (t :: r) with
        | some (x, r1) => match prs f r1 with
          | some l => some (x :: l)
          | none => none
        | none => none
/- terms -/
def items : Tr → Option (List Tr)
  | .cons a d => match items d with
    | some l => some (a :: l)
    | none => none
  | .sym p n => if p = lispB ∧ n = nilB then some [] else none
  | _ => none
def call (n : List UInt8) (l : List Tr) : Tr := .cons (.sym lispB n) (Tr.list l)
def nilX : Tr := .sym lispB nilB
def tX : Tr := .sym lispB [116]
def expand (n : List UInt8) (l : List Tr) : Option Tr :=
  if n = [108, 105, 115, 116] then match l with
    | [] => some nilX
    | x :: r => some (call [99, 111, 110, 115] [x, call n r])
  else if n = [97, 112, 112, 101, 110, 100] then match l with
    | [] => some nilX
    | [x] => some x
    | x :: r => some (call [98, 105, 110, 97, 114, 121, 45, 97, 112, 112, 101, 110, 100] [x, call n r])
  else if n = [97, 110, 100] then match l with
    | [] => some tX
    | [x] => some x
    | x :: r => some (call Te.ifB [x, call n r, nilX])
  else if n = [111, 114] then match l with
    | [] => some nilX
    | [x] => some x
    | x :: r => some (call Te.ifB [x, x, call n r])
  else if n = [99, 111, 110, 100] then match l with
    | [] => some nilX
    | x :: r => match items x with
      | some [a, b] => some (call Te.ifB [a, b, call n r])
      | _ => none
  else if n = [43] then match l with
    | [x, y] => some (call [98, 105, 110, 97, 114, 121, 45, 43] [x, y])
    | x :: y :: z :: r => some (call [98, 105, 110, 97, 114, 121, 45, 43] [x, call n (y :: z :: r)])
    | _ => none
  else none
/-- the macros of the package lisp -/
def macros : List (List UInt8) := [[108, 105, 115, 116], [108, 105, 115, 116, 42], [97, 110, 100], [111, 114], [99, 111, 110, 100], [43], [42], [45], [47], [60, 61], [62], [62, 61], [97, 112, 112, 101, 110, 100]]
def special : List (List UInt8) := [[113, 117, 111, 116, 101], [108, 101, 116], [108, 101, 116, 42]]
mutual
def trn (ar : List UInt8 → Option Nat) : Nat → Int → Tr → Option (Te × Int)
  | 0, _, _ => none
  | f + 1, m, x => match x with
    | .num q => if q = 0 ∨ q = 1 ∨ q = -1 then some (Te.con (Tr.num q).ob, m) else none
    | .txt _ => none
    | .sym p n => if p.length ≤ 1000 ∧ n.length ≤ 1000 then (if Te.varB p n then some (⟨1, p, n, Te.zOb, []⟩, m) else some (Te.con (Tr.sym p n).ob, m)) else none
    | .cons a d => match items (.cons a d) with
      | some (.sym p n :: l) =>
        if p = lispB ∧ n.length ≤ 1000 ∧ n ∉ special ∧ l.length ≤ 500 then
          if n ∈ macros then match expand n l with
            | some o => if 1 ≤ m then trn ar f (m - 1) o else none
            | none => none
          else match trnL ar f m l with
            | some (ts, m') => if ar n = some ts.length then some (⟨3, p, n, Te.zOb, ts⟩, m') else none
            | none => none
        else none
      | _ => none
def trnL (ar : List UInt8 → Option Nat) : Nat → Int → List Tr → Option (List Te × Int)
  | 0, _, _ => none
  | f + 1, m, l => match l with
    | [] => some ([], m)
    | x :: r => match trn ar f m x with
      | some (t, m1) => match trnL ar f m1 r with
        | some (ts, m2) => some (t :: ts, m2)
        | none => none
      | none => none
end
/- entries -/
structure Fnc where
  nm : List UInt8
  ps : List (List UInt8)
  guard : Te
  body : Te
  measure : Te
def pars : List Tr → Option (List (List UInt8))
  | [] => some []
  | .sym p n :: r => if p = lispB then (pars r).map (n :: ·) else none
  | _ => none
/-- the form of an option of a definition, from the third item on -/
def option (nm : List UInt8) : List Tr → Option (Option Tr)
  | x :: y :: r => match items x with
    | some [.sym p n, b] => if p = lispB ∧ n = nm then some (some b) else option nm (y :: r)
    | _ => none
  | _ => some none
def prim (prims : List (List UInt8 × Nat)) (n : List UInt8) : Option Nat := (prims.find? fun x => x.1 == n).map (·.2)
def arity (prims : List (List UInt8 × Nat)) (ws : List Fnc) (nm : List UInt8) (ps : List (List UInt8)) (n : List UInt8) : Option Nat :=
  if nm = n then some ps.length else match prim prims n with
    | some k => some k
    | none => (ws.find? fun f => f.nm == n).map (·.ps.length)
def trm (ar : List UInt8 → Option Nat) (x : Tr) : Option Te := match trn ar 100 500 x with
  | some (t, _) => if t.valid then some t else none
  | none => none
def optT (ar : List UInt8 → Option Nat) (d : Te) : Option (Option Tr) → Option Te
  | none => none
  | some none => some d
  | some (some o) => trm ar o
def guardB : List UInt8 := [103, 117, 97, 114, 100]
def measB : List UInt8 := [109, 101, 97, 115, 117, 114, 101]
def entry (prims : List (List UInt8 × Nat)) (ws : List Fnc) (form : Tr) : Option Fnc := match items form with
  | some (d :: .sym p nm :: px :: y :: r) => match items px with
    | some pl => match pars pl with
      | some ps =>
        if p = lispB ∧ nm.length ≤ 1000 ∧ ps ≠ [] ∧ ps.length ≤ 8 ∧ r.length ≤ 100 then
          match trm (arity prims ws nm ps) ((y :: r).getLast (by simp)), optT (arity prims ws nm ps) Te.yesT (option guardB (y :: r)), optT (arity prims ws nm ps) Te.zTe (option measB (y :: r)) with
          | some b, some g, some m => some ⟨nm, ps, g, b, m⟩
          | _, _, _ => none
        else none
      | none => none
    | none => none
  | _ => none
def world (prims : List (List UInt8 × Nat)) : List Tr → List Fnc → Option (List Fnc)
  | [], ws => some ws
  | x :: r, ws => match entry prims ws x with
    | some f => world prims r (ws ++ [f])
    | none => none
end Rdr
/-- the built-in text -/
def textB : List UInt8 := [40, 100, 101, 102, 117, 110, 32, 110, 111, 116, 32, 40, 112, 41, 32, 40, 105, 102, 32, 112, 32, 110, 105, 108, 32, 116, 41, 41, 10, 40, 100, 101, 102, 117, 110, 32, 105, 109, 112, 108, 105, 101, 115, 32, 40, 112, 32, 113, 41, 32, 40, 105, 102, 32, 112, 32, 40, 105, 102, 32, 113, 32, 116, 32, 110, 105, 108, 41, 32, 116, 41, 41, 10, 40, 100, 101, 102, 117, 110, 32, 105, 102, 102, 32, 40, 112, 32, 113, 41, 32, 40, 105, 102, 32, 112, 32, 40, 105, 102, 32, 113, 32, 116, 32, 110, 105, 108, 41, 32, 40, 105, 102, 32, 113, 32, 110, 105, 108, 32, 116, 41, 41, 41, 10, 40, 100, 101, 102, 117, 110, 32, 98, 111, 111, 108, 101, 97, 110, 112, 32, 40, 120, 41, 32, 40, 105, 102, 32, 40, 101, 113, 117, 97, 108, 32, 120, 32, 116, 41, 32, 116, 32, 40, 101, 113, 117, 97, 108, 32, 120, 32, 110, 105, 108, 41, 41, 41, 10, 40, 100, 101, 102, 117, 110, 32, 115, 121, 110, 116, 97, 120, 112, 32, 40, 120, 41, 32, 116, 41, 10, 40, 100, 101, 102, 117, 110, 32, 97, 116, 111, 109, 32, 40, 120, 41, 32, 40, 110, 111, 116, 32, 40, 99, 111, 110, 115, 112, 32, 120, 41, 41, 41, 10, 40, 100, 101, 102, 117, 110, 32, 101, 110, 100, 112, 32, 40, 120, 41, 32, 40, 103, 117, 97, 114, 100, 32, 40, 111, 114, 32, 40, 99, 111, 110, 115, 112, 32, 120, 41, 32, 40, 101, 113, 117, 97, 108, 32, 120, 32, 110, 105, 108, 41, 41, 41, 32, 40, 110, 111, 116, 32, 40, 99, 111, 110, 115, 112, 32, 120, 41, 41, 41, 10, 40, 100, 101, 102, 117, 110, 32, 102, 105, 120, 32, 40, 120, 41, 32, 40, 105, 102, 32, 40, 114, 97, 116, 105, 111, 110, 97, 108, 112, 32, 120, 41, 32, 120, 32, 48, 41, 41, 10, 40, 100, 101, 102, 117, 110, 32, 105, 102, 105, 120, 32, 40, 120, 41, 32, 40, 105, 102, 32, 40, 105, 110, 116, 101, 103, 101, 114, 112, 32, 120, 41, 32, 120, 32, 48, 41, 41, 10, 40, 100, 101, 102, 117, 110, 32, 110, 97, 116, 112, 32, 40, 120, 41, 32, 40, 105, 102, 32, 40, 105, 110, 116, 101, 103, 101, 114, 112, 32, 120, 41, 32, 40, 110, 111, 116, 32, 40, 60, 32, 120, 32, 48, 41, 41, 32, 110, 105, 108, 41, 41, 10, 40, 100, 101, 102, 117, 110, 32, 112, 111, 115, 112, 32, 40, 120, 41, 32, 40, 105, 102, 32, 40, 105, 110, 116, 101, 103, 101, 114, 112, 32, 120, 41, 32, 40, 60, 32, 48, 32, 120, 41, 32, 110, 105, 108, 41, 41, 10, 40, 100, 101, 102, 117, 110, 32, 110, 102, 105, 120, 32, 40, 120, 41, 32, 40, 105, 102, 32, 40, 110, 97, 116, 112, 32, 120, 41, 32, 120, 32, 48, 41, 41, 10, 40, 100, 101, 102, 117, 110, 32, 122, 112, 32, 40, 120, 41, 32, 40, 103, 117, 97, 114, 100, 32, 40, 110, 97, 116, 112, 32, 120, 41, 41, 32, 40, 105, 102, 32, 40, 105, 110, 116, 101, 103, 101, 114, 112, 32, 120, 41, 32, 40, 110, 111, 116, 32, 40, 60, 32, 48, 32, 120, 41, 41, 32, 116, 41, 41, 10, 40, 100, 101, 102, 117, 110, 32, 99, 111, 117, 110, 116, 32, 40, 120, 41, 32, 40, 109, 101, 97, 115, 117, 114, 101, 32, 40, 99, 111, 117, 110, 116, 32, 120, 41, 41, 32, 40, 105, 102, 32, 40, 99, 111, 110, 115, 112, 32, 120, 41, 32, 40, 43, 32, 49, 32, 40, 99, 111, 117, 110, 116, 32, 40, 99, 97, 114, 32, 120, 41, 41, 32, 40, 99, 111, 117, 110, 116, 32, 40, 99, 100, 114, 32, 120, 41, 41, 41, 32, 48, 41, 41, 10, 40, 100, 101, 102, 117, 110, 32, 111, 45, 102, 105, 110, 112, 32, 40, 120, 41, 32, 40, 110, 111, 116, 32, 40, 99, 111, 110, 115, 112, 32, 120, 41, 41, 41, 10, 40, 100, 101, 102, 117, 110, 32, 111, 45, 102, 105, 114, 115, 116, 45, 101, 120, 112, 111, 110, 101, 110, 116, 32, 40, 120, 41, 32, 40, 105, 102, 32, 40, 99, 111, 110, 115, 112, 32, 120, 41, 32, 40, 99, 97, 114, 32, 40, 99, 97, 114, 32, 120, 41, 41, 32, 48, 41, 41, 10, 40, 100, 101, 102, 117, 110, 32, 111, 45, 102, 105, 114, 115, 116, 45, 99, 111, 101, 102, 102, 105, 99, 105, 101, 110, 116, 32, 40, 120, 41, 32, 40, 105, 102, 32, 40, 99, 111, 110, 115, 112, 32, 120, 41, 32, 40, 99, 100, 114, 32, 40, 99, 97, 114, 32, 120, 41, 41, 32, 120, 41, 41, 10, 40, 100, 101, 102, 117, 110, 32, 111, 45, 114, 101, 115, 116, 32, 40, 120, 41, 32, 40, 105, 102, 32, 40, 99, 111, 110, 115, 112, 32, 120, 41, 32, 40, 99, 100, 114, 32, 120, 41, 32, 48, 41, 41, 10, 40, 100, 101, 102, 117, 110, 32, 111, 60, 32, 40, 120, 32, 121, 41, 32, 40, 109, 101, 97, 115, 117, 114, 101, 32, 40, 99, 111, 117, 110, 116, 32, 120, 41, 41, 10, 32, 32, 40, 99, 111, 110, 100, 32, 40, 40, 111, 45, 102, 105, 110, 112, 32, 120, 41, 32, 40, 105, 102, 32, 40, 99, 111, 110, 115, 112, 32, 121, 41, 32, 116, 32, 40, 60, 32, 120, 32, 121, 41, 41, 41, 10, 32, 32, 32, 32, 32, 32, 32, 32, 40, 40, 111, 45, 102, 105, 110, 112, 32, 121, 41, 32, 110, 105, 108, 41, 10, 32, 32, 32, 32, 32, 32, 32, 32, 40, 40, 110, 111, 116, 32, 40, 101, 113, 117, 97, 108, 32, 40, 111, 45, 102, 105, 114, 115, 116, 45, 101, 120, 112, 111, 110, 101, 110, 116, 32, 120, 41, 32, 40, 111, 45, 102, 105, 114, 115, 116, 45, 101, 120, 112, 111, 110, 101, 110, 116, 32, 121, 41, 41, 41, 10, 32, 32, 32, 32, 32, 32, 32, 32, 32, 40, 111, 60, 32, 40, 111, 45, 102, 105, 114, 115, 116, 45, 101, 120, 112, 111, 110, 101, 110, 116, 32, 120, 41, 32, 40, 111, 45, 102, 105, 114, 115, 116, 45, 101, 120, 112, 111, 110, 101, 110, 116, 32, 121, 41, 41, 41, 10, 32, 32, 32, 32, 32, 32, 32, 32, 40, 40, 110, 111, 116, 32, 40, 101, 113, 117, 97, 108, 32, 40, 111, 45, 102, 105, 114, 115, 116, 45, 99, 111, 101, 102, 102, 105, 99, 105, 101, 110, 116, 32, 120, 41, 32, 40, 111, 45, 102, 105, 114, 115, 116, 45, 99, 111, 101, 102, 102, 105, 99, 105, 101, 110, 116, 32, 121, 41, 41, 41, 10, 32, 32, 32, 32, 32, 32, 32, 32, 32, 40, 60, 32, 40, 111, 45, 102, 105, 114, 115, 116, 45, 99, 111, 101, 102, 102, 105, 99, 105, 101, 110, 116, 32, 120, 41, 32, 40, 111, 45, 102, 105, 114, 115, 116, 45, 99, 111, 101, 102, 102, 105, 99, 105, 101, 110, 116, 32, 121, 41, 41, 41, 10, 32, 32, 32, 32, 32, 32, 32, 32, 40, 116, 32, 40, 111, 60, 32, 40, 111, 45, 114, 101, 115, 116, 32, 120, 41, 32, 40, 111, 45, 114, 101, 115, 116, 32, 121, 41, 41, 41, 41, 41, 10, 40, 100, 101, 102, 117, 110, 32, 111, 45, 112, 32, 40, 120, 41, 32, 40, 109, 101, 97, 115, 117, 114, 101, 32, 40, 99, 111, 117, 110, 116, 32, 120, 41, 41, 10, 32, 32, 40, 105, 102, 32, 40, 111, 45, 102, 105, 110, 112, 32, 120, 41, 10, 32, 32, 32, 32, 32, 32, 40, 110, 97, 116, 112, 32, 120, 41, 10, 32, 32, 32, 32, 40, 97, 110, 100, 32, 40, 99, 111, 110, 115, 112, 32, 40, 99, 97, 114, 32, 120, 41, 41, 10, 32, 32, 32, 32, 32, 32, 32, 32, 32, 40, 111, 45, 112, 32, 40, 111, 45, 102, 105, 114, 115, 116, 45, 101, 120, 112, 111, 110, 101, 110, 116, 32, 120, 41, 41, 10, 32, 32, 32, 32, 32, 32, 32, 32, 32, 40, 110, 111, 116, 32, 40, 101, 113, 117, 97, 108, 32, 40, 111, 45, 102, 105, 114, 115, 116, 45, 101, 120, 112, 111, 110, 101, 110, 116, 32, 120, 41, 32, 48, 41, 41, 10, 32, 32, 32, 32, 32, 32, 32, 32, 32, 40, 112, 111, 115, 112, 32, 40, 111, 45, 102, 105, 114, 115, 116, 45, 99, 111, 101, 102, 102, 105, 99, 105, 101, 110, 116, 32, 120, 41, 41, 10, 32, 32, 32, 32, 32, 32, 32, 32, 32, 40, 111, 45, 112, 32, 40, 111, 45, 114, 101, 115, 116, 32, 120, 41, 41, 10, 32, 32, 32, 32, 32, 32, 32, 32, 32, 40, 111, 60, 32, 40, 111, 45, 102, 105, 114, 115, 116, 45, 101, 120, 112, 111, 110, 101, 110, 116, 32, 40, 111, 45, 114, 101, 115, 116, 32, 120, 41, 41, 32, 40, 111, 45, 102, 105, 114, 115, 116, 45, 101, 120, 112, 111, 110, 101, 110, 116, 32, 120, 41, 41, 41, 41, 41, 10, 40, 100, 101, 102, 117, 110, 32, 108, 101, 110, 32, 40, 120, 41, 32, 40, 109, 101, 97, 115, 117, 114, 101, 32, 40, 99, 111, 117, 110, 116, 32, 120, 41, 41, 32, 40, 105, 102, 32, 40, 99, 111, 110, 115, 112, 32, 120, 41, 32, 40, 43, 32, 49, 32, 40, 108, 101, 110, 32, 40, 99, 100, 114, 32, 120, 41, 41, 41, 32, 48, 41, 41, 10, 40, 100, 101, 102, 117, 110, 32, 116, 114, 117, 101, 45, 108, 105, 115, 116, 112, 32, 40, 120, 41, 32, 40, 109, 101, 97, 115, 117, 114, 101, 32, 40, 99, 111, 117, 110, 116, 32, 120, 41, 41, 32, 40, 105, 102, 32, 40, 99, 111, 110, 115, 112, 32, 120, 41, 32, 40, 116, 114, 117, 101, 45, 108, 105, 115, 116, 112, 32, 40, 99, 100, 114, 32, 120, 41, 41, 32, 40, 101, 113, 117, 97, 108, 32, 120, 32, 110, 105, 108, 41, 41, 41, 10, 40, 100, 101, 102, 117, 110, 32, 98, 105, 110, 97, 114, 121, 45, 97, 112, 112, 101, 110, 100, 32, 40, 120, 32, 121, 41, 32, 40, 103, 117, 97, 114, 100, 32, 40, 116, 114, 117, 101, 45, 108, 105, 115, 116, 112, 32, 120, 41, 41, 32, 40, 109, 101, 97, 115, 117, 114, 101, 32, 40, 99, 111, 117, 110, 116, 32, 120, 41, 41, 10, 32, 32, 40, 105, 102, 32, 40, 99, 111, 110, 115, 112, 32, 120, 41, 32, 40, 99, 111, 110, 115, 32, 40, 99, 97, 114, 32, 120, 41, 32, 40, 98, 105, 110, 97, 114, 121, 45, 97, 112, 112, 101, 110, 100, 32, 40, 99, 100, 114, 32, 120, 41, 32, 121, 41, 41, 32, 121, 41, 41, 10, 40, 100, 101, 102, 117, 110, 32, 114, 101, 118, 32, 40, 120, 41, 32, 40, 109, 101, 97, 115, 117, 114, 101, 32, 40, 99, 111, 117, 110, 116, 32, 120, 41, 41, 10, 32, 32, 40, 105, 102, 32, 40, 99, 111, 110, 115, 112, 32, 120, 41, 32, 40, 97, 112, 112, 101, 110, 100, 32, 40, 114, 101, 118, 32, 40, 99, 100, 114, 32, 120, 41, 41, 32, 40, 108, 105, 115, 116, 32, 40, 99, 97, 114, 32, 120, 41, 41, 41, 32, 110, 105, 108, 41, 41, 10, 40, 100, 101, 102, 117, 110, 32, 109, 101, 109, 98, 101, 114, 45, 101, 113, 117, 97, 108, 32, 40, 101, 32, 120, 41, 32, 40, 103, 117, 97, 114, 100, 32, 40, 116, 114, 117, 101, 45, 108, 105, 115, 116, 112, 32, 120, 41, 41, 32, 40, 109, 101, 97, 115, 117, 114, 101, 32, 40, 99, 111, 117, 110, 116, 32, 120, 41, 41, 10, 32, 32, 40, 105, 102, 32, 40, 99, 111, 110, 115, 112, 32, 120, 41, 32, 40, 105, 102, 32, 40, 101, 113, 117, 97, 108, 32, 101, 32, 40, 99, 97, 114, 32, 120, 41, 41, 32, 120, 32, 40, 109, 101, 109, 98, 101, 114, 45, 101, 113, 117, 97, 108, 32, 101, 32, 40, 99, 100, 114, 32, 120, 41, 41, 41, 32, 110, 105, 108, 41, 41, 10, 40, 100, 101, 102, 117, 110, 32, 97, 115, 115, 111, 99, 45, 101, 113, 117, 97, 108, 32, 40, 107, 32, 97, 41, 32, 40, 109, 101, 97, 115, 117, 114, 101, 32, 40, 99, 111, 117, 110, 116, 32, 97, 41, 41, 10, 32, 32, 40, 99, 111, 110, 100, 32, 40, 40, 110, 111, 116, 32, 40, 99, 111, 110, 115, 112, 32, 97, 41, 41, 32, 110, 105, 108, 41, 10, 32, 32, 32, 32, 32, 32, 32, 32, 40, 40, 97, 110, 100, 32, 40, 99, 111, 110, 115, 112, 32, 40, 99, 97, 114, 32, 97, 41, 41, 32, 40, 101, 113, 117, 97, 108, 32, 107, 32, 40, 99, 97, 114, 32, 40, 99, 97, 114, 32, 97, 41, 41, 41, 41, 32, 40, 99, 97, 114, 32, 97, 41, 41, 10, 32, 32, 32, 32, 32, 32, 32, 32, 40, 116, 32, 40, 97, 115, 115, 111, 99, 45, 101, 113, 117, 97, 108, 32, 107, 32, 40, 99, 100, 114, 32, 97, 41, 41, 41, 41, 41, 10, 40, 100, 101, 102, 117, 110, 32, 110, 116, 104, 32, 40, 110, 32, 120, 41, 32, 40, 103, 117, 97, 114, 100, 32, 40, 97, 110, 100, 32, 40, 110, 97, 116, 112, 32, 110, 41, 32, 40, 116, 114, 117, 101, 45, 108, 105, 115, 116, 112, 32, 120, 41, 41, 41, 32, 40, 109, 101, 97, 115, 117, 114, 101, 32, 40, 110, 102, 105, 120, 32, 110, 41, 41, 10, 32, 32, 40, 105, 102, 32, 40, 122, 112, 32, 110, 41, 32, 40, 99, 97, 114, 32, 120, 41, 32, 40, 110, 116, 104, 32, 40, 43, 32, 45, 49, 32, 110, 41, 32, 40, 99, 100, 114, 32, 120, 41, 41, 41, 41, 10, 40, 100, 101, 102, 117, 110, 32, 117, 112, 100, 97, 116, 101, 45, 110, 116, 104, 32, 40, 110, 32, 118, 32, 120, 41, 32, 40, 103, 117, 97, 114, 100, 32, 40, 97, 110, 100, 32, 40, 110, 97, 116, 112, 32, 110, 41, 32, 40, 116, 114, 117, 101, 45, 108, 105, 115, 116, 112, 32, 120, 41, 41, 41, 32, 40, 109, 101, 97, 115, 117, 114, 101, 32, 40, 110, 102, 105, 120, 32, 110, 41, 41, 10, 32, 32, 40, 105, 102, 32, 40, 122, 112, 32, 110, 41, 32, 40, 99, 111, 110, 115, 32, 118, 32, 40, 99, 100, 114, 32, 120, 41, 41, 32, 40, 99, 111, 110, 115, 32, 40, 99, 97, 114, 32, 120, 41, 32, 40, 117, 112, 100, 97, 116, 101, 45, 110, 116, 104, 32, 40, 43, 32, 45, 49, 32, 110, 41, 32, 118, 32, 40, 99, 100, 114, 32, 120, 41, 41, 41, 41, 41, 10]
end Go.Proofs.YtendgffijciehaaGreatDoor
/- Reading, as plain functions: the tokens of what is left of a text. -/
namespace Go.Proofs.YtendgffijciehaaGreatDoor
open Go.RowKit

namespace Rdr
theorem len_take_drop {α : Type} (p : α → Bool) (l : List α) : (l.takeWhile p).length + (l.dropWhile p).length = l.length := by
  rw [← List.length_append, List.takeWhile_append_dropWhile]
theorem drop_tw {α : Type} (p : α → Bool) (l : List α) : l.drop (l.takeWhile p).length = l.dropWhile p := by
  have h := List.takeWhile_append_dropWhile (p := p) (l := l)
  have e : (l.takeWhile p ++ l.dropWhile p).drop (l.takeWhile p).length = l.dropWhile p := List.drop_left
  rwa [h] at e
theorem toks_fuel : ∀ (f g i : Nat) (r : List UInt8), r.length < f → r.length < g → toks f i r = toks g i r := by
  intro f
  induction f with
  | zero => intro g i r h; omega
  | succ f ih =>
    intro g i r h1 h2
    cases g with
    | zero => omega
    | succ g =>
      cases r with
      | nil => rw [toks, toks]
      | cons c r =>
        rw [List.length_cons] at h1 h2
        rw [toks, toks]
        rw [ih g (i + 1) r (by omega) (by omega)]
        by_cases hb : blk c = true
        · rw [if_pos hb, if_pos hb]
        rw [if_neg hb, if_neg hb]
        by_cases h40 : (c == 40) = true
        · rw [if_pos h40, if_pos h40]
        rw [if_neg h40, if_neg h40]
        by_cases h41 : (c == 41) = true
        · rw [if_pos h41, if_pos h41]
        rw [if_neg h41, if_neg h41]
        have hl := len_take_drop cst r
        rw [ih g _ _ (by omega) (by omega)]
/-- the tokens of what is left of a text -/
def tk (i : Nat) (r : List UInt8) : List Tok := toks (r.length + 1) i r
theorem tk_nil (i : Nat) : tk i [] = [⟨0, i, [], []⟩] := by rw [tk, toks]
theorem tk_blk {i : Nat} {c : UInt8} {r : List UInt8} (h : blk c = true) : tk i (c :: r) = tk (i + 1) r := by
  rw [tk, toks, if_pos h]
  rfl
theorem tk_open {i : Nat} {r : List UInt8} : tk i (40 :: r) = ⟨1, i, [], []⟩ :: tk (i + 1) r := by
  rw [tk, toks, if_neg (by decide), if_pos (by decide)]
  rfl
theorem tk_close {i : Nat} {r : List UInt8} : tk i (41 :: r) = ⟨2, i, [], []⟩ :: tk (i + 1) r := by
  rw [tk, toks, if_neg (by decide), if_neg (by decide), if_pos (by decide)]
  rfl
/-- the token of a word -/
def wTok (i : Nat) (w : List UInt8) : Tok := if isNum w then ⟨5, i, w, [49]⟩ else ⟨6, i, w, []⟩
theorem cst_not {c : UInt8} (h : cst c = true) : blk c = false ∧ (c == 40) = false ∧ (c == 41) = false := by
  unfold cst at h
  simp only [Bool.and_eq_true, decide_eq_true_eq, Bool.not_eq_true'] at h
  obtain ⟨⟨⟨⟨⟨⟨⟨⟨h1, h2⟩, h3⟩, h4⟩, _⟩, _⟩, _⟩, _⟩, _⟩ := h
  refine ⟨?_, h3, h4⟩
  have ne : ∀ k : UInt8, k.toNat < 33 → (c == k) = false := fun k hk => by
    rw [beq_eq_false_iff_ne]
    intro e
    rw [e] at h1
    omega
  unfold blk
  rw [ne 32 (by decide), ne 9 (by decide), ne 10 (by decide), ne 13 (by decide)]
  rfl
theorem tk_word {i : Nat} {c : UInt8} {r : List UInt8} (h : cst c = true) : tk i (c :: r) = wTok i ((c :: r).takeWhile cst) :: tk (i + ((c :: r).takeWhile cst).length) ((c :: r).drop ((c :: r).takeWhile cst).length) := by
  obtain ⟨h1, h2, h3⟩ := cst_not h
  rw [drop_tw, List.takeWhile_cons, if_pos h, List.dropWhile_cons, if_pos h]
  rw [tk, toks, if_neg (by rw [h1]; decide), if_neg (by rw [h2]; decide), if_neg (by rw [h3]; decide)]
  simp only [List.length_cons]
  rw [tk, toks_fuel _ ((r.dropWhile cst).length + 1) _ _ (by have := len_take_drop cst r; omega) (by omega)]
  rfl
/-- blanks are passed over -/
theorem tk_skip : ∀ (i : Nat) (r : List UInt8), tk i r = tk (i + (r.takeWhile blk).length) (r.drop (r.takeWhile blk).length)
  | i, [] => rfl
  | i, c :: r => by
    cases h : blk c with
    | false => rw [List.takeWhile_cons, if_neg (by rw [h]; decide)]; rfl
    | true =>
      rw [tk_blk h, tk_skip (i + 1) r, List.takeWhile_cons, if_pos h, List.length_cons, List.drop_succ_cons]
      congr 1
      omega
end Rdr
end Go.Proofs.YtendgffijciehaaGreatDoor
/- Letters, blanks and words of the reference's reader. -/
namespace Go.Proofs.YtendgffijciehaaGreatDoor
open Go.RowKit

abbrev u8A (c : UInt8) : AV := .dt (.val (.int .u8 (c.toNat : Int)))
theorem u8d {c k : UInt8} {n : Int} (h : (k.toNat : Int) = n) : decide ((c.toNat : Int) = n) = (c == k) := by
  rw [Bool.eq_iff_iff, decide_eq_true_iff, beq_iff_eq, ← h]
  exact ⟨fun e => UInt8.toNat_inj.1 (by omega), fun e => by rw [e]⟩
theorem u8n {c k : UInt8} {n : Int} (h : (k.toNat : Int) = n) {b : Bool} (e : (c == k) = b) : decide ((c.toNat : Int) = n) = b := (u8d h).trans e
theorem bytes_getY (s : ByteArray) (i : Nat) : s[i]? = s.data.toList[i]? := by
  rw [Array.getElem?_toList]
  by_cases h : i < s.size
  · have h' : i < s.data.size := h
    rw [getElem?_pos s i h, Array.getElem?_eq_getElem h']
    rfl
  · have h' : ¬ i < s.data.size := h
    rw [getElem?_neg s i h, Array.getElem?_eq_none (by omega)]
theorem ix_s {s : List UInt8} {i : Nat} {c : UInt8} (h : s[i]? = some c) : IxS ⟨s.toArray⟩ (i : Int) (.int .u8 (c.toNat : Int)) := ⟨c, Int.natCast_nonneg _, by
  rw [bytes_getY, Int.toNat_natCast]; exact h, rfl⟩
theorem lenS (s : List UInt8) : Value.int .i64 (s.length : Int) = Value.int .i64 (s.length : Int) := rfl
theorem p_blank (c : UInt8) : Puk 159 [u8A c] (boA (Rdr.blk c)) := by
  unfold Rdr.blk
  cases h1 : c == 32 with
  | true => exact pwalk (an := [yT]) (ls := []) (ps := [Bn .eql 5 (.tmp 3) (.const (Value.int .u8 32)) (Value.int .u8 ↑c.toNat) (Value.int .u8 32) bT]) Tryz.func159 (by kernel_rfl) (by kernel_rfl) ⟨bin_ieq (u8n rfl h1), trivial⟩
  | false =>
    cases h2 : c == 9 with
    | true => exact pwalk (an := [yF, yT]) (ls := []) (ps := [Bn .eql 5 (.tmp 3) (.const (Value.int .u8 32)) (Value.int .u8 ↑c.toNat) (Value.int .u8 32) bF, Bn .eql 5 (.tmp 6) (.const (Value.int .u8 9)) (Value.int .u8 ↑c.toNat) (Value.int .u8 9) bT]) Tryz.func159 (by kernel_rfl) (by kernel_rfl) ⟨bin_ieq (u8n rfl h1), bin_ieq (u8n rfl h2), trivial⟩
    | false =>
      cases h3 : c == 10 with
      | true => exact pwalk (an := [yF, yF, yT]) (ls := []) (ps := [Bn .eql 5 (.tmp 3) (.const (Value.int .u8 32)) (Value.int .u8 ↑c.toNat) (Value.int .u8 32) bF, Bn .eql 5 (.tmp 6) (.const (Value.int .u8 9)) (Value.int .u8 ↑c.toNat) (Value.int .u8 9) bF, Bn .eql 5 (.tmp 10) (.const (Value.int .u8 10)) (Value.int .u8 ↑c.toNat) (Value.int .u8 10) bT]) Tryz.func159 (by kernel_rfl) (by kernel_rfl) ⟨bin_ieq (u8n rfl h1), bin_ieq (u8n rfl h2), bin_ieq (u8n rfl h3), trivial⟩
      | false => exact pwalk (an := [yF, yF, yF, .av (boA (c == 13))]) (ls := []) (ps := [Bn .eql 5 (.tmp 3) (.const (Value.int .u8 32)) (Value.int .u8 ↑c.toNat) (Value.int .u8 32) bF, Bn .eql 5 (.tmp 6) (.const (Value.int .u8 9)) (Value.int .u8 ↑c.toNat) (Value.int .u8 9) bF, Bn .eql 5 (.tmp 10) (.const (Value.int .u8 10)) (Value.int .u8 ↑c.toNat) (Value.int .u8 10) bF, Bn .eql 5 (.tmp 14) (.const (Value.int .u8 13)) (Value.int .u8 ↑c.toNat) (Value.int .u8 13) (Value.bool (c == 13))]) Tryz.func159 (by kernel_rfl) (by kernel_rfl) ⟨bin_ieq (u8n rfl h1), bin_ieq (u8n rfl h2), bin_ieq (u8n rfl h3), bin_ieq (u8d (k := 13) rfl), trivial⟩
theorem p_cst (c : UInt8) : Puk 163 [u8A c] (boA (Rdr.cst c)) := by
  unfold Rdr.cst
  cases h0 : decide (33 ≤ c.toNat) with
  | false => exact pwalk (an := [yF]) (ls := []) (ps := [Bn .geq 5 (.tmp 3) (.const (Value.int .u8 33)) (Value.int .u8 ↑c.toNat) (Value.int .u8 33) bF]) Tryz.func163 (by kernel_rfl) (by kernel_rfl) ⟨bin_ige (by rw [← h0]; rw [decide_eq_decide]; omega), trivial⟩
  | true =>
    cases h1 : decide (c.toNat ≤ 126) with
    | false => exact pwalk (an := [yT, yF]) (ls := []) (ps := [Bn .geq 5 (.tmp 3) (.const (Value.int .u8 33)) (Value.int .u8 ↑c.toNat) (Value.int .u8 33) bT, Bn .leq 5 (.tmp 6) (.const (Value.int .u8 126)) (Value.int .u8 ↑c.toNat) (Value.int .u8 126) bF]) Tryz.func163 (by kernel_rfl) (by kernel_rfl) ⟨bin_ige (by rw [← h0]; rw [decide_eq_decide]; omega), bin_ile (by rw [← h1]; rw [decide_eq_decide]; omega), trivial⟩
    | true =>
      cases h2 : c == 40 with
      | true => exact pwalk (an := [yT, yT, yF]) (ls := []) (ps := [Bn .geq 5 (.tmp 3) (.const (Value.int .u8 33)) (Value.int .u8 ↑c.toNat) (Value.int .u8 33) bT, Bn .leq 5 (.tmp 6) (.const (Value.int .u8 126)) (Value.int .u8 ↑c.toNat) (Value.int .u8 126) bT, Bn .neq 5 (.tmp 10) (.const (Value.int .u8 40)) (Value.int .u8 ↑c.toNat) (Value.int .u8 40) bF]) Tryz.func163 (by kernel_rfl) (by kernel_rfl) ⟨bin_ige (by rw [← h0]; rw [decide_eq_decide]; omega), bin_ile (by rw [← h1]; rw [decide_eq_decide]; omega), bin_ine (u8n rfl h2), trivial⟩
      | false =>
        cases h3 : c == 41 with
        | true => exact pwalk (an := [yT, yT, yT, yF]) (ls := []) (ps := [Bn .geq 5 (.tmp 3) (.const (Value.int .u8 33)) (Value.int .u8 ↑c.toNat) (Value.int .u8 33) bT, Bn .leq 5 (.tmp 6) (.const (Value.int .u8 126)) (Value.int .u8 ↑c.toNat) (Value.int .u8 126) bT, Bn .neq 5 (.tmp 10) (.const (Value.int .u8 40)) (Value.int .u8 ↑c.toNat) (Value.int .u8 40) bT, Bn .neq 5 (.tmp 14) (.const (Value.int .u8 41)) (Value.int .u8 ↑c.toNat) (Value.int .u8 41) bF]) Tryz.func163 (by kernel_rfl) (by kernel_rfl) ⟨bin_ige (by rw [← h0]; rw [decide_eq_decide]; omega), bin_ile (by rw [← h1]; rw [decide_eq_decide]; omega), bin_ine (u8n rfl h2), bin_ine (u8n rfl h3), trivial⟩
        | false =>
          cases h4 : c == 39 with
          | true => exact pwalk (an := [yT, yT, yT, yT, yF]) (ls := []) (ps := [Bn .geq 5 (.tmp 3) (.const (Value.int .u8 33)) (Value.int .u8 ↑c.toNat) (Value.int .u8 33) bT, Bn .leq 5 (.tmp 6) (.const (Value.int .u8 126)) (Value.int .u8 ↑c.toNat) (Value.int .u8 126) bT, Bn .neq 5 (.tmp 10) (.const (Value.int .u8 40)) (Value.int .u8 ↑c.toNat) (Value.int .u8 40) bT, Bn .neq 5 (.tmp 14) (.const (Value.int .u8 41)) (Value.int .u8 ↑c.toNat) (Value.int .u8 41) bT, Bn .neq 5 (.tmp 18) (.const (Value.int .u8 39)) (Value.int .u8 ↑c.toNat) (Value.int .u8 39) bF]) Tryz.func163 (by kernel_rfl) (by kernel_rfl) ⟨bin_ige (by rw [← h0]; rw [decide_eq_decide]; omega), bin_ile (by rw [← h1]; rw [decide_eq_decide]; omega), bin_ine (u8n rfl h2), bin_ine (u8n rfl h3), bin_ine (u8n rfl h4), trivial⟩
          | false =>
            cases h5 : c == 34 with
            | true => exact pwalk (an := [yT, yT, yT, yT, yT, yF]) (ls := []) (ps := [Bn .geq 5 (.tmp 3) (.const (Value.int .u8 33)) (Value.int .u8 ↑c.toNat) (Value.int .u8 33) bT, Bn .leq 5 (.tmp 6) (.const (Value.int .u8 126)) (Value.int .u8 ↑c.toNat) (Value.int .u8 126) bT, Bn .neq 5 (.tmp 10) (.const (Value.int .u8 40)) (Value.int .u8 ↑c.toNat) (Value.int .u8 40) bT, Bn .neq 5 (.tmp 14) (.const (Value.int .u8 41)) (Value.int .u8 ↑c.toNat) (Value.int .u8 41) bT, Bn .neq 5 (.tmp 18) (.const (Value.int .u8 39)) (Value.int .u8 ↑c.toNat) (Value.int .u8 39) bT, Bn .neq 5 (.tmp 22) (.const (Value.int .u8 34)) (Value.int .u8 ↑c.toNat) (Value.int .u8 34) bF]) Tryz.func163 (by kernel_rfl) (by kernel_rfl) ⟨bin_ige (by rw [← h0]; rw [decide_eq_decide]; omega), bin_ile (by rw [← h1]; rw [decide_eq_decide]; omega), bin_ine (u8n rfl h2), bin_ine (u8n rfl h3), bin_ine (u8n rfl h4), bin_ine (u8n rfl h5), trivial⟩
            | false =>
              cases h6 : c == 59 with
              | true => exact pwalk (an := [yT, yT, yT, yT, yT, yT, yF]) (ls := []) (ps := [Bn .geq 5 (.tmp 3) (.const (Value.int .u8 33)) (Value.int .u8 ↑c.toNat) (Value.int .u8 33) bT, Bn .leq 5 (.tmp 6) (.const (Value.int .u8 126)) (Value.int .u8 ↑c.toNat) (Value.int .u8 126) bT, Bn .neq 5 (.tmp 10) (.const (Value.int .u8 40)) (Value.int .u8 ↑c.toNat) (Value.int .u8 40) bT, Bn .neq 5 (.tmp 14) (.const (Value.int .u8 41)) (Value.int .u8 ↑c.toNat) (Value.int .u8 41) bT, Bn .neq 5 (.tmp 18) (.const (Value.int .u8 39)) (Value.int .u8 ↑c.toNat) (Value.int .u8 39) bT, Bn .neq 5 (.tmp 22) (.const (Value.int .u8 34)) (Value.int .u8 ↑c.toNat) (Value.int .u8 34) bT, Bn .neq 5 (.tmp 26) (.const (Value.int .u8 59)) (Value.int .u8 ↑c.toNat) (Value.int .u8 59) bF]) Tryz.func163 (by kernel_rfl) (by kernel_rfl) ⟨bin_ige (by rw [← h0]; rw [decide_eq_decide]; omega), bin_ile (by rw [← h1]; rw [decide_eq_decide]; omega), bin_ine (u8n rfl h2), bin_ine (u8n rfl h3), bin_ine (u8n rfl h4), bin_ine (u8n rfl h5), bin_ine (u8n rfl h6), trivial⟩
              | false =>
                cases h7 : c == 124 with
                | true => exact pwalk (an := [yT, yT, yT, yT, yT, yT, yT, yF]) (ls := []) (ps := [Bn .geq 5 (.tmp 3) (.const (Value.int .u8 33)) (Value.int .u8 ↑c.toNat) (Value.int .u8 33) bT, Bn .leq 5 (.tmp 6) (.const (Value.int .u8 126)) (Value.int .u8 ↑c.toNat) (Value.int .u8 126) bT, Bn .neq 5 (.tmp 10) (.const (Value.int .u8 40)) (Value.int .u8 ↑c.toNat) (Value.int .u8 40) bT, Bn .neq 5 (.tmp 14) (.const (Value.int .u8 41)) (Value.int .u8 ↑c.toNat) (Value.int .u8 41) bT, Bn .neq 5 (.tmp 18) (.const (Value.int .u8 39)) (Value.int .u8 ↑c.toNat) (Value.int .u8 39) bT, Bn .neq 5 (.tmp 22) (.const (Value.int .u8 34)) (Value.int .u8 ↑c.toNat) (Value.int .u8 34) bT, Bn .neq 5 (.tmp 26) (.const (Value.int .u8 59)) (Value.int .u8 ↑c.toNat) (Value.int .u8 59) bT, Bn .neq 5 (.tmp 30) (.const (Value.int .u8 124)) (Value.int .u8 ↑c.toNat) (Value.int .u8 124) bF]) Tryz.func163 (by kernel_rfl) (by kernel_rfl) ⟨bin_ige (by rw [← h0]; rw [decide_eq_decide]; omega), bin_ile (by rw [← h1]; rw [decide_eq_decide]; omega), bin_ine (u8n rfl h2), bin_ine (u8n rfl h3), bin_ine (u8n rfl h4), bin_ine (u8n rfl h5), bin_ine (u8n rfl h6), bin_ine (u8n rfl h7), trivial⟩
                | false =>
                  cases h8 : c == 58 with
                  | true => exact pwalk (an := [yT, yT, yT, yT, yT, yT, yT, yT, yF]) (ls := []) (ps := [Bn .geq 5 (.tmp 3) (.const (Value.int .u8 33)) (Value.int .u8 ↑c.toNat) (Value.int .u8 33) bT, Bn .leq 5 (.tmp 6) (.const (Value.int .u8 126)) (Value.int .u8 ↑c.toNat) (Value.int .u8 126) bT, Bn .neq 5 (.tmp 10) (.const (Value.int .u8 40)) (Value.int .u8 ↑c.toNat) (Value.int .u8 40) bT, Bn .neq 5 (.tmp 14) (.const (Value.int .u8 41)) (Value.int .u8 ↑c.toNat) (Value.int .u8 41) bT, Bn .neq 5 (.tmp 18) (.const (Value.int .u8 39)) (Value.int .u8 ↑c.toNat) (Value.int .u8 39) bT, Bn .neq 5 (.tmp 22) (.const (Value.int .u8 34)) (Value.int .u8 ↑c.toNat) (Value.int .u8 34) bT, Bn .neq 5 (.tmp 26) (.const (Value.int .u8 59)) (Value.int .u8 ↑c.toNat) (Value.int .u8 59) bT, Bn .neq 5 (.tmp 30) (.const (Value.int .u8 124)) (Value.int .u8 ↑c.toNat) (Value.int .u8 124) bT, Bn .neq 5 (.tmp 34) (.const (Value.int .u8 58)) (Value.int .u8 ↑c.toNat) (Value.int .u8 58) bF]) Tryz.func163 (by kernel_rfl) (by kernel_rfl) ⟨bin_ige (by rw [← h0]; rw [decide_eq_decide]; omega), bin_ile (by rw [← h1]; rw [decide_eq_decide]; omega), bin_ine (u8n rfl h2), bin_ine (u8n rfl h3), bin_ine (u8n rfl h4), bin_ine (u8n rfl h5), bin_ine (u8n rfl h6), bin_ine (u8n rfl h7), bin_ine (u8n rfl h8), trivial⟩
                  | false => exact pwalk (an := [yT, yT, yT, yT, yT, yT, yT, yT, yT]) (ls := []) (ps := [Bn .geq 5 (.tmp 3) (.const (Value.int .u8 33)) (Value.int .u8 ↑c.toNat) (Value.int .u8 33) bT, Bn .leq 5 (.tmp 6) (.const (Value.int .u8 126)) (Value.int .u8 ↑c.toNat) (Value.int .u8 126) bT, Bn .neq 5 (.tmp 10) (.const (Value.int .u8 40)) (Value.int .u8 ↑c.toNat) (Value.int .u8 40) bT, Bn .neq 5 (.tmp 14) (.const (Value.int .u8 41)) (Value.int .u8 ↑c.toNat) (Value.int .u8 41) bT, Bn .neq 5 (.tmp 18) (.const (Value.int .u8 39)) (Value.int .u8 ↑c.toNat) (Value.int .u8 39) bT, Bn .neq 5 (.tmp 22) (.const (Value.int .u8 34)) (Value.int .u8 ↑c.toNat) (Value.int .u8 34) bT, Bn .neq 5 (.tmp 26) (.const (Value.int .u8 59)) (Value.int .u8 ↑c.toNat) (Value.int .u8 59) bT, Bn .neq 5 (.tmp 30) (.const (Value.int .u8 124)) (Value.int .u8 ↑c.toNat) (Value.int .u8 124) bT, Bn .neq 5 (.tmp 34) (.const (Value.int .u8 58)) (Value.int .u8 ↑c.toNat) (Value.int .u8 58) bT]) Tryz.func163 (by kernel_rfl) (by kernel_rfl) ⟨bin_ige (by rw [← h0]; rw [decide_eq_decide]; omega), bin_ile (by rw [← h1]; rw [decide_eq_decide]; omega), bin_ine (u8n rfl h2), bin_ine (u8n rfl h3), bin_ine (u8n rfl h4), bin_ine (u8n rfl h5), bin_ine (u8n rfl h6), bin_ine (u8n rfl h7), bin_ine (u8n rfl h8), trivial⟩
/-- two letters of which the first is not there -/
theorem p_hasF {s : List UInt8} {i : Nat} {a b : UInt8} (_hl : s.length ≤ 6000) (hi : i ≤ 6000) (h : ∀ c ∈ s, (c == a) = false) : Puk 160 [stA s, inA i, u8A a, u8A b] (boA false) := by
  by_cases hlt : i + 1 < s.length
  · obtain ⟨c, hc⟩ : ∃ c, s[i]? = some c := ⟨s[i], List.getElem?_eq_getElem (by omega)⟩
    exact pwalk (an := [yT, .av (inA ((i + 1 : Nat) : Int)), .av (inA s.length), yT, .av (u8A c), yF]) (ls := []) (ps := [Bn .geq 3 (.tmp 9) (.const (vi 0)) (vi ↑i) (vi 0) bT, Bn .add 3 (.tmp 12) (.const (vi 1)) (vi ↑i) (vi 1) (vi (↑(i + 1))), (vi ↑s.length) = (vi (↑s.length)), Bn .lss 3 (.tmp 13) (.tmp 15) (vi (↑(i + 1))) (vi ↑s.length) bT, IxS ({ data := s.toArray : ByteArray }) ↑i (Value.int .u8 ↑c.toNat), Bn .eql 5 (.tmp 21) (.tmp 22) (Value.int .u8 ↑c.toNat) (Value.int .u8 ↑a.toNat) bF]) Tryz.func160 (by kernel_rfl) (by kernel_rfl) ⟨bin_ige (decide_eq_true (by omega)), bin_iadd (by omega) (by omega) (by omega), lenS _, bin_ilt (decide_eq_true (by omega)), ix_s hc, bin_ieq (u8n rfl (h c (List.mem_of_getElem? hc))), trivial⟩
  · exact pwalk (an := [yT, .av (inA ((i + 1 : Nat) : Int)), .av (inA s.length), yF]) (ls := []) (ps := [Bn .geq 3 (.tmp 9) (.const (vi 0)) (vi ↑i) (vi 0) bT, Bn .add 3 (.tmp 12) (.const (vi 1)) (vi ↑i) (vi 1) (vi (↑(i + 1))), (vi ↑s.length) = (vi (↑s.length)), Bn .lss 3 (.tmp 13) (.tmp 15) (vi (↑(i + 1))) (vi ↑s.length) bF]) Tryz.func160 (by kernel_rfl) (by kernel_rfl) ⟨bin_ige (decide_eq_true (by omega)), bin_iadd (by omega) (by omega) (by omega), lenS _, bin_ilt (decide_eq_false (by omega)), trivial⟩
/- the end of a word -/
abbrev wdS (s : List UInt8) (i : Int) : AS := ⟨stt 18 [(0, stA s), (1, inA i)], []⟩
noncomputable abbrev wdB : Code := subC (bodyOf Tryz.f164) [1,0,0,0]
theorem wdB1 {s : List UInt8} {i : Nat} {c : UInt8} (hc : s[i]? = some c) (hl : s.length ≤ 6000) (h : Rdr.cst c = true) : Tri EX wdB (wdS s i) .nxt (wdS s ((i + 1 : Nat) : Int)) :=
  twalk (c := subC (bodyOf Tryz.f164) [1,0,0,0]) (s := wdS s i) (an := [.av (inA s.length), yT, .av (u8A c), yT, .av (inA ((i + 1 : Nat) : Int))]) (ls := []) (ft := [0,1]) (nb := 0) (e := .nxt) (s' := wdS s ((i + 1 : Nat) : Int)) (ps := [(vi ↑s.length) = (vi (↑s.length)), Bn .lss 3 (.tmp 5) (.tmp 7) (vi ↑i) (vi ↑s.length) bT, IxS ({ data := s.toArray : ByteArray }) ↑i (Value.int .u8 ↑c.toNat), Puk 163 [(.dt (.val (Value.int .u8 ↑c.toNat)))] (boA true), Bn .add 3 (.tmp 15) (.const (vi 1)) (vi ↑i) (vi 1) (vi (↑(i + 1)))]) (by kernel_rfl)
    ⟨lenS _, bin_ilt (decide_eq_true (by have := (List.getElem?_eq_some_iff.1 hc).1; omega)), ix_s hc, h ▸ p_cst c, bin_iadd (by omega) (by omega) (by have := (List.getElem?_eq_some_iff.1 hc).1; omega), trivial⟩
theorem wdB2 {s : List UInt8} {i : Nat} (hi : i = s.length) : Tri EX wdB (wdS s i) (.out 0) (wdS s i) :=
  twalk (c := subC (bodyOf Tryz.f164) [1,0,0,0]) (s := wdS s i) (an := [.av (inA s.length), yF]) (ls := []) (ft := [0,1]) (nb := 0) (e := .out 0) (s' := wdS s i) (ps := [(vi ↑s.length) = (vi (↑s.length)), Bn .lss 3 (.tmp 5) (.tmp 7) (vi ↑i) (vi ↑s.length) bF]) (by kernel_rfl)
    ⟨lenS _, bin_ilt (decide_eq_false (by omega)), trivial⟩
theorem wdB3 {s : List UInt8} {i : Nat} {c : UInt8} (hc : s[i]? = some c) (h : Rdr.cst c = false) : Tri EX wdB (wdS s i) (.out 0) (wdS s i) :=
  twalk (c := subC (bodyOf Tryz.f164) [1,0,0,0]) (s := wdS s i) (an := [.av (inA s.length), yT, .av (u8A c), yF]) (ls := []) (ft := [0,1]) (nb := 0) (e := .out 0) (s' := wdS s i) (ps := [(vi ↑s.length) = (vi (↑s.length)), Bn .lss 3 (.tmp 5) (.tmp 7) (vi ↑i) (vi ↑s.length) bT, IxS ({ data := s.toArray : ByteArray }) ↑i (Value.int .u8 ↑c.toNat), Puk 163 [(.dt (.val (Value.int .u8 ↑c.toNat)))] (boA false)]) (by kernel_rfl)
    ⟨lenS _, bin_ilt (decide_eq_true (by have := (List.getElem?_eq_some_iff.1 hc).1; omega)), ix_s hc, h ▸ p_cst c, trivial⟩
theorem wd_loop {s : List UInt8} (hl : s.length ≤ 6000) : ∀ (r : List UInt8) (i : Nat), s.drop i = r → i ≤ s.length → Lps EX wdB (wdS s i) (.out 0) (wdS s ((i + (r.takeWhile Rdr.cst).length : Nat) : Int)) := by
  intro r
  induction r with
  | nil =>
    intro i hd hi
    have e1 := congrArg List.length hd
    rw [List.length_drop, List.length_nil] at e1
    exact .stop (wdB2 (by omega)) (fun h => by cases h)
  | cons c r ih =>
    intro i hd hi
    have hc : s[i]? = some c := by rw [← List.head?_drop, hd]; rfl
    have hlt := (List.getElem?_eq_some_iff.1 hc).1
    cases h : Rdr.cst c with
    | false =>
      rw [List.takeWhile_cons, if_neg (by rw [h]; decide)]
      exact .stop (wdB3 hc h) (fun h => by cases h)
    | true =>
      rw [List.takeWhile_cons, if_pos h, List.length_cons, show i + ((r.takeWhile Rdr.cst).length + 1) = i + 1 + (r.takeWhile Rdr.cst).length by omega]
      exact .more (wdB1 hc hl h) (ih (i + 1) (by rw [← List.drop_drop, hd]; rfl) (by omega))
theorem p_word {s : List UInt8} {i : Nat} (hl : s.length ≤ 6000) (hi : i ≤ s.length) : Puk 164 [stA s, inA i] (inA ((i + ((s.drop i).takeWhile Rdr.cst).length : Nat) : Int)) := by
  have ht := (wd_loop hl _ i rfl hi).tri
  generalize ((i + ((s.drop i).takeWhile Rdr.cst).length : Nat) : Int) = k at *
  exact pwalk (an := []) (ls := [.inv [0,1] 0 (.out 0) (wdS s k)]) (ps := [Tri EX (.loop (subC (bodyOf Tryz.f164) [1,0,0,0])) (wdS s i) (.out 0) (wdS s k)]) Tryz.func164 (by kernel_rfl) (by kernel_rfl) ⟨ht, trivial⟩
/- blanks -/
abbrev skS (s : List UInt8) (i : Int) : AS := ⟨stt 69 [(0, stA s), (1, inA i)], []⟩
abbrev skR (i : Int) : AS := ⟨stt 69 [(4, inA i), (5, boA true)], []⟩
noncomputable abbrev skB : Code := subC (bodyOf Tryz.f136) [1,0,0,0]
theorem skB1 {s : List UInt8} {i : Nat} {c : UInt8} (hc : s[i]? = some c) (hl : s.length ≤ 6000) (h : Rdr.blk c = true) : Tri EX skB (skS s i) .nxt (skS s ((i + 1 : Nat) : Int)) :=
  twalk (c := subC (bodyOf Tryz.f136) [1,0,0,0]) (s := skS s i) (an := [.av (inA s.length), yT, .av (u8A c), yT, .av (inA ((i + 1 : Nat) : Int))]) (ls := []) (ft := [0,1]) (nb := 0) (e := .nxt) (s' := skS s ((i + 1 : Nat) : Int)) (ps := [(vi ↑s.length) = (vi (↑s.length)), Bn .lss 3 (.tmp 7) (.tmp 9) (vi ↑i) (vi ↑s.length) bT, IxS ({ data := s.toArray : ByteArray }) ↑i (Value.int .u8 ↑c.toNat), Puk 159 [(.dt (.val (Value.int .u8 ↑c.toNat)))] (boA true), Bn .add 3 (.tmp 17) (.const (vi 1)) (vi ↑i) (vi 1) (vi (↑(i + 1)))]) (by kernel_rfl)
    ⟨lenS _, bin_ilt (decide_eq_true (by have := (List.getElem?_eq_some_iff.1 hc).1; omega)), ix_s hc, h ▸ p_blank c, bin_iadd (by omega) (by omega) (by have := (List.getElem?_eq_some_iff.1 hc).1; omega), trivial⟩
theorem skB2 {s : List UInt8} {i : Nat} (hi : i = s.length) : Tri EX skB (skS s i) (.out 0) (skS s i) :=
  twalk (c := subC (bodyOf Tryz.f136) [1,0,0,0]) (s := skS s i) (an := [.av (inA s.length), yF]) (ls := []) (ft := [0,1]) (nb := 0) (e := .out 0) (s' := skS s i) (ps := [(vi ↑s.length) = (vi (↑s.length)), Bn .lss 3 (.tmp 7) (.tmp 9) (vi ↑i) (vi ↑s.length) bF]) (by kernel_rfl)
    ⟨lenS _, bin_ilt (decide_eq_false (by omega)), trivial⟩
theorem skB3 {s : List UInt8} {i : Nat} {c : UInt8} (hc : s[i]? = some c) (hl : s.length ≤ 6000) (h : Rdr.blk c = false) (h1 : (c == 59) = false) (h2 : ∀ c ∈ s, (c == 35) = false) : Tri EX skB (skS s i) .ret (skR i) :=
  twalk (c := subC (bodyOf Tryz.f136) [1,0,0,0]) (s := skS s i) (an := [.av (inA s.length), yT, .av (u8A c), yF, .av (u8A c), yF, yF]) (ls := []) (ft := [4,5]) (nb := 0) (e := .ret) (s' := skR i) (ps := [(vi ↑s.length) = (vi (↑s.length)), Bn .lss 3 (.tmp 7) (.tmp 9) (vi ↑i) (vi ↑s.length) bT, IxS ({ data := s.toArray : ByteArray }) ↑i (Value.int .u8 ↑c.toNat), Puk 159 [(.dt (.val (Value.int .u8 ↑c.toNat)))] (boA false), IxS ({ data := s.toArray : ByteArray }) ↑i (Value.int .u8 ↑c.toNat), Bn .eql 5 (.tmp 22) (.const (Value.int .u8 59)) (Value.int .u8 ↑c.toNat) (Value.int .u8 59) bF, Puk 160 [(stA s), (inA ↑i), (.dt (.val (Value.int .u8 35))), (.dt (.val (Value.int .u8 124)))] (boA false)]) (by kernel_rfl)
    ⟨lenS _, bin_ilt (decide_eq_true (by have := (List.getElem?_eq_some_iff.1 hc).1; omega)), ix_s hc, h ▸ p_blank c, ix_s hc, bin_ieq (u8n rfl h1), p_hasF (a := 35) (b := 124) hl (by have := (List.getElem?_eq_some_iff.1 hc).1; omega) h2, trivial⟩
theorem sk_loop {s : List UInt8} (hl : s.length ≤ 6000) (h1 : ∀ c ∈ s, (c == 59) = false) (h2 : ∀ c ∈ s, (c == 35) = false) : ∀ (r : List UInt8) (i : Nat), s.drop i = r → i ≤ s.length → Lps EX skB (skS s i) (.out 0) (skS s ((i + (r.takeWhile Rdr.blk).length : Nat) : Int)) ∨ Lps EX skB (skS s i) .ret (skR ((i + (r.takeWhile Rdr.blk).length : Nat) : Int)) := by
  intro r
  induction r with
  | nil =>
    intro i hd hi
    have e1 := congrArg List.length hd
    rw [List.length_drop, List.length_nil] at e1
    exact .inl (.stop (skB2 (by omega)) (fun h => by cases h))
  | cons c r ih =>
    intro i hd hi
    have hc : s[i]? = some c := by rw [← List.head?_drop, hd]; rfl
    have hlt := (List.getElem?_eq_some_iff.1 hc).1
    cases h : Rdr.blk c with
    | false =>
      rw [List.takeWhile_cons, if_neg (by rw [h]; decide)]
      exact .inr (.stop (skB3 hc hl h (h1 c (List.mem_of_getElem? hc)) h2) (fun h => by cases h))
    | true =>
      rw [List.takeWhile_cons, if_pos h, List.length_cons, show i + ((r.takeWhile Rdr.blk).length + 1) = i + 1 + (r.takeWhile Rdr.blk).length by omega]
      rcases ih (i + 1) (by rw [← List.drop_drop, hd]; rfl) (by omega) with k | k
      · exact .inl (.more (skB1 hc hl h) k)
      · exact .inr (.more (skB1 hc hl h) k)
theorem p_skip {s : List UInt8} {i : Nat} (hl : s.length ≤ 6000) (h1 : ∀ c ∈ s, (c == 59) = false) (h2 : ∀ c ∈ s, (c == 35) = false) (hi : i ≤ s.length) : Puk 136 [stA s, inA i] (.tup [inA ((i + ((s.drop i).takeWhile Rdr.blk).length : Nat) : Int), boA true]) := by
  rcases sk_loop hl h1 h2 _ i rfl hi with h | h
  · have ht := h.tri
    generalize ((i + ((s.drop i).takeWhile Rdr.blk).length : Nat) : Int) = k at *
    exact pwalk (an := []) (ls := [.inv [0,1] 0 (.out 0) (skS s k)]) (ps := [Tri EX (.loop (subC (bodyOf Tryz.f136) [1,0,0,0])) (skS s i) (.out 0) (skS s k)]) Tryz.func136 (by kernel_rfl) (by kernel_rfl) ⟨ht, trivial⟩
  · have ht := h.tri
    generalize ((i + ((s.drop i).takeWhile Rdr.blk).length : Nat) : Int) = k at *
    exact pwalk (an := []) (ls := [.inv [0,1] 0 (.ret) (skR k)]) (ps := [Tri EX (.loop (subC (bodyOf Tryz.f136) [1,0,0,0])) (skS s i) (.ret) (skR k)]) Tryz.func136 (by kernel_rfl) (by kernel_rfl) ⟨ht, trivial⟩
end Go.Proofs.YtendgffijciehaaGreatDoor
