/- Raw trees and the maker's objects, as plain walks. -/
import Derived.Test.YtmkcnjfhdfanoaaGreatDoorKK
import Derived.Test.YtmkcnjfhdfanoaaGreatDoorKM
import Derived.MapKept
import Derived.Test.YtmkcnjfhdfanoaaGreatDoorKJ
import Derived.Test.YtmkcnjfhdfanoaaGreatDoorKG
namespace Go.Proofs.YtmkcnjfhdfanoaaGreatDoor
open Go.RowKit

abbrev wr (n : Int) : Int := IntKind.i64.wrap n
abbrev rawA (r : Raw) : AV := .agg [inA r.kind, inA r.n, stA r.s, .dt (.row (r.l.map Raw.enc))]
abbrev encR (r : Raw) : List Dt := [.val (.int .i64 r.kind), .val (.int .i64 r.n), .val (str r.s), .row (r.l.map Raw.enc)]
theorem enc_R (r : Raw) : r.enc = encR r := Raw.enc_eq r
theorem ix_raw {l : List Raw} {i : Nat} {o : Raw} (h : l[i]? = some o) : IxAt (l.map Raw.enc) (i : Int) 4 (encR o) := ⟨Int.natCast_nonneg _, by
  rw [Int.toNat_natCast, List.getElem?_map, h]
  exact congrArg some (enc_R o), rfl⟩
theorem lenEncR (l : List Raw) : Value.int .i64 (l.length : Int) = Value.int .i64 ((l.map Raw.enc).length : Int) := by rw [List.length_map]
theorem lenStr (l : List UInt8) : Value.int .i64 (l.length : Int) = Value.int .i64 (l.length : Int) := rfl
theorem p_rFrom (n : Int) (h0 : -9223372036854775808 ≤ n) (h1 : n ≤ 9223372036854775807) : Puk 36 [inA n] (stA (Lib.itoa n)) :=
  ⟨fnm Tryz.func36 rfl (by kernel_rfl), fun ok w vs ht hv => by
    obtain rfl := hv.one_val
    refine (refFromInt_any n w ht.1 h0 h1).mono ?_
    rintro e w' ⟨rfl, h2⟩
    exact ⟨_, rfl, h2, .val _⟩⟩
theorem p_User (l : List UInt8) : Puk 121 [stA l] (syA userB l) := pwalk (an := []) (ls := []) (ps := []) Tryz.func121 (by kernel_rfl) (by kernel_rfl) trivial
theorem ix_name {k : Nat} {s : List UInt8} (h : symNames[k]? = some s) : IxAt (symNames.map wrow) (k : Int) 1 [.val (str s)] := ⟨Int.natCast_nonneg _, by
  rw [Int.toNat_natCast, List.getElem?_map, h]; rfl, rfl⟩
theorem p_SymA {n : Int} {k : Nat} {s : List UInt8} (hk : n % 13 = k) (h9 : k < 9) (hs : symNames[k]? = some s) : Puk 76 [inA n] (syA userB s) :=
  pwalk (an := [.no, .no, .av (inA k), .no, yT, .av (.pin [stA s]), .av (syA userB s)]) (ls := []) (ps := [Puk 34 [(inA n), (inA 13)] (inA ↑k), Bn .lss 3 (.tmp 12) (.tmp 14) (vi ↑k) (vi 9) bT, IxAt (symNames.map wrow) (k : Int) 1 [.val (str s)], Puk 121 [(stA s)] (syA userB s)]) Tryz.func76 (by kernel_rfl) (by kernel_rfl) ⟨(p_mod n 13 (by decide) (by decide)).val (by rw [hk]), bin_ilt (decide_eq_true (by omega)), ix_name hs, p_User s, trivial⟩
theorem p_Sym (n : Int) : Puk 76 [inA n] (syA (symP n).1 (symP n).2) := by
  obtain ⟨k, hk, hlt⟩ : ∃ k : Nat, n % 13 = k ∧ k < 13 := ⟨(n % 13).toNat, by omega, by omega⟩
  have e : symP n = symTab.getD k (userB, []) := by unfold symP; rw [hk]; rfl
  rw [e]
  match k, hlt, hk with
  | 0, _, hk => exact p_SymA hk (by decide) rfl
  | 1, _, hk => exact p_SymA hk (by decide) rfl
  | 2, _, hk => exact p_SymA hk (by decide) rfl
  | 3, _, hk => exact p_SymA hk (by decide) rfl
  | 4, _, hk => exact p_SymA hk (by decide) rfl
  | 5, _, hk => exact p_SymA hk (by decide) rfl
  | 6, _, hk => exact p_SymA hk (by decide) rfl
  | 7, _, hk => exact p_SymA hk (by decide) rfl
  | 8, _, hk => exact p_SymA hk (by decide) rfl
  | 9, _, hk => exact pwalk (an := [.no, .no, .av (inA 9), .no, .no, .no, .no, .av (syA lispB nilB)]) (ls := []) (ps := [Puk 34 [(inA n), (inA 13)] (inA 9), Puk 33 [(stA [110, 105, 108])] (syA lispB nilB)]) Tryz.func76 (by kernel_rfl) (by kernel_rfl) ⟨(p_mod n 13 (by decide) (by decide)).val (by rw [hk]; rfl), p_lisp _, trivial⟩
  | 10, _, hk => exact pwalk (an := [.no, .no, .av (inA 10), .no, .no, .no, .no, .no, .no, .no, .av (syA lispB [116])]) (ls := []) (ps := [Puk 34 [(inA n), (inA 13)] (inA 10), Puk 33 [(stA [116])] (syA lispB [116])]) Tryz.func76 (by kernel_rfl) (by kernel_rfl) ⟨(p_mod n 13 (by decide) (by decide)).val (by rw [hk]; rfl), p_lisp _, trivial⟩
  | 11, _, hk => exact pwalk (an := [.no, .no, .av (inA 11), .no, .no, .no, .no, .no, .no, .no, .no, .no, .no, .av (syA lispB [99, 97, 114])]) (ls := []) (ps := [Puk 34 [(inA n), (inA 13)] (inA 11), Puk 33 [(stA [99, 97, 114])] (syA lispB [99, 97, 114])]) Tryz.func76 (by kernel_rfl) (by kernel_rfl) ⟨(p_mod n 13 (by decide) (by decide)).val (by rw [hk]; rfl), p_lisp _, trivial⟩
  | 12, _, hk => exact pwalk (an := [.no, .no, .av (inA 12), .no, .no, .no, .no, .no, .no, .no, .no, .no, .no, .av (syA lispB [113, 117, 111, 116, 101])]) (ls := []) (ps := [Puk 34 [(inA n), (inA 13)] (inA 12), Puk 33 [(stA [113, 117, 111, 116, 101])] (syA lispB [113, 117, 111, 116, 101])]) Tryz.func76 (by kernel_rfl) (by kernel_rfl) ⟨(p_mod n 13 (by decide) (by decide)).val (by rw [hk]; rfl), p_lisp _, trivial⟩
theorem p_part {r x : Raw} {i : Nat} (h : r.l[i]? = some x) : Puk 78 [rawA r, inA i] (rawA x) :=
  pwalk (an := [.av (inA r.l.length), yT, .av (.pin ((encR x).map .dt))]) (ls := []) (ps := [(vi ↑r.l.length) = (vi (↑(List.map Raw.enc r.l).length)), Bn .lss 3 (.tmp 5) (.tmp 8) (vi ↑i) (vi ↑r.l.length) bT, IxAt (List.map Raw.enc r.l) ↑i 4 (encR x)]) Tryz.func78 (by kernel_rfl) (by kernel_rfl) ⟨lenEncR _, bin_ilt (decide_eq_true (by have := (List.getElem?_eq_some_iff.1 h).1; omega)), ix_raw h, trivial⟩
theorem p_part0 {r : Raw} {i : Nat} (h : r.l.length ≤ i) : Puk 78 [rawA r, inA i] (rawA ⟨0, 0, [], []⟩) :=
  pwalk (an := [.av (inA r.l.length), yF]) (ls := []) (ps := [(vi ↑r.l.length) = (vi (↑(List.map Raw.enc r.l).length)), Bn .lss 3 (.tmp 5) (.tmp 8) (vi ↑i) (vi ↑r.l.length) bF]) Tryz.func78 (by kernel_rfl) (by kernel_rfl) ⟨lenEncR _, bin_ilt (decide_eq_false (by omega)), trivial⟩
def prt (r : Raw) (i : Nat) : Raw := r.l.getD i ⟨0, 0, [], []⟩
theorem p_prt (r : Raw) (i : Nat) : Puk 78 [rawA r, inA i] (rawA (prt r i)) := by
  unfold prt
  rw [List.getD_eq_getElem?_getD]
  rcases Nat.lt_or_ge i r.l.length with h | h
  · rw [List.getElem?_eq_getElem h]; exact p_part (List.getElem?_eq_getElem h)
  · rw [List.getElem?_eq_none h]; exact p_part0 h
theorem prt_mk (r : Raw) (i : Nat) : mkT (prt r i) = (r.l.map mkT).getD i zeroT := by
  unfold prt
  rw [List.getD_eq_getElem?_getD, List.getD_eq_getElem?_getD, List.getElem?_map]
  cases r.l[i]? with
  | some x => rfl
  | none => rfl
theorem p_rList {ts : List Tr} (h : ts.length ≤ 1000000) : Puk 79 [rowA ts] (trA (Tr.list ts)) :=
  ⟨fnm Tryz.func79 rfl (by kernel_rfl), fun ok w vs ht hv => by
    obtain ⟨v, us, rfl, h1, h2⟩ := hv
    obtain rfl : us = [] := h2
    have h1' : Rd ok w v (.row (ts.map fun t => encL t.ob)) := h1
    obtain ⟨A, n, c, rfl, hn⟩ := Rd.slice h1'
    have e : (ts.map fun t => encL t.ob) = (ts.map Tr.ob).map Ob.enc := by
      rw [List.map_map]
      exact List.map_congr_left fun t _ => (enc_L t.ob).symm
    rw [e] at h1'
    have hl := h1'.len
    rw [List.length_map, List.length_map] at hl
    have hL := (rList_any ok (ts.map Tr.ob) A n c w h1' (by omega)).mono fun _ _ h => RetObj.pure h
    rw [← Tr.list_ob] at hL
    exact hL⟩
theorem mk_k0 {r : Raw} (hk : r.kind % 8 = 0) : Puk 37 [rawA r] (trA (.num ((r.n % 2001 - 1000 : Int) : Rat))) := pwalk (an := [.av (inA 0), .no, .av (inA (r.n % 2001)), .av (inA (r.n % 2001 - 1000)), .av (trA (.num ((r.n % 2001 - 1000 : Int) : Rat)))]) (ls := []) (ps := [Puk 34 [(inA r.kind), (inA 8)] (inA 0), Puk 34 [(inA r.n), (inA 2001)] (inA (r.n % 2001)), Bn .sub 3 (.tmp 13) (.const (vi 1000)) (vi (r.n % 2001)) (vi 1000) (vi (r.n % 2001 - 1000)), Puk 27 [(inA (r.n % 2001 - 1000))] (obA ((Tr.num ↑(r.n % 2001 - 1000)).ob))]) Tryz.func37 (by kernel_rfl) (by kernel_rfl) ⟨(p_mod r.kind 8 (by decide) (by decide)).val (by rw [hk]), p_mod _ _ (by decide) (by decide), bin_isub rfl (by omega) (by omega), p_rInt _ (by omega) (by omega), trivial⟩
theorem mk_k1 {r : Raw} (hk : r.kind % 8 = 1) : Puk 37 [rawA r] (trA (.num ((r.n % 2001 - 1000 : Int) : Rat))) := pwalk (an := [.av (inA 1), .no, .no, .av (inA (r.n % 2001)), .av (inA (r.n % 2001 - 1000)), .av (trA (.num ((r.n % 2001 - 1000 : Int) : Rat)))]) (ls := []) (ps := [Puk 34 [(inA r.kind), (inA 8)] (inA 1), Puk 34 [(inA r.n), (inA 2001)] (inA (r.n % 2001)), Bn .sub 3 (.tmp 13) (.const (vi 1000)) (vi (r.n % 2001)) (vi 1000) (vi (r.n % 2001 - 1000)), Puk 27 [(inA (r.n % 2001 - 1000))] (obA ((Tr.num ↑(r.n % 2001 - 1000)).ob))]) Tryz.func37 (by kernel_rfl) (by kernel_rfl) ⟨(p_mod r.kind 8 (by decide) (by decide)).val (by rw [hk]), p_mod _ _ (by decide) (by decide), bin_isub rfl (by omega) (by omega), p_rInt _ (by omega) (by omega), trivial⟩
theorem mk_k3 {r : Raw} (hk : r.kind % 8 = 3) : Puk 37 [rawA r] (trA (.sym (symP r.n).1 (symP r.n).2)) := pwalk (an := [.av (inA 3), .no, .no, .no, .no, .av (syA (symP r.n).1 (symP r.n).2), .av (trA (.sym (symP r.n).1 (symP r.n).2))]) (ls := []) (ps := [Puk 34 [(inA r.kind), (inA 8)] (inA 3), Puk 76 [(inA r.n)] (syA (symP r.n).fst (symP r.n).snd), Puk 32 [(syA (symP r.n).fst (symP r.n).snd)] (obA ((Tr.sym (symP r.n).fst (symP r.n).snd).ob))]) Tryz.func37 (by kernel_rfl) (by kernel_rfl) ⟨(p_mod r.kind 8 (by decide) (by decide)).val (by rw [hk]), p_Sym r.n, p_rSym _ _, trivial⟩
theorem mk_k4 {r : Raw} (hk : r.kind % 8 = 4) : Puk 37 [rawA r] (trA (.txt r.s)) := pwalk (an := [.av (inA 4), .no, .no, .no, .no, .no, .av (trA (.txt r.s))]) (ls := []) (ps := [Puk 34 [(inA r.kind), (inA 8)] (inA 4), Puk 26 [(stA r.s)] (trA (Tr.txt r.s))]) Tryz.func37 (by kernel_rfl) (by kernel_rfl) ⟨(p_mod r.kind 8 (by decide) (by decide)).val (by rw [hk]), p_rText r.s, trivial⟩
theorem w_k2 {r : Raw} {x y : List UInt8} {q : Rat} (hk : r.kind % 8 = 2) (hs : r.s.length ≤ 12) (hx : Puk 36 [inA (r.n % 41 - 20)] (stA x)) (hy : Puk 36 [inA (1 + r.s.length)] (stA y)) (hr : Puk 35 [stA x, stA y] (trA (.num q))) : Puk 37 [rawA r] (trA (.num q)) :=
  pwalk (an := [.av (inA 2), .no, .no, .no, .av (inA (r.n % 41)), .av (inA (r.n % 41 - 20)), .av (stA x), .av (inA r.s.length), .av (inA (1 + r.s.length)), .av (stA y), .av (trA (.num q))]) (ls := []) (ps := [Puk 34 [(inA r.kind), (inA 8)] (inA 2), Puk 34 [(inA r.n), (inA 41)] (inA (r.n % 41)), Bn .sub 3 (.tmp 20) (.const (vi 20)) (vi (r.n % 41)) (vi 20) (vi (r.n % 41 - 20)), Puk 36 [(inA (r.n % 41 - 20))] (stA x), (vi ↑r.s.length) = (vi (↑r.s.length)), Bn .add 3 (.const (vi 1)) (.tmp 25) (vi 1) (vi ↑r.s.length) (vi (1 + ↑r.s.length)), Puk 36 [(inA (1 + ↑r.s.length))] (stA y), Puk 35 [(stA x), (stA y)] (trA (Tr.num q))]) Tryz.func37 (by kernel_rfl) (by kernel_rfl) ⟨(p_mod r.kind 8 (by decide) (by decide)).val (by rw [hk]), p_mod _ _ (by decide) (by decide), bin_isub rfl (by omega) (by omega), hx, lenStr _, bin_iadd rfl (by omega) (by omega), hy, hr, trivial⟩
theorem mk_k2 {r : Raw} (hk : r.kind % 8 = 2) (hs : r.s.length ≤ 12) : Puk 37 [rawA r] (trA (.num (Rat.divInt (r.n % 41 - 20) (1 + r.s.length)))) := by
  have h := p_rRat (a := Lib.itoa (r.n % 41 - 20)) (b := Lib.itoa (1 + r.s.length : Int)) (Nat.le_trans (itoa_length_any _ (k := 2) (by decide) (by omega)) (by decide)) (Nat.le_trans (itoa_length_any _ (k := 2) (by decide) (by omega)) (by decide))
  rw [Dec.dval_itoa, Dec.dval_itoa] at h
  exact w_k2 hk hs (p_rFrom _ (by omega) (by omega)) (p_rFrom _ (by omega) (by omega)) h
theorem mk_k5 {r : Raw} {a b : Tr} (hk : r.kind % 8 = 5) (ha : Puk 37 [rawA (prt r 0)] (trA a)) (hb : Puk 37 [rawA (prt r 1)] (trA b)) : Puk 37 [rawA r] (trA (.cons a b)) :=
  pwalk (an := [.av (inA 5), .no, .no, .no, .no, .no, .no, .av (rawA (prt r 0)), .av (trA a), .av (rawA (prt r 1)), .av (trA b), .av (trA (.cons a b))]) (ls := []) (ps := [Puk 34 [(inA r.kind), (inA 8)] (inA 5), Puk 78 [(rawA r), (inA 0)] (.agg [(inA ((prt r 0).kind)), (inA ((prt r 0).n)), (stA (prt r 0).s), (.dt (.row (List.map Raw.enc (prt r 0).l)))]), Puk 37 [(.agg [(inA ((prt r 0).kind)), (inA ((prt r 0).n)), (stA (prt r 0).s), (.dt (.row (List.map Raw.enc (prt r 0).l)))])] (obA a.ob), Puk 78 [(rawA r), (inA 1)] (.agg [(inA ((prt r 1).kind)), (inA ((prt r 1).n)), (stA (prt r 1).s), (.dt (.row (List.map Raw.enc (prt r 1).l)))]), Puk 37 [(.agg [(inA ((prt r 1).kind)), (inA ((prt r 1).n)), (stA (prt r 1).s), (.dt (.row (List.map Raw.enc (prt r 1).l)))])] (obA b.ob), Puk 77 [(obA a.ob), (obA b.ob)] (trA (a.cons b))]) Tryz.func37 (by kernel_rfl) (by kernel_rfl) ⟨(p_mod r.kind 8 (by decide) (by decide)).val (by rw [hk]), p_prt r 0, ha, p_prt r 1, hb, p_rCons a.ob b.ob, trivial⟩
abbrev encTs (ts : List Tr) : List (List Dt) := ts.map fun t => encL t.ob
abbrev oq0 (r : Raw) : AS := ⟨stt 67 [(1, .ptr 0 0), (2, .ptr 1 0), (3, .nil), (4, inA 0)], [some (.cells [inA r.kind, inA r.n, stA r.s, .dt (.row (r.l.map Raw.enc))]), some (.cells [inA 0, stA [], stA [], stA [], stA [], stA [], .nil])]⟩
abbrev oqS (r : Raw) (es : List (List Dt)) (n : Nat) (i : Int) : AS := ⟨stt 67 [(1, .ptr 0 0), (2, .ptr 1 0), (3, .own 2 n), (4, inA i)], [some (.cells [inA r.kind, inA r.n, stA r.s, .dt (.row (r.l.map Raw.enc))]), some (.cells [inA 0, stA [], stA [], stA [], stA [], stA [], .nil]), some (.buf 36 7 es)]⟩
noncomputable abbrev oqB : Code := subC (bodyOf Tryz.f37) [1,1,1,0,1,0,0]
theorem one_src (t : Tr) : SrcOK 7 [encL t.ob] := by
  intro x hx
  rw [List.mem_singleton] at hx
  subst hx
  refine ⟨rfl, fun d hd => ?_⟩
  simp only [List.mem_cons, List.not_mem_nil, or_false] at hd
  rcases hd with rfl | rfl | rfl | rfl | rfl | rfl | rfl <;> rfl
theorem oqA {r x : Raw} {t : Tr} (hx : r.l[0]? = some x) (hl : r.l.length ≤ 8) (ht : Puk 37 [rawA x] (trA t)) : Tri EX oqB (oq0 r) .nxt (oqS r [encL t.ob] 1 ((1 : Nat) : Int)) :=
  twalk (c := subC (bodyOf Tryz.f37) [1,1,1,0,1,0,0]) (s := oq0 r) (an := [.av (inA r.l.length), yT, .av (.pin ((encR x).map .dt)), .av (trA t), .av (.un), .av (inA ((1 : Nat) : Int))]) (ls := []) (ft := [1,2,3,4]) (nb := 3) (e := .nxt) (s' := oqS r [encL t.ob] 1 ((1 : Nat) : Int)) (ps := [Value.int .i64 (r.l.length : Int) = Value.int .i64 ((r.l.map Raw.enc).length : Int), BinIs Tryz.prog .lss 3 (.tmp 49) (.tmp 52) (.int .i64 0) (.int .i64 (r.l.length : Int)) (.bool true), IxAt (r.l.map Raw.enc) 0 4 (encR x), Puk 37 [rawA x] (trA t), FitB 112 1, SrcOK 7 [encL t.ob], BinIs Tryz.prog .add 3 (.tmp 54) (.const (.int .i64 1)) (.int .i64 0) (.int .i64 1) (.int .i64 ((1 : Nat) : Int))]) (by kernel_rfl)
    ⟨lenEncR _, bin_ilt (decide_eq_true (by have := (List.getElem?_eq_some_iff.1 hx).1; omega)), ix_raw hx, ht, ⟨by decide, by decide⟩, one_src t, bin_iadd (by omega) (by omega) (by omega), trivial⟩
theorem oqE {r : Raw} : r.l = [] → Tri EX oqB (oq0 r) (.out 1) (oq0 r) := fun h =>
  twalk (c := subC (bodyOf Tryz.f37) [1,1,1,0,1,0,0]) (s := oq0 r) (an := [.av (inA r.l.length), yF]) (ls := []) (ft := [1,2,3,4]) (nb := 2) (e := .out 1) (s' := oq0 r) (ps := [(vi ↑r.l.length) = (vi (↑(List.map Raw.enc r.l).length)), Bn .lss 3 (.tmp 49) (.tmp 52) (vi 0) (vi ↑r.l.length) bF]) (by kernel_rfl)
    ⟨lenEncR _, bin_ilt (decide_eq_false (by rw [h]; decide)), trivial⟩
theorem oqN {r x : Raw} {t : Tr} {es : List (List Dt)} {n i : Nat} (hx : r.l[i]? = some x) (hl : r.l.length ≤ 8) (hn : es.length = n) (hi : n ≤ 8) (ht : Puk 37 [rawA x] (trA t)) : Tri EX oqB (oqS r es n i) .nxt (oqS r (es ++ [encL t.ob]) (es ++ [encL t.ob]).length ((i + 1 : Nat) : Int)) :=
  twalk (c := subC (bodyOf Tryz.f37) [1,1,1,0,1,0,0]) (s := oqS r es n i) (an := [.av (inA r.l.length), yT, .av (.pin ((encR x).map .dt)), .av (trA t), .av (.un), .av (inA ((i + 1 : Nat) : Int))]) (ls := []) (ft := [1,2,3,4]) (nb := 3) (e := .nxt) (s' := oqS r (es ++ [encL t.ob]) (es ++ [encL t.ob]).length ((i + 1 : Nat) : Int)) (ps := [Value.int .i64 (r.l.length : Int) = Value.int .i64 ((r.l.map Raw.enc).length : Int), BinIs Tryz.prog .lss 3 (.tmp 49) (.tmp 52) (.int .i64 (i : Int)) (.int .i64 (r.l.length : Int)) (.bool true), IxAt (r.l.map Raw.enc) (i : Int) 4 (encR x), Puk 37 [rawA x] (trA t), es.length = n, FitB 112 (es ++ [encL t.ob]).length, SrcOK 7 [encL t.ob], BinIs Tryz.prog .add 3 (.tmp 54) (.const (.int .i64 1)) (.int .i64 (i : Int)) (.int .i64 1) (.int .i64 ((i + 1 : Nat) : Int))]) (by kernel_rfl)
    ⟨lenEncR _, bin_ilt (decide_eq_true (by have := (List.getElem?_eq_some_iff.1 hx).1; omega)), ix_raw hx, ht, hn, ⟨by rw [List.length_append, hn]; exact Nat.le_trans (show n + 1 ≤ 9 by omega) (by decide), by rw [List.length_append, hn]; exact Nat.le_trans (Nat.mul_le_mul_right _ (show n + 1 ≤ 9 by omega)) (by decide)⟩, one_src t, bin_iadd (by omega) (by omega) (by have := (List.getElem?_eq_some_iff.1 hx).1; omega), trivial⟩
theorem oqF {r : Raw} {es : List (List Dt)} {n i : Nat} (hi : r.l.length ≤ i) : Tri EX oqB (oqS r es n i) (.out 1) (oqS r es n i) :=
  twalk (c := subC (bodyOf Tryz.f37) [1,1,1,0,1,0,0]) (s := oqS r es n i) (an := [.av (inA r.l.length), yF]) (ls := []) (ft := [1,2,3,4]) (nb := 3) (e := .out 1) (s' := oqS r es n i) (ps := [(vi ↑r.l.length) = (vi (↑(List.map Raw.enc r.l).length)), Bn .lss 3 (.tmp 49) (.tmp 52) (vi ↑i) (vi ↑r.l.length) bF]) (by kernel_rfl)
    ⟨lenEncR _, bin_ilt (decide_eq_false (by omega)), trivial⟩
theorem oq_go {r : Raw} (h8 : r.l.length ≤ 8) (hf : ∀ x ∈ r.l, Puk 37 [rawA x] (trA (mkT x))) : ∀ (s : List Raw) (i n : Nat) (es : List (List Dt)), r.l.drop i = s → i ≤ r.l.length → es.length = n → n + s.length ≤ 8 → ∃ j : Nat, Lps EX oqB (oqS r es n i) (.out 1) (oqS r (es ++ encTs (s.map mkT)) (es ++ encTs (s.map mkT)).length j) := by
  intro s
  induction s with
  | nil =>
    intro i n es hd hi hn _
    have := dropnil hd
    refine ⟨i, ?_⟩
    simp only [List.map_nil, encTs, List.append_nil]
    rw [hn]
    exact .stop (oqF this) (fun h => by cases h)
  | cons x s ih =>
    intro i n es hd hi hn h9
    obtain ⟨hx, hd', hlt⟩ := dropcons hd
    rw [List.length_cons] at h9
    obtain ⟨j, hj⟩ := ih (i + 1) (es ++ [encL (mkT x).ob]).length (es ++ [encL (mkT x).ob]) hd' (by omega) rfl (by rw [List.length_append, hn]; show n + 1 + _ ≤ 8; omega)
    refine ⟨j, .more (oqN hx h8 hn (by omega) (hf x (List.mem_of_getElem? hx))) ?_⟩
    have e : es ++ [encL (mkT x).ob] ++ encTs (s.map mkT) = es ++ encTs ((x :: s).map mkT) := by
      rw [List.append_assoc]; rfl
    rw [e] at hj
    exact hj
theorem mk_k60 {r : Raw} {ts : List Tr} (hk : r.kind % 8 = 6) (hr : r.l = []) (hts : ts = []) : Puk 37 [rawA r] (trA (Tr.list ts)) := by
  subst hts
  have hl := (Lps.stop (oqE hr) (fun h => by cases h)).tri
  have h2 := p_rList (ts := []) (Nat.zero_le _)
  exact pwalk (an := [.av (inA 6), .no, .no, .no, .no, .no, .no, .av (trA (Tr.list []))]) (ls := [.inv [1,2,3,4] 2 (.out 1) (oq0 r)]) (ps := [Puk 34 [inA r.kind, inA 8] (inA 6), Tri EX (.loop oqB) (oq0 r) (.out 1) (oq0 r), Puk 79 [rowA []] (trA (Tr.list []))]) Tryz.func37 (by kernel_rfl) (by kernel_rfl) ⟨(p_mod r.kind 8 (by decide) (by decide)).val (by rw [hk]), hl, h2, trivial⟩
theorem mk_k6 {r : Raw} {ts : List Tr} {j : Nat} (hk : r.kind % 8 = 6) (hl : Tri EX (.loop oqB) (oq0 r) (.out 1) (oqS r (encTs ts) (encTs ts).length j)) (h8 : ts.length ≤ 8) : Puk 37 [rawA r] (trA (Tr.list ts)) :=
  pwalk (an := [.av (inA 6), .no, .no, .no, .no, .no, .no, .av (trA (Tr.list ts))]) (ls := [.inv [1,2,3,4] 3 (.out 1) (oqS r (encTs ts) (encTs ts).length j)]) (ps := [Puk 34 [inA r.kind, inA 8] (inA 6), Tri EX (.loop oqB) (oq0 r) (.out 1) (oqS r (encTs ts) (encTs ts).length j), Puk 79 [rowA ts] (trA (Tr.list ts)), (encTs ts).length = (encTs ts).length]) Tryz.func37 (by kernel_rfl) (by kernel_rfl) ⟨(p_mod r.kind 8 (by decide) (by decide)).val (by rw [hk]), hl, p_rList (by omega), rfl, trivial⟩
theorem mk_k70 {r : Raw} {ts : List Tr} (hk : r.kind % 8 = 7) (hr : r.l = []) (hts : ts = []) : Puk 37 [rawA r] (trA (Tr.list ts)) := by
  subst hts
  have hl := (Lps.stop (oqE hr) (fun h => by cases h)).tri
  have h2 := p_rList (ts := []) (Nat.zero_le _)
  exact pwalk (an := [.av (inA 7), .no, .no, .no, .no, .no, .no, .av (trA (Tr.list []))]) (ls := [.inv [1,2,3,4] 2 (.out 1) (oq0 r)]) (ps := [Puk 34 [inA r.kind, inA 8] (inA 7), Tri EX (.loop oqB) (oq0 r) (.out 1) (oq0 r), Puk 79 [rowA []] (trA (Tr.list []))]) Tryz.func37 (by kernel_rfl) (by kernel_rfl) ⟨(p_mod r.kind 8 (by decide) (by decide)).val (by rw [hk]), hl, h2, trivial⟩
theorem mk_k7 {r : Raw} {ts : List Tr} {j : Nat} (hk : r.kind % 8 = 7) (hl : Tri EX (.loop oqB) (oq0 r) (.out 1) (oqS r (encTs ts) (encTs ts).length j)) (h8 : ts.length ≤ 8) : Puk 37 [rawA r] (trA (Tr.list ts)) :=
  pwalk (an := [.av (inA 7), .no, .no, .no, .no, .no, .no, .av (trA (Tr.list ts))]) (ls := [.inv [1,2,3,4] 3 (.out 1) (oqS r (encTs ts) (encTs ts).length j)]) (ps := [Puk 34 [inA r.kind, inA 8] (inA 7), Tri EX (.loop oqB) (oq0 r) (.out 1) (oqS r (encTs ts) (encTs ts).length j), Puk 79 [rowA ts] (trA (Tr.list ts)), (encTs ts).length = (encTs ts).length]) Tryz.func37 (by kernel_rfl) (by kernel_rfl) ⟨(p_mod r.kind 8 (by decide) (by decide)).val (by rw [hk]), hl, p_rList (by omega), rfl, trivial⟩
theorem mk_list {r : Raw} (hk : r.kind % 8 = 6 ∨ r.kind % 8 = 7) (h8 : r.l.length ≤ 8) (hf : ∀ x ∈ r.l, Puk 37 [rawA x] (trA (mkT x))) : Puk 37 [rawA r] (trA (Tr.list (r.l.map mkT))) := by
  have go := oq_go h8 hf
  match hr : r.l, h8, hf, go with
  | [], _, _, _ =>
    rcases hk with hk | hk
    · exact mk_k60 hk hr rfl
    · exact mk_k70 hk hr rfl
  | x :: s, h8, hf, go =>
    rw [List.length_cons] at h8
    obtain ⟨j, hj⟩ := go s 1 1 [encL (mkT x).ob] rfl (by simp) rfl (by omega)
    have h1 := oqA (r := r) (x := x) (by rw [hr]; rfl) (by rw [hr, List.length_cons]; omega) (hf x (List.mem_cons_self ..))
    have hl := (Lps.more h1 hj).tri
    have e : [encL (mkT x).ob] ++ encTs (s.map mkT) = encTs ((x :: s).map mkT) := rfl
    rw [e] at hl
    have l8 : ((x :: s).map mkT).length ≤ 8 := by rw [List.length_map, List.length_cons]; omega
    rcases hk with hk | hk
    · exact mk_k6 hk hl l8
    · exact mk_k7 hk hl l8
theorem p_mkOb : ∀ (N : Nat) (r : Raw), r.size ≤ N → Fit r → Puk 37 [rawA r] (trA (mkT r)) := by
  intro N
  induction N with
  | zero => intro r h; have := r.size_pos; omega
  | succ N ih =>
    intro r hN hf
    have kid : ∀ x ∈ r.l, Puk 37 [rawA x] (trA (mkT x)) := fun x hx => ih x (by have := Raw.size_l hx; omega) (hf.kids hx)
    have hp : ∀ i, Puk 37 [rawA (prt r i)] (trA (mkT (prt r i))) := fun i => by
      unfold prt
      rw [List.getD_eq_getElem?_getD]
      rcases Nat.lt_or_ge i r.l.length with h | h
      · rw [List.getElem?_eq_getElem h]; exact kid _ (List.getElem_mem h)
      · rw [List.getElem?_eq_none h]; exact mk_k0 (r := ⟨0, 0, [], []⟩) rfl
    rw [mkT_eq]
    unfold mkK
    have hb := Int.emod_nonneg r.kind (show (8 : Int) ≠ 0 by decide)
    have hb' := Int.emod_lt_of_pos r.kind (show (0 : Int) < 8 by decide)
    split
    · rename_i h
      rcases h with h | h
      · exact mk_k0 h
      · exact mk_k1 h
    · split
      · rename_i h; exact mk_k2 h hf.s
      · split
        · rename_i h; exact mk_k3 h
        · split
          · rename_i h; exact mk_k4 h
          · split
            · rename_i h
              rw [← prt_mk, ← prt_mk]
              exact mk_k5 h (hp 0) (hp 1)
            · exact mk_list (by omega) (by have := hf.l; omega) kid
theorem p_mkO {r : Raw} (hf : Fit r) (_ : r.Wf) : Puk 37 [rawA r] (trA (mkT r)) := p_mkOb _ r (Nat.le_refl _) hf
end Go.Proofs.YtmkcnjfhdfanoaaGreatDoor
/- Raw trees as plain values: 'left', 'Few', 'Object'. -/
namespace Go.Proofs.YtmkcnjfhdfanoaaGreatDoor
open Go.RowKit

mutual
def leftW : Raw → Int → Int
  | ⟨_, _, s, l⟩, m => if 12 < s.length then -1 else if 6 < l.length then -1 else leftWL l (wr (m - 1))
def leftWL : List Raw → Int → Int
  | [], m => m
  | x :: r, m => if 0 ≤ m then leftWL r (leftW x m) else m
end
theorem leftW_eq (r : Raw) (m : Int) : leftW r m = if 12 < r.s.length then -1 else if 6 < r.l.length then -1 else leftWL r.l (wr (m - 1)) := by
  cases r; rw [leftW]
theorem leftWL_neg {l : List Raw} {m : Int} (h : m < 0) : leftWL l m = m := by
  cases l with
  | nil => rw [leftWL]
  | cons x r => rw [leftWL, if_neg (by omega)]
theorem wr_id {n : Int} (h0 : -9223372036854775808 ≤ n) (h1 : n ≤ 9223372036854775807) : wr n = n := by
  show IntKind.i64.wrap n = n
  rw [IntKind.wrap_i64]; omega
/-- what 'Few' says -/
theorem left_fit : ∀ (N : Nat) (r : Raw), r.size ≤ N → ∀ m : Int, 0 ≤ m → m ≤ 1000 → 0 ≤ leftW r m → Fit r ∧ leftW r m + r.size ≤ m := by
  intro N
  induction N with
  | zero => intro r h; have := r.size_pos; omega
  | succ N ih =>
    intro r hN m h0 h1 hl
    have hr : r.size = Raw.sizeL r.l + 1 := by obtain ⟨k, n, s, l⟩ := r; rfl
    rw [leftW_eq] at hl ⊢
    split at hl
    · omega
    · rename_i hs
      rw [if_neg hs]
      split at hl
      · omega
      · rename_i h6
        rw [if_neg h6]
        rw [wr_id (by omega) (by omega)] at hl ⊢
        have key : ∀ (l : List Raw) (m : Int), (∀ x ∈ l, x.size ≤ N) → -1 ≤ m → m ≤ 1000 → 0 ≤ leftWL l m → (∀ x ∈ l, Fit x) ∧ leftWL l m + Raw.sizeL l ≤ m := by
          intro l
          induction l with
          | nil => intro m _ _ h1 _; rw [leftWL]; exact ⟨(fun x hx => by cases hx), by rw [Raw.sizeL]; omega⟩
          | cons x r ihr =>
            intro m hsz hm0 hm1 hp
            rw [leftWL] at hp ⊢
            split at hp
            · rename_i h0m
              rw [if_pos h0m]
              have hx : 0 ≤ leftW x m := by
                rcases Int.lt_or_le (leftW x m) 0 with h | h
                · rw [leftWL_neg h] at hp; omega
                · exact h
              obtain ⟨f1, f2⟩ := ih x (hsz x (List.mem_cons_self ..)) m h0m hm1 hx
              obtain ⟨g1, g2⟩ := ihr (leftW x m) (fun y hy => hsz y (List.mem_cons_of_mem _ hy)) (by omega) (by omega) hp
              refine ⟨fun y hy => ?_, by rw [Raw.sizeL]; omega⟩
              rcases List.mem_cons.1 hy with rfl | hy
              · exact f1
              · exact g1 y hy
            · omega
        obtain ⟨k1, k2⟩ := key r.l (m - 1) (fun x hx => by have := Raw.size_l hx; omega) (by omega) (by omega) hl
        exact ⟨.mk r (by omega) (by omega) k1, by omega⟩
def fewR (r : Raw) (m : Int) : Bool := decide (0 ≤ leftW r m)
theorem fewR_fit {r : Raw} {m : Int} (h0 : 0 ≤ m) (h1 : m ≤ 1000) (h : fewR r m = true) : Fit r := (left_fit _ r (Nat.le_refl _) m h0 h1 (of_decide_eq_true h)).1
theorem fewR_size {r : Raw} {m : Int} (h0 : 0 ≤ m) (h1 : m ≤ 1000) (h : fewR r m = true) : (r.size : Int) ≤ m := by
  have h2 := (left_fit _ r (Nat.le_refl _) m h0 h1 (of_decide_eq_true h)).2
  have h3 : 0 ≤ leftW r m := of_decide_eq_true h
  omega
theorem symTab_ok : ∀ x ∈ symTab, symOk ⟨x.1, x.2⟩ = true := by decide +kernel
theorem symP_ok (n : Int) : symOk ⟨(symP n).1, (symP n).2⟩ = true := by
  have hlt : (n % 13).toNat < symTab.length := by show (n % 13).toNat < 13; omega
  unfold symP
  rw [List.getD_eq_getElem?_getD, List.getElem?_eq_getElem hlt]
  exact symTab_ok _ (List.getElem_mem hlt)
theorem list_good : ∀ {l : List Tr}, (∀ t ∈ l, t.good = true) → (Tr.list l).good = true
  | [], _ => Tr.valid_good Tr.valid_nil
  | a :: r, h => by
    show (a.good && (Tr.list r).good) = true
    rw [h a (List.mem_cons_self ..), list_good fun t ht => h t (List.mem_cons_of_mem _ ht)]; rfl
theorem zeroT_good : zeroT.good = true := Tr.good_num.2 (Rb.mono (rb_int (by decide)) (by decide))
theorem getD_good {l : List Tr} (h : ∀ t ∈ l, t.good = true) (i : Nat) : (l.getD i zeroT).good = true := by
  rw [List.getD_eq_getElem?_getD]
  rcases Nat.lt_or_ge i l.length with h1 | h1
  · rw [List.getElem?_eq_getElem h1]; exact h _ (List.getElem_mem h1)
  · rw [List.getElem?_eq_none h1]; exact zeroT_good
theorem mkT_good (r : Raw) : Fit r → (mkT r).good = true := by
  induction r using Raw.ind with
  | step r ih =>
    intro h
    have hl : ∀ t ∈ r.l.map mkT, t.good = true := by
      intro t ht
      obtain ⟨x, hx, rfl⟩ := List.mem_map.1 ht
      exact ih x hx (h.kids hx)
    rw [mkT_eq]
    unfold mkK
    split
    · exact Tr.good_num.2 ((rb_int (by omega)).mono (by decide))
    · split
      · exact Tr.good_num.2 ((rb_small (by omega) (by have := h.s; omega)).mono (by decide))
      · split
        · exact symP_ok r.n
        · split
          · have := h.s
            exact decide_eq_true (by omega : r.s.length ≤ 200)
          · split
            · show (((r.l.map mkT).getD 0 zeroT).good && ((r.l.map mkT).getD 1 zeroT).good) = true
              rw [getD_good hl 0, getD_good hl 1]; rfl
            · exact list_good hl
theorem mkT_valid {r : Raw} {m : Int} (h0 : 0 ≤ m) (h1 : m ≤ 700) (h : fewR r m = true) : (mkT r).valid = true := by
  have h2 := fewR_size h0 (by omega) h
  have h3 := mkT_size r
  exact Tr.valid_iff.2 ⟨by omega, mkT_good r (fewR_fit h0 (by omega) h)⟩
theorem mkT_len {r : Raw} {m : Int} (h0 : 0 ≤ m) (h1 : m ≤ 700) (h : fewR r m = true) : (mkT r).size ≤ 4 * m.toNat := by
  have h2 := fewR_size h0 (by omega) h
  have h3 := mkT_size r
  omega
abbrev lfS (r : Raw) (i m : Int) : AS := ⟨stt 37 [(1, inA m), (2, .ptr 0 0), (4, inA 0), (5, inA i)], [some (.cells [inA r.kind, inA r.n, stA r.s, .dt (.row (r.l.map Raw.enc))])]⟩
noncomputable abbrev lfB : Code := subC (bodyOf Tryz.f59) [1, 1, 1, 0, 1, 0, 0]
theorem lfB1 {r x : Raw} {i : Nat} {m k : Int} (hx : r.l[i]? = some x) (hl : r.l.length ≤ 6) (h0 : 0 ≤ m) (hk : Puk 59 [rawA x, inA m] (inA k)) : Tri EX lfB (lfS r i m) .nxt (lfS r ((i + 1 : Nat) : Int) k) :=
  twalk (c := subC (bodyOf Tryz.f59) [1,1,1,0,1,0,0]) (s := lfS r i m) (an := [.av (inA r.l.length), yT, yT, .av (.pin ((encR x).map .dt)), .av (inA k), .av (inA ((i + 1 : Nat) : Int))]) (ls := []) (ft := [1,2,4,5]) (nb := 1) (e := .nxt) (s' := lfS r ((i + 1 : Nat) : Int) k) (ps := [(vi ↑r.l.length) = (vi (↑(List.map Raw.enc r.l).length)), Bn .lss 3 (.tmp 18) (.tmp 21) (vi ↑i) (vi ↑r.l.length) bT, Bn .geq 3 (.tmp 24) (.const (vi 0)) (vi m) (vi 0) bT, IxAt (List.map Raw.enc r.l) ↑i 4 (encR x), Puk 59 [(rawA x), (inA m)] (inA k), Bn .add 3 (.tmp 27) (.const (vi 1)) (vi ↑i) (vi 1) (vi (↑(i + 1)))]) (by kernel_rfl)
    ⟨lenEncR _, bin_ilt (decide_eq_true (by have := (List.getElem?_eq_some_iff.1 hx).1; omega)), bin_ige (decide_eq_true h0), ix_raw hx, hk, bin_iadd (by omega) (by omega) (by have := (List.getElem?_eq_some_iff.1 hx).1; omega), trivial⟩
theorem lfB2 {r : Raw} {i : Nat} {m : Int} (hi : i = r.l.length) : Tri EX lfB (lfS r i m) (.out 0) (lfS r i m) :=
  twalk (c := subC (bodyOf Tryz.f59) [1,1,1,0,1,0,0]) (s := lfS r i m) (an := [.av (inA r.l.length), yF]) (ls := []) (ft := [1,2,4,5]) (nb := 1) (e := .out 0) (s' := lfS r i m) (ps := [(vi ↑r.l.length) = (vi (↑(List.map Raw.enc r.l).length)), Bn .lss 3 (.tmp 18) (.tmp 21) (vi ↑i) (vi ↑r.l.length) bF]) (by kernel_rfl)
    ⟨lenEncR _, bin_ilt (decide_eq_false (by omega)), trivial⟩
theorem lfB3 {r : Raw} {i : Nat} {m : Int} (hi : i < r.l.length) (h0 : m < 0) : Tri EX lfB (lfS r i m) (.out 0) (lfS r i m) :=
  twalk (c := subC (bodyOf Tryz.f59) [1,1,1,0,1,0,0]) (s := lfS r i m) (an := [.av (inA r.l.length), yT, yF]) (ls := []) (ft := [1,2,4,5]) (nb := 1) (e := .out 0) (s' := lfS r i m) (ps := [(vi ↑r.l.length) = (vi (↑(List.map Raw.enc r.l).length)), Bn .lss 3 (.tmp 18) (.tmp 21) (vi ↑i) (vi ↑r.l.length) bT, Bn .geq 3 (.tmp 24) (.const (vi 0)) (vi m) (vi 0) bF]) (by kernel_rfl)
    ⟨lenEncR _, bin_ilt (decide_eq_true (by omega)), bin_ige (decide_eq_false (by omega)), trivial⟩
theorem p_left : ∀ (N : Nat) (r : Raw) (m : Int), r.size ≤ N → Puk 59 [rawA r, inA m] (inA (leftW r m)) := by
  intro N
  induction N with
  | zero => intro r m h; have := r.size_pos; omega
  | succ N ih =>
    intro r m hN
    rw [leftW_eq]
    by_cases h12 : 12 < r.s.length
    · rw [if_pos h12]
      exact pwalk (an := [.av (inA r.s.length), yT]) (ls := []) (ps := [(vi ↑r.s.length) = (vi (↑r.s.length)), Bn .gtr 3 (.tmp 8) (.const (vi 12)) (vi ↑r.s.length) (vi 12) bT]) Tryz.func59 (by kernel_rfl) (by kernel_rfl) ⟨lenStr _, bin_igt (decide_eq_true (by omega)), trivial⟩
    rw [if_neg h12]
    by_cases h6 : 6 < r.l.length
    · rw [if_pos h6]
      exact pwalk (an := [.av (inA r.s.length), yF, .av (inA r.l.length), yT]) (ls := []) (ps := [(vi ↑r.s.length) = (vi (↑r.s.length)), Bn .gtr 3 (.tmp 8) (.const (vi 12)) (vi ↑r.s.length) (vi 12) bF, (vi ↑r.l.length) = (vi (↑(List.map Raw.enc r.l).length)), Bn .gtr 3 (.tmp 13) (.const (vi 6)) (vi ↑r.l.length) (vi 6) bT]) Tryz.func59 (by kernel_rfl) (by kernel_rfl) ⟨lenStr _, bin_igt (decide_eq_false (by omega)), lenEncR _, bin_igt (decide_eq_true (by omega)), trivial⟩
    rw [if_neg h6]
    have loop : ∀ (l : List Raw) (i : Nat) (m : Int), r.l.drop i = l → i ≤ r.l.length → (∀ x ∈ l, x.size ≤ N) → ∃ j : Nat, Lps EX lfB (lfS r i m) (.out 0) (lfS r j (leftWL l m)) := by
      intro l
      induction l with
      | nil =>
        intro i m hd hi _
        have : i = r.l.length := by
          have := congrArg List.length hd
          rw [List.length_drop, List.length_nil] at this
          omega
        rw [leftWL]
        exact ⟨i, .stop (lfB2 this) (fun h => by cases h)⟩
      | cons x l ihl =>
        intro i m hd hi hs
        have hx : r.l[i]? = some x := by rw [← List.head?_drop, hd]; rfl
        have hlt := (List.getElem?_eq_some_iff.1 hx).1
        rw [leftWL]
        by_cases h0 : 0 ≤ m
        · rw [if_pos h0]
          obtain ⟨j, hj⟩ := ihl (i + 1) (leftW x m) (by rw [← List.drop_drop, hd]; rfl) (by omega) (fun y hy => hs y (List.mem_cons_of_mem _ hy))
          exact ⟨j, .more (lfB1 hx (by omega) h0 (ih x m (hs x (List.mem_cons_self ..)))) hj⟩
        · rw [if_neg h0]
          exact ⟨i, .stop (lfB3 hlt (by omega)) (fun h => by cases h)⟩
    obtain ⟨j, hj⟩ := loop r.l 0 (wr (m - 1)) rfl (Nat.zero_le _) (fun x hx => by have := Raw.size_l hx; omega)
    generalize leftWL r.l (wr (m - 1)) = k at *
    exact pwalk (an := [.av (inA r.s.length), yF, .av (inA r.l.length), yF, .no]) (ls := [.inv [1,2,4,5] 1 (.out 0) (lfS r j k)]) (ps := [(vi ↑r.s.length) = (vi (↑r.s.length)), Bn .gtr 3 (.tmp 8) (.const (vi 12)) (vi ↑r.s.length) (vi 12) bF, (vi ↑r.l.length) = (vi (↑(List.map Raw.enc r.l).length)), Bn .gtr 3 (.tmp 13) (.const (vi 6)) (vi ↑r.l.length) (vi 6) bF, Tri EX (.loop (subC (bodyOf Tryz.f59) [1, 1, 1, 0, 1, 0, 0])) (lfS r 0 (wr (m - 1))) (.out 0) (lfS r j k)]) Tryz.func59 (by kernel_rfl) (by kernel_rfl) ⟨lenStr _, bin_igt (decide_eq_false (by omega)), lenEncR _, bin_igt (decide_eq_false (by omega)), hj.tri, trivial⟩
theorem p_Few (r : Raw) (m : Int) : Puk 23 [rawA r, inA m] (boA (fewR r m)) :=
  pwalk (an := [.av (inA (leftW r m)), .av (boA (fewR r m))]) (ls := []) (ps := [Puk 59 [(rawA r), (inA m)] (inA (leftW r m)), Bn .geq 3 (.tmp 7) (.const (vi 0)) (vi (leftW r m)) (vi 0) (Value.bool (fewR r m))]) Tryz.func23 (by kernel_rfl) (by kernel_rfl) ⟨p_left _ r m (Nat.le_refl _), bin_ige rfl, trivial⟩
theorem RV.ofRaw {M : Mm} {w : World} {o : Raw} {A : Option Addr} {n c : Nat} (h : Rd M.F w (.slice A n c) (.row (o.l.map Raw.enc))) : RV M w (rawA o) (rawV o (.slice A n c)) :=
  ⟨_, rfl, _, _, rfl, .val _, _, _, rfl, .val _, _, _, rfl, .val _, _, _, rfl, h, rfl⟩
/-- all of them -/
def fewAllR (l : List Raw) (m : Int) : Bool := decide (l.length ≤ 8) && l.all fun r => fewR r m
abbrev rawsA (l : List Raw) : AV := .dt (.row (l.map Raw.enc))
abbrev faS (l : List Raw) (m i : Int) : AS := ⟨stt 22 [(0, rawsA l), (1, inA m), (4, boA false), (5, inA i)], []⟩
noncomputable abbrev faB : Code := subC (bodyOf Tryz.f18) [1, 1, 0, 1, 0, 0]
theorem faB1 {l : List Raw} {x : Raw} {i : Nat} {m : Int} (hx : l[i]? = some x) (hl : l.length ≤ 8) (hf : fewR x m = true) : Tri EX faB (faS l m i) .nxt (faS l m ((i + 1 : Nat) : Int)) :=
  twalk (c := subC (bodyOf Tryz.f18) [1,1,0,1,0,0]) (s := faS l m i) (an := [.av (inA l.length), yT, .av (.pin ((encR x).map .dt)), yT, .av (inA ((i + 1 : Nat) : Int))]) (ls := []) (ft := [0,1,4,5]) (nb := 0) (e := .nxt) (s' := faS l m ((i + 1 : Nat) : Int)) (ps := [(vi ↑l.length) = (vi (↑(List.map Raw.enc l).length)), Bn .lss 3 (.tmp 9) (.tmp 11) (vi ↑i) (vi ↑l.length) bT, IxAt (List.map Raw.enc l) ↑i 4 (encR x), Puk 23 [(rawA x), (inA m)] (boA true), Bn .add 3 (.tmp 13) (.const (vi 1)) (vi ↑i) (vi 1) (vi (↑(i + 1)))]) (by kernel_rfl)
    ⟨lenEncR _, bin_ilt (decide_eq_true (by have := (List.getElem?_eq_some_iff.1 hx).1; omega)), ix_raw hx, (p_Few x m).b hf, bin_iadd (by omega) (by omega) (by have := (List.getElem?_eq_some_iff.1 hx).1; omega), trivial⟩
theorem faB2 {l : List Raw} {i : Nat} {m : Int} (hi : i = l.length) : Tri EX faB (faS l m i) (.out 0) (faS l m i) :=
  twalk (c := subC (bodyOf Tryz.f18) [1,1,0,1,0,0]) (s := faS l m i) (an := [.av (inA l.length), yF]) (ls := []) (ft := [0,1,4,5]) (nb := 0) (e := .out 0) (s' := faS l m i) (ps := [(vi ↑l.length) = (vi (↑(List.map Raw.enc l).length)), Bn .lss 3 (.tmp 9) (.tmp 11) (vi ↑i) (vi ↑l.length) bF]) (by kernel_rfl)
    ⟨lenEncR _, bin_ilt (decide_eq_false (by omega)), trivial⟩
theorem faB3 {l : List Raw} {x : Raw} {i : Nat} {m : Int} (hx : l[i]? = some x) (hf : fewR x m = false) : Tri EX faB (faS l m i) .ret (faS l m i) :=
  twalk (c := subC (bodyOf Tryz.f18) [1,1,0,1,0,0]) (s := faS l m i) (an := [.av (inA l.length), yT, .av (.pin ((encR x).map .dt)), yF]) (ls := []) (ft := [0,1,4,5]) (nb := 0) (e := .ret) (s' := faS l m i) (ps := [(vi ↑l.length) = (vi (↑(List.map Raw.enc l).length)), Bn .lss 3 (.tmp 9) (.tmp 11) (vi ↑i) (vi ↑l.length) bT, IxAt (List.map Raw.enc l) ↑i 4 (encR x), Puk 23 [(rawA x), (inA m)] (boA false)]) (by kernel_rfl)
    ⟨lenEncR _, bin_ilt (decide_eq_true (by have := (List.getElem?_eq_some_iff.1 hx).1; omega)), ix_raw hx, (p_Few x m).b hf, trivial⟩
theorem p_FewAll (l : List Raw) (m : Int) : Puk 18 [rawsA l, inA m] (boA (fewAllR l m)) := by
  unfold fewAllR
  by_cases h8 : l.length ≤ 8
  · rw [decide_eq_true h8, Bool.true_and]
    have loop : ∀ (s : List Raw) (i : Nat), l.drop i = s → i ≤ l.length → (s.all (fun r => fewR r m) = true → Lps EX faB (faS l m i) (.out 0) (faS l m l.length)) ∧ (s.all (fun r => fewR r m) = false → ∃ j : Nat, Lps EX faB (faS l m i) .ret (faS l m j)) := by
      intro s
      induction s with
      | nil =>
        intro i hd hi
        have := dropnil hd
        obtain rfl : i = l.length := by omega
        exact ⟨fun _ => .stop (faB2 rfl) (fun h => by cases h), fun h => by cases h⟩
      | cons x s ih =>
        intro i hd hi
        obtain ⟨hx, hd', hlt⟩ := dropcons hd
        obtain ⟨i1, i2⟩ := ih (i + 1) hd' (by omega)
        cases hf : fewR x m with
        | true =>
          rw [List.all_cons, hf, Bool.true_and]
          refine ⟨fun h => .more (faB1 hx h8 hf) (i1 h), fun h => ?_⟩
          obtain ⟨j, hj⟩ := i2 h
          exact ⟨j, .more (faB1 hx h8 hf) hj⟩
        | false =>
          rw [List.all_cons, hf, Bool.false_and]
          exact ⟨fun h => (by cases h), fun _ => ⟨i, .stop (faB3 hx hf) (fun h => by cases h)⟩⟩
    obtain ⟨l1, l2⟩ := loop l 0 rfl (Nat.zero_le _)
    cases ha : l.all (fun r => fewR r m) with
    | true =>
      have l1 := l1 ha
      exact pwalk (an := [.av (inA l.length), yF]) (ls := [.inv [0,1,4,5] 0 (.out 0) (faS l m l.length)]) (ps := [(vi ↑l.length) = (vi (↑(List.map Raw.enc l).length)), Bn .gtr 3 (.tmp 7) (.const (vi 8)) (vi ↑l.length) (vi 8) bF, Tri EX (.loop (subC (bodyOf Tryz.f18) [1, 1, 0, 1, 0, 0])) (faS l m 0) (.out 0) (faS l m l.length)]) Tryz.func18 (by kernel_rfl) (by kernel_rfl) ⟨lenEncR _, bin_igt (decide_eq_false (by omega)), l1.tri, trivial⟩
    | false =>
      obtain ⟨j, hj⟩ := l2 ha
      exact pwalk (an := [.av (inA l.length), yF]) (ls := [.inv [0,1,4,5] 0 (.ret) (faS l m j)]) (ps := [(vi ↑l.length) = (vi (↑(List.map Raw.enc l).length)), Bn .gtr 3 (.tmp 7) (.const (vi 8)) (vi ↑l.length) (vi 8) bF, Tri EX (.loop (subC (bodyOf Tryz.f18) [1, 1, 0, 1, 0, 0])) (faS l m 0) (.ret) (faS l m j)]) Tryz.func18 (by kernel_rfl) (by kernel_rfl) ⟨lenEncR _, bin_igt (decide_eq_false (by omega)), hj.tri, trivial⟩
  · rw [decide_eq_false h8, Bool.false_and]
    exact pwalk (an := [.av (inA l.length), yT]) (ls := []) (ps := [(vi ↑l.length) = (vi (↑(List.map Raw.enc l).length)), Bn .gtr 3 (.tmp 7) (.const (vi 8)) (vi ↑l.length) (vi 8) bT]) Tryz.func18 (by kernel_rfl) (by kernel_rfl) ⟨lenEncR _, bin_igt (decide_eq_true (by omega)), trivial⟩
end Go.Proofs.YtmkcnjfhdfanoaaGreatDoor
/- Objects of raw trees, as a plain walk. -/
namespace Go.Proofs.YtmkcnjfhdfanoaaGreatDoor
open Go.RowKit

theorem map_enc (l : List Raw) : l.map Raw.enc = l.map encR := List.map_congr_left fun r _ => enc_R r
abbrev mo0 (l : List Raw) : AS := ⟨stt 20 [(0, rawsA l), (3, .nil), (4, inA 0)], []⟩
abbrev moS (l : List Raw) (es : List (List Dt)) (n : Nat) (i : Int) : AS := ⟨stt 20 [(0, rawsA l), (3, .own 0 n), (4, inA i)], [some (.buf 36 7 es)]⟩
noncomputable abbrev moB : Code := subC (bodyOf Tryz.f19) [1,1,0,1,0,0]
theorem moA {l : List Raw} {x : Raw} {t : Tr} (hx : l[0]? = some x) (hl : l.length ≤ 8) (ht : Puk 37 [rawA x] (trA t)) : Tri EX moB (mo0 l) .nxt (moS l [encL t.ob] 1 ((1 : Nat) : Int)) :=
  twalk (c := subC (bodyOf Tryz.f19) [1,1,0,1,0,0]) (s := mo0 l) (an := [.av (inA l.length), yT, .av (.pin ((encR x).map .dt)), .av (trA t), .av (.un), .av (inA ((1 : Nat) : Int))]) (ls := []) (ft := [0,3,4]) (nb := 1) (e := .nxt) (s' := moS l [encL t.ob] 1 ((1 : Nat) : Int)) (ps := [Value.int .i64 (l.length : Int) = Value.int .i64 ((l.map Raw.enc).length : Int), BinIs Tryz.prog .lss 3 (.tmp 5) (.tmp 7) (.int .i64 0) (.int .i64 (l.length : Int)) (.bool true), IxAt (l.map Raw.enc) 0 4 (encR x), Puk 37 [rawA x] (trA t), FitB 112 1, SrcOK 7 [encL t.ob], BinIs Tryz.prog .add 3 (.tmp 9) (.const (.int .i64 1)) (.int .i64 0) (.int .i64 1) (.int .i64 ((1 : Nat) : Int))]) (by kernel_rfl)
    ⟨lenEncR _, bin_ilt (decide_eq_true (by have := (List.getElem?_eq_some_iff.1 hx).1; omega)), ix_raw hx, ht, ⟨by decide, by decide⟩, one_src t, bin_iadd (by omega) (by omega) (by omega), trivial⟩
theorem moE {l : List Raw} : l = [] → Tri EX moB (mo0 l) (.out 0) (mo0 l) := fun h =>
  twalk (c := subC (bodyOf Tryz.f19) [1,1,0,1,0,0]) (s := mo0 l) (an := [.av (inA l.length), yF]) (ls := []) (ft := [0,3,4]) (nb := 0) (e := .out 0) (s' := mo0 l) (ps := [(vi ↑l.length) = (vi (↑(List.map Raw.enc l).length)), Bn .lss 3 (.tmp 5) (.tmp 7) (vi 0) (vi ↑l.length) bF]) (by kernel_rfl)
    ⟨lenEncR _, bin_ilt (decide_eq_false (by rw [h]; decide)), trivial⟩
theorem moN {l : List Raw} {x : Raw} {t : Tr} {es : List (List Dt)} {n i : Nat} (hx : l[i]? = some x) (hl : l.length ≤ 8) (hn : es.length = n) (hi : n ≤ 8) (ht : Puk 37 [rawA x] (trA t)) : Tri EX moB (moS l es n i) .nxt (moS l (es ++ [encL t.ob]) (es ++ [encL t.ob]).length ((i + 1 : Nat) : Int)) :=
  twalk (c := subC (bodyOf Tryz.f19) [1,1,0,1,0,0]) (s := moS l es n i) (an := [.av (inA l.length), yT, .av (.pin ((encR x).map .dt)), .av (trA t), .av (.un), .av (inA ((i + 1 : Nat) : Int))]) (ls := []) (ft := [0,3,4]) (nb := 1) (e := .nxt) (s' := moS l (es ++ [encL t.ob]) (es ++ [encL t.ob]).length ((i + 1 : Nat) : Int)) (ps := [Value.int .i64 (l.length : Int) = Value.int .i64 ((l.map Raw.enc).length : Int), BinIs Tryz.prog .lss 3 (.tmp 5) (.tmp 7) (.int .i64 (i : Int)) (.int .i64 (l.length : Int)) (.bool true), IxAt (l.map Raw.enc) (i : Int) 4 (encR x), Puk 37 [rawA x] (trA t), es.length = n, FitB 112 (es ++ [encL t.ob]).length, SrcOK 7 [encL t.ob], BinIs Tryz.prog .add 3 (.tmp 9) (.const (.int .i64 1)) (.int .i64 (i : Int)) (.int .i64 1) (.int .i64 ((i + 1 : Nat) : Int))]) (by kernel_rfl)
    ⟨lenEncR _, bin_ilt (decide_eq_true (by have := (List.getElem?_eq_some_iff.1 hx).1; omega)), ix_raw hx, ht, hn, ⟨by rw [List.length_append, hn]; exact Nat.le_trans (show n + 1 ≤ 9 by omega) (by decide), by rw [List.length_append, hn]; exact Nat.le_trans (Nat.mul_le_mul_right _ (show n + 1 ≤ 9 by omega)) (by decide)⟩, one_src t, bin_iadd (by omega) (by omega) (by have := (List.getElem?_eq_some_iff.1 hx).1; omega), trivial⟩
theorem moF {l : List Raw} {es : List (List Dt)} {n i : Nat} (hi : l.length ≤ i) : Tri EX moB (moS l es n i) (.out 0) (moS l es n i) :=
  twalk (c := subC (bodyOf Tryz.f19) [1,1,0,1,0,0]) (s := moS l es n i) (an := [.av (inA l.length), yF]) (ls := []) (ft := [0,3,4]) (nb := 1) (e := .out 0) (s' := moS l es n i) (ps := [(vi ↑l.length) = (vi (↑(List.map Raw.enc l).length)), Bn .lss 3 (.tmp 5) (.tmp 7) (vi ↑i) (vi ↑l.length) bF]) (by kernel_rfl)
    ⟨lenEncR _, bin_ilt (decide_eq_false (by omega)), trivial⟩
theorem p_mkOs {l : List Raw} (h8 : l.length ≤ 8) (hf : ∀ r ∈ l, Fit r ∧ r.Wf) : Puk 19 [rawsA l] (rowA (l.map mkT)) := by
  have go : ∀ (s : List Raw) (i n : Nat) (es : List (List Dt)), l.drop i = s → i ≤ l.length → es.length = n → n + s.length ≤ 8 → ∃ j : Nat, Lps EX moB (moS l es n i) (.out 0) (moS l (es ++ encTs (s.map mkT)) (es ++ encTs (s.map mkT)).length j) := by
    intro s
    induction s with
    | nil =>
      intro i n es hd hi hn _
      have := dropnil hd
      refine ⟨i, ?_⟩
      simp only [List.map_nil, encTs, List.append_nil]
      rw [hn]
      exact .stop (moF this) (fun h => by cases h)
    | cons x s ih =>
      intro i n es hd hi hn h9
      obtain ⟨hx, hd', hlt⟩ := dropcons hd
      rw [List.length_cons] at h9
      have hm : x ∈ l := List.mem_of_getElem? hx
      obtain ⟨j, hj⟩ := ih (i + 1) (es ++ [encL (mkT x).ob]).length (es ++ [encL (mkT x).ob]) hd' (by omega) rfl (by rw [List.length_append, hn]; show n + 1 + _ ≤ 8; omega)
      refine ⟨j, .more (moN hx h8 hn (by omega) (p_mkO (hf x hm).1 (hf x hm).2)) ?_⟩
      have e : es ++ [encL (mkT x).ob] ++ encTs (s.map mkT) = es ++ encTs ((x :: s).map mkT) := by
        rw [List.append_assoc]; rfl
      rw [e] at hj
      exact hj
  match l, h8, hf, go with
  | [], _, _, _ =>
    exact pwalk (an := []) (ls := [.inv [0,3,4] 0 (.out 0) (mo0 [])]) (ps := [Tri EX (.loop (subC (bodyOf Tryz.f19) [1,1,0,1,0,0])) (mo0 []) (.out 0) (mo0 [])]) Tryz.func19 (by kernel_rfl) (by kernel_rfl) ⟨(Lps.stop (moE rfl) (fun h => by cases h)).tri, trivial⟩
  | x :: s, h8, hf, go =>
    obtain ⟨j, hj⟩ := go s 1 1 [encL (mkT x).ob] rfl (by simp) rfl (by rw [List.length_cons] at h8; omega)
    have h1 := moA (l := x :: s) (x := x) rfl h8 (p_mkO (hf x (List.mem_cons_self ..)).1 (hf x (List.mem_cons_self ..)).2)
    have hl := (Lps.more h1 hj).tri
    have e : [encL (mkT x).ob] ++ encTs (s.map mkT) = encTs ((x :: s).map mkT) := rfl
    rw [e] at hl
    generalize hts : (x :: s).map mkT = ts at *
    generalize x :: s = l at *
    exact pwalk (an := []) (ls := [.inv [0,3,4] 1 (.out 0) (moS l (encTs ts) (encTs ts).length j)]) (ps := [Tri EX (.loop moB) (mo0 l) (.out 0) (moS l (encTs ts) (encTs ts).length j), (encTs ts).length = (encTs ts).length]) Tryz.func19 (by kernel_rfl) (by kernel_rfl) ⟨hl, rfl, trivial⟩
/-- three raw trees -/
theorem p_mkO3 {r s t : Raw} (hr : fewR r 20 = true) (hs : fewR s 20 = true) (ht : fewR t 20 = true) (wr' : r.Wf) (ws : s.Wf) (wt : t.Wf) : Puk 19 [.dt (.row [encR r, encR s, encR t])] (rowA [mkT r, mkT s, mkT t]) := by
  have h := p_mkOs (l := [r, s, t]) (by show 3 ≤ 8; omega) (fun x hx => by
    simp only [List.mem_cons, List.not_mem_nil, or_false] at hx
    rcases hx with rfl | rfl | rfl
    · exact ⟨fewR_fit (by decide) (by decide) hr, wr'⟩
    · exact ⟨fewR_fit (by decide) (by decide) hs, ws⟩
    · exact ⟨fewR_fit (by decide) (by decide) ht, wt⟩)
  unfold rawsA at h
  rw [map_enc] at h
  exact h
end Go.Proofs.YtmkcnjfhdfanoaaGreatDoor
/- Guard of both texts, on trees. -/
namespace Go.Proofs.YtmkcnjfhdfanoaaGreatDoor
open Go.RowKit

/-- a key among the keys of a map -/
def kfind (k : ByteArray) : List Value → Option (Option Nat)
  | [] => some none
  | .string s :: t => if k == s then some (some 0) else (kfind k t).map (·.map (· + 1))
  | _ => none
theorem findNow_k {k : ByteArray} : ∀ (keys : List Value) (es : List MapEntry) (i : Nat) (r : Option Nat), es.map (·.key) = keys → kfind k keys = some r → Instr.findNow .string (.string k) es i = some (r.bind fun j => (es[j]?).map fun e => (i + j, e.val))
  | [], [], i, r, _, h => by cases h; rfl
  | [], _ :: _, _, _, h, _ => by cases h
  | _ :: _, [], _, _, h, _ => by cases h
  | v :: t, e :: es, i, r, he, h => by
    simp only [List.map_cons, List.cons.injEq] at he
    obtain ⟨he, ht⟩ := he
    subst he
    unfold Instr.findNow
    cases hk : e.key with
    | string s =>
      rw [hk] at h
      unfold kfind at h
      show (match some (k == s) with | some true => _ | some false => _ | none => _) = _
      cases hs : k == s with
      | true =>
        rw [hs, if_pos rfl] at h
        cases h
        rfl
      | false =>
        rw [hs, if_neg (by decide)] at h
        cases hr : kfind k t with
        | none => rw [hr] at h; cases h
        | some r' =>
          rw [hr] at h
          cases h
          have := findNow_k t es (i + 1) r' ht hr
          show Instr.findNow .string (.string k) es (i + 1) = _
          rw [this]
          cases r' with
          | none => rfl
          | some j =>
            show some ((es[j]?).map fun e => (i + 1 + j, e.val)) = some ((es[j]?).map fun e => (i + (j + 1), e.val))
            rw [show i + 1 + j = i + (j + 1) by omega]
    | _ => rw [hk] at h; cases h
theorem mfind_str {P : Program} {kt : TypeId} (hu : P.underlying kt = some .string) {k : ByteArray} {keys : List Value} {r : Option Nat} (h : kfind k keys = some r) : MFind P kt (.string k) keys r := fun es w he => by
  have h1 := MapKept.run_checkKey (P := P) (w := w) (k := .string k) hu trivial es.isEmpty 9999
  have h2 := MapKept.run_findKey (w := w) hu (findNow_k keys es 0 r he h)
  simp only [Sem.run_bind, h1, Result.andThen]
  rw [h2]
  cases r with
  | none => rfl
  | some j => simp
theorem mnew_str {P : Program} {kt : TypeId} (hu : P.underlying kt = some .string) {k : ByteArray} {keys : List Value} (h : kfind k keys = some none) : MNew P kt (.string k) keys := fun es w he => by
  have h1 := MapKept.run_checkKey (P := P) (w := w) (k := .string k) hu trivial false 9999
  have h2 := MapKept.run_findKey (w := w) hu (findNow_k keys es 0 none he h)
  simp only [Sem.run_bind, h1, Result.andThen]
  exact h2
/-- the guards of the primitives -/
def Tr.gd : Nat → Tr → Tr → Bool
  | 3, x, _ => x.isC || decide (x = nilT)
  | 4, x, _ => x.isC || decide (x = nilT)
  | 10, x, y => x.isN && y.isN
  | 11, x, y => x.isN && y.isN
  | 12, x, _ => x.isN
  | 13, x, _ => x.isN && !decide (x.ob.num = [48])
  | 14, x, y => x.isN && y.isN
  | 15, x, _ => x.isN
  | 16, x, _ => x.isN
  | 17, x, _ => x.isN
  | 18, x, _ => x.isY
  | 19, x, _ => x.isY
  | 20, x, y => x.isT && y.isT
  | 21, x, y => x.isT && y.isT
  | 22, x, _ => x.isT
  | 23, x, y => (x.ixV y).isSome
  | 24, x, _ => x.octV.isSome
  | _, _, _ => true
theorem p_g1 (x : Tr) : Puk 60 [trA x] (boA x.isN) := pwalk (an := [.av (boA x.isN)]) (ls := []) (ps := [Bn .eql 3 (.tmp 4) (.const (vi 1)) (vi x.ob.kind) (vi 1) (Value.bool x.isN)]) Tryz.func60 (by kernel_rfl) (by kernel_rfl) ⟨bin_ieq (isN_k x), trivial⟩
theorem p_g2 (x : Tr) : Puk 61 [trA x] (boA x.isY) := pwalk (an := [.av (boA x.isY)]) (ls := []) (ps := [Bn .eql 3 (.tmp 4) (.const (vi 2)) (vi x.ob.kind) (vi 2) (Value.bool x.isY)]) Tryz.func61 (by kernel_rfl) (by kernel_rfl) ⟨bin_ieq (isY_k x), trivial⟩
theorem p_g3 (x : Tr) : Puk 62 [trA x] (boA x.isT) := pwalk (an := [.av (boA x.isT)]) (ls := []) (ps := [Bn .eql 3 (.tmp 4) (.const (vi 3)) (vi x.ob.kind) (vi 3) (Value.bool x.isT)]) Tryz.func62 (by kernel_rfl) (by kernel_rfl) ⟨bin_ieq (isT_k x), trivial⟩
theorem p_g4 (x : Tr) : Puk 63 [trA x] (boA (x.isC || decide (x = nilT))) := by
  cases hC : x.isC with
  | true => exact pwalk (an := [yT]) (ls := []) (ps := [Bn .eql 3 (.tmp 4) (.const (vi 4)) (vi x.ob.kind) (vi 4) bT]) Tryz.func63 (by kernel_rfl) (by kernel_rfl) ⟨bin_ieq ((isC_k x).trans hC), trivial⟩
  | false => exact pwalk (an := [yF, .av (boA (decide (x = nilT)))]) (ls := []) (ps := [Bn .eql 3 (.tmp 4) (.const (vi 4)) (vi x.ob.kind) (vi 4) bF, Puk 43 [(obA x.ob)] (boA (decide (x = nilT)))]) Tryz.func63 (by kernel_rfl) (by kernel_rfl) ⟨bin_ieq ((isC_k x).trans hC), p_oIsNil x, trivial⟩
theorem p_g5 (x : Tr) : Puk 64 [trA x, .pin [.clf 60 []]] (boA (x.isN && !decide (x.ob.num = [48]))) := by
  have h1 := p_g1 x
  cases hN : x.isN with
  | true =>
    rw [hN] at h1
    exact pwalk (an := [yT, .av (boA (!decide (x.ob.num = [48])))]) (ls := []) (ps := [Puk 60 [(obA x.ob)] (boA true), Bn .neq 9 (.tmp 9) (.const (Value.string { data := #[48] : ByteArray })) (str x.ob.num) (str [48]) (Value.bool (!decide (x.ob.num = [48])))]) Tryz.func64 (by kernel_rfl) (by kernel_rfl) ⟨h1, bin_sne (by rw [Bool.not_not]), trivial⟩
  | false =>
    rw [hN] at h1
    exact pwalk (an := [yF]) (ls := []) (ps := [Puk 60 [(obA x.ob)] (boA false)]) Tryz.func64 (by kernel_rfl) (by kernel_rfl) ⟨h1, trivial⟩
theorem p_g6 {x : Tr} {k : Nat} (hx : x.Ok k) (hk : k ≤ 100000) : Puk 65 [trA x] (boA x.octV.isSome) := pwalk (an := [.av (.tup [.dt (.val (.int .u8 (IntKind.u8.wrap (smV x.ob.num).1))), boA (x.octV).isSome])]) (ls := []) (ps := [Puk 66 [(obA x.ob)] (.tup [(.dt (.val (Value.int .u8 (IntKind.u8.wrap (smV x.ob.num).fst)))), (boA x.octV.isSome)])]) Tryz.func65 (by kernel_rfl) (by kernel_rfl) ⟨p_oCode hx hk, trivial⟩
theorem p_g7 {f : FuncId} {caps : List AV} {x : Tr} {b : Bool} (h : Puk f (trA x :: caps) (boA b)) : Puk 68 [trA x, .pin [.clf f caps]] (boA (!b)) := pwalk (an := [.av (boA b)]) (ls := []) (ps := [Puk f ([(obA x.ob)] ++ caps) (boA b)]) Tryz.func68 (by kernel_rfl) (by kernel_rfl) ⟨h, trivial⟩
theorem p_cf1 {f : FuncId} {caps : List AV} {x : Tr} {b : Bool} (h : Puk f (trA x :: caps) (boA b)) : Puk 67 [rowA [x], .clf f caps] (boA b) := by
  cases b with
  | true =>
    have h1 : Puk 111 [rowA [x], .clf f caps] (inA 0) := pwalk (an := [.no, .no, .no, yT]) (ls := []) (ps := [Puk f ([(obA x.ob)] ++ caps) (boA true)]) Tryz.func111 (by kernel_rfl) (by kernel_rfl) ⟨h, trivial⟩
    exact pwalk (an := [.av (inA 0), .no]) (ls := []) (ps := [Puk 111 [(.dt (.row (List.map (fun t => encL t.ob) [x]))), (.clf f caps)] (inA 0)]) Tryz.func67 (by kernel_rfl) (by kernel_rfl) ⟨h1, trivial⟩
  | false =>
    have h1 : Puk 111 [rowA [x], .clf f caps] (inA (-1)) := pwalk (an := [.no, .no, .no, yF, .no, .no]) (ls := []) (ps := [Puk f ([(obA x.ob)] ++ caps) (boA false)]) Tryz.func111 (by kernel_rfl) (by kernel_rfl) ⟨h, trivial⟩
    exact pwalk (an := [.av (inA (-1)), .no]) (ls := []) (ps := [Puk 111 [(.dt (.row (List.map (fun t => encL t.ob) [x]))), (.clf f caps)] (inA (-1))]) Tryz.func67 (by kernel_rfl) (by kernel_rfl) ⟨h1, trivial⟩
theorem p_cf2 {f : FuncId} {caps : List AV} {x y : Tr} {a b : Bool} (ha : Puk f (trA x :: caps) (boA a)) (hb : Puk f (trA y :: caps) (boA b)) : Puk 67 [rowA [x, y], .clf f caps] (boA (a || b)) := by
  cases a with
  | true =>
    have h1 : Puk 111 [rowA [x, y], .clf f caps] (inA 0) := pwalk (an := [.no, .no, .no, yT]) (ls := []) (ps := [Puk f ([(obA x.ob)] ++ caps) (boA true)]) Tryz.func111 (by kernel_rfl) (by kernel_rfl) ⟨ha, trivial⟩
    exact pwalk (an := [.av (inA 0), .no]) (ls := []) (ps := [Puk 111 [(.dt (.row (List.map (fun t => encL t.ob) [x, y]))), (.clf f caps)] (inA 0)]) Tryz.func67 (by kernel_rfl) (by kernel_rfl) ⟨h1, trivial⟩
  | false =>
    cases b with
    | true =>
      have h1 : Puk 111 [rowA [x, y], .clf f caps] (inA 1) := pwalk (an := [.no, .no, .no, yF, .no, .no, .no, yT]) (ls := []) (ps := [Puk f ([(obA x.ob)] ++ caps) (boA false), Puk f ([(obA y.ob)] ++ caps) (boA true)]) Tryz.func111 (by kernel_rfl) (by kernel_rfl) ⟨ha, hb, trivial⟩
      exact pwalk (an := [.av (inA 1), .no]) (ls := []) (ps := [Puk 111 [(.dt (.row (List.map (fun t => encL t.ob) [x, y]))), (.clf f caps)] (inA 1)]) Tryz.func67 (by kernel_rfl) (by kernel_rfl) ⟨h1, trivial⟩
    | false =>
      have h1 : Puk 111 [rowA [x, y], .clf f caps] (inA (-1)) := pwalk (an := [.no, .no, .no, yF, .no, .no, .no, yF, .no, .no]) (ls := []) (ps := [Puk f ([(obA x.ob)] ++ caps) (boA false), Puk f ([(obA y.ob)] ++ caps) (boA false)]) Tryz.func111 (by kernel_rfl) (by kernel_rfl) ⟨ha, hb, trivial⟩
      exact pwalk (an := [.av (inA (-1)), .no]) (ls := []) (ps := [Puk 111 [(.dt (.row (List.map (fun t => encL t.ob) [x, y]))), (.clf f caps)] (inA (-1))]) Tryz.func67 (by kernel_rfl) (by kernel_rfl) ⟨h1, trivial⟩
abbrev keysV : List Value := [(str [99, 97, 114]), (str [99, 100, 114]), (str [98, 105, 110, 97, 114, 121, 45, 43]), (str [98, 105, 110, 97, 114, 121, 45, 42]), (str [117, 110, 97, 114, 121, 45, 45]), (str [60]), (str [110, 117, 109, 101, 114, 97, 116, 111, 114]), (str [100, 101, 110, 111, 109, 105, 110, 97, 116, 111, 114]), (str [102, 108, 111, 111, 114]), (str [117, 110, 97, 114, 121, 45, 47]), (str [115, 121, 109, 98, 111, 108, 45, 110, 97, 109, 101]), (str [115, 121, 109, 98, 111, 108, 45, 112, 97, 99, 107, 97, 103, 101, 45, 110, 97, 109, 101]), (str [105, 110, 116, 101, 114, 110]), (str [115, 116, 114, 105, 110, 103, 45, 97, 112, 112, 101, 110, 100]), (str [115, 116, 114, 105, 110, 103, 45, 108, 101, 110, 103, 116, 104]), (str [98, 121, 116, 101, 45, 115, 116, 114, 105, 110, 103])]
abbrev mns : List Prop := [MNew Tryz.prog 9 (str [99, 97, 114]) [], MNew Tryz.prog 9 (str [99, 100, 114]) [(str [99, 97, 114])], MNew Tryz.prog 9 (str [98, 105, 110, 97, 114, 121, 45, 43]) [(str [99, 97, 114]), (str [99, 100, 114])], MNew Tryz.prog 9 (str [98, 105, 110, 97, 114, 121, 45, 42]) [(str [99, 97, 114]), (str [99, 100, 114]), (str [98, 105, 110, 97, 114, 121, 45, 43])], MNew Tryz.prog 9 (str [117, 110, 97, 114, 121, 45, 45]) [(str [99, 97, 114]), (str [99, 100, 114]), (str [98, 105, 110, 97, 114, 121, 45, 43]), (str [98, 105, 110, 97, 114, 121, 45, 42])], MNew Tryz.prog 9 (str [60]) [(str [99, 97, 114]), (str [99, 100, 114]), (str [98, 105, 110, 97, 114, 121, 45, 43]), (str [98, 105, 110, 97, 114, 121, 45, 42]), (str [117, 110, 97, 114, 121, 45, 45])], MNew Tryz.prog 9 (str [110, 117, 109, 101, 114, 97, 116, 111, 114]) [(str [99, 97, 114]), (str [99, 100, 114]), (str [98, 105, 110, 97, 114, 121, 45, 43]), (str [98, 105, 110, 97, 114, 121, 45, 42]), (str [117, 110, 97, 114, 121, 45, 45]), (str [60])], MNew Tryz.prog 9 (str [100, 101, 110, 111, 109, 105, 110, 97, 116, 111, 114]) [(str [99, 97, 114]), (str [99, 100, 114]), (str [98, 105, 110, 97, 114, 121, 45, 43]), (str [98, 105, 110, 97, 114, 121, 45, 42]), (str [117, 110, 97, 114, 121, 45, 45]), (str [60]), (str [110, 117, 109, 101, 114, 97, 116, 111, 114])], MNew Tryz.prog 9 (str [102, 108, 111, 111, 114]) [(str [99, 97, 114]), (str [99, 100, 114]), (str [98, 105, 110, 97, 114, 121, 45, 43]), (str [98, 105, 110, 97, 114, 121, 45, 42]), (str [117, 110, 97, 114, 121, 45, 45]), (str [60]), (str [110, 117, 109, 101, 114, 97, 116, 111, 114]), (str [100, 101, 110, 111, 109, 105, 110, 97, 116, 111, 114])], MNew Tryz.prog 9 (str [117, 110, 97, 114, 121, 45, 47]) [(str [99, 97, 114]), (str [99, 100, 114]), (str [98, 105, 110, 97, 114, 121, 45, 43]), (str [98, 105, 110, 97, 114, 121, 45, 42]), (str [117, 110, 97, 114, 121, 45, 45]), (str [60]), (str [110, 117, 109, 101, 114, 97, 116, 111, 114]), (str [100, 101, 110, 111, 109, 105, 110, 97, 116, 111, 114]), (str [102, 108, 111, 111, 114])], MNew Tryz.prog 9 (str [115, 121, 109, 98, 111, 108, 45, 110, 97, 109, 101]) [(str [99, 97, 114]), (str [99, 100, 114]), (str [98, 105, 110, 97, 114, 121, 45, 43]), (str [98, 105, 110, 97, 114, 121, 45, 42]), (str [117, 110, 97, 114, 121, 45, 45]), (str [60]), (str [110, 117, 109, 101, 114, 97, 116, 111, 114]), (str [100, 101, 110, 111, 109, 105, 110, 97, 116, 111, 114]), (str [102, 108, 111, 111, 114]), (str [117, 110, 97, 114, 121, 45, 47])], MNew Tryz.prog 9 (str [115, 121, 109, 98, 111, 108, 45, 112, 97, 99, 107, 97, 103, 101, 45, 110, 97, 109, 101]) [(str [99, 97, 114]), (str [99, 100, 114]), (str [98, 105, 110, 97, 114, 121, 45, 43]), (str [98, 105, 110, 97, 114, 121, 45, 42]), (str [117, 110, 97, 114, 121, 45, 45]), (str [60]), (str [110, 117, 109, 101, 114, 97, 116, 111, 114]), (str [100, 101, 110, 111, 109, 105, 110, 97, 116, 111, 114]), (str [102, 108, 111, 111, 114]), (str [117, 110, 97, 114, 121, 45, 47]), (str [115, 121, 109, 98, 111, 108, 45, 110, 97, 109, 101])], MNew Tryz.prog 9 (str [105, 110, 116, 101, 114, 110]) [(str [99, 97, 114]), (str [99, 100, 114]), (str [98, 105, 110, 97, 114, 121, 45, 43]), (str [98, 105, 110, 97, 114, 121, 45, 42]), (str [117, 110, 97, 114, 121, 45, 45]), (str [60]), (str [110, 117, 109, 101, 114, 97, 116, 111, 114]), (str [100, 101, 110, 111, 109, 105, 110, 97, 116, 111, 114]), (str [102, 108, 111, 111, 114]), (str [117, 110, 97, 114, 121, 45, 47]), (str [115, 121, 109, 98, 111, 108, 45, 110, 97, 109, 101]), (str [115, 121, 109, 98, 111, 108, 45, 112, 97, 99, 107, 97, 103, 101, 45, 110, 97, 109, 101])], MNew Tryz.prog 9 (str [115, 116, 114, 105, 110, 103, 45, 97, 112, 112, 101, 110, 100]) [(str [99, 97, 114]), (str [99, 100, 114]), (str [98, 105, 110, 97, 114, 121, 45, 43]), (str [98, 105, 110, 97, 114, 121, 45, 42]), (str [117, 110, 97, 114, 121, 45, 45]), (str [60]), (str [110, 117, 109, 101, 114, 97, 116, 111, 114]), (str [100, 101, 110, 111, 109, 105, 110, 97, 116, 111, 114]), (str [102, 108, 111, 111, 114]), (str [117, 110, 97, 114, 121, 45, 47]), (str [115, 121, 109, 98, 111, 108, 45, 110, 97, 109, 101]), (str [115, 121, 109, 98, 111, 108, 45, 112, 97, 99, 107, 97, 103, 101, 45, 110, 97, 109, 101]), (str [105, 110, 116, 101, 114, 110])], MNew Tryz.prog 9 (str [115, 116, 114, 105, 110, 103, 45, 108, 101, 110, 103, 116, 104]) [(str [99, 97, 114]), (str [99, 100, 114]), (str [98, 105, 110, 97, 114, 121, 45, 43]), (str [98, 105, 110, 97, 114, 121, 45, 42]), (str [117, 110, 97, 114, 121, 45, 45]), (str [60]), (str [110, 117, 109, 101, 114, 97, 116, 111, 114]), (str [100, 101, 110, 111, 109, 105, 110, 97, 116, 111, 114]), (str [102, 108, 111, 111, 114]), (str [117, 110, 97, 114, 121, 45, 47]), (str [115, 121, 109, 98, 111, 108, 45, 110, 97, 109, 101]), (str [115, 121, 109, 98, 111, 108, 45, 112, 97, 99, 107, 97, 103, 101, 45, 110, 97, 109, 101]), (str [105, 110, 116, 101, 114, 110]), (str [115, 116, 114, 105, 110, 103, 45, 97, 112, 112, 101, 110, 100])], MNew Tryz.prog 9 (str [98, 121, 116, 101, 45, 115, 116, 114, 105, 110, 103]) [(str [99, 97, 114]), (str [99, 100, 114]), (str [98, 105, 110, 97, 114, 121, 45, 43]), (str [98, 105, 110, 97, 114, 121, 45, 42]), (str [117, 110, 97, 114, 121, 45, 45]), (str [60]), (str [110, 117, 109, 101, 114, 97, 116, 111, 114]), (str [100, 101, 110, 111, 109, 105, 110, 97, 116, 111, 114]), (str [102, 108, 111, 111, 114]), (str [117, 110, 97, 114, 121, 45, 47]), (str [115, 121, 109, 98, 111, 108, 45, 110, 97, 109, 101]), (str [115, 121, 109, 98, 111, 108, 45, 112, 97, 99, 107, 97, 103, 101, 45, 110, 97, 109, 101]), (str [105, 110, 116, 101, 114, 110]), (str [115, 116, 114, 105, 110, 103, 45, 97, 112, 112, 101, 110, 100]), (str [115, 116, 114, 105, 110, 103, 45, 108, 101, 110, 103, 116, 104])]]
theorem AllP.app : ∀ {a b : List Prop}, AllP a → AllP b → AllP (a ++ b)
  | [], _, _, h => h
  | _ :: _, _, ⟨h, t⟩, h' => ⟨h, AllP.app t h'⟩
theorem mns_ok : AllP mns := ⟨mnew_str Tryz.underlying9 (by kernel_rfl), mnew_str Tryz.underlying9 (by kernel_rfl), mnew_str Tryz.underlying9 (by kernel_rfl), mnew_str Tryz.underlying9 (by kernel_rfl), mnew_str Tryz.underlying9 (by kernel_rfl), mnew_str Tryz.underlying9 (by kernel_rfl), mnew_str Tryz.underlying9 (by kernel_rfl), mnew_str Tryz.underlying9 (by kernel_rfl), mnew_str Tryz.underlying9 (by kernel_rfl), mnew_str Tryz.underlying9 (by kernel_rfl), mnew_str Tryz.underlying9 (by kernel_rfl), mnew_str Tryz.underlying9 (by kernel_rfl), mnew_str Tryz.underlying9 (by kernel_rfl), mnew_str Tryz.underlying9 (by kernel_rfl), mnew_str Tryz.underlying9 (by kernel_rfl), mnew_str Tryz.underlying9 (by kernel_rfl), trivial⟩
theorem p_oGd0 {x : Tr} (_hx : Arg x) {y : Tr} (_hy : Arg y) {z : Tr} (_hz : Arg z) : Puk 24 [syA lispB [105, 102], rowA [x, y, z]] (boA (Tr.gd 0 x y)) := pwalk (an := [.av (.tup [inA 3, boA true]), .no, .no, .no, .no]) (ls := []) (ps := Puk 15 [syA lispB [105, 102]] (.tup [inA 3, boA true]) :: (mns ++ [MFind Tryz.prog 9 (str [105, 102]) keysV none])) Tryz.func24 (by kernel_rfl) (by kernel_rfl) ⟨p_oAr0, AllP.app mns_ok ⟨mfind_str Tryz.underlying9 (by kernel_rfl), trivial⟩⟩
theorem p_oGd1 {x : Tr} (_hx : Arg x) {y : Tr} (_hy : Arg y) : Puk 24 [syA lispB [101, 113, 117, 97, 108], rowA [x, y]] (boA (Tr.gd 1 x y)) := pwalk (an := [.av (.tup [inA 2, boA true]), .no, .no, .no, .no]) (ls := []) (ps := Puk 15 [syA lispB [101, 113, 117, 97, 108]] (.tup [inA 2, boA true]) :: (mns ++ [MFind Tryz.prog 9 (str [101, 113, 117, 97, 108]) keysV none])) Tryz.func24 (by kernel_rfl) (by kernel_rfl) ⟨p_oAr1, AllP.app mns_ok ⟨mfind_str Tryz.underlying9 (by kernel_rfl), trivial⟩⟩
theorem p_oGd2 {x : Tr} (_hx : Arg x) {y : Tr} (_hy : Arg y) : Puk 24 [syA lispB [99, 111, 110, 115], rowA [x, y]] (boA (Tr.gd 2 x y)) := pwalk (an := [.av (.tup [inA 2, boA true]), .no, .no, .no, .no]) (ls := []) (ps := Puk 15 [syA lispB [99, 111, 110, 115]] (.tup [inA 2, boA true]) :: (mns ++ [MFind Tryz.prog 9 (str [99, 111, 110, 115]) keysV none])) Tryz.func24 (by kernel_rfl) (by kernel_rfl) ⟨p_oAr2, AllP.app mns_ok ⟨mfind_str Tryz.underlying9 (by kernel_rfl), trivial⟩⟩
theorem p_oGd3 {x : Tr} (_hx : Arg x) : Puk 24 [syA lispB [99, 97, 114], rowA [x]] (boA (Tr.gd 3 x nilT)) := by
  have h : Puk 24 [syA lispB [99, 97, 114], rowA [x]] (boA (!(!(x.isC || decide (x = nilT))))) := pwalk (an := [.av (.tup [inA 1, boA true]), .no, .no, .no, .av (inA 0), .av (boA (!(x.isC || decide (x = nilT))))]) (ls := []) (ps := Puk 15 [syA lispB [99, 97, 114]] (.tup [inA 1, boA true]) :: (mns ++ [MFind Tryz.prog 9 (str [99, 97, 114]) keysV (some 0), Puk 67 [rowA [x], .clf 68 [.pin [.clf 63 []]]] (boA (!(x.isC || decide (x = nilT))))])) Tryz.func24 (by kernel_rfl) (by kernel_rfl) ⟨p_oAr3, AllP.app mns_ok ⟨mfind_str Tryz.underlying9 (by kernel_rfl), p_cf1 (p_g7 (p_g4 x)), trivial⟩⟩
  exact h.b (by
    show (!(!(x.isC || decide (x = nilT)))) = ((x.isC || decide (x = nilT)))
    simp)
theorem p_oGd4 {x : Tr} (_hx : Arg x) : Puk 24 [syA lispB [99, 100, 114], rowA [x]] (boA (Tr.gd 4 x nilT)) := by
  have h : Puk 24 [syA lispB [99, 100, 114], rowA [x]] (boA (!(!(x.isC || decide (x = nilT))))) := pwalk (an := [.av (.tup [inA 1, boA true]), .no, .no, .no, .av (inA 1), .av (boA (!(x.isC || decide (x = nilT))))]) (ls := []) (ps := Puk 15 [syA lispB [99, 100, 114]] (.tup [inA 1, boA true]) :: (mns ++ [MFind Tryz.prog 9 (str [99, 100, 114]) keysV (some 1), Puk 67 [rowA [x], .clf 68 [.pin [.clf 63 []]]] (boA (!(x.isC || decide (x = nilT))))])) Tryz.func24 (by kernel_rfl) (by kernel_rfl) ⟨p_oAr4, AllP.app mns_ok ⟨mfind_str Tryz.underlying9 (by kernel_rfl), p_cf1 (p_g7 (p_g4 x)), trivial⟩⟩
  exact h.b (by
    show (!(!(x.isC || decide (x = nilT)))) = ((x.isC || decide (x = nilT)))
    simp)
theorem p_oGd5 {x : Tr} (_hx : Arg x) : Puk 24 [syA lispB [99, 111, 110, 115, 112], rowA [x]] (boA (Tr.gd 5 x nilT)) := pwalk (an := [.av (.tup [inA 1, boA true]), .no, .no, .no, .no]) (ls := []) (ps := Puk 15 [syA lispB [99, 111, 110, 115, 112]] (.tup [inA 1, boA true]) :: (mns ++ [MFind Tryz.prog 9 (str [99, 111, 110, 115, 112]) keysV none])) Tryz.func24 (by kernel_rfl) (by kernel_rfl) ⟨p_oAr5, AllP.app mns_ok ⟨mfind_str Tryz.underlying9 (by kernel_rfl), trivial⟩⟩
theorem p_oGd6 {x : Tr} (_hx : Arg x) : Puk 24 [syA lispB [115, 121, 109, 98, 111, 108, 112], rowA [x]] (boA (Tr.gd 6 x nilT)) := pwalk (an := [.av (.tup [inA 1, boA true]), .no, .no, .no, .no]) (ls := []) (ps := Puk 15 [syA lispB [115, 121, 109, 98, 111, 108, 112]] (.tup [inA 1, boA true]) :: (mns ++ [MFind Tryz.prog 9 (str [115, 121, 109, 98, 111, 108, 112]) keysV none])) Tryz.func24 (by kernel_rfl) (by kernel_rfl) ⟨p_oAr6, AllP.app mns_ok ⟨mfind_str Tryz.underlying9 (by kernel_rfl), trivial⟩⟩
theorem p_oGd7 {x : Tr} (_hx : Arg x) : Puk 24 [syA lispB [115, 116, 114, 105, 110, 103, 112], rowA [x]] (boA (Tr.gd 7 x nilT)) := pwalk (an := [.av (.tup [inA 1, boA true]), .no, .no, .no, .no]) (ls := []) (ps := Puk 15 [syA lispB [115, 116, 114, 105, 110, 103, 112]] (.tup [inA 1, boA true]) :: (mns ++ [MFind Tryz.prog 9 (str [115, 116, 114, 105, 110, 103, 112]) keysV none])) Tryz.func24 (by kernel_rfl) (by kernel_rfl) ⟨p_oAr7, AllP.app mns_ok ⟨mfind_str Tryz.underlying9 (by kernel_rfl), trivial⟩⟩
theorem p_oGd8 {x : Tr} (_hx : Arg x) : Puk 24 [syA lispB [114, 97, 116, 105, 111, 110, 97, 108, 112], rowA [x]] (boA (Tr.gd 8 x nilT)) := pwalk (an := [.av (.tup [inA 1, boA true]), .no, .no, .no, .no]) (ls := []) (ps := Puk 15 [syA lispB [114, 97, 116, 105, 111, 110, 97, 108, 112]] (.tup [inA 1, boA true]) :: (mns ++ [MFind Tryz.prog 9 (str [114, 97, 116, 105, 111, 110, 97, 108, 112]) keysV none])) Tryz.func24 (by kernel_rfl) (by kernel_rfl) ⟨p_oAr8, AllP.app mns_ok ⟨mfind_str Tryz.underlying9 (by kernel_rfl), trivial⟩⟩
theorem p_oGd9 {x : Tr} (_hx : Arg x) : Puk 24 [syA lispB [105, 110, 116, 101, 103, 101, 114, 112], rowA [x]] (boA (Tr.gd 9 x nilT)) := pwalk (an := [.av (.tup [inA 1, boA true]), .no, .no, .no, .no]) (ls := []) (ps := Puk 15 [syA lispB [105, 110, 116, 101, 103, 101, 114, 112]] (.tup [inA 1, boA true]) :: (mns ++ [MFind Tryz.prog 9 (str [105, 110, 116, 101, 103, 101, 114, 112]) keysV none])) Tryz.func24 (by kernel_rfl) (by kernel_rfl) ⟨p_oAr9, AllP.app mns_ok ⟨mfind_str Tryz.underlying9 (by kernel_rfl), trivial⟩⟩
theorem p_oGd10 {x : Tr} (_hx : Arg x) {y : Tr} (_hy : Arg y) : Puk 24 [syA lispB [98, 105, 110, 97, 114, 121, 45, 43], rowA [x, y]] (boA (Tr.gd 10 x y)) := by
  have h : Puk 24 [syA lispB [98, 105, 110, 97, 114, 121, 45, 43], rowA [x, y]] (boA (!(!x.isN || !y.isN))) := pwalk (an := [.av (.tup [inA 2, boA true]), .no, .no, .no, .av (inA 2), .av (boA (!x.isN || !y.isN))]) (ls := []) (ps := Puk 15 [syA lispB [98, 105, 110, 97, 114, 121, 45, 43]] (.tup [inA 2, boA true]) :: (mns ++ [MFind Tryz.prog 9 (str [98, 105, 110, 97, 114, 121, 45, 43]) keysV (some 2), Puk 67 [rowA [x, y], .clf 68 [.pin [.clf 60 []]]] (boA (!x.isN || !y.isN))])) Tryz.func24 (by kernel_rfl) (by kernel_rfl) ⟨p_oAr10, AllP.app mns_ok ⟨mfind_str Tryz.underlying9 (by kernel_rfl), p_cf2 (p_g7 (p_g1 x)) (p_g7 (p_g1 y)), trivial⟩⟩
  exact h.b (by
    show (!(!x.isN || !y.isN)) = (x.isN && y.isN)
    simp)
theorem p_oGd11 {x : Tr} (_hx : Arg x) {y : Tr} (_hy : Arg y) : Puk 24 [syA lispB [98, 105, 110, 97, 114, 121, 45, 42], rowA [x, y]] (boA (Tr.gd 11 x y)) := by
  have h : Puk 24 [syA lispB [98, 105, 110, 97, 114, 121, 45, 42], rowA [x, y]] (boA (!(!x.isN || !y.isN))) := pwalk (an := [.av (.tup [inA 2, boA true]), .no, .no, .no, .av (inA 3), .av (boA (!x.isN || !y.isN))]) (ls := []) (ps := Puk 15 [syA lispB [98, 105, 110, 97, 114, 121, 45, 42]] (.tup [inA 2, boA true]) :: (mns ++ [MFind Tryz.prog 9 (str [98, 105, 110, 97, 114, 121, 45, 42]) keysV (some 3), Puk 67 [rowA [x, y], .clf 68 [.pin [.clf 60 []]]] (boA (!x.isN || !y.isN))])) Tryz.func24 (by kernel_rfl) (by kernel_rfl) ⟨p_oAr11, AllP.app mns_ok ⟨mfind_str Tryz.underlying9 (by kernel_rfl), p_cf2 (p_g7 (p_g1 x)) (p_g7 (p_g1 y)), trivial⟩⟩
  exact h.b (by
    show (!(!x.isN || !y.isN)) = (x.isN && y.isN)
    simp)
theorem p_oGd12 {x : Tr} (_hx : Arg x) : Puk 24 [syA lispB [117, 110, 97, 114, 121, 45, 45], rowA [x]] (boA (Tr.gd 12 x nilT)) := by
  have h : Puk 24 [syA lispB [117, 110, 97, 114, 121, 45, 45], rowA [x]] (boA (!(!x.isN))) := pwalk (an := [.av (.tup [inA 1, boA true]), .no, .no, .no, .av (inA 4), .av (boA (!x.isN))]) (ls := []) (ps := Puk 15 [syA lispB [117, 110, 97, 114, 121, 45, 45]] (.tup [inA 1, boA true]) :: (mns ++ [MFind Tryz.prog 9 (str [117, 110, 97, 114, 121, 45, 45]) keysV (some 4), Puk 67 [rowA [x], .clf 68 [.pin [.clf 60 []]]] (boA (!x.isN))])) Tryz.func24 (by kernel_rfl) (by kernel_rfl) ⟨p_oAr12, AllP.app mns_ok ⟨mfind_str Tryz.underlying9 (by kernel_rfl), p_cf1 (p_g7 (p_g1 x)), trivial⟩⟩
  exact h.b (by
    show (!(!x.isN)) = (x.isN)
    simp)
theorem p_oGd13 {x : Tr} (_hx : Arg x) : Puk 24 [syA lispB [117, 110, 97, 114, 121, 45, 47], rowA [x]] (boA (Tr.gd 13 x nilT)) := by
  have h : Puk 24 [syA lispB [117, 110, 97, 114, 121, 45, 47], rowA [x]] (boA (!(!(x.isN && !decide (x.ob.num = [48]))))) := pwalk (an := [.av (.tup [inA 1, boA true]), .no, .no, .no, .av (inA 9), .av (boA (!(x.isN && !decide (x.ob.num = [48]))))]) (ls := []) (ps := Puk 15 [syA lispB [117, 110, 97, 114, 121, 45, 47]] (.tup [inA 1, boA true]) :: (mns ++ [MFind Tryz.prog 9 (str [117, 110, 97, 114, 121, 45, 47]) keysV (some 9), Puk 67 [rowA [x], .clf 68 [.pin [.clf 64 [.pin [.clf 60 []]]]]] (boA (!(x.isN && !decide (x.ob.num = [48]))))])) Tryz.func24 (by kernel_rfl) (by kernel_rfl) ⟨p_oAr13, AllP.app mns_ok ⟨mfind_str Tryz.underlying9 (by kernel_rfl), p_cf1 (p_g7 (p_g5 x)), trivial⟩⟩
  exact h.b (by
    show (!(!(x.isN && !decide (x.ob.num = [48])))) = ((x.isN && !decide (x.ob.num = [48])))
    simp)
theorem p_oGd14 {x : Tr} (_hx : Arg x) {y : Tr} (_hy : Arg y) : Puk 24 [syA lispB [60], rowA [x, y]] (boA (Tr.gd 14 x y)) := by
  have h : Puk 24 [syA lispB [60], rowA [x, y]] (boA (!(!x.isN || !y.isN))) := pwalk (an := [.av (.tup [inA 2, boA true]), .no, .no, .no, .av (inA 5), .av (boA (!x.isN || !y.isN))]) (ls := []) (ps := Puk 15 [syA lispB [60]] (.tup [inA 2, boA true]) :: (mns ++ [MFind Tryz.prog 9 (str [60]) keysV (some 5), Puk 67 [rowA [x, y], .clf 68 [.pin [.clf 60 []]]] (boA (!x.isN || !y.isN))])) Tryz.func24 (by kernel_rfl) (by kernel_rfl) ⟨p_oAr14, AllP.app mns_ok ⟨mfind_str Tryz.underlying9 (by kernel_rfl), p_cf2 (p_g7 (p_g1 x)) (p_g7 (p_g1 y)), trivial⟩⟩
  exact h.b (by
    show (!(!x.isN || !y.isN)) = (x.isN && y.isN)
    simp)
theorem p_oGd15 {x : Tr} (_hx : Arg x) : Puk 24 [syA lispB [110, 117, 109, 101, 114, 97, 116, 111, 114], rowA [x]] (boA (Tr.gd 15 x nilT)) := by
  have h : Puk 24 [syA lispB [110, 117, 109, 101, 114, 97, 116, 111, 114], rowA [x]] (boA (!(!x.isN))) := pwalk (an := [.av (.tup [inA 1, boA true]), .no, .no, .no, .av (inA 6), .av (boA (!x.isN))]) (ls := []) (ps := Puk 15 [syA lispB [110, 117, 109, 101, 114, 97, 116, 111, 114]] (.tup [inA 1, boA true]) :: (mns ++ [MFind Tryz.prog 9 (str [110, 117, 109, 101, 114, 97, 116, 111, 114]) keysV (some 6), Puk 67 [rowA [x], .clf 68 [.pin [.clf 60 []]]] (boA (!x.isN))])) Tryz.func24 (by kernel_rfl) (by kernel_rfl) ⟨p_oAr15, AllP.app mns_ok ⟨mfind_str Tryz.underlying9 (by kernel_rfl), p_cf1 (p_g7 (p_g1 x)), trivial⟩⟩
  exact h.b (by
    show (!(!x.isN)) = (x.isN)
    simp)
theorem p_oGd16 {x : Tr} (_hx : Arg x) : Puk 24 [syA lispB [100, 101, 110, 111, 109, 105, 110, 97, 116, 111, 114], rowA [x]] (boA (Tr.gd 16 x nilT)) := by
  have h : Puk 24 [syA lispB [100, 101, 110, 111, 109, 105, 110, 97, 116, 111, 114], rowA [x]] (boA (!(!x.isN))) := pwalk (an := [.av (.tup [inA 1, boA true]), .no, .no, .no, .av (inA 7), .av (boA (!x.isN))]) (ls := []) (ps := Puk 15 [syA lispB [100, 101, 110, 111, 109, 105, 110, 97, 116, 111, 114]] (.tup [inA 1, boA true]) :: (mns ++ [MFind Tryz.prog 9 (str [100, 101, 110, 111, 109, 105, 110, 97, 116, 111, 114]) keysV (some 7), Puk 67 [rowA [x], .clf 68 [.pin [.clf 60 []]]] (boA (!x.isN))])) Tryz.func24 (by kernel_rfl) (by kernel_rfl) ⟨p_oAr16, AllP.app mns_ok ⟨mfind_str Tryz.underlying9 (by kernel_rfl), p_cf1 (p_g7 (p_g1 x)), trivial⟩⟩
  exact h.b (by
    show (!(!x.isN)) = (x.isN)
    simp)
theorem p_oGd17 {x : Tr} (_hx : Arg x) : Puk 24 [syA lispB [102, 108, 111, 111, 114], rowA [x]] (boA (Tr.gd 17 x nilT)) := by
  have h : Puk 24 [syA lispB [102, 108, 111, 111, 114], rowA [x]] (boA (!(!x.isN))) := pwalk (an := [.av (.tup [inA 1, boA true]), .no, .no, .no, .av (inA 8), .av (boA (!x.isN))]) (ls := []) (ps := Puk 15 [syA lispB [102, 108, 111, 111, 114]] (.tup [inA 1, boA true]) :: (mns ++ [MFind Tryz.prog 9 (str [102, 108, 111, 111, 114]) keysV (some 8), Puk 67 [rowA [x], .clf 68 [.pin [.clf 60 []]]] (boA (!x.isN))])) Tryz.func24 (by kernel_rfl) (by kernel_rfl) ⟨p_oAr17, AllP.app mns_ok ⟨mfind_str Tryz.underlying9 (by kernel_rfl), p_cf1 (p_g7 (p_g1 x)), trivial⟩⟩
  exact h.b (by
    show (!(!x.isN)) = (x.isN)
    simp)
theorem p_oGd18 {x : Tr} (_hx : Arg x) : Puk 24 [syA lispB [115, 121, 109, 98, 111, 108, 45, 110, 97, 109, 101], rowA [x]] (boA (Tr.gd 18 x nilT)) := by
  have h : Puk 24 [syA lispB [115, 121, 109, 98, 111, 108, 45, 110, 97, 109, 101], rowA [x]] (boA (!(!x.isY))) := pwalk (an := [.av (.tup [inA 1, boA true]), .no, .no, .no, .av (inA 10), .av (boA (!x.isY))]) (ls := []) (ps := Puk 15 [syA lispB [115, 121, 109, 98, 111, 108, 45, 110, 97, 109, 101]] (.tup [inA 1, boA true]) :: (mns ++ [MFind Tryz.prog 9 (str [115, 121, 109, 98, 111, 108, 45, 110, 97, 109, 101]) keysV (some 10), Puk 67 [rowA [x], .clf 68 [.pin [.clf 61 []]]] (boA (!x.isY))])) Tryz.func24 (by kernel_rfl) (by kernel_rfl) ⟨p_oAr18, AllP.app mns_ok ⟨mfind_str Tryz.underlying9 (by kernel_rfl), p_cf1 (p_g7 (p_g2 x)), trivial⟩⟩
  exact h.b (by
    show (!(!x.isY)) = (x.isY)
    simp)
theorem p_oGd19 {x : Tr} (_hx : Arg x) : Puk 24 [syA lispB [115, 121, 109, 98, 111, 108, 45, 112, 97, 99, 107, 97, 103, 101, 45, 110, 97, 109, 101], rowA [x]] (boA (Tr.gd 19 x nilT)) := by
  have h : Puk 24 [syA lispB [115, 121, 109, 98, 111, 108, 45, 112, 97, 99, 107, 97, 103, 101, 45, 110, 97, 109, 101], rowA [x]] (boA (!(!x.isY))) := pwalk (an := [.av (.tup [inA 1, boA true]), .no, .no, .no, .av (inA 11), .av (boA (!x.isY))]) (ls := []) (ps := Puk 15 [syA lispB [115, 121, 109, 98, 111, 108, 45, 112, 97, 99, 107, 97, 103, 101, 45, 110, 97, 109, 101]] (.tup [inA 1, boA true]) :: (mns ++ [MFind Tryz.prog 9 (str [115, 121, 109, 98, 111, 108, 45, 112, 97, 99, 107, 97, 103, 101, 45, 110, 97, 109, 101]) keysV (some 11), Puk 67 [rowA [x], .clf 68 [.pin [.clf 61 []]]] (boA (!x.isY))])) Tryz.func24 (by kernel_rfl) (by kernel_rfl) ⟨p_oAr19, AllP.app mns_ok ⟨mfind_str Tryz.underlying9 (by kernel_rfl), p_cf1 (p_g7 (p_g2 x)), trivial⟩⟩
  exact h.b (by
    show (!(!x.isY)) = (x.isY)
    simp)
theorem p_oGd20 {x : Tr} (_hx : Arg x) {y : Tr} (_hy : Arg y) : Puk 24 [syA lispB [105, 110, 116, 101, 114, 110], rowA [x, y]] (boA (Tr.gd 20 x y)) := by
  have h : Puk 24 [syA lispB [105, 110, 116, 101, 114, 110], rowA [x, y]] (boA (!(!x.isT || !y.isT))) := pwalk (an := [.av (.tup [inA 2, boA true]), .no, .no, .no, .av (inA 12), .av (boA (!x.isT || !y.isT))]) (ls := []) (ps := Puk 15 [syA lispB [105, 110, 116, 101, 114, 110]] (.tup [inA 2, boA true]) :: (mns ++ [MFind Tryz.prog 9 (str [105, 110, 116, 101, 114, 110]) keysV (some 12), Puk 67 [rowA [x, y], .clf 68 [.pin [.clf 62 []]]] (boA (!x.isT || !y.isT))])) Tryz.func24 (by kernel_rfl) (by kernel_rfl) ⟨p_oAr20, AllP.app mns_ok ⟨mfind_str Tryz.underlying9 (by kernel_rfl), p_cf2 (p_g7 (p_g3 x)) (p_g7 (p_g3 y)), trivial⟩⟩
  exact h.b (by
    show (!(!x.isT || !y.isT)) = (x.isT && y.isT)
    simp)
theorem p_oGd21 {x : Tr} (_hx : Arg x) {y : Tr} (_hy : Arg y) : Puk 24 [syA lispB [115, 116, 114, 105, 110, 103, 45, 97, 112, 112, 101, 110, 100], rowA [x, y]] (boA (Tr.gd 21 x y)) := by
  have h : Puk 24 [syA lispB [115, 116, 114, 105, 110, 103, 45, 97, 112, 112, 101, 110, 100], rowA [x, y]] (boA (!(!x.isT || !y.isT))) := pwalk (an := [.av (.tup [inA 2, boA true]), .no, .no, .no, .av (inA 13), .av (boA (!x.isT || !y.isT))]) (ls := []) (ps := Puk 15 [syA lispB [115, 116, 114, 105, 110, 103, 45, 97, 112, 112, 101, 110, 100]] (.tup [inA 2, boA true]) :: (mns ++ [MFind Tryz.prog 9 (str [115, 116, 114, 105, 110, 103, 45, 97, 112, 112, 101, 110, 100]) keysV (some 13), Puk 67 [rowA [x, y], .clf 68 [.pin [.clf 62 []]]] (boA (!x.isT || !y.isT))])) Tryz.func24 (by kernel_rfl) (by kernel_rfl) ⟨p_oAr21, AllP.app mns_ok ⟨mfind_str Tryz.underlying9 (by kernel_rfl), p_cf2 (p_g7 (p_g3 x)) (p_g7 (p_g3 y)), trivial⟩⟩
  exact h.b (by
    show (!(!x.isT || !y.isT)) = (x.isT && y.isT)
    simp)
theorem p_oGd22 {x : Tr} (_hx : Arg x) : Puk 24 [syA lispB [115, 116, 114, 105, 110, 103, 45, 108, 101, 110, 103, 116, 104], rowA [x]] (boA (Tr.gd 22 x nilT)) := by
  have h : Puk 24 [syA lispB [115, 116, 114, 105, 110, 103, 45, 108, 101, 110, 103, 116, 104], rowA [x]] (boA (!(!x.isT))) := pwalk (an := [.av (.tup [inA 1, boA true]), .no, .no, .no, .av (inA 14), .av (boA (!x.isT))]) (ls := []) (ps := Puk 15 [syA lispB [115, 116, 114, 105, 110, 103, 45, 108, 101, 110, 103, 116, 104]] (.tup [inA 1, boA true]) :: (mns ++ [MFind Tryz.prog 9 (str [115, 116, 114, 105, 110, 103, 45, 108, 101, 110, 103, 116, 104]) keysV (some 14), Puk 67 [rowA [x], .clf 68 [.pin [.clf 62 []]]] (boA (!x.isT))])) Tryz.func24 (by kernel_rfl) (by kernel_rfl) ⟨p_oAr22, AllP.app mns_ok ⟨mfind_str Tryz.underlying9 (by kernel_rfl), p_cf1 (p_g7 (p_g3 x)), trivial⟩⟩
  exact h.b (by
    show (!(!x.isT)) = (x.isT)
    simp)
theorem p_oGd23 {x : Tr} (_hx : Arg x) {y : Tr} (hy : Arg y) : Puk 24 [syA lispB [115, 116, 114, 105, 110, 103, 45, 98, 121, 116, 101], rowA [x, y]] (boA (Tr.gd 23 x y)) := pwalk (an := [.av (.tup [inA 2, boA true]), .no, .no, .no, .no, .no, .av (.tup [inA (ixN x y), boA (x.ixV y).isSome])]) (ls := []) (ps := [Puk 15 [(syA lispB [115, 116, 114, 105, 110, 103, 45, 98, 121, 116, 101])] (.tup [(inA 2), (boA true)]), Puk 49 [(obA x.ob), (obA y.ob)] (.tup [(inA (ixN x y)), (boA ((x.ixV y).isSome))])]) Tryz.func24 (by kernel_rfl) (by kernel_rfl) ⟨p_oAr23, p_oIx x hy.ok (by decide), trivial⟩
theorem p_oGd24 {x : Tr} (hx : Arg x) : Puk 24 [syA lispB [98, 121, 116, 101, 45, 115, 116, 114, 105, 110, 103], rowA [x]] (boA (Tr.gd 24 x nilT)) := by
  have h : Puk 24 [syA lispB [98, 121, 116, 101, 45, 115, 116, 114, 105, 110, 103], rowA [x]] (boA (!(!x.octV.isSome))) := pwalk (an := [.av (.tup [inA 1, boA true]), .no, .no, .no, .av (inA 15), .av (boA (!x.octV.isSome))]) (ls := []) (ps := Puk 15 [syA lispB [98, 121, 116, 101, 45, 115, 116, 114, 105, 110, 103]] (.tup [inA 1, boA true]) :: (mns ++ [MFind Tryz.prog 9 (str [98, 121, 116, 101, 45, 115, 116, 114, 105, 110, 103]) keysV (some 15), Puk 67 [rowA [x], .clf 68 [.pin [.clf 65 []]]] (boA (!x.octV.isSome))])) Tryz.func24 (by kernel_rfl) (by kernel_rfl) ⟨p_oAr24, AllP.app mns_ok ⟨mfind_str Tryz.underlying9 (by kernel_rfl), p_cf1 (p_g7 (p_g6 hx.ok (by decide))), trivial⟩⟩
  exact h.b (by
    show (!(!x.octV.isSome)) = (x.octV.isSome)
    simp)
end Go.Proofs.YtmkcnjfhdfanoaaGreatDoor
/- The first check of chapter 7, and the law of the names. -/
namespace Go.Proofs.YtmkcnjfhdfanoaaGreatDoor
open Go.RowKit

abbrev iT (n : Int) : Tr := .num (n : Rat)
theorem iT_valid {n : Int} (h : n.natAbs < 10 ^ 100) : (iT n).valid = true := Tr.valid_int h
theorem f_a : Tr.apO 23 (.txt [97, 98]) (iT 1) nilT = some (iT 98) := by decide +kernel
theorem f_b : Tr.apO 13 (iT 0) nilT nilT = some (iT 0) := by decide +kernel
theorem f_p : Arg (.txt [97, 98]) := Tr.valid_arg (by decide +kernel)
theorem f_i {n : Int} (h : n.natAbs < 10 ^ 100) : Arg (iT n) := Tr.valid_arg (iT_valid h)
theorem f_g : Tr.gd 3 (iT 5) nilT = false := by decide +kernel
theorem p_first : Puk 12 [] (boA true) := pwalk (an := [.av (syA lispB [115, 116, 114, 105, 110, 103, 45, 98, 121, 116, 101]), .av (trA (.txt [97, 98])), .av (trA (iT 1)), .av (.tup [trA (iT 98), inA 0]), .av (syA lispB [117, 110, 97, 114, 121, 45, 47]), .av (trA (iT 0)), .av (.tup [trA (iT 0), inA 0]), .av (syA lispB [105, 102]), .av (.tup [inA 3, boA true]), .no, .no, .av (trA (iT 98)), yT, .av (trA (iT 0)), yT, .no, .av (syA lispB [99, 97, 114]), .av (trA (iT 5)), yF, .av (.dt (.row (primL.map srow))), .no, .no]) (ls := []) (ps := [Puk 33 [stA [115, 116, 114, 105, 110, 103, 45, 98, 121, 116, 101]] (syA lispB [115, 116, 114, 105, 110, 103, 45, 98, 121, 116, 101]), Puk 26 [stA [97, 98]] (trA (.txt [97, 98])), Puk 27 [inA 1] (trA (iT 1)), Puk 20 [syA lispB [115, 116, 114, 105, 110, 103, 45, 98, 121, 116, 101], rowA [.txt [97, 98], iT 1]] (.tup [trA (iT 98), inA 0]), Puk 33 [stA [117, 110, 97, 114, 121, 45, 47]] (syA lispB [117, 110, 97, 114, 121, 45, 47]), Puk 27 [inA 0] (trA (iT 0)), Puk 20 [syA lispB [117, 110, 97, 114, 121, 45, 47], rowA [iT 0]] (.tup [trA (iT 0), inA 0]), Puk 33 [stA [105, 102]] (syA lispB [105, 102]), Puk 15 [syA lispB [105, 102]] (.tup [inA 3, boA true]), Puk 27 [inA 98] (trA (iT 98)), Puk 22 [trA (iT 98), trA (iT 98)] (boA true), Puk 27 [inA 0] (trA (iT 0)), Puk 22 [trA (iT 0), trA (iT 0)] (boA true), Puk 33 [stA [99, 97, 114]] (syA lispB [99, 97, 114]), Puk 27 [inA 5] (trA (iT 5)), Puk 24 [syA lispB [99, 97, 114], rowA [iT 5]] (boA false), Puk 13 [] (.dt (.row (primL.map srow)))]) Tryz.func12 (by kernel_rfl) (by kernel_rfl) ⟨p_lisp _, p_rText _, p_rInt _ (by decide) (by decide), (p_oApp23 f_p (f_i (by decide))).r f_a, p_lisp _, p_rInt _ (by decide) (by decide), (p_oApp13 (f_i (by decide))).r f_b, p_lisp _, p_oAr0, p_rInt _ (by decide) (by decide), (p_rEq (iT 98) (Tr.valid_arg (iT_valid (by decide))).ok (by decide)).b (decide_eq_true rfl), p_rInt _ (by decide) (by decide), (p_rEq (iT 0) (Tr.valid_arg (iT_valid (by decide))).ok (by decide)).b (decide_eq_true rfl), p_lisp _, p_rInt _ (by decide) (by decide), (p_oGd3 (f_i (by decide))).b f_g, p_oNames, trivial⟩
end Go.Proofs.YtmkcnjfhdfanoaaGreatDoor
/- Chapter 7: the laws on raw trees. -/
namespace Go.Proofs.YtmkcnjfhdfanoaaGreatDoor
open Go.RowKit

theorem zO_wf : zO.Wf := .mk zO (by decide) (by decide) (Nat.zero_le _) (Nat.zero_le _) (Nat.zero_le _) (Nat.zero_le _) (Nat.zero_le _) (Nat.zero_le _) (fun x hx => by cases hx)
theorem p_rEqR (a : Ob) (h : a.Wf) : Puk 22 [obA a, obA a] (boA true) :=
  pk_oov (fnm Tryz.func22 rfl (by kernel_rfl)) fun _ _ _ _ _ _ _ _ _ h1 h2 => rEqual_yes h h1 h2
theorem ob_wf {o : Ob} (h : o = zO ∨ ∃ t : Tr, o = t.ob ∧ t.valid = true) : o.Wf := by
  rcases h with rfl | ⟨t, rfl, h⟩
  · exact zO_wf
  · exact (Tr.valid_arg h).ok.wf (by decide)
theorem fewAll_ok {l : List Raw} {m : Int} (h0 : 0 ≤ m) (h1 : m ≤ 700) (h : fewAllR l m = true) : l.length ≤ 8 ∧ (∀ r ∈ l, fewR r m = true) ∧ ∀ t ∈ l.map mkT, t.valid = true := by
  unfold fewAllR at h
  rw [Bool.and_eq_true] at h
  have h2 : ∀ r ∈ l, fewR r m = true := List.all_eq_true.1 h.2
  refine ⟨of_decide_eq_true h.1, h2, fun t ht => ?_⟩
  obtain ⟨r, hr, rfl⟩ := List.mem_map.1 ht
  exact mkT_valid h0 h1 (h2 r hr)
theorem beqT (a : Bool) : (a == a) = true := by cases a <;> rfl
theorem prim_le : ∀ x ∈ primL, x.2 ≤ 3 := by decide +kernel
theorem ar_le (n : Int) : (pickN n).2 ≤ 3 := prim_le _ (pick_mem n)
theorem take_valid {l : List Tr} (k : Nat) (h : ∀ t ∈ l, t.valid = true) : ∀ t ∈ l.take k, t.valid = true := fun t ht => h t (List.mem_of_mem_take ht)
theorem three {P : Tr → Prop} {a b c : Tr} (ha : P a) (hb : P b) (hc : P c) : ∀ t ∈ [a, b, c], P t := by
  intro t ht
  simp only [List.mem_cons, List.not_mem_nil, or_false] at ht
  rcases ht with rfl | rfl | rfl <;> assumption
theorem slc3 {l rs : List (List Dt)} {k : Nat} (hk : k ≤ l.length) (h : rs = l.take k) : SlcOK l 7 0 (k : Int) rs :=
  ⟨by omega, by omega, by omega, by rw [h, Int.toNat_natCast]; rfl, .inl rfl⟩
/-- trees that are small enough -/
structure Sml (t : Tr) : Prop where
  v : t.valid = true
  ok : t.Ok 4
  tx : t.tx.length ≤ 12
  sz : t.size ≤ 120
theorem Sml.mk' {r : Raw} {m : Int} (h0 : 0 ≤ m) (h1 : m ≤ 30) (h : fewR r m = true) : Sml (mkT r) := by
  have hf := fewR_fit h0 (by omega) h
  refine ⟨mkT_valid h0 (by omega) h, mkT_ok r hf, ?_, ?_⟩
  · have hs := hf.s
    rw [mkT_eq]
    unfold mkK
    split
    · exact Nat.zero_le _
    · split
      · exact Nat.zero_le _
      · split
        · exact Nat.zero_le _
        · split
          · exact hs
          · split
            · exact Nat.zero_le _
            · cases r.l.map mkT <;> exact Nat.zero_le _
  · have := mkT_len h0 (by omega) h
    omega
theorem nil_sml : Sml nilT := ⟨Tr.valid_nil, nilT_ok, Nat.zero_le _, by decide⟩
theorem ap_sml {x y z : Tr} (hx : Sml x) (hy : Sml y) (hz : Sml z) (i : Nat) : (Tr.ap i x y z).valid = true := by
  by_cases h2 : i = 2
  · subst h2
    have h3 := hx.sz
    have h4 := hy.sz
    exact Tr.valid_iff.2 ⟨by show x.size + y.size + 1 ≤ 3000; omega, by show (x.good && y.good) = true; rw [Tr.valid_good hx.v, Tr.valid_good hy.v]; rfl⟩
  by_cases h10 : i = 10
  · subst h10
    exact Tr.valid_num (((hx.ok.val (by decide)).add (hy.ok.val (by decide))).mono (by decide))
  by_cases h11 : i = 11
  · subst h11
    exact Tr.valid_num (((hx.ok.val (by decide)).mul (hy.ok.val (by decide))).mono (by decide))
  by_cases h21 : i = 21
  · subst h21
    have h3 := hx.tx
    have h4 := hy.tx
    exact Tr.valid_txt (by show (x.tx ++ y.tx).length ≤ 200; rw [List.length_append]; omega)
  exact Tr.ap_valid hx.v hy.v hz.v i h2 h10 h11 h21
theorem getD_sml {l : List Tr} (h : ∀ t ∈ l, Sml t) (i : Nat) : Sml (l.getD i nilT) := by
  rw [List.getD_eq_getElem?_getD]
  rcases Nat.lt_or_ge i l.length with h1 | h1
  · rw [List.getElem?_eq_getElem h1]
    exact h _ (List.getElem_mem h1)
  · rw [List.getElem?_eq_none h1]
    exact nil_sml
theorem p_valA {i a : Nat} {s : List UInt8} {l : List Tr} {t : Tr} (h : primL[i]? = some (s, a)) (hl : ∀ t ∈ l, t.valid = true) (hn : l.length = a) (hv : (Tr.apL i l).valid = true) (he : Tr.apL i l = t) : Puk 29 [stA s, rowA l] (trA t) := by
  subst he
  have h1 := (p_oAp h hl hn).r (kept_t hv)
  generalize Tr.apL i l = t at *
  exact pwalk (an := [.av (syA lispB s), .av (.tup [trA t, inA 0]), yF]) (ls := []) (ps := [Puk 33 [(stA s)] (syA lispB s), Puk 20 [(syA lispB s), (.dt (.row (List.map (fun t => encL t.ob) l)))] (.tup [(obA t.ob), (inA 0)]), Bn .neq 37 (.tmp 14) (.const (vi 0)) (vi 0) (vi 0) bF]) Tryz.func29 (by kernel_rfl) (by kernel_rfl) ⟨p_lisp s, h1, bin_ine (decide_eq_true rfl), trivial⟩
theorem one {P : Tr → Prop} {a : Tr} (ha : P a) : ∀ t ∈ [a], P t := by
  intro t ht
  rw [List.mem_singleton] at ht
  exact ht ▸ ha
theorem two {P : Tr → Prop} {a b : Tr} (ha : P a) (hb : P b) : ∀ t ∈ [a, b], P t := by
  intro t ht
  simp only [List.mem_cons, List.not_mem_nil, or_false] at ht
  rcases ht with rfl | rfl <;> assumption
/-- value of one argument -/
theorem p_val1 {i : Nat} {s : List UInt8} {x t : Tr} (h : primL[i]? = some (s, 1)) (hx : x.valid = true) (hi : i ≠ 2 ∧ i ≠ 10 ∧ i ≠ 11 ∧ i ≠ 21) (he : Tr.ap i x nilT nilT = t) : Puk 29 [stA s, rowA [x]] (trA t) :=
  p_valA h (one (P := fun t => t.valid = true) hx) rfl (Tr.ap_valid hx Tr.valid_nil Tr.valid_nil i hi.1 hi.2.1 hi.2.2.1 hi.2.2.2) he
theorem p_val2 {i : Nat} {s : List UInt8} {x y t : Tr} (h : primL[i]? = some (s, 2)) (hx : x.valid = true) (hy : y.valid = true) (hv : (Tr.ap i x y nilT).valid = true) (he : Tr.ap i x y nilT = t) : Puk 29 [stA s, rowA [x, y]] (trA t) :=
  p_valA h (two (P := fun t => t.valid = true) hx hy) rfl hv he
theorem p_rEqT {a : Tr} (h : a.valid = true) : Puk 22 [trA a, trA a] (boA true) := p_rEqR a.ob ((Tr.valid_arg h).ok.wf (by decide))
end Go.Proofs.YtmkcnjfhdfanoaaGreatDoor
/- A law that was walked, as a contract of the machine. -/
namespace Go.Proofs.YtmkcnjfhdfanoaaGreatDoor
open Go.RowKit

theorem Puk.law {f : FuncId} {args : List AV} (h : Puk f args (boA true)) {ok : Nat → Prop} {W : World} {vs : List Value} (hG : Gx W) (hv : RL (M0 ok) W args vs) : Calls Tryz.prog f vs.toArray W fun e W' => e = .returned (.bool true) ∧ Below W.heap.size W W' :=
  (h.2 ok W vs hG hv).mono fun e W' ⟨v, he, hb, hr⟩ => ⟨by rw [he, Rd.val_eq hr], hb⟩
abbrev Says (f : FuncId) (args : Array Value) (W : World) : Prop := Calls Tryz.prog f args W fun e W' => e = .returned (.bool true) ∧ Below W.heap.size W W'
end Go.Proofs.YtmkcnjfhdfanoaaGreatDoor
