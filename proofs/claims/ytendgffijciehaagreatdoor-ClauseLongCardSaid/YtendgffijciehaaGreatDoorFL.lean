/- Entries of worlds as rows: Macro, place, Function and Arity of the reference, the translator's arity and spend. -/
import Derived.Test.YtendgffijciehaaGreatDoorFK
import Derived.Test.YtendgffijciehaaGreatDoorFI
import Derived.Test.YtendgffijciehaaGreatDoorFJ
namespace Go.Proofs.YtendgffijciehaaGreatDoor
open Go.RowKit

abbrev lrow (n : List UInt8) : List Dt := [.val (str lispB), .val (str n)]
/-- a function -/
abbrev encF (f : Rdr.Fnc) : List Dt := [.val (str lispB), .val (str f.nm), .row (f.ps.map lrow), .val (.int .i64 1), .val (.int .i64 f.guard.kind), .val (str f.guard.np), .val (str f.guard.nn), .val (.int .i64 f.guard.val.kind), .val (str f.guard.val.num), .val (str f.guard.val.den), .val (str f.guard.val.sp), .val (str f.guard.val.sn), .val (str f.guard.val.text), .row (f.guard.val.pair.map Ob.enc), .row (f.guard.args.map Te.enc), .val (.int .i64 f.body.kind), .val (str f.body.np), .val (str f.body.nn), .val (.int .i64 f.body.val.kind), .val (str f.body.val.num), .val (str f.body.val.den), .val (str f.body.val.sp), .val (str f.body.val.sn), .val (str f.body.val.text), .row (f.body.val.pair.map Ob.enc), .row (f.body.args.map Te.enc), .val (.int .i64 f.measure.kind), .val (str f.measure.np), .val (str f.measure.nn), .val (.int .i64 f.measure.val.kind), .val (str f.measure.val.num), .val (str f.measure.val.den), .val (str f.measure.val.sp), .val (str f.measure.val.sn), .val (str f.measure.val.text), .row (f.measure.val.pair.map Ob.enc), .row (f.measure.args.map Te.enc)]
/-- an entry of a function -/
abbrev encE (f : Rdr.Fnc) : List Dt := [.val (.int .i64 3), .val (str lispB), .val (str f.nm), .val (str []), .row [], .val (str []), .val (str []), .row [], .val (.bool false), .val (.int .i64 0), .val (str []), .val (str []), .val (.int .i64 0), .val (str []), .val (str []), .val (str []), .val (str []), .val (str []), .row [], .row [], .row [encF f], .row [], .row [], .row [], .val (str []), .val (str []), .row [], .row [], .row [], .row [], .val (str []), .val (.int .u64 0)]
/-- an entry of a package -/
abbrev encP (is : List (List Dt)) : List Dt := [.val (.int .i64 1), .val (str lispB), .val (str [117, 115, 101, 114, 45, 112, 97, 99, 107, 97, 103, 101]), .val (str [117, 115, 101, 114]), .row is, .val (str []), .val (str []), .row [], .val (.bool false), .val (.int .i64 0), .val (str []), .val (str []), .val (.int .i64 0), .val (str []), .val (str []), .val (str []), .val (str []), .val (str []), .row [], .row [], .row [], .row [], .row [], .row [], .val (str []), .val (str []), .row [], .row [], .row [], .row [], .val (str []), .val (.int .u64 0)]
theorem ix_E {ws : List Rdr.Fnc} {r : List (List Dt)} {i : Nat} {f : Rdr.Fnc} (h : ws[i]? = some f) : IxAt (ws.map encE ++ r) (i : Int) 32 (encE f) := ⟨Int.natCast_nonneg _, by
  have hl := (List.getElem?_eq_some_iff.1 h).1
  rw [Int.toNat_natCast, List.getElem?_append_left (by rw [List.length_map]; exact hl), List.getElem?_map, h]
  rfl, rfl⟩
theorem lenN (l : List (List UInt8)) : Value.int .i64 (l.length : Int) = Value.int .i64 ((l.map lrow).length : Int) := by rw [List.length_map]
theorem p_rArU {n : List UInt8} (hn : ∀ x ∈ primL, n ≠ x.1) : Puk 127 [syA lispB n] (.tup [inA 0, boA false]) := pwalk (an := [.no, .av (.dt (.row (primL.map rrow))), .no, .no, .no, yF, .no, .no, .no, .no, yF, .no, .no, .no, .no, yF, .no, .no, .no, .no, yF, .no, .no, .no, .no, yF, .no, .no, .no, .no, yF, .no, .no, .no, .no, yF, .no, .no, .no, .no, yF, .no, .no, .no, .no, yF, .no, .no, .no, .no, yF, .no, .no, .no, .no, yF, .no, .no, .no, .no, yF, .no, .no, .no, .no, yF, .no, .no, .no, .no, yF, .no, .no, .no, .no, yF, .no, .no, .no, .no, yF, .no, .no, .no, .no, yF, .no, .no, .no, .no, yF, .no, .no, .no, .no, yF, .no, .no, .no, .no, yF, .no, .no, .no, .no, yF, .no, .no, .no, .no, yF, .no, .no, .no, .no, yF, .no, .no, .no, .no, yF, .no, .no, .no, .no, yF, .no]) (ls := []) (ps := [Puk 122 [] (.dt (.row (List.map rrow primL))), Bn .eql 9 (.tmp 20) (.tmp 22) (str ([105, 102], 3).fst) (str n) bF, Bn .eql 9 (.tmp 20) (.tmp 22) (str ([101, 113, 117, 97, 108], 2).fst) (str n) bF, Bn .eql 9 (.tmp 20) (.tmp 22) (str ([99, 111, 110, 115], 2).fst) (str n) bF, Bn .eql 9 (.tmp 20) (.tmp 22) (str ([99, 97, 114], 1).fst) (str n) bF, Bn .eql 9 (.tmp 20) (.tmp 22) (str ([99, 100, 114], 1).fst) (str n) bF, Bn .eql 9 (.tmp 20) (.tmp 22) (str ([99, 111, 110, 115, 112], 1).fst) (str n) bF, Bn .eql 9 (.tmp 20) (.tmp 22) (str ([115, 121, 109, 98, 111, 108, 112], 1).fst) (str n) bF, Bn .eql 9 (.tmp 20) (.tmp 22) (str ([115, 116, 114, 105, 110, 103, 112], 1).fst) (str n) bF, Bn .eql 9 (.tmp 20) (.tmp 22) (str ([114, 97, 116, 105, 111, 110, 97, 108, 112], 1).fst) (str n) bF, Bn .eql 9 (.tmp 20) (.tmp 22) (str ([105, 110, 116, 101, 103, 101, 114, 112], 1).fst) (str n) bF, Bn .eql 9 (.tmp 20) (.tmp 22) (str ([98, 105, 110, 97, 114, 121, 45, 43], 2).fst) (str n) bF, Bn .eql 9 (.tmp 20) (.tmp 22) (str ([98, 105, 110, 97, 114, 121, 45, 42], 2).fst) (str n) bF, Bn .eql 9 (.tmp 20) (.tmp 22) (str ([117, 110, 97, 114, 121, 45, 45], 1).fst) (str n) bF, Bn .eql 9 (.tmp 20) (.tmp 22) (str ([117, 110, 97, 114, 121, 45, 47], 1).fst) (str n) bF, Bn .eql 9 (.tmp 20) (.tmp 22) (str ([60], 2).fst) (str n) bF, Bn .eql 9 (.tmp 20) (.tmp 22) (str ([110, 117, 109, 101, 114, 97, 116, 111, 114], 1).fst) (str n) bF, Bn .eql 9 (.tmp 20) (.tmp 22) (str ([100, 101, 110, 111, 109, 105, 110, 97, 116, 111, 114], 1).fst) (str n) bF, Bn .eql 9 (.tmp 20) (.tmp 22) (str ([102, 108, 111, 111, 114], 1).fst) (str n) bF, Bn .eql 9 (.tmp 20) (.tmp 22) (str ([115, 121, 109, 98, 111, 108, 45, 110, 97, 109, 101], 1).fst) (str n) bF, Bn .eql 9 (.tmp 20) (.tmp 22) (str ([115, 121, 109, 98, 111, 108, 45, 112, 97, 99, 107, 97, 103, 101, 45, 110, 97, 109, 101], 1).fst) (str n) bF, Bn .eql 9 (.tmp 20) (.tmp 22) (str ([105, 110, 116, 101, 114, 110], 2).fst) (str n) bF, Bn .eql 9 (.tmp 20) (.tmp 22) (str ([115, 116, 114, 105, 110, 103, 45, 97, 112, 112, 101, 110, 100], 2).fst) (str n) bF, Bn .eql 9 (.tmp 20) (.tmp 22) (str ([115, 116, 114, 105, 110, 103, 45, 108, 101, 110, 103, 116, 104], 1).fst) (str n) bF, Bn .eql 9 (.tmp 20) (.tmp 22) (str ([115, 116, 114, 105, 110, 103, 45, 98, 121, 116, 101], 2).fst) (str n) bF, Bn .eql 9 (.tmp 20) (.tmp 22) (str ([98, 121, 116, 101, 45, 115, 116, 114, 105, 110, 103], 1).fst) (str n) bF]) Tryz.func127 (by kernel_rfl) (by kernel_rfl) ⟨p_rows, bin_seq (decide_eq_false (Ne.symm (hn ([105, 102], 3) (by decide)))), bin_seq (decide_eq_false (Ne.symm (hn ([101, 113, 117, 97, 108], 2) (by decide)))), bin_seq (decide_eq_false (Ne.symm (hn ([99, 111, 110, 115], 2) (by decide)))), bin_seq (decide_eq_false (Ne.symm (hn ([99, 97, 114], 1) (by decide)))), bin_seq (decide_eq_false (Ne.symm (hn ([99, 100, 114], 1) (by decide)))), bin_seq (decide_eq_false (Ne.symm (hn ([99, 111, 110, 115, 112], 1) (by decide)))), bin_seq (decide_eq_false (Ne.symm (hn ([115, 121, 109, 98, 111, 108, 112], 1) (by decide)))), bin_seq (decide_eq_false (Ne.symm (hn ([115, 116, 114, 105, 110, 103, 112], 1) (by decide)))), bin_seq (decide_eq_false (Ne.symm (hn ([114, 97, 116, 105, 111, 110, 97, 108, 112], 1) (by decide)))), bin_seq (decide_eq_false (Ne.symm (hn ([105, 110, 116, 101, 103, 101, 114, 112], 1) (by decide)))), bin_seq (decide_eq_false (Ne.symm (hn ([98, 105, 110, 97, 114, 121, 45, 43], 2) (by decide)))), bin_seq (decide_eq_false (Ne.symm (hn ([98, 105, 110, 97, 114, 121, 45, 42], 2) (by decide)))), bin_seq (decide_eq_false (Ne.symm (hn ([117, 110, 97, 114, 121, 45, 45], 1) (by decide)))), bin_seq (decide_eq_false (Ne.symm (hn ([117, 110, 97, 114, 121, 45, 47], 1) (by decide)))), bin_seq (decide_eq_false (Ne.symm (hn ([60], 2) (by decide)))), bin_seq (decide_eq_false (Ne.symm (hn ([110, 117, 109, 101, 114, 97, 116, 111, 114], 1) (by decide)))), bin_seq (decide_eq_false (Ne.symm (hn ([100, 101, 110, 111, 109, 105, 110, 97, 116, 111, 114], 1) (by decide)))), bin_seq (decide_eq_false (Ne.symm (hn ([102, 108, 111, 111, 114], 1) (by decide)))), bin_seq (decide_eq_false (Ne.symm (hn ([115, 121, 109, 98, 111, 108, 45, 110, 97, 109, 101], 1) (by decide)))), bin_seq (decide_eq_false (Ne.symm (hn ([115, 121, 109, 98, 111, 108, 45, 112, 97, 99, 107, 97, 103, 101, 45, 110, 97, 109, 101], 1) (by decide)))), bin_seq (decide_eq_false (Ne.symm (hn ([105, 110, 116, 101, 114, 110], 2) (by decide)))), bin_seq (decide_eq_false (Ne.symm (hn ([115, 116, 114, 105, 110, 103, 45, 97, 112, 112, 101, 110, 100], 2) (by decide)))), bin_seq (decide_eq_false (Ne.symm (hn ([115, 116, 114, 105, 110, 103, 45, 108, 101, 110, 103, 116, 104], 1) (by decide)))), bin_seq (decide_eq_false (Ne.symm (hn ([115, 116, 114, 105, 110, 103, 45, 98, 121, 116, 101], 2) (by decide)))), bin_seq (decide_eq_false (Ne.symm (hn ([98, 121, 116, 101, 45, 115, 116, 114, 105, 110, 103], 1) (by decide)))), trivial⟩
theorem p_funs (f : Rdr.Fnc) : Puk 153 [.agg ((encE f).map .dt)] (.dt (.row [encF f])) :=
  pwalk (an := [.no]) (ls := []) (ps := []) Tryz.func153 (by kernel_rfl) (by kernel_rfl) trivial
/- place -/
abbrev plS (es : List (List Dt)) (n : List UInt8) (i : Int) : AS := ⟨stt 36 [(0, .dt (.row es)), (3, .ptr 0 0), (7, inA i)], [some (.cells [stA lispB, stA n])]⟩
abbrev plR (n : List UInt8) (i : Int) : AS := ⟨stt 36 [(4, inA i), (5, inA 0), (6, boA true)], [some (.cells [stA lispB, stA n])]⟩
noncomputable abbrev plB : Code := subC (bodyOf Tryz.f152) [1,0,1,0,0]
theorem plB1 {es : List (List Dt)} {n : List UInt8} {i : Nat} {f : Rdr.Fnc} (h : IxAt es (i : Int) 32 (encE f)) (hi : i < es.length) (hl : es.length ≤ 1000) (hn : (decide (f.nm = n)) = false) : Tri EX plB (plS es n i) .nxt (plS es n ((i + 1 : Nat) : Int)) :=
  twalk (c := subC (bodyOf Tryz.f152) [1,0,1,0,0]) (s := plS es n i) (an := [.av (inA es.length), yT, .av (.pin ((encE f).map .dt)), .av (.dt (.row [encF f])), .no, .no, .no, yF, .no, .no, .no, .av (inA ((i + 1 : Nat) : Int))]) (ls := [.run 2]) (ft := [0,3,7]) (nb := 1) (e := .nxt) (s' := plS es n ((i + 1 : Nat) : Int)) (ps := [(vi ↑es.length) = (vi ↑es.length), Bn .lss 3 (.tmp 10) (.tmp 12) (vi ↑i) (vi ↑es.length) bT, IxAt es ↑i 32 (encE f), Puk 153 [(.agg ((encE f).map .dt))] (.dt (.row [encF f])), Bn .eql 32 (.tmp 31) (.tmp 32) (Value.agg #[str lispB, str f.nm]) (Value.agg #[str lispB, str n]) bF, Bn .add 3 (.tmp 14) (.const (vi 1)) (vi ↑i) (vi 1) (vi (↑(i + 1)))]) (by kernel_rfl)
    ⟨rfl, bin_ilt (decide_eq_true (by omega)), h, p_funs f, bin_syeq (by rw [hn]; rfl), bin_iadd (by omega) (by omega) (by omega), trivial⟩
theorem plB2 {es : List (List Dt)} {n : List UInt8} {i : Nat} {f : Rdr.Fnc} (h : IxAt es (i : Int) 32 (encE f)) (hi : i < es.length) (hn : f.nm = n) : Tri EX plB (plS es n i) .ret (plR n i) :=
  twalk (c := subC (bodyOf Tryz.f152) [1,0,1,0,0]) (s := plS es n i) (an := [.av (inA es.length), yT, .av (.pin ((encE f).map .dt)), .av (.dt (.row [encF f])), .no, .no, .no, yT]) (ls := [.run 2]) (ft := [4,5,6]) (nb := 1) (e := .ret) (s' := plR n i) (ps := [(vi ↑es.length) = (vi ↑es.length), Bn .lss 3 (.tmp 10) (.tmp 12) (vi ↑i) (vi ↑es.length) bT, IxAt es ↑i 32 (encE f), Puk 153 [(.agg ((encE f).map .dt))] (.dt (.row [encF f])), Bn .eql 32 (.tmp 31) (.tmp 32) (Value.agg #[str lispB, str f.nm]) (Value.agg #[str lispB, str n]) bT]) (by kernel_rfl)
    ⟨rfl, bin_ilt (decide_eq_true (by omega)), h, p_funs f, bin_syeq (by rw [decide_eq_true hn]; rfl), trivial⟩
theorem pl_loop {ws : List Rdr.Fnc} {r : List (List Dt)} {n : List UInt8} {f : Rdr.Fnc} (hl : (ws.map encE ++ r).length ≤ 1000) : ∀ (s : List Rdr.Fnc) (i : Nat), ws.drop i = s → (s.find? fun f => f.nm == n) = some f → ∃ j : Nat, ws[j]? = some f ∧ Lps EX plB (plS (ws.map encE ++ r) n i) .ret (plR n j) := by
  intro s
  induction s with
  | nil => intro i _ h; cases h
  | cons x s ih =>
    intro i hd h
    have hx : ws[i]? = some x := by rw [← List.head?_drop, hd]; rfl
    have hlt := (List.getElem?_eq_some_iff.1 hx).1
    have hi : i < (ws.map encE ++ r).length := by rw [List.length_append, List.length_map]; omega
    rw [List.find?_cons] at h
    split at h
    · rename_i e
      cases h
      exact ⟨i, hx, .stop (plB2 (ix_E hx) hi (by simpa using e)) (fun h => by cases h)⟩
    · rename_i e
      obtain ⟨j, k1, k2⟩ := ih (i + 1) (by rw [← List.drop_drop, hd]; rfl) h
      exact ⟨j, k1, .more (plB1 (ix_E hx) hi hl (decide_eq_false (by simpa using e))) k2⟩
theorem w_Func {es : List (List Dt)} {n : List UInt8} {j : Nat} {f : Rdr.Fnc} (ht : Puk 152 [.dt (.row es), syA lispB n] (.tup [inA j, inA 0, boA true])) (h : IxAt es (j : Int) 32 (encE f)) : Puk 128 [.dt (.row es), syA lispB n] (.tup [.agg ((encF f).map .dt), boA true]) :=
  pwalk (an := [.av (.tup [inA j, inA 0, boA true]), .av (.pin ((encE f).map .dt)), .av (.dt (.row [encF f])), .no]) (ls := []) (ps := [Puk 152 [(.dt (.row es)), (syA lispB n)] (.tup [(inA ↑j), (inA 0), (boA true)]), IxAt es ↑j 32 (encE f), Puk 153 [(.agg ((encE f).map .dt))] (.dt (.row [encF f]))]) Tryz.func128 (by kernel_rfl) (by kernel_rfl) ⟨ht, h, p_funs f, trivial⟩
/-- a function of a world -/
theorem p_Func {ws : List Rdr.Fnc} {r : List (List Dt)} {n : List UInt8} {f : Rdr.Fnc} (hl : (ws.map encE ++ r).length ≤ 1000) (hf : (ws.find? fun f => f.nm == n) = some f) : Puk 128 [.dt (.row (ws.map encE ++ r)), syA lispB n] (.tup [.agg ((encF f).map .dt), boA true]) := by
  obtain ⟨j, hj, h⟩ := pl_loop (r := r) hl ws 0 rfl hf
  have ht := h.tri
  refine w_Func (j := j) ?_ (ix_E hj)
  generalize ws.map encE ++ r = es at *
  exact pwalk (an := []) (ls := [.inv [0,3,7] 1 (.ret) (plR n j)]) (ps := [Tri EX (.loop (subC (bodyOf Tryz.f152) [1,0,1,0,0])) (plS es n 0) (.ret) (plR n j)]) Tryz.func152 (by kernel_rfl) (by kernel_rfl) ⟨ht, trivial⟩
theorem w_Ari {es : List (List Dt)} {n : List UInt8} {f : Rdr.Fnc} (h1 : Puk 127 [syA lispB n] (.tup [inA 0, boA false])) (h2 : Puk 128 [.dt (.row es), syA lispB n] (.tup [.agg ((encF f).map .dt), boA true])) : Puk 104 [.dt (.row es), syA lispB n] (.tup [inA f.ps.length, boA true]) :=
  pwalk (an := [.av (.tup [inA 0, boA false]), .av (.tup [.agg ((encF f).map .dt), boA true]), .av (inA f.ps.length)]) (ls := []) (ps := [Puk 127 [(syA lispB n)] (.tup [(inA 0), (boA false)]), Puk 128 [(.dt (.row es)), (syA lispB n)] (.tup [(.agg ((encF f).map .dt)), (boA true)]), (vi ↑f.ps.length) = (vi (↑(List.map lrow f.ps).length))]) Tryz.func104 (by kernel_rfl) (by kernel_rfl) ⟨h1, h2, lenN _, trivial⟩
theorem w_AriP {es : List (List Dt)} {n : List UInt8} {k : Nat} (h1 : Puk 127 [syA lispB n] (.tup [inA k, boA true])) : Puk 104 [.dt (.row es), syA lispB n] (.tup [inA k, boA true]) :=
  pwalk (an := [.av (.tup [inA k, boA true])]) (ls := []) (ps := [Puk 127 [(syA lispB n)] (.tup [(inA ↑k), (boA true)])]) Tryz.func104 (by kernel_rfl) (by kernel_rfl) ⟨h1, trivial⟩
/-- arities of primitives and of a world's functions -/
def ariW (ws : List Rdr.Fnc) (n : List UInt8) : Option Nat := match Rdr.prim primL n with
  | some k => some k
  | none => (ws.find? fun f => f.nm == n).map (·.ps.length)
theorem p_AriW {ws : List Rdr.Fnc} {r : List (List Dt)} {n : List UInt8} {k : Nat} (hl : (ws.map encE ++ r).length ≤ 1000) (h : ariW ws n = some k) : Puk 104 [.dt (.row (ws.map encE ++ r)), syA lispB n] (.tup [inA (k : Int), boA true]) := by
  unfold ariW Rdr.prim at h
  split at h
  · rename_i k' hp
    cases h
    rw [Option.map_eq_some_iff] at hp
    obtain ⟨x, hx, rfl⟩ := hp
    have e := List.find?_some hx
    have hm := List.mem_of_find?_eq_some hx
    obtain ⟨i, hi⟩ := List.mem_iff_getElem?.1 hm
    obtain ⟨s, a⟩ := x
    have e : s = n := by simpa using e
    subst e
    exact w_AriP (p_rAri hi)
  · rename_i hp
    rw [Option.map_eq_some_iff] at h
    obtain ⟨f, hf, rfl⟩ := h
    rw [Option.map_eq_none_iff, List.find?_eq_none] at hp
    exact w_Ari (p_rArU fun x hx e => hp x hx (by simp [e])) (p_Func hl hf)
/- macros: there are none -/
abbrev mac0 : AV := .agg [stA [], stA [], .nil, boA false, inA 0, stA [], stA [], inA 0, stA [], stA [], stA [], stA [], stA [], .nil, .nil]
/-- a function that is handed no boxes and returns nothing that lies in memory -/
theorem SOK.pure {P : Program} {G : World → Prop} {f : FuncId} {args : List AV} {r : AV} (hG : ∀ w w', G w → Below w.heap.size w w' → G w') (h : SOK P G f args [] r []) (hr : r.scal = true) : PureOK P G f args r :=
  ⟨h.1, fun ok w vs hw ha => by
    refine (h.2 (fun _ => False) (M0 fun b => ok b ∧ b < w.heap.size) w vs (fun w' hb => hG w w' hw hb.below) ?_ (RL.flatter (fun b hb hl => ⟨hb, hl⟩) ha)).mono ?_
    · have nobx : ∀ b x, lk [] b ≠ some x := fun b x h => by simp [lk] at h
      exact ⟨fun b x h => absurd h (nobx b x), fun b x _ h => absurd h (nobx b x), fun b _ x _ _ h => absurd h (nobx b x), (fun b g h => by cases h), (fun b v h => by cases h), fun b hb => hb.2⟩
    · rintro e w' ⟨v, M', h1, h2, _, _, h5⟩
      exact ⟨v, h1, h2.below.below, RV.scal _ _ hr h5⟩⟩
abbrev mcX (p n : List UInt8) : List (Option Bx) := [some (.cells [stA p, stA n]), some (.cells [stA [], stA [], .nil, boA false, inA 0, stA [], stA [], inA 0, stA [], stA [], stA [], stA [], stA [], .nil, .nil])]
abbrev mcS (es : List (List Dt)) (p n : List UInt8) (i : Int) : AS := ⟨stt 35 [(0, .dt (.row es)), (3, .ptr 0 0), (4, .ptr 1 0), (6, inA i)], mcX p n⟩
noncomputable abbrev mcB : Code := subC (bodyOf Tryz.f145) [1,0,1,0,0]
theorem mcB1 {es : List (List Dt)} {p n : List UInt8} {i : Nat} {f : Rdr.Fnc} (h : IxAt es (i : Int) 32 (encE f)) (hi : i < es.length) (hl : es.length ≤ 1000) : Tri EX mcB (mcS es p n i) .nxt (mcS es p n ((i + 1 : Nat) : Int)) :=
  twalk (c := subC (bodyOf Tryz.f145) [1,0,1,0,0]) (s := mcS es p n i) (an := [.av (inA es.length), yT, .av (.pin ((encE f).map .dt)), .no, .av (inA ((i + 1 : Nat) : Int))]) (ls := []) (ft := [0,3,4,6]) (nb := 2) (e := .nxt) (s' := mcS es p n ((i + 1 : Nat) : Int)) (ps := [(vi ↑es.length) = (vi ↑es.length), Bn .lss 3 (.tmp 7) (.tmp 9) (vi ↑i) (vi ↑es.length) bT, IxAt es ↑i 32 (encE f), Bn .add 3 (.tmp 11) (.const (vi 1)) (vi ↑i) (vi 1) (vi (↑(i + 1)))]) (by kernel_rfl)
    ⟨rfl, bin_ilt (decide_eq_true (by omega)), h, bin_iadd (by omega) (by omega) (by omega), trivial⟩
theorem mcB2 {es : List (List Dt)} {p n : List UInt8} {i : Nat} (hi : i = es.length) : Tri EX mcB (mcS es p n i) (.out 0) (mcS es p n i) :=
  twalk (c := subC (bodyOf Tryz.f145) [1,0,1,0,0]) (s := mcS es p n i) (an := [.av (inA es.length), yF]) (ls := []) (ft := [0,3,4,6]) (nb := 2) (e := .out 0) (s' := mcS es p n i) (ps := [(vi ↑es.length) = (vi ↑es.length), Bn .lss 3 (.tmp 7) (.tmp 9) (vi ↑i) (vi ↑es.length) bF]) (by kernel_rfl)
    ⟨rfl, bin_ilt (decide_eq_false (by omega)), trivial⟩
theorem mc_loop {ws : List Rdr.Fnc} {p n : List UInt8} (hl : (ws.map encE).length ≤ 1000) : ∀ (s : List Rdr.Fnc) (i : Nat), ws.drop i = s → i ≤ ws.length → Lps EX mcB (mcS (ws.map encE) p n i) (.out 0) (mcS (ws.map encE) p n ws.length) := by
  intro s
  induction s with
  | nil =>
    intro i hd hi
    have e1 := congrArg List.length hd
    rw [List.length_drop, List.length_nil] at e1
    obtain rfl : i = ws.length := by omega
    exact .stop (mcB2 (by rw [List.length_map])) (fun h => by cases h)
  | cons x s ih =>
    intro i hd hi
    have hx : ws[i]? = some x := by rw [← List.head?_drop, hd]; rfl
    have hlt := (List.getElem?_eq_some_iff.1 hx).1
    have h := ix_E (r := []) hx
    rw [List.append_nil] at h
    exact .more (mcB1 h (by rw [List.length_map]; exact hlt) hl) (ih (i + 1) (by rw [← List.drop_drop, hd]; rfl) (by omega))
theorem p_Macro {ws : List Rdr.Fnc} {p n : List UInt8} (hl : (ws.map encE).length ≤ 1000) : Puk 145 [.dt (.row (ws.map encE)), syA p n] (.tup [mac0, boA false]) := by
  refine SOK.pure (fun w w' h hb => h.below hb) ?_ rfl
  have ht := (mc_loop (p := p) (n := n) hl ws 0 rfl (Nat.zero_le _)).tri
  generalize ws.map encE = es at *
  generalize ((ws.length : Nat) : Int) = k at *
  exact psw (n := 0) (ks := []) (an := []) (ls := [.inv [0,3,4,6] 2 (.out 0) (mcS es p n k)]) (ps := [Tri (EXn 0) (.loop (subC (bodyOf Tryz.f145) [1,0,1,0,0])) (mcS es p n 0) (.out 0) (mcS es p n k)]) Tryz.func145 (by kernel_rfl) (by kernel_rfl) ⟨ht, trivial⟩
/- the translator -/
abbrev trX (es ex : List (List Dt)) (m : Int) : List (Option Bx) := [some (.cells [.own 1 es.length, .dt (.row ex), inA m]), some (.buf 109 32 es)]
theorem p_spend {es ex : List (List Dt)} {m : Int} (h0 : 1 ≤ m) (h1 : m ≤ 500) : Suk 144 [.ptr 0 0] (trX es ex m) (boA true) (trX es ex (m - 1)) :=
  psw (n := 2) (ks := [0, 1]) (an := [.av (inA (m - 1)), yT]) (ls := []) (ps := [Bn .sub 3 (.tmp 6) (.const (vi 1)) (vi m) (vi 1) (vi (m - 1)), Bn .geq 3 (.tmp 13) (.const (vi 0)) (vi (m - 1)) (vi 0) bT]) Tryz.func144 (by kernel_rfl) (by kernel_rfl) ⟨bin_isub rfl (by omega) (by omega), bin_ige (decide_eq_true (by omega)), trivial⟩
theorem w_ariX {es : List (List Dt)} {n : List UInt8} {m : Int} {f : Rdr.Fnc} (h : f.nm = n) : Puk 148 [.pin [.dt (.row es), .dt (.row [encF f]), inA m], syA lispB n] (.tup [inA f.ps.length, boA true]) :=
  pwalk (an := [.no, .no, .no, yT, .no, .av (inA f.ps.length)]) (ls := [.run 1]) (ps := [Bn .eql 32 (.tmp 23) (.tmp 24) (Value.agg #[str lispB, str f.nm]) (Value.agg #[str lispB, str n]) bT, (vi ↑f.ps.length) = (vi (↑(List.map lrow f.ps).length))]) Tryz.func148 (by kernel_rfl) (by kernel_rfl) ⟨bin_syeq (by rw [decide_eq_true h]; rfl), lenN _, trivial⟩
theorem w_ariY {es : List (List Dt)} {n : List UInt8} {m k : Int} {f : Rdr.Fnc} (h : f.nm ≠ n) (ha : Puk 104 [.dt (.row es), syA lispB n] (.tup [inA k, boA true])) : Puk 148 [.pin [.dt (.row es), .dt (.row [encF f]), inA m], syA lispB n] (.tup [inA k, boA true]) :=
  pwalk (an := [.no, .no, .no, yF, .no, .no, .no, .av (.tup [inA k, boA true])]) (ls := [.run 2]) (ps := [Bn .eql 32 (.tmp 23) (.tmp 24) (Value.agg #[str lispB, str f.nm]) (Value.agg #[str lispB, str n]) bF, Puk 104 [(.dt (.row es)), (syA lispB n)] (.tup [(inA k), (boA true)])]) Tryz.func148 (by kernel_rfl) (by kernel_rfl) ⟨bin_syeq (by rw [decide_eq_false h]; rfl), ha, trivial⟩
theorem p_arity {ws : List Rdr.Fnc} {n : List UInt8} {m : Int} {f : Rdr.Fnc} {k : Nat} (hl : (ws.map encE).length ≤ 1000) (h : Rdr.arity primL ws f.nm f.ps n = some k) : Puk 148 [.pin [.dt (.row (ws.map encE)), .dt (.row [encF f]), inA m], syA lispB n] (.tup [inA (k : Int), boA true]) := by
  unfold Rdr.arity at h
  split at h
  · rename_i e
    cases h
    exact w_ariX e
  · rename_i e
    have ha := p_AriW (ws := ws) (r := []) (n := n) (k := k) (by rw [List.append_nil]; exact hl) h
    rw [List.append_nil] at ha
    exact w_ariY e ha
end Go.Proofs.YtendgffijciehaaGreatDoor
/- The maker's terms and literals, over any world whose functions are known. -/
namespace Go.Proofs.YtendgffijciehaaGreatDoor
open Go.RowKit
open Te


abbrev namA (nl : List (List UInt8)) : AV := .dt (.row (nl.map lrow))
abbrev varA (vl : List (List UInt8)) : AV := .dt (.row (vl.map srow))

theorem lenV (l : List (List UInt8)) : Value.int .i64 (l.length : Int) = Value.int .i64 ((l.map srow).length : Int) := by rw [List.length_map]
/-- the maker's variables -/
abbrev vlM : List (List UInt8) := [[120], [121], [122], [117]]
/-- what the maker is told: a world, the names of functions and their arities, and variables -/
structure Mk (wr : List (List Dt)) (nl vl : List (List UInt8)) : Prop where
  hn : 0 < nl.length
  hn1 : nl.length ≤ 1000
  hv : 0 < vl.length
  hv1 : vl.length ≤ 4
  ar : ∀ n ∈ nl, n.length ≤ 1000 ∧ ∃ a : Nat, a ≤ 8 ∧ Puk 104 [.dt (.row wr), syA lispB n] (.tup [inA (a : Int), boA true])
  vlen : ∀ v ∈ vl, v ∈ vlM
theorem ixA {l : List (List UInt8)} (f : List UInt8 → List Dt) (hf : ∀ x, (f x).length = 2) (n : Int) (h : 0 < l.length) : ∃ x ∈ l, IxAt (l.map f) (n % l.length) 2 (f x) := by
  have h0 : 0 ≤ n % (l.length : Int) := Int.emod_nonneg _ (by omega)
  have h1 : n % (l.length : Int) < l.length := Int.emod_lt_of_pos _ (by omega)
  have hk : (n % (l.length : Int)).toNat < l.length := by omega
  exact ⟨l[(n % (l.length : Int)).toNat], List.getElem_mem hk, h0, by rw [List.getElem?_map, List.getElem?_eq_getElem hk]; rfl, hf _⟩
abbrev rwC (r : Raw) : Option Bx := some (.cells [inA r.kind, inA r.n, stA r.s, .dt (.row (r.l.map Raw.enc))])
abbrev zTc : Option Bx := some (.cells [inA 0, stA [], stA [], inA 0, stA [], stA [], stA [], stA [], stA [], .nil, .nil])
/-- a variable -/
theorem w_b0 {wr : List (List Dt)} {nl vl : List (List UInt8)} {r : Raw} {k j : Int} {nm : List UInt8} {t : Te} (h1 : Puk 19 [inA r.kind, inA 6] (inA k)) (hk : k < 2) (hv : 0 < vl.length) (h2 : Puk 19 [inA r.n, inA vl.length] (inA j)) (hx : IxAt (vl.map srow) j 2 (srow nm)) (ht : Puk 39 [syA userB nm] (teA t)) : Puk 75 [.dt (.row wr), namA nl, varA vl, rawA r] (teA t) :=
  pwalk (an := [.av (inA k), yT, .av (inA vl.length), yT, .av (inA vl.length), .av (inA j), .av (.pin [stA userB, stA nm]), .av (teA t)]) (ls := []) (ps := [Puk 19 [(inA r.kind), (inA 6)] (inA k), Bn .lss 3 (.tmp 18) (.const (vi 2)) (vi k) (vi 2) bT, (vi ↑vl.length) = (vi (↑(List.map srow vl).length)), Bn .gtr 3 (.tmp 22) (.const (vi 0)) (vi ↑vl.length) (vi 0) bT, (vi ↑vl.length) = (vi (↑(List.map srow vl).length)), Puk 19 [(inA r.n), (inA ↑vl.length)] (inA j), IxAt (List.map srow vl) j 2 ([(.val (str userB)), (.val (str nm))]), Puk 39 [(syA userB nm)] (teA t)]) Tryz.func75 (by kernel_rfl) (by kernel_rfl) ⟨h1, bin_ilt (decide_eq_true hk), lenV _, bin_igt (decide_eq_true (by omega)), lenV _, h2, hx, ht, trivial⟩
/-- a constant -/
theorem w_b1 {wr : List (List Dt)} {nl vl : List (List UInt8)} {r : Raw} {o : Ob} {t : Te} (h1 : Puk 19 [inA r.kind, inA 6] (inA 2)) (hl : r.l.length = 0) (h2 : Puk 19 [inA r.n, inA 7] (inA (r.n % 7))) (ho : Puk 40 [inA (r.n % 7 - 2)] (obA o)) (hc : Puk 16 [obA o] (teA t)) : Puk 75 [.dt (.row wr), namA nl, varA vl, rawA r] (teA t) :=
  pwalk (an := [.av (inA 2), .no, .no, .av (inA r.l.length), yT, .av (inA (r.n % 7)), .av (inA (r.n % 7 - 2)), .av (obA o), .av (teA t)]) (ls := []) (ps := [Puk 19 [(inA r.kind), (inA 6)] (inA 2), (vi ↑r.l.length) = (vi (↑(List.map Raw.enc r.l).length)), Bn .eql 3 (.tmp 38) (.const (vi 0)) (vi ↑r.l.length) (vi 0) bT, Puk 19 [(inA r.n), (inA 7)] (inA (r.n % 7)), Bn .sub 3 (.tmp 42) (.const (vi 2)) (vi (r.n % 7)) (vi 2) (vi (r.n % 7 - 2)), Puk 40 [(inA (r.n % 7 - 2))] (obA o), Puk 16 [(obA o)] (teA t)]) Tryz.func75 (by kernel_rfl) (by kernel_rfl) ⟨h1, lenEncR _, bin_ieq (decide_eq_true (by omega)), h2, bin_isub rfl (by omega) (by omega), ho, hc, trivial⟩
theorem w_b2 {wr : List (List Dt)} {nl vl : List (List UInt8)} {r x : Raw} {o : Ob} {t : Te} (h1 : Puk 19 [inA r.kind, inA 6] (inA 2)) (hx : r.l[0]? = some x) (ho : Puk 103 [rawA x] (obA o)) (hc : Puk 16 [obA o] (teA t)) : Puk 75 [.dt (.row wr), namA nl, varA vl, rawA r] (teA t) :=
  pwalk (an := [.av (inA 2), .no, .no, .av (inA r.l.length), yF, .av (.pin ((encR x).map .dt)), .av (obA o), .av (teA t)]) (ls := []) (ps := [Puk 19 [(inA r.kind), (inA 6)] (inA 2), (vi ↑r.l.length) = (vi (↑(List.map Raw.enc r.l).length)), Bn .eql 3 (.tmp 38) (.const (vi 0)) (vi ↑r.l.length) (vi 0) bF, IxAt (List.map Raw.enc r.l) 0 4 (encR x), Puk 103 [(rawA x)] (obA o), Puk 16 [(obA o)] (teA t)]) Tryz.func75 (by kernel_rfl) (by kernel_rfl) ⟨h1, lenEncR _, bin_ieq (decide_eq_false (by have := (List.getElem?_eq_some_iff.1 hx).1; omega)), ix_raw hx, ho, hc, trivial⟩
/- a call -/
abbrev bdX (r : Raw) (nm : List UInt8) : List (Option Bx) := [rwC r, zTc, some (.cells [stA lispB, stA nm])]
abbrev bdS (wr : List (List Dt)) (nl vl : List (List UInt8)) (r : Raw) (nm : List UInt8) (n : Int) (es : List (List Dt)) (i : Int) : AS := ⟨stt 84 [(0, .dt (.row wr)), (1, namA nl), (2, varA vl), (7, .ptr 0 0), (8, .ptr 1 0), (10, .ptr 2 0), (11, inA n), (13, .own 3 es.length), (14, inA i)], bdX r nm ++ [some (.buf 37 11 es)]⟩
abbrev bd0 (wr : List (List Dt)) (nl vl : List (List UInt8)) (r : Raw) (nm : List UInt8) (n : Int) : AS := ⟨stt 84 [(0, .dt (.row wr)), (1, namA nl), (2, varA vl), (7, .ptr 0 0), (8, .ptr 1 0), (10, .ptr 2 0), (11, inA n), (13, .nil), (14, inA 0)], bdX r nm⟩
noncomputable abbrev bdB : Code := subC (bodyOf Tryz.f75) [1,1,1,1,1,1,1,0,1,0,0]
theorem bdB1 {wr : List (List Dt)} {nl vl : List (List UInt8)} {r x : Raw} {nm : List UInt8} {n : Int} {es : List (List Dt)} {i : Nat} {t : Te} (hi : (i : Int) < n) (hn : n ≤ 8) (he : es.length ≤ 8) (h1 : Puk 47 [rawA r, inA (i : Int)] (rawA x)) (h2 : Puk 75 [.dt (.row wr), namA nl, varA vl, rawA x] (teA t)) : Tri EX bdB (bdS wr nl vl r nm n es i) .nxt (bdS wr nl vl r nm n (es ++ [encT t]) ((i + 1 : Nat) : Int)) :=
  twalk (c := subC (bodyOf Tryz.f75) [1,1,1,1,1,1,1,0,1,0,0]) (s := bdS wr nl vl r nm n es i) (an := [yT, .av (rawA x), .av (teA t), .av (.un), .av (inA ((i + 1 : Nat) : Int))]) (ls := []) (ft := [0,1,2,7,8,10,11,13,14]) (nb := 4) (e := .nxt) (s' := bdS wr nl vl r nm n (es ++ [encT t]) ((i + 1 : Nat) : Int)) (ps := [Bn .lss 3 (.tmp 66) (.tmp 67) (vi ↑i) (vi n) bT, Puk 47 [(rawA r), (inA ↑i)] (rawA x), Puk 75 [(.dt (.row wr)), (.dt (.row (List.map lrow nl))), (.dt (.row (List.map srow vl))), (rawA x)] (teA t), (es.length) = (es.length), FitB 176 ((es ++ [encT t]).length), SrcOK 11 [encT t], Bn .add 3 (.tmp 69) (.const (vi 1)) (vi ↑i) (vi 1) (vi (↑(i + 1)))]) (by kernel_rfl)
    ⟨bin_ilt (decide_eq_true hi), h1, h2, rfl, fit_of (by omega) (by simp; omega), src_te1 t, bin_iadd (by omega) (by omega) (by omega), trivial⟩
theorem bdB2 {wr : List (List Dt)} {nl vl : List (List UInt8)} {r : Raw} {nm : List UInt8} {n : Int} {es : List (List Dt)} {i : Nat} (hi : ¬ (i : Int) < n) : Tri EX bdB (bdS wr nl vl r nm n es i) (.out 0) (bdS wr nl vl r nm n es i) :=
  twalk (c := subC (bodyOf Tryz.f75) [1,1,1,1,1,1,1,0,1,0,0]) (s := bdS wr nl vl r nm n es i) (an := [yF]) (ls := []) (ft := [0,1,2,7,8,10,11,13,14]) (nb := 4) (e := .out 0) (s' := bdS wr nl vl r nm n es i) (ps := [Bn .lss 3 (.tmp 66) (.tmp 67) (vi ↑i) (vi n) bF]) (by kernel_rfl)
    ⟨bin_ilt (decide_eq_false hi), trivial⟩
/-- a term that the maker makes -/
inductive Te.Mkd : Te → Prop
  | var (n : List UInt8) (h : n ∈ vlM) : Mkd (varT n)
  | con (t : Tr) (h : t.Ok 10000) : Mkd (Te.con t.ob)
  | ap (n : List UInt8) (l : List Te) (hn : n.length ≤ 1000) (hl : l.length ≤ 8) (h : ∀ x ∈ l, Mkd x) : Mkd (Te.ap n l)
theorem int_okM {n : Int} (h : n.natAbs < 10 ^ 4) : (Tr.num (n : Rat)).Ok 10000 := Tr.Ok.mono (k := 4) (by decide) (rb_int h)
theorem bd_loop {wr : List (List Dt)} {nl vl : List (List UInt8)} {r : Raw} {nm : List UInt8} {n : Nat} (hn : n ≤ 8) (h : ∀ i : Nat, ∃ x t, t.Mkd ∧ Puk 47 [rawA r, inA (i : Int)] (rawA x) ∧ Puk 75 [.dt (.row wr), namA nl, varA vl, rawA x] (teA t)) : ∀ (j i : Nat) (ts : List Te), i + j = n → ts.length = i → (∀ t ∈ ts, t.Mkd) → ∃ ts', ts'.length = n ∧ (∀ t ∈ ts', t.Mkd) ∧ Lps EX bdB (bdS wr nl vl r nm n (encTs ts) i) (.out 0) (bdS wr nl vl r nm n (encTs ts') n) := by
  intro j
  induction j with
  | zero =>
    intro i ts hi hl hb
    obtain rfl : i = n := by omega
    exact ⟨ts, hl, hb, .stop (bdB2 (by omega)) (fun h => by cases h)⟩
  | succ j ih =>
    intro i ts hi hl hb
    obtain ⟨x, t, ht, h1, h2⟩ := h i
    obtain ⟨ts', k1, k2, k3⟩ := ih (i + 1) (ts ++ [t]) (by omega) (by simp [hl]) (fun y hy => by
      rcases List.mem_append.1 hy with hy | hy
      · exact hb y hy
      · rw [List.mem_singleton] at hy; subst hy; exact ht)
    have hs := bdB1 (wr := wr) (nl := nl) (vl := vl) (nm := nm) (n := (n : Int)) (es := encTs ts) (i := i) (by omega) (by omega) (by rw [List.length_map]; omega) h1 h2
    have e : encTs ts ++ [encT t] = encTs (ts ++ [t]) := by unfold encTs; rw [List.map_append, row1]
    rw [e] at hs
    exact ⟨ts', k1, k2, .more hs k3⟩
theorem w_b3 {wr : List (List Dt)} {nl vl : List (List UInt8)} {r : Raw} {k a j : Int} {nm : List UInt8} {es : List (List Dt)} {t : Te} (h1 : Puk 19 [inA r.kind, inA 6] (inA k)) (hk : 3 ≤ k) (h2 : Puk 19 [inA r.n, inA nl.length] (inA j)) (hx : IxAt (nl.map lrow) j 2 (lrow nm)) (ha : Puk 104 [.dt (.row wr), syA lispB nm] (.tup [inA a, boA true]))
    (ht : Tri EX (.loop bdB) (bd0 wr nl vl r nm a) (.out 0) (bdS wr nl vl r nm a es a)) (hp : Puk 50 [syA lispB nm, .dt (.row es)] (teA t)) : Puk 75 [.dt (.row wr), namA nl, varA vl, rawA r] (teA t) :=
  pwalk (an := [.av (inA k), yF, yF, .av (inA nl.length), .av (inA j), .av (.pin [stA lispB, stA nm]), .av (.tup [inA a, boA true]), .av (teA t)]) (ls := [.inv [0,1,2,7,8,10,11,13,14] 3 (.out 0) (bdS wr nl vl r nm a es a)]) (ps := [Puk 19 [(inA r.kind), (inA 6)] (inA k), Bn .lss 3 (.tmp 18) (.const (vi 2)) (vi k) (vi 2) bF, Bn .lss 3 (.tmp 34) (.const (vi 3)) (vi k) (vi 3) bF, (vi ↑nl.length) = (vi (↑(List.map lrow nl).length)), Puk 19 [(inA r.n), (inA ↑nl.length)] (inA j), IxAt (List.map lrow nl) j 2 ([(.val (str lispB)), (.val (str nm))]), Puk 104 [(.dt (.row wr)), (syA lispB nm)] (.tup [(inA a), (boA true)]), Tri EX (.loop (subC (bodyOf Tryz.f75) [1,1,1,1,1,1,1,0,1,0,0])) (bd0 wr nl vl r nm a) (.out 0) (bdS wr nl vl r nm a es a), Puk 50 [(syA lispB nm), (.dt (.row es))] (teA t), (es.length) = (es.length)]) Tryz.func75 (by kernel_rfl) (by kernel_rfl) ⟨h1, bin_ilt (decide_eq_false (by omega)), bin_ilt (decide_eq_false (by omega)), lenN _, h2, hx, ha, ht, hp, rfl, trivial⟩
theorem p_build0 {wr : List (List Dt)} {nl vl : List (List UInt8)} (hm : Mk wr nl vl) {r : Raw} (hk : r.kind % 6 < 2) : ∃ t : Te, t.Mkd ∧ Puk 75 [.dt (.row wr), namA nl, varA vl, rawA r] (teA t) := by
  obtain ⟨nm, h1, h2⟩ := ixA (l := vl) srow (fun _ => rfl) r.n hm.hv
  have hv := hm.hv
  have hv1 := hm.hv1
  exact ⟨_, .var nm (hm.vlen nm h1), w_b0 (p_mod _ _ (by omega) (by omega)) hk hm.hv (p_mod _ _ (by omega) (by omega)) h2 (p_rVar _)⟩
theorem p_build {wr : List (List Dt)} {nl vl : List (List UInt8)} (hm : Mk wr nl vl) : ∀ (N : Nat) (r : Raw), r.size ≤ N → Fit r → ∃ t : Te, t.Mkd ∧ Puk 75 [.dt (.row wr), namA nl, varA vl, rawA r] (teA t) := by
  intro N
  induction N with
  | zero => intro r h; have := r.size_pos; omega
  | succ N ih =>
    intro r hN hf
    by_cases h0 : r.kind % 6 < 2
    · exact p_build0 hm h0
    by_cases h2 : r.kind % 6 = 2
    · have hd := p_mod r.kind 6 (by omega) (by omega)
      rw [h2] at hd
      cases hl : r.l with
      | nil => exact ⟨_, .con (Tr.num ((r.n % 7 - 2 : Int) : Rat)) (int_okM (by omega)), w_b1 hd (by rw [hl]; rfl) (p_mod _ _ (by omega) (by omega)) (p_rInt _ (by omega) (by omega)) (p_rConst _)⟩
      | cons x s =>
        have hx : r.l[0]? = some x := by rw [hl]; rfl
        have hfx := hf.kids (List.mem_of_getElem? hx)
        exact ⟨_, .con _ (mk_ok hfx), w_b2 hd hx (p_mkOb _ x (Nat.le_refl _) hfx) (p_rConst _)⟩
    · have hkids : ∀ i : Nat, ∃ x t, t.Mkd ∧ Puk 47 [rawA r, inA (i : Int)] (rawA x) ∧ Puk 75 [.dt (.row wr), namA nl, varA vl, rawA x] (teA t) := fun i => by
        cases hx : r.l[i]? with
        | some x =>
          obtain ⟨t, k1, k2⟩ := ih x (by have := Raw.size_l (List.mem_of_getElem? hx); omega) (hf.kids (List.mem_of_getElem? hx))
          exact ⟨x, t, k1, p_part hx, k2⟩
        | none =>
          obtain ⟨t, k1, k2⟩ := p_build0 hm (r := ⟨0, 0, [], []⟩) (by decide)
          exact ⟨_, t, k1, p_part0 (List.getElem?_eq_none_iff.1 hx), k2⟩
      obtain ⟨nm, m1, m2⟩ := ixA (l := nl) lrow (fun _ => rfl) r.n hm.hn
      obtain ⟨g1, a, g2, g3⟩ := hm.ar nm m1
      have hn := hm.hn
      have hn1 := hm.hn1
      obtain ⟨ts, l1, l2, l3⟩ := bd_loop (nm := nm) (n := a) g2 hkids a 0 [] (by omega) rfl (fun t ht => by cases ht)
      have ht : Tri EX (.loop bdB) (bd0 wr nl vl r nm a) (.out 0) (bdS wr nl vl r nm a (encTs ts) a) := Tri.own0 13 37 11 (by show 13 < 84; omega) rfl l3.tri
      exact ⟨Te.ap nm ts, .ap nm ts g1 (by omega) l2, w_b3 (p_mod _ _ (by omega) (by omega)) (by omega) (p_mod _ _ (by omega) (by omega)) m2 g3 ht (p_rApp _ _ _)⟩
/-- a term, a literal -/
theorem w_term {wr : List (List Dt)} {nl vl : List (List UInt8)} {r : Raw} {t : Te} (hn : Puk 76 [.dt (.row wr)] (namA nl)) (h : Puk 75 [.dt (.row wr), namA nl, varA vl, rawA r] (teA t)) : Puk 46 [.dt (.row wr), varA vl, rawA r] (teA t) :=
  pwalk (an := [.av (namA nl), .av (teA t)]) (ls := []) (ps := [Puk 76 [(.dt (.row wr))] (.dt (.row (List.map lrow nl))), Puk 75 [(.dt (.row wr)), (.dt (.row (List.map lrow nl))), (.dt (.row (List.map srow vl))), (rawA r)] (teA t)]) Tryz.func46 (by kernel_rfl) (by kernel_rfl) ⟨hn, h, trivial⟩
theorem w_lit1 {wr : List (List Dt)} {vl : List (List UInt8)} {r x : Raw} {t u : Te} (h1 : Puk 47 [rawA r, inA 0] (rawA x)) (h2 : Puk 46 [.dt (.row wr), varA vl, rawA x] (teA t)) (h3 : Puk 19 [inA r.kind, inA 2] (inA 1)) (h4 : Puk 15 [stA notB, .dt (.row [encT t])] (teA u)) : Puk 12 [.dt (.row wr), varA vl, rawA r] (teA u) :=
  pwalk (an := [.av (rawA x), .av (teA t), .av (inA 1), .no, .av (teA u)]) (ls := []) (ps := [Puk 47 [(rawA r), (inA 0)] (rawA x), Puk 46 [(.dt (.row wr)), (.dt (.row (List.map srow vl))), (rawA x)] (teA t), Puk 19 [(inA r.kind), (inA 2)] (inA 1), Puk 15 [(stA [110, 111, 116]), (.dt (.row [encT t]))] (teA u)]) Tryz.func12 (by kernel_rfl) (by kernel_rfl) ⟨h1, h2, h3, h4, trivial⟩
theorem w_lit0 {wr : List (List Dt)} {vl : List (List UInt8)} {r x : Raw} {t : Te} (h1 : Puk 47 [rawA r, inA 0] (rawA x)) (h2 : Puk 46 [.dt (.row wr), varA vl, rawA x] (teA t)) (h3 : Puk 19 [inA r.kind, inA 2] (inA 0)) : Puk 12 [.dt (.row wr), varA vl, rawA r] (teA t) :=
  pwalk (an := [.av (rawA x), .av (teA t), .av (inA 0), .no]) (ls := []) (ps := [Puk 47 [(rawA r), (inA 0)] (rawA x), Puk 46 [(.dt (.row wr)), (.dt (.row (List.map srow vl))), (rawA x)] (teA t), Puk 19 [(inA r.kind), (inA 2)] (inA 0)]) Tryz.func12 (by kernel_rfl) (by kernel_rfl) ⟨h1, h2, h3, trivial⟩
theorem p_lit {wr : List (List Dt)} {nl vl : List (List UInt8)} (hm : Mk wr nl vl) (hn : Puk 76 [.dt (.row wr)] (namA nl)) {r : Raw} (hf : Fit r) : ∃ t : Te, t.Mkd ∧ Puk 12 [.dt (.row wr), varA vl, rawA r] (teA t) := by
  obtain ⟨x, t, hb, h1, h2⟩ : ∃ x t, Te.Mkd t ∧ Puk 47 [rawA r, inA 0] (rawA x) ∧ Puk 75 [.dt (.row wr), namA nl, varA vl, rawA x] (teA t) := by
    cases hx : r.l[0]? with
    | some x =>
      obtain ⟨t, k1, k2⟩ := p_build hm _ x (Nat.le_refl _) (hf.kids (List.mem_of_getElem? hx))
      exact ⟨x, t, k1, p_part hx, k2⟩
    | none =>
      obtain ⟨t, k1, k2⟩ := p_build0 hm (r := ⟨0, 0, [], []⟩) (by decide)
      exact ⟨_, t, k1, p_part0 (List.getElem?_eq_none_iff.1 hx), k2⟩
  have h3 := p_mod r.kind 2 (by omega) (by omega)
  have hm2 : r.kind % 2 = 0 ∨ r.kind % 2 = 1 := by omega
  rcases hm2 with hm2 | hm2
  · rw [hm2] at h3
    exact ⟨t, hb, w_lit0 h1 (w_term hn h2) h3⟩
  · rw [hm2] at h3
    exact ⟨Te.ap notB [t], .ap _ _ (by decide) (by show 1 ≤ 8; omega) (fun y hy => by rw [List.mem_singleton] at hy; subst hy; exact hb), w_lit1 h1 (w_term hn h2) h3 (p_rLisp1 _ _)⟩
end Go.Proofs.YtendgffijciehaaGreatDoor
/- Terms that the maker makes: what is known of them. -/
namespace Go.Proofs.YtendgffijciehaaGreatDoor
open Go.RowKit
open Te

namespace Te
theorem tr_nil {t : Tr} (h : t.ob.kind = 2 ∧ t.ob.sp = lispB ∧ t.ob.sn = nilB) : t.ob = nilO := by
  obtain ⟨h1, h2, h3⟩ := h
  cases t with
  | num q => cases h1
  | txt s => cases h1
  | cons a d => cases h1
  | sym p n =>
    have e1 : p = lispB := h2
    have e2 : n = nilB := h3
    subst e1 e2
    rfl
theorem Mkd.gd {t : Te} (h : t.Mkd) : t.Gd := by
  induction h with
  | var n h => exact var_gd n
  | con t h => exact .con (h.wf (by decide)) tr_nil
  | ap n l hn hl h ih => exact .ap (by omega) ih
theorem Mkd.wf {t : Te} (h : t.Mkd) : t.Wf := h.gd.wf
theorem Mkd.kids {t x : Te} (h : t.Mkd) (hx : x ∈ t.args) : x.Mkd := by
  cases h with
  | var m h => cases hx
  | con t h => cases hx
  | ap m l hn hl h => exact h x hx
theorem Mkd.ap2 {n : List UInt8} (hn : n.length ≤ 1000) {a b : Te} (h : a.Mkd) (h2 : b.Mkd) : (Te.ap n [a, b]).Mkd := .ap n [a, b] hn (by show 2 ≤ 8; omega) fun x hx => by
  simp only [List.mem_cons, List.not_mem_nil, or_false] at hx
  rcases hx with rfl | rfl
  · exact h
  · exact h2
end Te
theorem addN_mkd : ∀ (l out : List Te), (∀ x ∈ out, x.Mkd) → (∀ x ∈ l, x.Mkd) → ∀ x ∈ addN out l, x.Mkd
  | [], out, ho, _ => by rw [addN]; exact ho
  | x :: l, out, ho, hl => by
    rw [addN]
    split
    · exact addN_mkd l out ho fun y hy => hl y (List.mem_cons_of_mem _ hy)
    · refine addN_mkd l _ (fun y hy => ?_) fun y hy => hl y (List.mem_cons_of_mem _ hy)
      rcases List.mem_append.1 hy with hy | hy
      · exact ho y hy
      · rw [List.mem_singleton] at hy; subst hy; exact hl _ (List.mem_cons_self ..)
end Go.Proofs.YtendgffijciehaaGreatDoor
/- Substitutions and matching: the plain law. -/
namespace Go.Proofs.YtendgffijciehaaGreatDoor
open Go.RowKit
open Te

/-- a substitution: a variable and its term -/
abbrev As := List (Te × Te)
namespace Te
/-- the term that a substitution assigns -/
def asgd : As → List UInt8 → List UInt8 → Option Te
  | [], _, _ => none
  | x :: r, p, n => if x.1.np = p ∧ x.1.nn = n then some x.2 else asgd r p n
mutual
def sub (σ : As) : Te → Te
  | ⟨k, p, n, o, l⟩ => if k = 1 then (asgd σ p n).getD ⟨k, p, n, o, l⟩ else if k = 3 then ⟨k, p, n, o, subL σ l⟩ else ⟨k, p, n, o, l⟩
def subL (σ : As) : List Te → List Te
  | [] => []
  | x :: r => sub σ x :: subL σ r
end
theorem subL_map (σ : As) (l : List Te) : subL σ l = l.map (sub σ) := by
  induction l with
  | nil => rfl
  | cons x r ih => rw [subL, ih]; rfl
mutual
/-- matching that extends a substitution -/
def mt : Te → Te → As → Bool × As
  | ⟨k, p, n, o, l⟩, t, s =>
    if k = 1 then
      match asgd s p n with
      | none => (true, s ++ [(⟨k, p, n, o, l⟩, t)])
      | some x => (decide (x = t), s)
    else if k = 3 ∧ t.kind = 3 then
      if p = t.np ∧ n = t.nn ∧ l.length = t.args.length then mtL l t.args s else (false, s)
    else (decide ((⟨k, p, n, o, l⟩ : Te) = t), s)
def mtL : List Te → List Te → As → Bool × As
  | x :: r, y :: r', s => match mt x y s with
    | (true, s') => mtL r r' s'
    | (false, s') => (false, s')
  | _, _, s => (true, s)
end
/-- the search for a substitution -/
def srch : List Te → List Te → As → Bool
  | [], _, _ => true
  | x :: r, b, s => b.any fun l => (mt x l s).1 && srch r b (mt x l s).2
/-- distinct variables, and terms that the maker makes -/
structure AsOK (s : As) : Prop where
  vars : ∀ x ∈ s, (∃ n ∈ vlM, x.1 = varT n) ∧ x.2.Mkd
  nd : (s.map fun x => x.1.nn).Nodup
theorem nodup_le {α : Type} [DecidableEq α] : ∀ (l V : List α), l.Nodup → (∀ x ∈ l, x ∈ V) → l.length ≤ V.length
  | [], _, _, _ => Nat.zero_le _
  | x :: l, V, hn, hs => by
    obtain ⟨h1, h2⟩ := List.nodup_cons.1 hn
    have hx := hs x (List.mem_cons_self ..)
    have := nodup_le l (V.erase x) h2 fun y hy => (List.mem_erase_of_ne (fun e => by subst e; exact h1 hy)).2 (hs y (List.mem_cons_of_mem _ hy))
    rw [List.length_erase_of_mem hx] at this
    have hp := List.length_pos_of_mem hx
    rw [List.length_cons]
    omega
theorem AsOK.len {s : As} (h : AsOK s) : s.length ≤ 4 := by
  have := nodup_le _ vlM h.nd fun n hn => by
    obtain ⟨x, hx, rfl⟩ := List.mem_map.1 hn
    obtain ⟨⟨m, hm, e⟩, _⟩ := h.vars x hx
    rw [e]
    exact hm
  rw [List.length_map] at this
  exact this
/-- s is a part of σ -/
def AsIn (σ s : As) : Prop := ∀ x ∈ s, (∃ n, x.1 = varT n) ∧ x.2 = sub σ x.1
theorem look_mem : ∀ {s : As} {p n : List UInt8} {t : Te}, asgd s p n = some t → ∃ x ∈ s, x.1.np = p ∧ x.1.nn = n ∧ x.2 = t
  | [], _, _, _, h => by cases h
  | x :: r, p, n, t, h => by
    rw [asgd] at h
    split at h
    · rename_i hc
      cases h
      exact ⟨x, List.mem_cons_self .., hc.1, hc.2, rfl⟩
    · obtain ⟨y, h1, h2⟩ := look_mem h
      exact ⟨y, List.mem_cons_of_mem _ h1, h2⟩
theorem AsOK.asgd {s : As} (h : AsOK s) {p n : List UInt8} {t : Te} (hl : asgd s p n = some t) : t.Mkd := by
  obtain ⟨x, h1, _, _, rfl⟩ := look_mem hl
  exact (h.vars x h1).2
theorem look_none : ∀ {s : As} {p n : List UInt8}, asgd s p n = none → ∀ x ∈ s, ¬ (x.1.np = p ∧ x.1.nn = n)
  | [], _, _, _, x, hx => by cases hx
  | y :: r, p, n, h, x, hx => by
    rw [asgd] at h
    split at h
    · cases h
    · rename_i hc
      rcases List.mem_cons.1 hx with rfl | hx
      · exact hc
      · exact look_none h x hx
theorem sub_var (σ : As) (n : List UInt8) : sub σ (varT n) = (asgd σ userB n).getD (varT n) := by
  show sub σ ⟨1, userB, n, zOb, []⟩ = _
  rw [sub, if_pos rfl]
theorem sub_con (σ : As) (o : Ob) : sub σ (Te.con o) = Te.con o := by
  show sub σ ⟨2, [], [], o, []⟩ = _
  rw [sub, if_neg (by decide), if_neg (by decide)]
  rfl
theorem sub_ap (σ : As) (n : List UInt8) (l : List Te) : sub σ (Te.ap n l) = Te.ap n (l.map (sub σ)) := by
  show sub σ ⟨3, lispB, n, zOb, l⟩ = _
  rw [sub, if_neg (by decide), if_pos rfl, subL_map]
  rfl
theorem sub_mkd {σ : As} (h : AsOK σ) {t : Te} (ht : t.Mkd) : (sub σ t).Mkd := by
  induction ht with
  | var n hn =>
    rw [sub_var]
    cases hl : asgd σ userB n with
    | none => exact .var n hn
    | some x => exact h.asgd hl
  | con t hk => rw [sub_con]; exact .con t hk
  | ap n l hn hl hx ih =>
    rw [sub_ap]
    refine .ap n _ hn (by rw [List.length_map]; exact hl) fun x hx => ?_
    obtain ⟨y, hy, rfl⟩ := List.mem_map.1 hx
    exact ih y hy
theorem mt_var (n : List UInt8) (t : Te) (s : As) : mt (varT n) t s = match asgd s userB n with
    | none => (true, s ++ [(varT n, t)])
    | some x => (decide (x = t), s) := by
  show mt ⟨1, userB, n, zOb, []⟩ t s = _
  rw [mt, if_pos rfl]
theorem mt_con (o : Ob) (t : Te) (s : As) : mt (Te.con o) t s = (decide (Te.con o = t), s) := by
  show mt ⟨2, [], [], o, []⟩ t s = _
  rw [mt, if_neg (by decide), if_neg (fun h => by have := h.1; revert this; decide)]
  rfl
theorem mt_ap (n : List UInt8) (l : List Te) (t : Te) (s : As) : mt (Te.ap n l) t s = if t.kind = 3 then (if lispB = t.np ∧ n = t.nn ∧ l.length = t.args.length then mtL l t.args s else (false, s)) else (false, s) := by
  show mt ⟨3, lispB, n, zOb, l⟩ t s = _
  rw [mt, if_neg (by decide)]
  by_cases h : t.kind = 3
  · rw [if_pos ⟨rfl, h⟩, if_pos h]
  · rw [if_neg (fun e => h e.2), if_neg h, decide_eq_false]
    intro e
    exact h (by rw [← e])
theorem AsOK.nil : AsOK [] := ⟨fun x hx => (by cases hx), List.nodup_nil⟩
theorem AsOK.snoc {s : As} (h : AsOK s) {n : List UInt8} (hn : n ∈ vlM) (hl : Te.asgd s userB n = none) {t : Te} (ht : t.Mkd) : AsOK (s ++ [(varT n, t)]) := by
  refine ⟨fun x hx => ?_, ?_⟩
  · rcases List.mem_append.1 hx with hx | hx
    · exact h.vars x hx
    · rw [List.mem_singleton] at hx; subst hx; exact ⟨⟨n, hn, rfl⟩, ht⟩
  · rw [List.map_append, List.nodup_append]
    refine ⟨h.nd, by simp, fun a ha b hb e => ?_⟩
    obtain ⟨x, hx, rfl⟩ := List.mem_map.1 ha
    obtain rfl : b = n := by simpa using hb
    obtain ⟨⟨m, hm, e1⟩, _⟩ := h.vars x hx
    exact look_none hl x hx ⟨by rw [e1], e⟩
theorem mtL_ok {l : List Te} (ih : ∀ x ∈ l, ∀ (t : Te) (s : As), t.Mkd → AsOK s → AsOK (mt x t s).2) : ∀ (m : List Te) (s : As), (∀ y ∈ m, y.Mkd) → AsOK s → AsOK (mtL l m s).2 := by
  induction l with
  | nil => intro m s _ hs; cases m <;> (rw [mtL]; exact hs; all_goals simp)
  | cons x r ih2 =>
    intro m s hm hs
    cases m with
    | nil => rw [mtL]; exact hs; all_goals simp
    | cons y m =>
      rw [mtL]
      have h1 := ih x (List.mem_cons_self ..) y s (hm y (List.mem_cons_self ..)) hs
      split
      · rename_i s' he
        rw [he] at h1
        exact ih2 (fun z hz => ih z (List.mem_cons_of_mem _ hz)) m s' (fun z hz => hm z (List.mem_cons_of_mem _ hz)) h1
      · rename_i s' he
        rw [he] at h1
        exact h1
theorem mt_ok {p : Te} (hp : p.Mkd) : ∀ (t : Te) (s : As), t.Mkd → AsOK s → AsOK (mt p t s).2 := by
  induction hp with
  | var n hn =>
    intro t s ht hs
    rw [mt_var]
    split
    · rename_i hl; exact hs.snoc hn hl ht
    · exact hs
  | con o ho => intro t s _ hs; rw [mt_con]; exact hs
  | ap n l hn hl hx ih =>
    intro t s ht hs
    rw [mt_ap]
    split
    · split
      · exact mtL_ok ih t.args s (fun y hy => ht.kids hy) hs
      · exact hs
    · exact hs
/- completeness -/
theorem mtL_full {σ : As} {l : List Te} (ih : ∀ x ∈ l, ∀ s : As, AsIn σ s → (mt x (sub σ x) s).1 = true ∧ AsIn σ (mt x (sub σ x) s).2) : ∀ s : As, AsIn σ s → (mtL l (l.map (sub σ)) s).1 = true ∧ AsIn σ (mtL l (l.map (sub σ)) s).2 := by
  induction l with
  | nil => intro s hs; rw [List.map_nil, mtL]; exact ⟨rfl, hs⟩; all_goals simp
  | cons x r ih2 =>
    intro s hs
    rw [List.map_cons, mtL]
    obtain ⟨h1, h2⟩ := ih x (List.mem_cons_self ..) s hs
    split
    · rename_i s' he
      rw [he] at h2
      exact ih2 (fun z hz => ih z (List.mem_cons_of_mem _ hz)) s' h2
    · rename_i s' he
      rw [he] at h1
      cases h1
theorem mt_full {σ : As} {p : Te} (hp : p.Mkd) : ∀ s : As, AsIn σ s → (mt p (sub σ p) s).1 = true ∧ AsIn σ (mt p (sub σ p) s).2 := by
  induction hp with
  | var n hn =>
    intro s hs
    rw [mt_var]
    cases hl : asgd s userB n with
    | none =>
      refine ⟨rfl, fun x hx => ?_⟩
      rcases List.mem_append.1 hx with hx | hx
      · exact hs x hx
      · rw [List.mem_singleton] at hx; subst hx; exact ⟨⟨n, rfl⟩, rfl⟩
    | some y =>
      refine ⟨?_, hs⟩
      obtain ⟨x, h1, _, h3, rfl⟩ := look_mem hl
      obtain ⟨⟨m, hm⟩, he⟩ := hs x h1
      rw [hm] at h3
      obtain rfl : m = n := h3
      rw [he, hm]
      exact decide_eq_true rfl
  | con o ho => intro s hs; rw [sub_con, mt_con]; exact ⟨decide_eq_true rfl, hs⟩
  | ap n l hn hl hx ih =>
    intro s hs
    rw [sub_ap, mt_ap, if_pos (show (Te.ap n (l.map (sub σ))).kind = 3 from rfl), if_pos (show lispB = (Te.ap n (l.map (sub σ))).np ∧ n = (Te.ap n (l.map (sub σ))).nn ∧ l.length = (Te.ap n (l.map (sub σ))).args.length from ⟨rfl, rfl, (List.length_map ..).symm⟩)]
    exact mtL_full ih s hs
theorem srch_full {σ : As} {b : List Te} : ∀ (a : List Te) (s : As), (∀ x ∈ a, x.Mkd) → (∀ x ∈ a, sub σ x ∈ b) → AsIn σ s → srch a b s = true
  | [], _, _, _, _ => rfl
  | x :: r, s, hm, hb, hs => by
    rw [srch, List.any_eq_true]
    obtain ⟨h1, h2⟩ := mt_full (hm x (List.mem_cons_self ..)) s hs
    refine ⟨sub σ x, hb x (List.mem_cons_self ..), ?_⟩
    rw [h1, srch_full r _ (fun y hy => hm y (List.mem_cons_of_mem _ hy)) (fun y hy => hb y (List.mem_cons_of_mem _ hy)) h2]
    rfl
end Te
end Go.Proofs.YtendgffijciehaaGreatDoor
/- Matching in the code: lookup. -/
namespace Go.Proofs.YtendgffijciehaaGreatDoor
open Go.RowKit
open Te

abbrev asT (s : As) : List (List Dt) := s.map fun x => asg x.1 x.2
theorem asT_snoc (s : As) (p t : Te) : asT s ++ [asg p t] = asT (s ++ [(p, t)]) := by unfold asT; rw [List.map_append]; rfl
/-- an assignment as its cells lie -/
structure RawA where
  q : Te
  t : Te
  A : Option Addr
  n : Nat
  c : Nat
  B : Option Addr
  m : Nat
  d : Nat
abbrev RawA.row (x : RawA) : List Dt := [.val (str x.q.np), .val (str x.q.nn), .val (.int .i64 x.t.kind), .val (str x.t.np), .val (str x.t.nn), .val (.int .i64 x.t.val.kind), .val (str x.t.val.num), .val (str x.t.val.den), .val (str x.t.val.sp), .val (str x.t.val.sn), .val (str x.t.val.text), .val (.slice x.A x.n x.c), .val (.slice x.B x.m x.d)]
abbrev RawA.te (x : RawA) : AV := .agg [inA x.t.kind, stA x.t.np, stA x.t.nn, inA x.t.val.kind, stA x.t.val.num, stA x.t.val.den, stA x.t.val.sp, stA x.t.val.sn, stA x.t.val.text, .dt (.val (.slice x.A x.n x.c)), .dt (.val (.slice x.B x.m x.d))]
def RawA.ok (F : Nat → Prop) (w : World) (x : RawA) : Prop := Rd F w (.slice x.A x.n x.c) (.row (x.t.val.pair.map Ob.enc)) ∧ Rd F w (.slice x.B x.m x.d) (.row (x.t.args.map Te.enc))
abbrev RawA.pr (x : RawA) : Te × Te := (x.q, x.t)
theorem rv_val {M M' : Mm} {w w' : World} {x v : Value} (h : RV M w (.dt (.val x)) v) : RV M' w' (.dt (.val x)) v := by
  obtain rfl : v = x := Rd.val_eq h
  exact Rd.val _
theorem RawA.rv {F : Nat → Prop} {M : Mm} {w : World} {x : RawA} {v : Value} (hx : x.ok M.F w) (h : RV (M0 F) w x.te v) : RV M w (teA x.t) v := by
  obtain ⟨_, rfl, u0, _, rfl, h0, u1, _, rfl, h1, u2, _, rfl, h2, u3, _, rfl, h3, u4, _, rfl, h4, u5, _, rfl, h5, u6, _, rfl, h6, u7, _, rfl, h7, u8, _, rfl, h8, u9, _, rfl, h9, ua, _, rfl, ha, rfl⟩ := h
  obtain rfl : u9 = .slice x.A x.n x.c := Rd.val_eq h9
  obtain rfl : ua = .slice x.B x.m x.d := Rd.val_eq ha
  exact ⟨_, rfl, _, _, rfl, rv_val h0, _, _, rfl, rv_val h1, _, _, rfl, rv_val h2, _, _, rfl, rv_val h3, _, _, rfl, rv_val h4, _, _, rfl, rv_val h5, _, _, rfl, rv_val h6, _, _, rfl, rv_val h7, _, _, rfl, rv_val h8, _, _, rfl, hx.1, _, _, rfl, hx.2, rfl⟩
theorem exL {α β : Type} : ∀ (s : List α) (R : Nat → α → β → Prop), (∀ i (hi : i < s.length), ∃ b, R i s[i] b) → ∃ L : List β, L.length = s.length ∧ ∀ i (hi : i < s.length) (hj : i < L.length), R i s[i] L[i]
  | [], _, _ => ⟨[], rfl, fun i hi => absurd hi (by simp)⟩
  | x :: s, R, h => by
    obtain ⟨b, hb⟩ := h 0 (by simp)
    obtain ⟨L, h1, h2⟩ := exL s (fun i => R (i + 1)) fun i hi => h (i + 1) (by simp; omega)
    refine ⟨b :: L, by simp [h1], fun i hi hj => ?_⟩
    cases i with
    | zero => exact hb
    | succ i => exact h2 i (by simpa using hi) (by simpa using hj)
section
variable {F : Nat → Prop} {w : World} {base : Nat} {E : TypeId} {A : Option Addr} {n c : Nat}
/-- the cells of a substitution, as they lie -/
theorem OwnD.rawA {s : As} (h : OwnD F w base E 13 A n c (asT s)) : ∃ L : List RawA, L.map RawA.pr = s ∧ (∀ x ∈ L, x.ok F w) ∧ Rd (fun b => A = some ⟨b, 0, none⟩) w (.slice A n c) (.row (L.map RawA.row)) := by
  obtain ⟨xs, ⟨hx, ho⟩, he⟩ := h.own
  have hlen := h.len
  have hl2 : (asT s).length = s.length := by unfold asT; rw [List.length_map]
  obtain ⟨L, h1, h2⟩ := exL s (fun i a (b : RawA) => b.pr = a ∧ b.ok F w ∧ ∀ j d, b.row[j]? = some d → ∃ u, xs[i * 13 + j]? = some u ∧ d = .val u) fun i hi => by
    have hi2 : i < (asT s).length := by rw [hl2]; exact hi
    have key : ∀ j d, (asg s[i].1 s[i].2)[j]? = some d → ∃ u, xs[i * 13 + j]? = some u ∧ Rd F w u d := fun j d hd => by
      have e : (asT s)[i] = asg s[i].1 s[i].2 := List.getElem_map ..
      rw [← e] at hd
      obtain ⟨hj, rfl⟩ := List.getElem?_eq_some_iff.1 hd
      obtain ⟨u, k1, k2⟩ := (he i hi2).2 j hj
      exact ⟨u, k1, k2.mono fun b hb _ => hb.1⟩
    have kv : ∀ j x, (asg s[i].1 s[i].2)[j]? = some (.val x) → xs[i * 13 + j]? = some x := fun j x hd => by
      obtain ⟨u, k1, k2⟩ := key j _ hd
      rw [k1, k2.val_eq]
    obtain ⟨u, k1, k2⟩ := key 11 _ rfl
    obtain ⟨A1, n1, c1, rfl, _⟩ := k2.slice
    obtain ⟨v, k3, k4⟩ := key 12 _ rfl
    obtain ⟨B1, m1, d1, rfl, _⟩ := k4.slice
    refine ⟨⟨s[i].1, s[i].2, A1, n1, c1, B1, m1, d1⟩, rfl, ⟨k2, k4⟩, fun j d hd => ?_⟩
    match j, hd with
    | 0, hd => exact ⟨_, kv 0 _ rfl, (Option.some.inj hd).symm⟩
    | 1, hd => exact ⟨_, kv 1 _ rfl, (Option.some.inj hd).symm⟩
    | 2, hd => exact ⟨_, kv 2 _ rfl, (Option.some.inj hd).symm⟩
    | 3, hd => exact ⟨_, kv 3 _ rfl, (Option.some.inj hd).symm⟩
    | 4, hd => exact ⟨_, kv 4 _ rfl, (Option.some.inj hd).symm⟩
    | 5, hd => exact ⟨_, kv 5 _ rfl, (Option.some.inj hd).symm⟩
    | 6, hd => exact ⟨_, kv 6 _ rfl, (Option.some.inj hd).symm⟩
    | 7, hd => exact ⟨_, kv 7 _ rfl, (Option.some.inj hd).symm⟩
    | 8, hd => exact ⟨_, kv 8 _ rfl, (Option.some.inj hd).symm⟩
    | 9, hd => exact ⟨_, kv 9 _ rfl, (Option.some.inj hd).symm⟩
    | 10, hd => exact ⟨_, kv 10 _ rfl, (Option.some.inj hd).symm⟩
    | 11, hd => exact ⟨_, k1, (Option.some.inj hd).symm⟩
    | 12, hd => exact ⟨_, k3, (Option.some.inj hd).symm⟩
    | j + 13, hd => cases hd
  refine ⟨L, List.ext_getElem (by rw [List.length_map, h1]) fun i hi hj => ?_, fun x hx => ?_, ?_⟩
  · rw [List.getElem_map]
    exact (h2 i hj (by rw [h1]; exact hj)).1
  · obtain ⟨i, hi, rfl⟩ := List.getElem_of_mem hx
    exact (h2 i (by rw [← h1]; exact hi) hi).2.1
  · rcases Nat.eq_zero_or_pos n with h0 | h0
    · subst h0
      obtain rfl : L = [] := List.eq_nil_of_length_eq_zero (by omega)
      exact .nil _ _
    · rcases ho with ⟨_, h3⟩ | ⟨g, cap, cur, hv, hbg, hg, hnc, hcm, hcs, ht⟩
      · omega
      · simp only [Value.slice.injEq] at hv
        obtain ⟨rfl, _, rfl⟩ := hv
        refine Rd.mk (k := 13) (by rw [List.length_map]; omega) hnc ?_ rfl (fun i hi => by rw [List.getElem_map]; rfl) (fun i j hi hj => ?_)
        · rcases Nat.lt_or_ge g w.heap.size with hlt | hge
          · exact hlt
          · rw [Array.getElem?_eq_none hge] at hg; cases hg
        · rw [List.length_map] at hi
          have e : (L.map RawA.row)[i] = (L[i]).row := List.getElem_map ..
          have hd : (L[i]).row[j]? = some ((L.map RawA.row)[i])[j] := by rw [← e]; exact List.getElem?_eq_getElem hj
          obtain ⟨u, k1, k2⟩ := (h2 i (by omega) hi).2.2 j _ hd
          refine ⟨u, ?_, ?_⟩
          · have hj' : j < 13 := by have := (List.getElem?_eq_some_iff.1 hd).1; exact this
            have hlt : i * 13 + j < n * 13 := by omega
            have e : cur[i * 13 + j]? = some u := by
              rw [← k1, ← ht, List.getElem?_take_of_lt hlt]; simp
            simp [World.cell?, hg, Nat.zero_add, e]
          · rw [k2]; exact .val _
end
/-- a function that reads a substitution which grows -/
theorem SOK.rawLook {f : FuncId} {p n : List UInt8} {s : As} {T : TypeId} {r : AV} (h : ∀ L : List RawA, L.map RawA.pr = s → ∃ z, Puk f [.dt (.row (L.map RawA.row)), syA p n] z ∧ ∀ (M : Mm) (F : Nat → Prop) (w : World) (v : Value), (∀ x ∈ L, x.ok M.F w) → RV (M0 F) w z v → RV M w r v) : Suk f [.own 0 s.length, syA p n] [some (.buf T 13 (asT s))] r [some (.buf T 13 (asT s))] := by
  refine ⟨(h (s.map fun x => ⟨x.1, x.2, none, 0, 0, none, 0, 0⟩) (by rw [List.map_map]; exact List.map_id _)).choose_spec.1.1, fun X M w vs hG hS hargs => ?_⟩
  obtain ⟨A, n1, c1, ho, hd⟩ := hS.box 0 _ rfl
  obtain ⟨L, h1, h2, h3⟩ := hd.rawA
  obtain ⟨z, hz, hr⟩ := h L h1
  obtain ⟨u, us, rfl, ⟨A', c', A2, n2, c2, rfl, e2, e3, e4⟩, u2, us2, rfl, ⟨_, rfl, x0, _, rfl, k0, x1, _, rfl, k1, rfl⟩, rfl⟩ := hargs
  rw [ho] at e2
  cases e2
  have hn : s.length = n1 := by have := hd.len; rw [List.length_map] at this; exact this
  obtain ⟨rfl, rfl⟩ := e4 hn
  subst hn
  have hz2 := hz.2 (fun b => A' = some ⟨b, 0, none⟩) w [.slice A' s.length c', .agg #[x0, x1]] (hG w (Bel.refl _ _ _)) ⟨_, _, rfl, h3, _, _, rfl, ⟨[x0, x1], rfl, _, _, rfl, rv_val k0, _, _, rfl, rv_val k1, rfl⟩, rfl⟩
  refine hz2.mono fun e w' ⟨v, e1, hb, hv⟩ => ?_
  have hg : Go1 X w.heap.size M w M w' := ⟨Bel.of hb, fun b _ hl => hb.block b hl, fun _ h _ => h, fun _ _ h => h, fun _ => same_o rfl⟩
  refine ⟨v, M, e1, hg, hS.grow hg rfl rfl (fun q k x hk hq => hb.block q (hS.dom k x q hk hq).2.1) (fun q hq => ⟨Nat.lt_of_lt_of_le (hS.fz q hq) hb.size, .inl hq⟩), fun b hb => .inl hb, hr M _ w' v (fun x hx => ?_) hv⟩
  exact ⟨Rd.go hg (h2 x hx).1, Rd.go hg (h2 x hx).2⟩
theorem sy_no {p a n b : List UInt8} (h : ¬ (p = a ∧ n = b)) : (decide (p = a) && decide (n = b)) = false := by
  rw [← Bool.decide_and]; exact decide_eq_false h
theorem sy_yes {p a n b : List UInt8} (h : p = a ∧ n = b) : (decide (p = a) && decide (n = b)) = true := by
  rw [← Bool.decide_and]; exact decide_eq_true h
/- the rounds of lookup -/
abbrev rowsR (L : List RawA) : List (List Dt) := L.map RawA.row
theorem ix_raw' {L : List RawA} {i : Nat} {x : RawA} (h : L[i]? = some x) : IxAt (rowsR L) (i : Int) 13 x.row := ⟨Int.natCast_nonneg _, by
  rw [Int.toNat_natCast, List.getElem?_map, h]
  rfl, rfl⟩
theorem lenRw (L : List RawA) : Value.int .i64 (L.length : Int) = Value.int .i64 ((rowsR L).length : Int) := by rw [List.length_map]
abbrev lkS (L : List RawA) (a b : List UInt8) (i : Int) : AS := ⟨stt 22 [(3, .ptr 0 0), (4, .ptr 1 0), (5, boA false), (8, .dt (.row (rowsR L))), (9, inA L.length), (10, inA i)], [some (.cells [stA a, stA b]), zTc]⟩
abbrev lkR (x : RawA) (a b : List UInt8) : AS := ⟨stt 22 [(4, .ptr 1 0), (5, boA true)], [some (.cells [stA a, stA b]), some (.cells [inA x.t.kind, stA x.t.np, stA x.t.nn, inA x.t.val.kind, stA x.t.val.num, stA x.t.val.den, stA x.t.val.sp, stA x.t.val.sn, stA x.t.val.text, .dt (.val (.slice x.A x.n x.c)), .dt (.val (.slice x.B x.m x.d))])]⟩
noncomputable abbrev lkB : Code := subC (bodyOf Tryz.f154) [1,0,1,0,0]
theorem lkB1 {L : List RawA} {a b : List UInt8} {x : RawA} {i : Nat} (hx : L[i]? = some x) (hl : L.length ≤ 1000) (h : ¬ (x.q.np = a ∧ x.q.nn = b)) : Tri EX lkB (lkS L a b i) .nxt (lkS L a b ((i + 1 : Nat) : Int)) :=
  have hi := (List.getElem?_eq_some_iff.1 hx).1
  twalk (c := subC (bodyOf Tryz.f154) [1,0,1,0,0]) (s := lkS L a b i) (an := [yT, .av (.pin (x.row.map .dt)), yF, .av (inA ((i + 1 : Nat) : Int))]) (ls := []) (ft := [3,4,5,8,9,10]) (nb := 2) (e := .nxt) (s' := lkS L a b ((i + 1 : Nat) : Int)) (ps := [Bn .lss 3 (.tmp 10) (.tmp 9) (vi ↑i) (vi ↑L.length) bT, IxAt (rowsR L) ↑i 13 ([(.val (str x.q.np)), (.val (str x.q.nn)), (.val (vi x.t.kind)), (.val (str x.t.np)), (.val (str x.t.nn)), (.val (vi x.t.val.kind)), (.val (str x.t.val.num)), (.val (str x.t.val.den)), (.val (str x.t.val.sp)), (.val (str x.t.val.sn)), (.val (str x.t.val.text)), (.val (Value.slice x.A x.n x.c)), (.val (Value.slice x.B x.m x.d))]), Bn .eql 32 (.tmp 15) (.tmp 16) (Value.agg #[str x.q.np, str x.q.nn]) (Value.agg #[str a, str b]) bF, Bn .add 3 (.tmp 10) (.const (vi 1)) (vi ↑i) (vi 1) (vi (↑(i + 1)))]) (by kernel_rfl) ⟨bin_ilt (decide_eq_true (by omega)), ix_raw' hx, bin_syeq (sy_no h), bin_iadd (by omega) (by omega) (by omega), trivial⟩
theorem lkB2 {L : List RawA} {a b : List UInt8} {x : RawA} {i : Nat} (hx : L[i]? = some x) (h : x.q.np = a ∧ x.q.nn = b) : Tri EX lkB (lkS L a b i) .ret (lkR x a b) :=
  have hi := (List.getElem?_eq_some_iff.1 hx).1
  twalk (c := subC (bodyOf Tryz.f154) [1,0,1,0,0]) (s := lkS L a b i) (an := [yT, .av (.pin (x.row.map .dt)), yT]) (ls := []) (ft := [4,5]) (nb := 2) (e := .ret) (s' := lkR x a b) (ps := [Bn .lss 3 (.tmp 10) (.tmp 9) (vi ↑i) (vi ↑L.length) bT, IxAt (rowsR L) ↑i 13 ([(.val (str x.q.np)), (.val (str x.q.nn)), (.val (vi x.t.kind)), (.val (str x.t.np)), (.val (str x.t.nn)), (.val (vi x.t.val.kind)), (.val (str x.t.val.num)), (.val (str x.t.val.den)), (.val (str x.t.val.sp)), (.val (str x.t.val.sn)), (.val (str x.t.val.text)), (.val (Value.slice x.A x.n x.c)), (.val (Value.slice x.B x.m x.d))]), Bn .eql 32 (.tmp 15) (.tmp 16) (Value.agg #[str x.q.np, str x.q.nn]) (Value.agg #[str a, str b]) bT]) (by kernel_rfl) ⟨bin_ilt (decide_eq_true (by omega)), ix_raw' hx, bin_syeq (sy_yes h), trivial⟩
theorem lkB3 {L : List RawA} {a b : List UInt8} {i : Nat} (hi : i = L.length) : Tri EX lkB (lkS L a b i) (.out 0) (lkS L a b i) :=
  twalk (c := subC (bodyOf Tryz.f154) [1,0,1,0,0]) (s := lkS L a b i) (an := [yF]) (ls := []) (ft := [3,4,5,8,9,10]) (nb := 2) (e := .out 0) (s' := lkS L a b i) (ps := [Bn .lss 3 (.tmp 10) (.tmp 9) (vi ↑i) (vi ↑L.length) bF]) (by kernel_rfl) ⟨bin_ilt (decide_eq_false (by omega)), trivial⟩
theorem w_lk1 {L : List RawA} {a b : List UInt8} {x : RawA} (h : Tri EX (.loop lkB) (lkS L a b 0) .ret (lkR x a b)) : Puk 154 [.dt (.row (rowsR L)), syA a b] (.tup [x.te, boA true]) :=
  pwalk (an := [.av (inA L.length)]) (ls := [.inv [3,4,5,8,9,10] 2 (.ret) (lkR x a b)]) (ps := [(vi ↑L.length) = (vi (↑(rowsR L).length)), Tri EX (.loop (subC (bodyOf Tryz.f154) [1,0,1,0,0])) (lkS L a b 0) (.ret) (lkR x a b)]) Tryz.func154 (by kernel_rfl) (by kernel_rfl) ⟨lenRw _, h, trivial⟩
theorem w_lk0 {L : List RawA} {a b : List UInt8} (h : Tri EX (.loop lkB) (lkS L a b 0) (.out 0) (lkS L a b L.length)) : Puk 154 [.dt (.row (rowsR L)), syA a b] (.tup [teA zTe, boA false]) :=
  pwalk (an := [.av (inA L.length)]) (ls := [.inv [3,4,5,8,9,10] 2 (.out 0) (lkS L a b L.length)]) (ps := [(vi ↑L.length) = (vi (↑(rowsR L).length)), Tri EX (.loop (subC (bodyOf Tryz.f154) [1,0,1,0,0])) (lkS L a b 0) (.out 0) (lkS L a b L.length)]) Tryz.func154 (by kernel_rfl) (by kernel_rfl) ⟨lenRw _, h, trivial⟩
theorem lk_loop {L : List RawA} {a b : List UInt8} (hl : L.length ≤ 1000) : ∀ (s : List RawA) (i : Nat), L.drop i = s → i ≤ L.length →
    (asgd (s.map RawA.pr) a b = none → Lps EX lkB (lkS L a b i) (.out 0) (lkS L a b L.length)) ∧ (∀ t, asgd (s.map RawA.pr) a b = some t → ∃ x ∈ L, x.t = t ∧ Lps EX lkB (lkS L a b i) .ret (lkR x a b)) := by
  intro s
  induction s with
  | nil =>
    intro i hd hi
    have e1 := congrArg List.length hd
    rw [List.length_drop, List.length_nil] at e1
    obtain rfl : i = L.length := by omega
    exact ⟨fun _ => .stop (lkB3 rfl) (fun h => by cases h), fun t h => by cases h⟩
  | cons x s ih =>
    intro i hd hi
    have hx : L[i]? = some x := by rw [← List.head?_drop, hd]; rfl
    have hlt := (List.getElem?_eq_some_iff.1 hx).1
    obtain ⟨h1, h2⟩ := ih (i + 1) (by rw [← List.drop_drop, hd]; rfl) hlt
    rw [List.map_cons, asgd]
    by_cases hc : x.q.np = a ∧ x.q.nn = b
    · rw [if_pos hc]
      exact ⟨fun h => (by cases h), fun t h => ⟨x, List.mem_of_getElem? hx, Option.some.inj h, .stop (lkB2 hx hc) (fun h => by cases h)⟩⟩
    · rw [if_neg hc]
      exact ⟨fun h => .more (lkB1 hx hl hc) (h1 h), fun t h => by
        obtain ⟨y, k1, k2, k3⟩ := h2 t h
        exact ⟨y, k1, k2, .more (lkB1 hx hl hc) k3⟩⟩
theorem rd_nil {F F' : Nat → Prop} {w w' : World} {v : Value} (h : Rd F w v (.row [])) : Rd F' w' v (.row []) := by
  obtain ⟨A, n, c, rfl, h1, _⟩ := h.slice
  obtain rfl : n = 0 := h1.symm
  exact .nil _ _
theorem zTn_rv {F : Nat → Prop} {M : Mm} {w : World} {v : Value} (h : RV (M0 F) w (.tup [teA zTe, boA false]) v) : RV M w (.tup [teA zTe, boA false]) v := by
  obtain ⟨_, rfl, u, _, rfl, ⟨_, rfl, u0, _, rfl, h0, u1, _, rfl, h1, u2, _, rfl, h2, u3, _, rfl, h3, u4, _, rfl, h4, u5, _, rfl, h5, u6, _, rfl, h6, u7, _, rfl, h7, u8, _, rfl, h8, u9, _, rfl, h9, ua, _, rfl, ha, rfl⟩, ub, _, rfl, hb, rfl⟩ := h
  exact ⟨_, rfl, _, _, rfl, ⟨_, rfl, _, _, rfl, rv_val h0, _, _, rfl, rv_val h1, _, _, rfl, rv_val h2, _, _, rfl, rv_val h3, _, _, rfl, rv_val h4, _, _, rfl, rv_val h5, _, _, rfl, rv_val h6, _, _, rfl, rv_val h7, _, _, rfl, rv_val h8, _, _, rfl, rd_nil h9, _, _, rfl, rd_nil ha, rfl⟩, _, _, rfl, rv_val hb, rfl⟩
/-- lookup in a substitution that grows -/
theorem p_lookN {s : As} {a b : List UInt8} (hl : s.length ≤ 1000) (h : asgd s a b = none) (T : TypeId) : Suk 154 [.own 0 s.length, syA a b] [some (.buf T 13 (asT s))] (.tup [teA zTe, boA false]) [some (.buf T 13 (asT s))] :=
  .rawLook fun L hL => by
    subst hL
    have hl' : L.length ≤ 1000 := by rw [List.length_map] at hl; exact hl
    exact ⟨_, w_lk0 ((lk_loop (a := a) (b := b) hl' L 0 rfl (Nat.zero_le _)).1 h).tri, fun M F w v _ hv => zTn_rv hv⟩
theorem p_lookS {s : As} {a b : List UInt8} {t : Te} (hl : s.length ≤ 1000) (h : asgd s a b = some t) (T : TypeId) : Suk 154 [.own 0 s.length, syA a b] [some (.buf T 13 (asT s))] (.tup [teA t, boA true]) [some (.buf T 13 (asT s))] :=
  .rawLook fun L hL => by
    subst hL
    have hl' : L.length ≤ 1000 := by rw [List.length_map] at hl; exact hl
    obtain ⟨x, k1, rfl, k3⟩ := (lk_loop (a := a) (b := b) hl' L 0 rfl (Nat.zero_le _)).2 t h
    refine ⟨_, w_lk1 k3.tri, fun M F w v hx hv => ?_⟩
    obtain ⟨_, rfl, u, _, rfl, h1, u2, _, rfl, h2, rfl⟩ := hv
    exact ⟨_, rfl, _, _, rfl, RawA.rv (hx x k1) h1, _, _, rfl, rv_val h2, rfl⟩
end Go.Proofs.YtendgffijciehaaGreatDoor
/- Matching in the code: match, MatchAll, Match. -/
namespace Go.Proofs.YtendgffijciehaaGreatDoor
open Go.RowKit
open Te

theorem bin_synH {x y : Operand} {p s p' s' : List UInt8} {r : Bool} (h : (decide (p = p') && decide (s = s')) = !r) : BinIs Tryz.prog .neq 32 x y (.agg #[str p, str s]) (.agg #[str p', str s']) (.bool r) := by
  intro w
  simp only [Sem.run_bind, run_eqGuard_agg w .neq _ x y _ _ syG, Result.andThen_ok, run_neq_struct, sy_equal, h, Bool.not_not]
theorem fit_a {n : Nat} (h : n ≤ 1000000) : FitB 208 n := ⟨by show n ≤ 2 ^ 63 - 1; omega, by
  have := Nat.mul_le_mul_right 208 h
  omega⟩
abbrev bfA (s : As) : List (Option Bx) := [some (.buf 87 13 (asT s))]
theorem asT_len (s : As) : (asT s).length = s.length := by unfold asT; rw [List.length_map]
theorem w_mtN {p t : Te} {n : Nat} {es : List (List Dt)} (h : p.kind = 1) (hn : es.length = n) (hl : Suk 154 [.own 0 n, syA p.np p.nn] [some (.buf 87 13 es)] (.tup [teA zTe, boA false]) [some (.buf 87 13 es)]) (he : es.length ≤ 1000) : Suk 130 [teA p, teA t, .own 0 n] [some (.buf 87 13 es)] (.tup [.own 0 (es ++ [asg p t]).length, boA true]) [some (.buf 87 13 (es ++ [asg p t]))] :=
  psw (n := 1) (ks := [0]) (an := [yT, .av (.un)]) (ls := [.scl 2 3 [0] (.tup [teA zTe, boA false]) [some (.buf 87 13 es)]]) (ps := [Bn .eql 3 (.tmp 15) (.const (vi 1)) (vi p.kind) (vi 1) bT, Suk 154 [AV.own 0 n, AV.agg [AV.dt (Dt.val (str p.np)), AV.dt (Dt.val (str p.nn))]] [some (Bx.buf 87 13 es)] (AV.tup [teA zTe, boA false]) [some (Bx.buf 87 13 es)], (es.length) = n, FitB 208 ((es ++ [[Dt.val (str p.np), Dt.val (str p.nn), Dt.val (vi t.kind), Dt.val (str t.np), Dt.val (str t.nn), Dt.val (vi t.val.kind), Dt.val (str t.val.num), Dt.val (str t.val.den), Dt.val (str t.val.sp), Dt.val (str t.val.sn), Dt.val (str t.val.text), Dt.row (List.map Ob.enc t.val.pair), Dt.row (List.map Te.enc t.args)]]).length), SrcOK 13 [[(.val (str p.np)), (.val (str p.nn)), (.val (vi t.kind)), (.val (str t.np)), (.val (str t.nn)), (.val (vi t.val.kind)), (.val (str t.val.num)), (.val (str t.val.den)), (.val (str t.val.sp)), (.val (str t.val.sn)), (.val (str t.val.text)), (.row (List.map Ob.enc t.val.pair)), (.row (List.map Te.enc t.args))]]]) Tryz.func130 (by kernel_rfl) (by kernel_rfl) ⟨bin_ieq (yesD h), hl, hn, fit_a (by simp; omega), src_asg p t, trivial⟩
theorem w_mtS {p t x : Te} {n : Nat} {es : List (List Dt)} {b : Bool} (h : p.kind = 1) (hl : Suk 154 [.own 0 n, syA p.np p.nn] [some (.buf 87 13 es)] (.tup [teA x, boA true]) [some (.buf 87 13 es)]) (he : Puk 57 [teA x, teA t] (boA b)) : Suk 130 [teA p, teA t, .own 0 n] [some (.buf 87 13 es)] (.tup [.own 0 n, boA b]) [some (.buf 87 13 es)] :=
  psw (n := 1) (ks := [0]) (an := [yT, .av (boA b)]) (ls := [.scl 2 3 [0] (.tup [teA x, boA true]) [some (.buf 87 13 es)]]) (ps := [Bn .eql 3 (.tmp 15) (.const (vi 1)) (vi p.kind) (vi 1) bT, Suk 154 [AV.own 0 n, AV.agg [AV.dt (Dt.val (str p.np)), AV.dt (Dt.val (str p.nn))]] [some (Bx.buf 87 13 es)] (AV.tup [teA x, boA true]) [some (Bx.buf 87 13 es)], Puk 57 [(teA x), (teA t)] (boA b)]) Tryz.func130 (by kernel_rfl) (by kernel_rfl) ⟨bin_ieq (yesD h), hl, he, trivial⟩
theorem w_mtC {p t : Te} {n : Nat} {es : List (List Dt)} {b : Bool} (h : p.kind ≠ 1) (h3 : p.kind ≠ 3) (he : Puk 57 [teA p, teA t] (boA b)) : Suk 130 [teA p, teA t, .own 0 n] [some (.buf 87 13 es)] (.tup [.own 0 n, boA b]) [some (.buf 87 13 es)] :=
  psw (n := 1) (ks := [0]) (an := [yF, yT, .av (boA b)]) (ls := []) (ps := [Bn .eql 3 (.tmp 15) (.const (vi 1)) (vi p.kind) (vi 1) bF, Bn .neq 3 (.tmp 38) (.const (vi 3)) (vi p.kind) (vi 3) bT, Puk 57 [(teA p), (teA t)] (boA b)]) Tryz.func130 (by kernel_rfl) (by kernel_rfl) ⟨bin_ieq (noD h), bin_ine (by simp [h3]), he, trivial⟩
theorem w_mtD {p t : Te} {n : Nat} {es : List (List Dt)} {b : Bool} (h3 : p.kind = 3) (ht : t.kind ≠ 3) (he : Puk 57 [teA p, teA t] (boA b)) : Suk 130 [teA p, teA t, .own 0 n] [some (.buf 87 13 es)] (.tup [.own 0 n, boA b]) [some (.buf 87 13 es)] :=
  psw (n := 1) (ks := [0]) (an := [yF, yF, yT, .av (boA b)]) (ls := []) (ps := [Bn .eql 3 (.tmp 15) (.const (vi 1)) (vi p.kind) (vi 1) bF, Bn .neq 3 (.tmp 38) (.const (vi 3)) (vi p.kind) (vi 3) bF, Bn .neq 3 (.tmp 42) (.const (vi 3)) (vi t.kind) (vi 3) bT, Puk 57 [(teA p), (teA t)] (boA b)]) Tryz.func130 (by kernel_rfl) (by kernel_rfl) ⟨bin_ieq (by simp [h3]), bin_ine (by simp [h3]), bin_ine (by simp [ht]), he, trivial⟩
theorem w_mtE {p t : Te} {n : Nat} {es : List (List Dt)} (h3 : p.kind = 3) (ht : t.kind = 3) (hne : ¬ (p.np = t.np ∧ p.nn = t.nn)) : Suk 130 [teA p, teA t, .own 0 n] [some (.buf 87 13 es)] (.tup [.own 0 n, boA false]) [some (.buf 87 13 es)] :=
  psw (n := 1) (ks := [0]) (an := [yF, yF, yF, yT]) (ls := []) (ps := [Bn .eql 3 (.tmp 15) (.const (vi 1)) (vi p.kind) (vi 1) bF, Bn .neq 3 (.tmp 38) (.const (vi 3)) (vi p.kind) (vi 3) bF, Bn .neq 3 (.tmp 42) (.const (vi 3)) (vi t.kind) (vi 3) bF, Bn .neq 32 (.tmp 50) (.tmp 52) (Value.agg #[str p.np, str p.nn]) (Value.agg #[str t.np, str t.nn]) bT]) Tryz.func130 (by kernel_rfl) (by kernel_rfl) ⟨bin_ieq (by simp [h3]), bin_ine (by simp [h3]), bin_ine (by simp [ht]), bin_synH (by rw [sy_no hne]; rfl), trivial⟩
theorem w_mtG {p t : Te} {n : Nat} {es : List (List Dt)} (h3 : p.kind = 3) (ht : t.kind = 3) (hne : p.np = t.np ∧ p.nn = t.nn) (hl : p.args.length ≠ t.args.length) : Suk 130 [teA p, teA t, .own 0 n] [some (.buf 87 13 es)] (.tup [.own 0 n, boA false]) [some (.buf 87 13 es)] :=
  psw (n := 1) (ks := [0]) (an := [yF, yF, yF, yF, .av (inA p.args.length), .av (inA t.args.length), yT]) (ls := []) (ps := [Bn .eql 3 (.tmp 15) (.const (vi 1)) (vi p.kind) (vi 1) bF, Bn .neq 3 (.tmp 38) (.const (vi 3)) (vi p.kind) (vi 3) bF, Bn .neq 3 (.tmp 42) (.const (vi 3)) (vi t.kind) (vi 3) bF, Bn .neq 32 (.tmp 50) (.tmp 52) (Value.agg #[str p.np, str p.nn]) (Value.agg #[str t.np, str t.nn]) bF, (vi ↑p.args.length) = (vi (↑(List.map Te.enc p.args).length)), (vi ↑t.args.length) = (vi (↑(List.map Te.enc t.args).length)), Bn .neq 3 (.tmp 57) (.tmp 60) (vi ↑p.args.length) (vi ↑t.args.length) bT]) Tryz.func130 (by kernel_rfl) (by kernel_rfl) ⟨bin_ieq (by simp [h3]), bin_ine (by simp [h3]), bin_ine (by simp [ht]), bin_synH (by rw [sy_yes hne]; rfl), lenEncT _, lenEncT _, bin_ine (by simp; omega), trivial⟩
/- the arguments of a call -/
abbrev mlS (p t : Te) (n : Nat) (es : List (List Dt)) (i : Int) : AS := ⟨stt 89 [(2, .own 0 n), (3, .ptr 1 0), (4, .ptr 2 0), (65, tesA p.args), (66, inA p.args.length), (67, inA i)], [some (.buf 87 13 es), some (.cells ((encT p).map .dt)), some (.cells ((encT t).map .dt))]⟩
abbrev mlR (n : Nat) (es : List (List Dt)) : AS := ⟨stt 89 [(6, .own 0 n), (7, boA false)], [some (.buf 87 13 es)]⟩
noncomputable abbrev mlB : Code := subC (bodyOf Tryz.f130) [1,1,1,1,0,1,0,0]
theorem mlB1 {p t x y : Te} {n n' : Nat} {es es' : List (List Dt)} {i : Nat} (hx : p.args[i]? = some x) (hy : t.args[i]? = some y) (hl : p.args.length ≤ 1000) (h : Suk 130 [teA x, teA y, .own 0 n] [some (.buf 87 13 es)] (.tup [.own 0 n', boA true]) [some (.buf 87 13 es')]) : Tri (EXn 1) mlB (mlS p t n es i) .nxt (mlS p t n' es' ((i + 1 : Nat) : Int)) :=
  have hi := (List.getElem?_eq_some_iff.1 hx).1
  tw (E := EXn 1) (c := subC (bodyOf Tryz.f130) [1,1,1,1,0,1,0,0]) (s := mlS p t n es i) (an := [yT, .av (.pin ((encT x).map .dt)), .av (.pin ((encT y).map .dt)), .av (inA ((i + 1 : Nat) : Int))]) (ls := [.scl 13 7 [0] (.tup [.own 0 n', boA true]) [some (.buf 87 13 es')]]) (ft := [2,3,4,65,66,67]) (nb := 3) (e := .nxt) (s' := mlS p t n' es' ((i + 1 : Nat) : Int)) (ps := [Bn .lss 3 (.tmp 67) (.tmp 66) (vi ↑i) (vi ↑p.args.length) bT, IxAt (List.map Te.enc p.args) ↑i 11 (encT x), IxAt (List.map Te.enc t.args) ↑i 11 (encT y), Suk 130 [teA x, teA y, AV.own 0 n] [some (Bx.buf 87 13 es)] (AV.tup [AV.own 0 n', boA true]) [some (Bx.buf 87 13 es')], Bn .add 3 (.tmp 67) (.const (vi 1)) (vi ↑i) (vi 1) (vi (↑(i + 1)))]) (by kernel_rfl) ⟨bin_ilt (decide_eq_true (by omega)), ix_te hx, ix_te hy, h, bin_iadd (by omega) (by omega) (by omega), trivial⟩
theorem mlB2 {p t x y : Te} {n k : Nat} {es es' : List (List Dt)} {i : Nat} (hx : p.args[i]? = some x) (hy : t.args[i]? = some y) (h : Suk 130 [teA x, teA y, .own 0 n] [some (.buf 87 13 es)] (.tup [.own 0 k, boA false]) [some (.buf 87 13 es')]) : Tri (EXn 1) mlB (mlS p t n es i) .ret (mlR n es') :=
  have hi := (List.getElem?_eq_some_iff.1 hx).1
  tw (E := EXn 1) (c := subC (bodyOf Tryz.f130) [1,1,1,1,0,1,0,0]) (s := mlS p t n es i) (an := [yT, .av (.pin ((encT x).map .dt)), .av (.pin ((encT y).map .dt))]) (ls := [.scl 13 7 [0] (.tup [.own 0 k, boA false]) [some (.buf 87 13 es')]]) (ft := [6,7]) (nb := 1) (e := .ret) (s' := mlR n es') (ps := [Bn .lss 3 (.tmp 67) (.tmp 66) (vi ↑i) (vi ↑p.args.length) bT, IxAt (List.map Te.enc p.args) ↑i 11 (encT x), IxAt (List.map Te.enc t.args) ↑i 11 (encT y), Suk 130 [teA x, teA y, AV.own 0 n] [some (Bx.buf 87 13 es)] (AV.tup [AV.own 0 k, boA false]) [some (Bx.buf 87 13 es')]]) (by kernel_rfl) ⟨bin_ilt (decide_eq_true (by omega)), ix_te hx, ix_te hy, h, trivial⟩
theorem mlB3 {p t : Te} {n : Nat} {es : List (List Dt)} {i : Nat} (hi : i = p.args.length) : Tri (EXn 1) mlB (mlS p t n es i) (.out 0) (mlS p t n es i) :=
  tw (E := EXn 1) (c := subC (bodyOf Tryz.f130) [1,1,1,1,0,1,0,0]) (s := mlS p t n es i) (an := [yF]) (ls := []) (ft := [2,3,4,65,66,67]) (nb := 3) (e := .out 0) (s' := mlS p t n es i) (ps := [Bn .lss 3 (.tmp 67) (.tmp 66) (vi ↑i) (vi ↑p.args.length) bF]) (by kernel_rfl) ⟨bin_ilt (decide_eq_false (by omega)), trivial⟩
theorem w_mtL1 {p t : Te} {n n' : Nat} {es es' : List (List Dt)} (h3 : p.kind = 3) (ht : t.kind = 3) (hne : p.np = t.np ∧ p.nn = t.nn) (hl : p.args.length = t.args.length) (h : Tri (EXn 1) (.loop mlB) (mlS p t n es 0) (.out 0) (mlS p t n' es' p.args.length)) : Suk 130 [teA p, teA t, .own 0 n] [some (.buf 87 13 es)] (.tup [.own 0 n', boA true]) [some (.buf 87 13 es')] :=
  psw (n := 1) (ks := [0]) (an := [yF, yF, yF, yF, .av (inA p.args.length), .av (inA t.args.length), yF, .av (inA p.args.length)]) (ls := [.inv [2,3,4,65,66,67] 3 (.out 0) (mlS p t n' es' p.args.length)]) (ps := [Bn .eql 3 (.tmp 15) (.const (vi 1)) (vi p.kind) (vi 1) bF, Bn .neq 3 (.tmp 38) (.const (vi 3)) (vi p.kind) (vi 3) bF, Bn .neq 3 (.tmp 42) (.const (vi 3)) (vi t.kind) (vi 3) bF, Bn .neq 32 (.tmp 50) (.tmp 52) (Value.agg #[str p.np, str p.nn]) (Value.agg #[str t.np, str t.nn]) bF, (vi ↑p.args.length) = (vi (↑(List.map Te.enc p.args).length)), (vi ↑t.args.length) = (vi (↑(List.map Te.enc t.args).length)), Bn .neq 3 (.tmp 57) (.tmp 60) (vi ↑p.args.length) (vi ↑t.args.length) bF, (vi ↑p.args.length) = (vi (↑(List.map Te.enc p.args).length)), Tri (EXn 1) (.loop (subC (bodyOf Tryz.f130) [1,1,1,1,0,1,0,0])) (mlS p t n es 0) (.out 0) (mlS p t n' es' p.args.length)]) Tryz.func130 (by kernel_rfl) (by kernel_rfl) ⟨bin_ieq (by simp [h3]), bin_ine (by simp [h3]), bin_ine (by simp [ht]), bin_synH (by rw [sy_yes hne]; rfl), lenEncT _, lenEncT _, bin_ine (by simp; omega), lenEncT _, h, trivial⟩
theorem w_mtL0 {p t : Te} {n k : Nat} {es es' : List (List Dt)} (h3 : p.kind = 3) (ht : t.kind = 3) (hne : p.np = t.np ∧ p.nn = t.nn) (hl : p.args.length = t.args.length) (h : Tri (EXn 1) (.loop mlB) (mlS p t n es 0) .ret (mlR k es')) : Suk 130 [teA p, teA t, .own 0 n] [some (.buf 87 13 es)] (.tup [.own 0 k, boA false]) [some (.buf 87 13 es')] :=
  psw (n := 1) (ks := [0]) (an := [yF, yF, yF, yF, .av (inA p.args.length), .av (inA t.args.length), yF, .av (inA p.args.length)]) (ls := [.inv [2,3,4,65,66,67] 3 (.ret) (mlR k es')]) (ps := [Bn .eql 3 (.tmp 15) (.const (vi 1)) (vi p.kind) (vi 1) bF, Bn .neq 3 (.tmp 38) (.const (vi 3)) (vi p.kind) (vi 3) bF, Bn .neq 3 (.tmp 42) (.const (vi 3)) (vi t.kind) (vi 3) bF, Bn .neq 32 (.tmp 50) (.tmp 52) (Value.agg #[str p.np, str p.nn]) (Value.agg #[str t.np, str t.nn]) bF, (vi ↑p.args.length) = (vi (↑(List.map Te.enc p.args).length)), (vi ↑t.args.length) = (vi (↑(List.map Te.enc t.args).length)), Bn .neq 3 (.tmp 57) (.tmp 60) (vi ↑p.args.length) (vi ↑t.args.length) bF, (vi ↑p.args.length) = (vi (↑(List.map Te.enc p.args).length)), Tri (EXn 1) (.loop (subC (bodyOf Tryz.f130) [1,1,1,1,0,1,0,0])) (mlS p t n es 0) (.ret) (mlR k es')]) Tryz.func130 (by kernel_rfl) (by kernel_rfl) ⟨bin_ieq (by simp [h3]), bin_ine (by simp [h3]), bin_ine (by simp [ht]), bin_synH (by rw [sy_yes hne]; rfl), lenEncT _, lenEncT _, bin_ine (by simp; omega), lenEncT _, h, trivial⟩
/-- what match is to do -/
def MtOK (p : Te) : Prop := ∀ (t : Te) (s : As), t.Mkd → AsOK s → ((mt p t s).1 = true → Suk 130 [teA p, teA t, .own 0 s.length] (bfA s) (.tup [.own 0 (mt p t s).2.length, boA true]) (bfA (mt p t s).2)) ∧ ((mt p t s).1 = false → ∃ k, Suk 130 [teA p, teA t, .own 0 s.length] (bfA s) (.tup [.own 0 k, boA false]) (bfA (mt p t s).2))
theorem ml_loop {p t : Te} (hp : p.Mkd) (ht : t.Mkd) (hl : p.args.length = t.args.length) (hl1 : p.args.length ≤ 1000) (ih : ∀ x ∈ p.args, MtOK x) : ∀ (l m : List Te) (i : Nat) (s : As), p.args.drop i = l → t.args.drop i = m → i ≤ p.args.length → AsOK s →
    ((mtL l m s).1 = true → Lps (EXn 1) mlB (mlS p t s.length (asT s) i) (.out 0) (mlS p t (mtL l m s).2.length (asT (mtL l m s).2) p.args.length)) ∧ ((mtL l m s).1 = false → ∃ k, Lps (EXn 1) mlB (mlS p t s.length (asT s) i) .ret (mlR k (asT (mtL l m s).2))) := by
  intro l
  induction l with
  | nil =>
    intro m i s hd hm hi hs
    have e1 := congrArg List.length hd
    rw [List.length_drop, List.length_nil] at e1
    obtain rfl : i = p.args.length := by omega
    have e : mtL [] m s = (true, s) := by cases m <;> (rw [mtL]; all_goals simp)
    rw [e]
    exact ⟨fun _ => .stop (mlB3 rfl) (fun h => by cases h), fun h => by cases h⟩
  | cons x l ihl =>
    intro m i s hd hm hi hs
    have hx : p.args[i]? = some x := by rw [← List.head?_drop, hd]; rfl
    have hlt := (List.getElem?_eq_some_iff.1 hx).1
    cases m with
    | nil =>
      have e1 := congrArg List.length hm
      rw [List.length_drop, List.length_nil] at e1
      omega
    | cons y m =>
      have hy : t.args[i]? = some y := by rw [← List.head?_drop, hm]; rfl
      have hxm := List.mem_of_getElem? hx
      have hyk := ht.kids (List.mem_of_getElem? hy)
      have hok := mt_ok (hp.kids hxm) y s hyk hs
      obtain ⟨k1, k2⟩ := ih x hxm y s hyk hs
      rw [mtL]
      cases hb : (mt x y s).1 with
      | true =>
        have e : mt x y s = (true, (mt x y s).2) := by rw [← hb]
        rw [e]
        obtain ⟨j1, j2⟩ := ihl m (i + 1) (mt x y s).2 (by rw [← List.drop_drop, hd]; rfl) (by rw [← List.drop_drop, hm]; rfl) hlt hok
        refine ⟨fun h => .more (mlB1 hx hy hl1 (k1 hb)) (j1 h), fun h => ?_⟩
        obtain ⟨k, hk⟩ := j2 h
        exact ⟨k, .more (mlB1 hx hy hl1 (k1 hb)) hk⟩
      | false =>
        have e : mt x y s = (false, (mt x y s).2) := by rw [← hb]
        rw [e]
        obtain ⟨k, hk⟩ := k2 hb
        exact ⟨fun h => (by cases h), fun _ => ⟨_, .stop (mlB2 hx hy hk) (fun h => by cases h)⟩⟩
theorem Mkd.len {t : Te} (h : t.Mkd) : t.args.length ≤ 8 := by
  cases h with
  | var n h => exact Nat.zero_le _
  | con t h => exact Nat.zero_le _
  | ap n l hn hl h => exact hl
/-- match of the code -/
theorem p_mt {p : Te} (hp : p.Mkd) : MtOK p := by
  induction hp with
  | var n hn =>
    intro t s ht hs
    have hlen := hs.len
    rw [mt_var]
    cases hl : asgd s userB n with
    | none =>
      refine ⟨fun _ => ?_, fun h => by cases h⟩
      have := w_mtN (p := varT n) (t := t) (n := s.length) rfl (asT_len s) (p_lookN (by omega) hl _) (by rw [asT_len]; omega)
      rw [asT_snoc, asT_len] at this
      exact this
    | some x =>
      have he : Puk 57 [teA x, teA t] (boA (decide (x = t))) := p_teq (hs.asgd hl).wf t
      have hk := p_lookS (by omega) hl 87
      refine ⟨fun h => ?_, fun h => ⟨s.length, ?_⟩⟩
      · have h : decide (x = t) = true := h
        rw [h] at he
        exact w_mtS (p := varT n) rfl hk he
      · have h : decide (x = t) = false := h
        rw [h] at he
        exact w_mtS (p := varT n) rfl hk he
  | con o ho =>
    intro t s ht hs
    rw [mt_con]
    have he : Puk 57 [teA (Te.con o.ob), teA t] (boA (decide (Te.con o.ob = t))) := p_teq (Mkd.con o ho).wf t
    refine ⟨fun h => ?_, fun h => ⟨s.length, ?_⟩⟩
    · have h : decide (Te.con o.ob = t) = true := h
      rw [h] at he
      exact w_mtC (p := Te.con o.ob) (show (2 : Int) ≠ 1 by decide) (show (2 : Int) ≠ 3 by decide) he
    · have h : decide (Te.con o.ob = t) = false := h
      rw [h] at he
      exact w_mtC (p := Te.con o.ob) (show (2 : Int) ≠ 1 by decide) (show (2 : Int) ≠ 3 by decide) he
  | ap n l hn hl hx ih =>
    intro t s ht hs
    have hp : (Te.ap n l).Mkd := .ap n l hn hl hx
    have htl := Mkd.len ht
    rw [mt_ap]
    by_cases hk : t.kind = 3
    · rw [if_pos hk]
      by_cases hc : lispB = t.np ∧ n = t.nn
      · by_cases hll : l.length = t.args.length
        · rw [if_pos ⟨hc.1, hc.2, hll⟩]
          obtain ⟨k1, k2⟩ := ml_loop hp ht hll (by show l.length ≤ 1000; omega) ih l t.args 0 s rfl rfl (Nat.zero_le _) hs
          refine ⟨fun h => w_mtL1 (p := Te.ap n l) rfl hk hc hll (k1 h).tri, fun h => ?_⟩
          obtain ⟨k, hk2⟩ := k2 h
          exact ⟨k, w_mtL0 (p := Te.ap n l) rfl hk hc hll hk2.tri⟩
        · rw [if_neg (fun h => hll h.2.2)]
          exact ⟨fun h => (by cases h), fun _ => ⟨s.length, w_mtG (p := Te.ap n l) rfl hk hc hll⟩⟩
      · rw [if_neg (fun h => hc ⟨h.1, h.2.1⟩)]
        exact ⟨fun h => (by cases h), fun _ => ⟨s.length, w_mtE (p := Te.ap n l) rfl hk hc⟩⟩
    · rw [if_neg hk]
      have he : Puk 57 [teA (Te.ap n l), teA t] (boA (decide (Te.ap n l = t))) := p_teq hp.wf t
      rw [decide_eq_false (fun e => hk (by rw [← e]; rfl))] at he
      exact ⟨fun h => (by cases h), fun _ => ⟨s.length, w_mtD (p := Te.ap n l) rfl hk he⟩⟩
/- MatchAll on one pattern -/
theorem p_cloneA {es : List (List Dt)} (h0 : es ≠ []) (hl : es.length ≤ 1000) (hs : SrcOK 13 es) : Suk 129 [.dt (.row es)] [] (.own 0 es.length) [some (.buf 87 13 es)] :=
  psw (n := 0) (ks := [0]) (an := [.no, .av (.un)]) (ls := []) (ps := [es ≠ [], FitM 0 0, 0 = 0, FitB 208 (([] ++ es).length), SrcOK 13 es]) Tryz.func129 (by kernel_rfl) (by kernel_rfl) ⟨h0, fitM0, rfl, fit_a (by rw [List.nil_append]; omega), hs, trivial⟩
theorem src_asT (s : As) : SrcOK 13 (asT s) := fun x hx => by
  obtain ⟨y, _, rfl⟩ := List.mem_map.1 hx
  exact src_asg y.1 y.2 _ (List.mem_singleton.2 rfl)
theorem p_cloneS (s : As) (hl : s.length ≤ 1000) : Suk 129 [.dt (.row (asT s))] [] (.own 0 s.length) (bfA s) := by
  cases s with
  | nil => exact p_cloneA0
  | cons x r =>
    have := p_cloneA (es := asT (x :: r)) (by unfold asT; simp) (by rw [asT_len]; exact hl) (src_asT _)
    rw [asT_len] at this
    exact this
theorem w_maT {p t : Te} {n n' : Nat} {es es' : List (List Dt)} (hc : Suk 129 [.dt (.row es)] [] (.own 0 n) [some (.buf 87 13 es)]) (hm : Suk 130 [teA p, teA t, .own 0 n] [some (.buf 87 13 es)] (.tup [.own 0 n', boA true]) [some (.buf 87 13 es')]) (hn : es'.length = n') : Puk 107 [.dt (.row [encT p]), .dt (.row [encT t]), .dt (.row es)] (.tup [.dt (.row es'), boA true]) :=
  pwalk (an := [.no, .no, .no, .no, .no, .no, .no, .no, .no]) (ls := [.scl 3 1 [] (.own 0 n) [some (.buf 87 13 es)], .run 2, .scl 7 6 [0] (.tup [.own 0 n', boA true]) [some (.buf 87 13 es')]]) (ps := [Suk 129 [AV.dt (Dt.row es)] [] (AV.own 0 n) [some (Bx.buf 87 13 es)], Suk 130 [teA p, teA t, AV.own 0 n] [some (Bx.buf 87 13 es)] (AV.tup [AV.own 0 n', boA true]) [some (Bx.buf 87 13 es')], (es'.length) = n']) Tryz.func107 (by kernel_rfl) (by kernel_rfl) ⟨hc, hm, hn, trivial⟩
theorem w_maF {p t : Te} {n k : Nat} {es es' : List (List Dt)} (hc : Suk 129 [.dt (.row es)] [] (.own 0 n) [some (.buf 87 13 es)]) (hm : Suk 130 [teA p, teA t, .own 0 n] [some (.buf 87 13 es)] (.tup [.own 0 k, boA false]) [some (.buf 87 13 es')]) : Puk 107 [.dt (.row [encT p]), .dt (.row [encT t]), .dt (.row es)] (.tup [.dt (.row []), boA false]) :=
  pwalk (an := [.no, .no, .no, .no, .no, .no, .no]) (ls := [.scl 3 1 [] (.own 0 n) [some (.buf 87 13 es)], .run 1, .scl 7 6 [0] (.tup [.own 0 k, boA false]) [some (.buf 87 13 es')]]) (ps := [Suk 129 [AV.dt (Dt.row es)] [] (AV.own 0 n) [some (Bx.buf 87 13 es)], Suk 130 [teA p, teA t, AV.own 0 n] [some (Bx.buf 87 13 es)] (AV.tup [AV.own 0 k, boA false]) [some (Bx.buf 87 13 es')]]) Tryz.func107 (by kernel_rfl) (by kernel_rfl) ⟨hc, hm, trivial⟩
theorem w_Ma {p t : Te} {es : List (List Dt)} {rs : List (List Dt)} {b : Bool} (h : Puk 107 [.dt (.row [encT p]), .dt (.row [encT t]), .dt (.row es)] (.tup [.dt (.row rs), boA b])) : Puk 88 [teA p, teA t, .dt (.row es)] (.tup [.dt (.row rs), boA b]) :=
  pwalk (an := [.av (.tup [.dt (.row rs), boA b])]) (ls := []) (ps := [Puk 107 [(.dt (.row [encT p])), (.dt (.row [encT t])), (.dt (.row es))] (.tup [(.dt (.row rs)), (boA b)])]) Tryz.func88 (by kernel_rfl) (by kernel_rfl) ⟨h, trivial⟩
/-- Match of the code -/
theorem p_Match {p t : Te} (hp : p.Mkd) (ht : t.Mkd) {s : As} (hs : AsOK s) : ((mt p t s).1 = true → Puk 88 [teA p, teA t, .dt (.row (asT s))] (.tup [.dt (.row (asT (mt p t s).2)), boA true])) ∧ ((mt p t s).1 = false → Puk 88 [teA p, teA t, .dt (.row (asT s))] (.tup [.dt (.row []), boA false])) := by
  have hlen := hs.len
  have hc := p_cloneS s (by omega)
  obtain ⟨k1, k2⟩ := p_mt hp t s ht hs
  refine ⟨fun h => w_Ma (w_maT hc (k1 h) (asT_len _)), fun h => ?_⟩
  obtain ⟨k, hk⟩ := k2 h
  exact w_Ma (w_maF hc hk)
end Go.Proofs.YtendgffijciehaaGreatDoor
/- The translator of forms, of the reference: one step. -/
namespace Go.Proofs.YtendgffijciehaaGreatDoor
open Go.RowKit
open Te

abbrev wB (es : List (List Dt)) : Option Bx := some (.buf 109 32 es)
theorem w_Expand {es os rs : List (List Dt)} {n : List UInt8} {form o : Ob} (h1 : Puk 98 [obA form] (.tup [.dt (.row os), boA true])) (n0 : os.length ≠ 0) (h0 : IxAt os 0 7 (encL (symB n))) (hs : SlcOK os 7 1 (os.length : Int) rs) (hb : Puk 146 [syA lispB n] (boA true)) (he : Puk expF [stA n, .dt (.row rs)] (.tup [obA o, boA true])) : Suk 147 [.own 0 es.length, obA form] [wB es] (.tup [obA o, boA true, inA 0]) [wB es] :=
  psw (n := 1) (ks := [0]) (an := [.av (.tup [.dt (.row os), boA true]), .av (inA os.length), yF, .av (.pin ((encL (symB n)).map .dt)), .no, .av (.pin ((encL (symB n)).map .dt)), .av (.dt (.row rs)), yT, .av (.tup [obA o, boA true])]) (ls := []) (ps := [Puk 98 [(obA form)] (.tup [(.dt (.row os)), (boA true)]), (vi ↑os.length) = (vi ↑os.length), Bn .eql 3 (.tmp 28) (.const (vi 0)) (vi ↑os.length) (vi 0) bF, IxAt os 0 7 (encL (symB n)), IxAt os 0 7 (encL (symB n)), SlcOK os 7 ((some 1).getD 0) (none.getD ↑os.length) rs, (none : Option Int) = none ∨ (none : Option Int) = none, Puk 146 [(syA (symB n).sp (symB n).sn)] (boA true), Puk 173 [(stA (symB n).sn), (.dt (.row rs))] (.tup [(obA o), (boA true)])]) Tryz.func147 (by kernel_rfl) (by kernel_rfl) ⟨h1, rfl, bin_ieq (decide_eq_false (by omega)), h0, h0, hs, .inl rfl, hb, he, trivial⟩
theorem p_VarG (p n : List UInt8) : Puk 39 [syA p n] (teA ⟨1, p, n, zOb, []⟩) := pwalk (an := []) (ls := []) (ps := []) Tryz.func39 (by kernel_rfl) (by kernel_rfl) trivial
theorem p_Assigned0 (p n : List UInt8) : Puk 106 [.dt (.row []), syA p n] (.tup [teA zTe, boA false]) := pwalk (an := [.no, .no]) (ls := [.run 1]) (ps := []) Tryz.func106 (by kernel_rfl) (by kernel_rfl) trivial
abbrev trF : FuncId := 120
theorem w_tr1 {es ex : List (List Dt)} {m : Int} {o : Ob} {t : Te} (hk : o.kind = 1) (hc : Puk 16 [obA o] (teA t)) : Suk trF [.ptr 0 0, obA o, .dt (.row [])] (trX es ex m) (.tup [teA t, inA 0]) (trX es ex m) :=
  psw (n := 2) (ks := [0, 1]) (an := [yT, .av (teA t)]) (ls := []) (ps := [Bn .eql 3 (.tmp 29) (.const (vi 1)) (vi o.kind) (vi 1) bT, Puk 16 [(obA o)] (teA t)]) Tryz.func120 (by kernel_rfl) (by kernel_rfl) ⟨bin_ieq (yesD hk), hc, trivial⟩
theorem w_tr2 {es ex : List (List Dt)} {m : Int} {o : Ob} {t : Te} (hk : o.kind = 2) (hv : Puk 141 [syA o.sp o.sn] (boA false)) (hc : Puk 16 [obA o] (teA t)) : Suk trF [.ptr 0 0, obA o, .dt (.row [])] (trX es ex m) (.tup [teA t, inA 0]) (trX es ex m) :=
  psw (n := 2) (ks := [0, 1]) (an := [yF, yF, yT, yF, .av (teA t)]) (ls := []) (ps := [Bn .eql 3 (.tmp 29) (.const (vi 1)) (vi o.kind) (vi 1) bF, Bn .eql 3 (.tmp 29) (.const (vi 3)) (vi o.kind) (vi 3) bF, Bn .eql 3 (.tmp 29) (.const (vi 2)) (vi o.kind) (vi 2) bT, Puk 141 [(syA o.sp o.sn)] (boA false), Puk 16 [(obA o)] (teA t)]) Tryz.func120 (by kernel_rfl) (by kernel_rfl) ⟨bin_ieq (noD (by omega)), bin_ieq (noD (by omega)), bin_ieq (yesD hk), hv, hc, trivial⟩
theorem w_tr3 {es ex : List (List Dt)} {m : Int} {o : Ob} {t : Te} (hk : o.kind = 2) (hv : Puk 141 [syA o.sp o.sn] (boA true)) (ha : Puk 106 [.dt (.row []), syA o.sp o.sn] (.tup [teA zTe, boA false])) (hc : Puk 39 [syA o.sp o.sn] (teA t)) : Suk trF [.ptr 0 0, obA o, .dt (.row [])] (trX es ex m) (.tup [teA t, inA 0]) (trX es ex m) :=
  psw (n := 2) (ks := [0, 1]) (an := [yF, yF, yT, yT, .av (.tup [teA zTe, boA false]), .av (teA t)]) (ls := []) (ps := [Bn .eql 3 (.tmp 29) (.const (vi 1)) (vi o.kind) (vi 1) bF, Bn .eql 3 (.tmp 29) (.const (vi 3)) (vi o.kind) (vi 3) bF, Bn .eql 3 (.tmp 29) (.const (vi 2)) (vi o.kind) (vi 2) bT, Puk 141 [(syA o.sp o.sn)] (boA true), Puk 106 [(.dt (.row [])), (syA o.sp o.sn)] (.tup [(.agg [(inA 0), (stA zTe.np), (stA zTe.nn), (inA 0), (stA zTe.val.num), (stA zTe.val.den), (stA zTe.val.sp), (stA zTe.val.sn), (stA zTe.val.text), (.dt (.row (List.map Ob.enc zTe.val.pair))), (.dt (.row (List.map Te.enc zTe.args)))]), (boA false)]), Puk 39 [(syA o.sp o.sn)] (teA t)]) Tryz.func120 (by kernel_rfl) (by kernel_rfl) ⟨bin_ieq (noD (by omega)), bin_ieq (noD (by omega)), bin_ieq (yesD hk), hv, ha, hc, trivial⟩
/-- a call of a macro -/
theorem w_tr4 {es ex os rs : List (List Dt)} {m m' : Int} {n : List UInt8} {form o : Ob} {t : Te} (hk : form.kind = 4) (h1 : Puk 98 [obA form] (.tup [.dt (.row os), boA true])) (n0 : os.length ≠ 0) (h0 : IxAt os 0 7 (encL (symB n))) (hs : SlcOK os 7 1 (os.length : Int) rs)
    (hq : n ∉ Rdr.special) (hm : Puk 145 [.dt (.row es), syA lispB n] (.tup [mac0, boA false])) (hb : Puk 146 [syA lispB n] (boA true)) (hsp : Suk 144 [.ptr 0 0] (trX es ex m) (boA true) (trX es ex (m - 1))) (he : Suk 147 [.own 0 es.length, obA form] [wB es] (.tup [obA o, boA true, inA 0]) [wB es]) (ht : Suk trF [.ptr 0 0, obA o, .dt (.row [])] (trX es ex (m - 1)) (.tup [teA t, inA 0]) (trX es ex m')) : Suk trF [.ptr 0 0, obA form, .dt (.row [])] (trX es ex m) (.tup [teA t, inA 0]) (trX es ex m') := by
  have ne : ∀ x ∈ Rdr.special, (decide (lispB = lispB) && decide (n = x)) = false := fun x hx => by
    rw [decide_eq_false (fun e : n = x => hq (e.symm ▸ hx)), Bool.and_false]
  exact psw (n := 2) (ks := [0, 1]) (an := [yF, yF, yF, .av (.tup [.dt (.row os), boA true]), .av (inA os.length), yF, .av (.pin ((encL (symB n)).map .dt)), .no, .av (.pin ((encL (symB n)).map .dt)), .av (.dt (.row rs)), .av (syA lispB [113, 117, 111, 116, 101]), yF, .av (syA lispB [108, 101, 116]), yF, .av (syA lispB [108, 101, 116, 42]), yF, .av (.tup [mac0, boA false]), yT, .no]) (ls := [.scl 33 1 [0, 1] (boA true) [some (.cells [.own 1 es.length, .dt (.row ex), inA (m - 1)]), some (.buf 109 32 es)], .scl 35 5 [1] (.tup [obA o, boA true, inA 0]) [some (.buf 109 32 es)], .scl 38 3 [0, 1] (.tup [teA t, inA 0]) [some (.cells [.own 1 es.length, .dt (.row ex), inA m']), some (.buf 109 32 es)]]) (ps := [Bn .eql 3 (.tmp 29) (.const (vi 1)) (vi form.kind) (vi 1) bF, Bn .eql 3 (.tmp 29) (.const (vi 3)) (vi form.kind) (vi 3) bF, Bn .eql 3 (.tmp 29) (.const (vi 2)) (vi form.kind) (vi 2) bF, Puk 98 [(obA form)] (.tup [(.dt (.row os)), (boA true)]), (vi ↑os.length) = (vi ↑os.length), Bn .eql 3 (.tmp 64) (.const (vi 0)) (vi ↑os.length) (vi 0) bF, IxAt os 0 7 (encL (symB n)), IxAt os 0 7 (encL (symB n)), SlcOK os 7 ((some 1).getD 0) (none.getD ↑os.length) rs, (none : Option Int) = none ∨ (none : Option Int) = none, Puk 51 [(stA [113, 117, 111, 116, 101])] (syA lispB [113, 117, 111, 116, 101]), Bn .eql 32 (.tmp 81) (.tmp 83) (Value.agg #[str (symB n).sp, str (symB n).sn]) (Value.agg #[str lispB, str [113, 117, 111, 116, 101]]) bF, Puk 51 [(stA [108, 101, 116])] (syA lispB [108, 101, 116]), Bn .eql 32 (.tmp 81) (.tmp 94) (Value.agg #[str (symB n).sp, str (symB n).sn]) (Value.agg #[str lispB, str [108, 101, 116]]) bF, Puk 51 [(stA [108, 101, 116, 42])] (syA lispB [108, 101, 116, 42]), Bn .eql 32 (.tmp 81) (.tmp 103) (Value.agg #[str (symB n).sp, str (symB n).sn]) (Value.agg #[str lispB, str [108, 101, 116, 42]]) bF, Puk 145 [(.dt (.row es)), (syA (symB n).sp (symB n).sn)] (.tup [(.agg [(stA []), (stA []), .nil, (boA false), (inA 0), (stA []), (stA []), (inA 0), (stA []), (stA []), (stA []), (stA []), (stA []), .nil, .nil]), (boA false)]), (es.length) = (es.length), Puk 146 [(syA (symB n).sp (symB n).sn)] (boA true), Suk 144 [AV.ptr 0 0] [some (Bx.cells [AV.own 1 es.length, AV.dt (Dt.row ex), AV.dt (Dt.val (vi m))]), some (Bx.buf 109 32 es)] (boA true) [some (Bx.cells [AV.own 1 es.length, AV.dt (Dt.row ex), inA (m - 1)]), some (Bx.buf 109 32 es)], Suk 147 [AV.own 0 es.length, AV.agg [AV.dt (Dt.val (vi form.kind)), AV.dt (Dt.val (str form.num)), AV.dt (Dt.val (str form.den)), AV.dt (Dt.val (str form.sp)), AV.dt (Dt.val (str form.sn)), AV.dt (Dt.val (str form.text)), AV.dt (Dt.row (List.map Ob.enc form.pair))]] [some (Bx.buf 109 32 es)] (AV.tup [obA o, boA true, inA 0]) [some (Bx.buf 109 32 es)], Suk 120 [AV.ptr 0 0, AV.agg [AV.dt (Dt.val (vi o.kind)), AV.dt (Dt.val (str o.num)), AV.dt (Dt.val (str o.den)), AV.dt (Dt.val (str o.sp)), AV.dt (Dt.val (str o.sn)), AV.dt (Dt.val (str o.text)), AV.dt (Dt.row (List.map Ob.enc o.pair))], AV.dt (Dt.row [])] [some (Bx.cells [AV.own 1 es.length, AV.dt (Dt.row ex), AV.dt (Dt.val (vi (m - 1)))]), some (Bx.buf 109 32 es)] (AV.tup [teA t, inA 0]) [some (Bx.cells [AV.own 1 es.length, AV.dt (Dt.row ex), inA m']), some (Bx.buf 109 32 es)]]) Tryz.func120 (by kernel_rfl) (by kernel_rfl)
    ⟨bin_ieq (noD (by omega)), bin_ieq (noD (by omega)), bin_ieq (noD (by omega)), h1, rfl, bin_ieq (decide_eq_false (by omega)), h0, h0, hs, .inl rfl, p_lisp _, bin_syeq (ne _ (by decide)), p_lisp _, bin_syeq (ne _ (by decide)), p_lisp _, bin_syeq (ne _ (by decide)), hm, rfl, hb, hsp, he, ht, trivial⟩
end Go.Proofs.YtendgffijciehaaGreatDoor
