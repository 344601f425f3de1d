/- The translator of forms, of the reference: calls. -/
import Derived.Test.YtendgffijciehaaGreatDoorFL
import Derived.Test.YtendgffijciehaaGreatDoorFJ
namespace Go.Proofs.YtendgffijciehaaGreatDoor
open Go.RowKit
open Te

abbrev trC (form : Ob) (n : List UInt8) : List (Option Bx) := [some (.cells ((encL form).map .dt)), some (.cells [inA 0, stA [], stA [], inA 0, stA [], stA [], stA [], stA [], stA [], .nil, .nil]), some (.cells [stA lispB, stA n]), some (.cells [stA [], stA [], .nil, boA false, inA 0, stA [], stA [], inA 0, stA [], stA [], stA [], stA [], stA [], .nil, .nil])]
abbrev trS (es ex : List (List Dt)) (m : Int) (form : Ob) (n : List UInt8) (os ts : List (List Dt)) (i : Int) : AS := ⟨stt 214 [(0, .ptr 0 0), (2, .dt (.row [])), (4, .ptr 2 0), (6, .ptr 3 0), (12, .ptr 4 0), (13, .dt (.row os)), (23, .own 6 ts.length), (24, inA i)], trX es ex m ++ (trC form n ++ [some (.buf 37 11 ts)])⟩
abbrev tr0 (es ex : List (List Dt)) (m : Int) (form : Ob) (n : List UInt8) (os : List (List Dt)) : AS := ⟨stt 214 [(0, .ptr 0 0), (2, .dt (.row [])), (4, .ptr 2 0), (6, .ptr 3 0), (12, .ptr 4 0), (13, .dt (.row os)), (23, .nil), (24, inA 0)], trX es ex m ++ trC form n⟩
noncomputable abbrev trB : Code := subC (bodyOf Tryz.f120) [1,1,1,1,1,1,1,1,0,1,0,0]
theorem trB1 {es ex os ts : List (List Dt)} {m m' : Int} {form o : Ob} {n : List UInt8} {i : Nat} {t : Te} (hi : i < os.length) (hl : os.length ≤ 1000) (he : ts.length ≤ 1000) (hx : IxAt os (i : Int) 7 (encL o)) (ht : Suk trF [.ptr 0 0, obA o, .dt (.row [])] (trX es ex m) (.tup [teA t, inA 0]) (trX es ex m')) : Tri (EXn 2) trB (trS es ex m form n os ts i) .nxt (trS es ex m' form n os (ts ++ [encT t]) ((i + 1 : Nat) : Int)) :=
  tw (E := EXn 2) (c := subC (bodyOf Tryz.f120) [1,1,1,1,1,1,1,1,0,1,0,0]) (s := trS es ex m form n os ts i) (an := [.av (inA os.length), yT, .av (.pin ((encL o).map .dt)), .no, .av (.un), .av (inA ((i + 1 : Nat) : Int))]) (ls := [.scl 43 6 [0, 1] (.tup [teA t, inA 0]) [some (.cells [.own 1 es.length, .dt (.row ex), inA m']), some (.buf 109 32 es)]]) (ft := [0,2,4,6,12,13,23,24]) (nb := 7) (e := .nxt) (s' := trS es ex m' form n os (ts ++ [encT t]) ((i + 1 : Nat) : Int)) (ps := [(vi ↑os.length) = (vi ↑os.length), Bn .lss 3 (.tmp 173) (.tmp 175) (vi ↑i) (vi ↑os.length) bT, IxAt os ↑i 7 (encL o), Suk 120 [AV.ptr 0 0, AV.agg [AV.dt (Dt.val (vi o.kind)), AV.dt (Dt.val (str o.num)), AV.dt (Dt.val (str o.den)), AV.dt (Dt.val (str o.sp)), AV.dt (Dt.val (str o.sn)), AV.dt (Dt.val (str o.text)), AV.dt (Dt.row (List.map Ob.enc o.pair))], AV.dt (Dt.row [])] [some (Bx.cells [AV.own 1 es.length, AV.dt (Dt.row ex), AV.dt (Dt.val (vi m))]), some (Bx.buf 109 32 es)] (AV.tup [teA t, inA 0]) [some (Bx.cells [AV.own 1 es.length, AV.dt (Dt.row ex), inA m']), some (Bx.buf 109 32 es)], (ts.length) = (ts.length), FitB 176 ((ts ++ [encT t]).length), SrcOK 11 [encT t], Bn .add 3 (.tmp 177) (.const (vi 1)) (vi ↑i) (vi 1) (vi (↑(i + 1)))]) (by kernel_rfl)
    ⟨rfl, bin_ilt (decide_eq_true (by omega)), hx, ht, rfl, fit_of (by omega) (by simp; omega), src_te1 t, bin_iadd (by omega) (by omega) (by omega), trivial⟩
theorem trB2 {es ex os ts : List (List Dt)} {m : Int} {form : Ob} {n : List UInt8} {i : Nat} (hi : i = os.length) : Tri (EXn 2) trB (trS es ex m form n os ts i) (.out 2) (trS es ex m form n os ts i) :=
  tw (E := EXn 2) (c := subC (bodyOf Tryz.f120) [1,1,1,1,1,1,1,1,0,1,0,0]) (s := trS es ex m form n os ts i) (an := [.av (inA os.length), yF]) (ls := []) (ft := [0,2,4,6,12,13,23,24]) (nb := 7) (e := .out 2) (s' := trS es ex m form n os ts i) (ps := [(vi ↑os.length) = (vi ↑os.length), Bn .lss 3 (.tmp 173) (.tmp 175) (vi ↑i) (vi ↑os.length) bF]) (by kernel_rfl)
    ⟨rfl, bin_ilt (decide_eq_false (by omega)), trivial⟩
theorem w_tr5 {es ex os rs ts : List (List Dt)} {m m' k : Int} {n : List UInt8} {form : Ob} {t : Te} (hk : form.kind = 4) (h1 : Puk 98 [obA form] (.tup [.dt (.row os), boA true])) (n0 : os.length ≠ 0) (h0 : IxAt os 0 7 (encL (symB n))) (hs : SlcOK os 7 1 (os.length : Int) rs)
    (hq : n ∉ Rdr.special) (hm : Puk 145 [.dt (.row es), syA lispB n] (.tup [mac0, boA false])) (hb : Puk 146 [syA lispB n] (boA false)) (hlp : Tri (EXn 2) (.loop trB) (tr0 es ex m form n rs) (.out 2) (trS es ex m' form n rs ts k)) (ha : Puk 148 [.pin [.dt (.row es), .dt (.row ex), inA m'], syA lispB n] (.tup [inA ts.length, boA true])) (hp : Puk 50 [syA lispB n, .dt (.row ts)] (teA t)) : Suk trF [.ptr 0 0, obA form, .dt (.row [])] (trX es ex m) (.tup [teA t, inA 0]) (trX es ex m') := by
  have ne : ∀ x ∈ Rdr.special, (decide (lispB = lispB) && decide (n = x)) = false := fun x hx => by
    rw [decide_eq_false (fun e : n = x => hq (e.symm ▸ hx)), Bool.and_false]
  exact psw (n := 2) (ks := [0, 1]) (an := [yF, yF, yF, .av (.tup [.dt (.row os), boA true]), .av (inA os.length), yF, .av (.pin ((encL (symB n)).map .dt)), .no, .av (.pin ((encL (symB n)).map .dt)), .av (.dt (.row rs)), .av (syA lispB [113, 117, 111, 116, 101]), yF, .av (syA lispB [108, 101, 116]), yF, .av (syA lispB [108, 101, 116, 42]), yF, .av (.tup [mac0, boA false]), yF, .av (.tup [inA ts.length, boA true]), .av (inA ts.length), yF, .av (teA t)]) (ls := [.inv [0,2,4,6,12,13,23,24] 6 (.out 2) (trS es ex m' form n rs ts k)]) (ps := [Bn .eql 3 (.tmp 29) (.const (vi 1)) (vi form.kind) (vi 1) bF, Bn .eql 3 (.tmp 29) (.const (vi 3)) (vi form.kind) (vi 3) bF, Bn .eql 3 (.tmp 29) (.const (vi 2)) (vi form.kind) (vi 2) bF, Puk 98 [(obA form)] (.tup [(.dt (.row os)), (boA true)]), (vi ↑os.length) = (vi ↑os.length), Bn .eql 3 (.tmp 64) (.const (vi 0)) (vi ↑os.length) (vi 0) bF, IxAt os 0 7 (encL (symB n)), IxAt os 0 7 (encL (symB n)), SlcOK os 7 ((some 1).getD 0) (none.getD ↑os.length) rs, (none : Option Int) = none ∨ (none : Option Int) = none, Puk 51 [(stA [113, 117, 111, 116, 101])] (syA lispB [113, 117, 111, 116, 101]), Bn .eql 32 (.tmp 81) (.tmp 83) (Value.agg #[str (symB n).sp, str (symB n).sn]) (Value.agg #[str lispB, str [113, 117, 111, 116, 101]]) bF, Puk 51 [(stA [108, 101, 116])] (syA lispB [108, 101, 116]), Bn .eql 32 (.tmp 81) (.tmp 94) (Value.agg #[str (symB n).sp, str (symB n).sn]) (Value.agg #[str lispB, str [108, 101, 116]]) bF, Puk 51 [(stA [108, 101, 116, 42])] (syA lispB [108, 101, 116, 42]), Bn .eql 32 (.tmp 81) (.tmp 103) (Value.agg #[str (symB n).sp, str (symB n).sn]) (Value.agg #[str lispB, str [108, 101, 116, 42]]) bF, Puk 145 [(.dt (.row es)), (syA (symB n).sp (symB n).sn)] (.tup [(.agg [(stA []), (stA []), .nil, (boA false), (inA 0), (stA []), (stA []), (inA 0), (stA []), (stA []), (stA []), (stA []), (stA []), .nil, .nil]), (boA false)]), (es.length) = (es.length), Puk 146 [(syA (symB n).sp (symB n).sn)] (boA false), Tri (EXn 2) (.loop (subC (bodyOf Tryz.f120) [1,1,1,1,1,1,1,1,0,1,0,0])) (tr0 es ex m form n rs) (.out 2) (trS es ex m' form n rs ts k), Puk 148 [(.pin [(.dt (.row es)), (.dt (.row ex)), (inA m')]), (syA lispB n)] (.tup [(inA ↑ts.length), (boA true)]), (es.length) = (es.length), (vi ↑ts.length) = (vi ↑ts.length), Bn .neq 3 (.tmp 206) (.tmp 208) (vi ↑ts.length) (vi ↑ts.length) bF, Puk 50 [(syA lispB n), (.dt (.row ts))] (teA t), (ts.length) = (ts.length)]) Tryz.func120 (by kernel_rfl) (by kernel_rfl)
    ⟨bin_ieq (noD (by omega)), bin_ieq (noD (by omega)), bin_ieq (noD (by omega)), h1, rfl, bin_ieq (decide_eq_false (by omega)), h0, h0, hs, .inl rfl, p_lisp _, bin_syeq (ne _ (by decide)), p_lisp _, bin_syeq (ne _ (by decide)), p_lisp _, bin_syeq (ne _ (by decide)), hm, rfl, hb, hlp, ha, rfl, rfl, bin_ine (decide_eq_true rfl), hp, rfl, trivial⟩
end Go.Proofs.YtendgffijciehaaGreatDoor
/- The translator of forms, of the reference: it answers as the plain function. -/
namespace Go.Proofs.YtendgffijciehaaGreatDoor
open Go.RowKit
open Te

theorem p_biT {n : List UInt8} {l : List Tr} {o : Tr} (h : Rdr.expand n l = some o) : Puk 146 [syA lispB n] (boA true) := by
  unfold Rdr.expand at h
  split at h
  · rename_i e; subst e; exact w_bi1
  split at h
  · rename_i e; subst e; exact w_bi13
  split at h
  · rename_i e; subst e; exact w_bi3
  split at h
  · rename_i e; subst e; exact w_bi4
  split at h
  · rename_i e; subst e; exact w_bi5
  split at h
  · rename_i e; subst e; exact w_bi6
  · cases h
theorem int_okT {n : Int} (h : n.natAbs < 10 ^ 4) : (Tr.num (n : Rat)).Ok 10000 := Tr.Ok.mono (k := 4) (by decide) (rb_int h)
theorem tr_main {ws : List Rdr.Fnc} {f : Rdr.Fnc} (hw : (ws.map encE).length ≤ 1000) : ∀ (fuel : Nat),
    (∀ (x : Tr) (m m' : Int) (t : Te), Rdr.trn (Rdr.arity primL ws f.nm f.ps) fuel m x = some (t, m') → 0 ≤ m → m ≤ 500 → (0 ≤ m' ∧ m' ≤ m) ∧ t.Bd ∧ Suk trF [.ptr 0 0, trA x, .dt (.row [])] (trX (ws.map encE) [encF f] m) (.tup [teA t, inA 0]) (trX (ws.map encE) [encF f] m')) ∧
    (∀ (l : List Tr) (m m' : Int) (ts : List Te), Rdr.trnL (Rdr.arity primL ws f.nm f.ps) fuel m l = some (ts, m') → 0 ≤ m → m ≤ 500 → (0 ≤ m' ∧ m' ≤ m) ∧ ts.length = l.length ∧ (∀ t ∈ ts, t.Bd) ∧ ∀ (form : Ob) (n : List UInt8) (os : List Tr) (i : Nat) (us : List Te), os.length ≤ 500 → us.length = i → i ≤ os.length → os.drop i = l →
      Lps (EXn 2) trB (trS (ws.map encE) [encF f] m form n (encOs os) (encTs us) i) (.out 2) (trS (ws.map encE) [encF f] m' form n (encOs os) (encTs (us ++ ts)) os.length)) := by
  intro fuel
  induction fuel with
  | zero => exact ⟨fun x m m' t h => by simp [Rdr.trn] at h, fun l m m' ts h => by simp [Rdr.trnL] at h⟩
  | succ fuel ih =>
    obtain ⟨ih1, ih2⟩ := ih
    refine ⟨?_, ?_⟩
    · intro x m m' t h h0 h5
      cases x with
      | num q =>
        rw [Rdr.trn] at h
        split at h
        · rename_i hq
          cases h
          refine ⟨⟨h0, Int.le_refl _⟩, ?_, w_tr1 rfl (p_rConst _)⟩
          have hok : (Tr.num q).Ok 10000 := by
            rcases hq with rfl | rfl | rfl
            · exact int_okT (n := 0) (by decide)
            · exact int_okT (n := 1) (by decide)
            · exact int_okT (n := -1) (by decide)
          exact .mk _ (hok.wf (by decide)) (hok.sm (by decide)) (Nat.zero_le _) (Nat.zero_le _) (Nat.zero_le _) (fun x hx => by cases hx)
        · cases h
      | txt s => simp [Rdr.trn] at h
      | sym p n =>
        rw [Rdr.trn] at h
        split at h
        · rename_i hl
          have hv := p_Variable p n (by omega) (by omega)
          split at h
          · rename_i e
            cases h
            rw [e] at hv
            exact ⟨⟨h0, Int.le_refl _⟩, .mk _ zOb_wf (.mk _ (Nat.zero_le _) (Nat.zero_le _) (fun x hx => by cases hx)) (by show p.length ≤ _; omega) (by show n.length ≤ _; omega) (Nat.zero_le _) (fun x hx => by cases hx), w_tr3 rfl hv (p_Assigned0 _ _) (p_VarG _ _)⟩
          · rename_i e
            cases h
            rw [Bool.eq_false_iff.2 e] at hv
            have hok : (Tr.sym p n).Ok 10000 := ⟨by omega, by omega⟩
            exact ⟨⟨h0, Int.le_refl _⟩, .mk _ (hok.wf (by decide)) (hok.sm (by decide)) (Nat.zero_le _) (Nat.zero_le _) (Nat.zero_le _) (fun x hx => by cases hx), w_tr2 rfl hv (p_rConst _)⟩
        · cases h
      | cons a d =>
        rw [Rdr.trn] at h
        split at h
        case h_2 => cases h
        rename_i p n l hi
        have hx := items_list hi
        split at h
        case isFalse => cases h
        rename_i hc
        obtain ⟨rfl, hn, hs, hl⟩ := hc
        rw [hx]
        have hk : (Tr.list (Tr.sym lispB n :: l)).ob.kind = 4 := rfl
        have hlen : (encOs (Tr.sym lispB n :: l)).length ≠ 0 := by unfold encOs; rw [List.length_map]; simp
        have hit := p_rItems (l := Tr.sym lispB n :: l) (by rw [List.length_cons]; omega)
        split at h
        · rename_i hm
          split at h
          case h_2 => cases h
          rename_i o ho
          split at h
          case isFalse => cases h
          rename_i h1
          obtain ⟨⟨g1, g2⟩, g3, g4⟩ := ih1 o (m - 1) m' t h (by omega) (by omega)
          have hb := p_biT ho
          exact ⟨⟨g1, by omega⟩, g3, w_tr4 hk hit hlen (ix_os0 _ _) (slc_os _ _) hs (p_Macro hw) hb (p_spend h1 h5) (w_Expand hit hlen (ix_os0 _ _) (slc_os _ _) hb (p_expand ho (by omega))) g4⟩
        · rename_i hm
          split at h
          case h_2 => cases h
          rename_i ts m1 hts
          split at h
          case isFalse => cases h
          rename_i har
          cases h
          obtain ⟨⟨g1, g2⟩, g3, g4, g5⟩ := ih2 l m m' ts hts h0 h5
          have hlp := g5 (Tr.list (Tr.sym lispB n :: l)).ob n l 0 [] hl rfl (Nat.zero_le _) rfl
          have ht : Tri (EXn 2) (.loop trB) (tr0 (ws.map encE) [encF f] m (Tr.list (Tr.sym lispB n :: l)).ob n (encOs l)) (.out 2) (trS (ws.map encE) [encF f] m' (Tr.list (Tr.sym lispB n :: l)).ob n (encOs l) (encTs ts) l.length) := Tri.own0 23 37 11 (by show 23 < 214; omega) rfl hlp.tri
          refine ⟨⟨g1, g2⟩, .mk _ zOb_wf (.mk _ (Nat.zero_le _) (Nat.zero_le _) (fun x hx => by cases hx)) (by show lispB.length ≤ _; decide) (by show n.length ≤ _; omega) (by show ts.length ≤ _; omega) g4, w_tr5 hk hit hlen (ix_os0 _ _) (slc_os _ _) hs (p_Macro hw) (p_biF hm) ht ?_ (p_rApp _ _ _)⟩
          have hay := p_arity (m := m') hw har
          unfold encTs
          rw [List.length_map]
          exact hay
    · intro l m m' ts h h0 h5
      cases l with
      | nil =>
        rw [Rdr.trnL] at h
        cases h
        refine ⟨⟨h0, Int.le_refl _⟩, rfl, (fun t ht => by cases ht), fun form n os i us ho hu hi hd => ?_⟩
        have e1 := congrArg List.length hd
        rw [List.length_drop, List.length_nil] at e1
        obtain rfl : i = os.length := by omega
        rw [List.append_nil]
        exact .stop (trB2 (by unfold encOs; rw [List.length_map])) (fun h => by cases h)
      | cons x r =>
        rw [Rdr.trnL] at h
        split at h
        case h_2 => cases h
        rename_i t m1 ht
        split at h
        case h_2 => cases h
        rename_i ts' m2 hts
        cases h
        obtain ⟨⟨g1, g2⟩, g3, g4⟩ := ih1 x m m1 t ht h0 h5
        obtain ⟨⟨k1, k2⟩, k3, k4, k5⟩ := ih2 r m1 m' ts' hts g1 (by omega)
        refine ⟨⟨k1, by omega⟩, by rw [List.length_cons, List.length_cons, k3], fun y hy => ?_, fun form n os i us ho hu hi hd => ?_⟩
        · rcases List.mem_cons.1 hy with rfl | hy
          · exact g3
          · exact k4 y hy
        · have hx : os[i]? = some x := by rw [← List.head?_drop, hd]; rfl
          have hlt := (List.getElem?_eq_some_iff.1 hx).1
          have hix : IxAt (encOs os) (i : Int) 7 (encL x.ob) := ⟨Int.natCast_nonneg _, by rw [Int.toNat_natCast]; unfold encOs; rw [List.getElem?_map, hx]; rfl, rfl⟩
          have hs := trB1 (form := form) (n := n) (ts := encTs us) (by unfold encOs; rw [List.length_map]; exact hlt) (by unfold encOs; rw [List.length_map]; omega) (by rw [List.length_map]; omega) hix g4
          have e : encTs us ++ [encT t] = encTs (us ++ [t]) := by unfold encTs; rw [List.map_append, row1]
          rw [e] at hs
          have hn := k5 form n os (i + 1) (us ++ [t]) ho (by simp [hu]) hlt (by rw [← List.drop_drop, hd]; rfl)
          rw [List.append_assoc, List.singleton_append] at hn
          exact .more hs hn
end Go.Proofs.YtendgffijciehaaGreatDoor
/- Term and option of the reference. -/
namespace Go.Proofs.YtendgffijciehaaGreatDoor
open Go.RowKit
open Te

theorem w_Term12 {es ex : List (List Dt)} {m' : Int} {form : Ob} {t : Te} (h : Suk trF [.ptr 0 0, obA form, .dt (.row [])] (trX es ex 500) (.tup [teA t, inA 0]) (trX es ex m')) (hv : Puk 121 [teA t] (boA true)) : Suk 100 [.own 0 es.length, .dt (.row ex), obA form] [wB es] (.tup [teA t, inA 0]) [wB es] :=
  psw (n := 1) (ks := [0]) (an := [.no, yT]) (ls := [.scl 2 2 [3, 0] (.tup [teA t, inA 0]) [some (.cells [.own 1 es.length, .dt (.row ex), inA m']), some (.buf 109 32 es)]]) (ps := [Suk 120 [AV.ptr 0 0, AV.agg [AV.dt (Dt.val (vi form.kind)), AV.dt (Dt.val (str form.num)), AV.dt (Dt.val (str form.den)), AV.dt (Dt.val (str form.sp)), AV.dt (Dt.val (str form.sn)), AV.dt (Dt.val (str form.text)), AV.dt (Dt.row (List.map Ob.enc form.pair))], AV.dt (Dt.row [])] [some (Bx.cells [AV.own 1 es.length, AV.dt (Dt.row ex), AV.dt (Dt.val (vi 500))]), some (Bx.buf 109 32 es)] (AV.tup [teA t, inA 0]) [some (Bx.cells [AV.own 1 es.length, AV.dt (Dt.row ex), inA m']), some (Bx.buf 109 32 es)], Puk 121 [(teA t)] (boA true)]) Tryz.func100 (by kernel_rfl) (by kernel_rfl) ⟨h, hv, trivial⟩
theorem p_Term12 {ws : List Rdr.Fnc} {f : Rdr.Fnc} (hw : ws.length ≤ 1000) {x : Tr} {t : Te} (h : Rdr.trm (Rdr.arity primL ws f.nm f.ps) x = some t) : Suk 100 [.own 0 (ws.map encE).length, .dt (.row [encF f]), trA x] [wB (ws.map encE)] (.tup [teA t, inA 0]) [wB (ws.map encE)] := by
  unfold Rdr.trm at h
  split at h
  case h_2 => cases h
  rename_i t' m' ht
  split at h
  case isFalse => cases h
  rename_i hv
  cases h
  obtain ⟨_, hb, hs⟩ := (tr_main (by rw [List.length_map]; exact hw) 100).1 x 500 m' t ht (by decide) (by decide)
  have h8 := p_rValidT hb
  rw [hv] at h8
  exact w_Term12 hs h8
/- option -/
abbrev opS (os : List (List Dt)) (nm : List UInt8) (i : Int) : AS := ⟨stt 43 [(0, .dt (.row os)), (1, stA nm), (4, .ptr 0 0), (6, inA i)], [some (.cells [inA 0, stA [], stA [], stA [], stA [], stA [], .nil])]⟩
abbrev opR (b : Ob) : AS := ⟨stt 43 [(4, .ptr 0 0), (5, boA true)], [some (.cells ((encL b).map .dt))]⟩
noncomputable abbrev opB : Code := subC (bodyOf Tryz.f101) [1,0,1,0,0]
theorem opB1 {os : List (List Dt)} {nm p n : List UInt8} {i : Nat} {x b : Ob} (hi : i + 1 < os.length) (hl : os.length ≤ 1000) (hx : IxAt os (i : Int) 7 (encL x)) (h : Puk 98 [obA x] (.tup [.dt (.row [encL (Tr.sym p n).ob, encL b]), boA true])) (hn : (decide (p = lispB) && decide (n = nm)) = false) : Tri EX opB (opS os nm i) .nxt (opS os nm ((i + 1 : Nat) : Int)) :=
  twalk (c := subC (bodyOf Tryz.f101) [1,0,1,0,0]) (s := opS os nm i) (an := [.av (inA ((i + 1 : Nat) : Int)), .av (inA os.length), yT, .av (.pin ((encL x).map .dt)), .av (.tup [.dt (.row [encL (Tr.sym p n).ob, encL b]), boA true]), .no, .no, .no, .av (syA lispB nm), yF, .av (inA ((i + 1 : Nat) : Int))]) (ls := []) (ft := [0,1,4,6]) (nb := 1) (e := .nxt) (s' := opS os nm ((i + 1 : Nat) : Int)) (ps := [Bn .add 3 (.tmp 9) (.const (vi 1)) (vi ↑i) (vi 1) (vi (↑(i + 1))), (vi ↑os.length) = (vi ↑os.length), Bn .lss 3 (.tmp 10) (.tmp 12) (vi (↑(i + 1))) (vi ↑os.length) bT, IxAt os ↑i 7 (encL x), Puk 98 [(obA x)] (.tup [(.dt (.row [encL (Tr.sym p n).ob, encL b])), (boA true)]), Puk 51 [(stA nm)] (syA lispB nm), Bn .eql 32 (.tmp 34) (.tmp 36) (Value.agg #[str (Tr.sym p n).ob.sp, str (Tr.sym p n).ob.sn]) (Value.agg #[str lispB, str nm]) bF, Bn .add 3 (.tmp 14) (.const (vi 1)) (vi ↑i) (vi 1) (vi (↑(i + 1)))]) (by kernel_rfl) ⟨bin_iadd (by omega) (by omega) (by omega), rfl, bin_ilt (decide_eq_true (by omega)), hx, h, p_lisp _, bin_syeq hn, bin_iadd (by omega) (by omega) (by omega), trivial⟩
theorem opB2 {os : List (List Dt)} {nm p n : List UInt8} {i : Nat} {x b : Ob} (hi : i + 1 < os.length) (hl : os.length ≤ 1000) (hx : IxAt os (i : Int) 7 (encL x)) (h : Puk 98 [obA x] (.tup [.dt (.row [encL (Tr.sym p n).ob, encL b]), boA true])) (hn : (decide (p = lispB) && decide (n = nm)) = true) : Tri EX opB (opS os nm i) .ret (opR b) :=
  twalk (c := subC (bodyOf Tryz.f101) [1,0,1,0,0]) (s := opS os nm i) (an := [.av (inA ((i + 1 : Nat) : Int)), .av (inA os.length), yT, .av (.pin ((encL x).map .dt)), .av (.tup [.dt (.row [encL (Tr.sym p n).ob, encL b]), boA true]), .no, .no, .no, .av (syA lispB nm), yT]) (ls := []) (ft := [4,5]) (nb := 1) (e := .ret) (s' := opR b) (ps := [Bn .add 3 (.tmp 9) (.const (vi 1)) (vi ↑i) (vi 1) (vi (↑(i + 1))), (vi ↑os.length) = (vi ↑os.length), Bn .lss 3 (.tmp 10) (.tmp 12) (vi (↑(i + 1))) (vi ↑os.length) bT, IxAt os ↑i 7 (encL x), Puk 98 [(obA x)] (.tup [(.dt (.row [encL (Tr.sym p n).ob, encL b])), (boA true)]), Puk 51 [(stA nm)] (syA lispB nm), Bn .eql 32 (.tmp 34) (.tmp 36) (Value.agg #[str (Tr.sym p n).ob.sp, str (Tr.sym p n).ob.sn]) (Value.agg #[str lispB, str nm]) bT]) (by kernel_rfl) ⟨bin_iadd (by omega) (by omega) (by omega), rfl, bin_ilt (decide_eq_true (by omega)), hx, h, p_lisp _, bin_syeq hn, trivial⟩
theorem opB3 {os : List (List Dt)} {nm : List UInt8} {i : Nat} (hi : ¬ i + 1 < os.length) (hl : i ≤ 1000) : Tri EX opB (opS os nm i) (.out 0) (opS os nm i) :=
  twalk (c := subC (bodyOf Tryz.f101) [1,0,1,0,0]) (s := opS os nm i) (an := [.av (inA ((i + 1 : Nat) : Int)), .av (inA os.length), yF]) (ls := []) (ft := [0,1,4,6]) (nb := 1) (e := .out 0) (s' := opS os nm i) (ps := [Bn .add 3 (.tmp 9) (.const (vi 1)) (vi ↑i) (vi 1) (vi (↑(i + 1))), (vi ↑os.length) = (vi ↑os.length), Bn .lss 3 (.tmp 10) (.tmp 12) (vi (↑(i + 1))) (vi ↑os.length) bF]) (by kernel_rfl) ⟨bin_iadd (by omega) (by omega) (by omega), rfl, bin_ilt (decide_eq_false (by omega)), trivial⟩
theorem op_loop {os : List Tr} {nm : List UInt8} (hl : os.length ≤ 1000) : ∀ (s : List Tr) (i : Nat), os.drop i = s → i ≤ os.length → ∀ res, Rdr.option nm s = some res → (∀ b : Tr, res = some b → Lps EX opB (opS (encOs os) nm i) .ret (opR b.ob)) ∧ (res = none → ∃ j : Nat, Lps EX opB (opS (encOs os) nm i) (.out 0) (opS (encOs os) nm j)) := by
  have hlo : (encOs os).length = os.length := by unfold encOs; rw [List.length_map]
  intro s
  induction s with
  | nil =>
    intro i hd hi res h
    cases h
    have e1 := congrArg List.length hd
    rw [List.length_drop, List.length_nil] at e1
    exact ⟨(fun b e => by cases e), fun _ => ⟨i, .stop (opB3 (by omega) (by omega)) (fun h => by cases h)⟩⟩
  | cons x s ih =>
    intro i hd hi res h
    have e1 := congrArg List.length hd
    rw [List.length_drop, List.length_cons] at e1
    cases s with
    | nil =>
      cases h
      rw [List.length_nil] at e1
      exact ⟨(fun b e => by cases e), fun _ => ⟨i, .stop (opB3 (by omega) (by omega)) (fun h => by cases h)⟩⟩
    | cons y r =>
      rw [List.length_cons] at e1
      have hx : os[i]? = some x := by rw [← List.head?_drop, hd]; rfl
      have hix : IxAt (encOs os) (i : Int) 7 (encL x.ob) := ⟨Int.natCast_nonneg _, by rw [Int.toNat_natCast]; unfold encOs; rw [List.getElem?_map, hx]; rfl, rfl⟩
      rw [Rdr.option] at h
      split at h
      case h_2 => cases h
      rename_i p n b hit
      have hxe := items_list hit
      have hI := p_rItems (l := [Tr.sym p n, b]) (by show 2 ≤ 10000; decide)
      rw [← hxe] at hI
      split at h
      · rename_i c
        cases h
        refine ⟨fun b' e => ?_, fun e => by cases e⟩
        cases e
        exact .stop (opB2 (by omega) (by omega) hix hI (by simp [c.1, c.2])) (fun h => by cases h)
      · rename_i c
        obtain ⟨k1, k2⟩ := ih (i + 1) (by rw [← List.drop_drop, hd]; rfl) (by omega) res h
        have hs := opB1 (nm := nm) (b := b.ob) (by omega) (by omega) hix hI (by
          by_cases a1 : p = lispB
          · have : n ≠ nm := fun a2 => c ⟨a1, a2⟩
            simp [this]
          · simp [a1])
        exact ⟨fun b' e => .more hs (k1 b' e), fun e => by
          obtain ⟨j, k3⟩ := k2 e
          exact ⟨j, .more hs k3⟩⟩
theorem p_option1 {os : List Tr} {nm : List UInt8} {b : Tr} (hl : os.length ≤ 1000) (h3 : 3 ≤ os.length) (h : Rdr.option nm (os.drop 3) = some (some b)) : Puk 101 [rowA os, stA nm] (.tup [trA b, boA true]) := by
  have ht := ((op_loop hl _ 3 rfl h3 _ h).1 b rfl).tri
  generalize encOs os = rs at *
  exact pwalk (an := []) (ls := [.inv [0,1,4,6] 1 (.ret) (opR b.ob)]) (ps := [Tri EX (.loop (subC (bodyOf Tryz.f101) [1,0,1,0,0])) (opS rs nm 3) (.ret) (opR b.ob)]) Tryz.func101 (by kernel_rfl) (by kernel_rfl) ⟨ht, trivial⟩
theorem p_option0 {os : List Tr} {nm : List UInt8} (hl : os.length ≤ 1000) (h3 : 3 ≤ os.length) (h : Rdr.option nm (os.drop 3) = some none) : Puk 101 [rowA os, stA nm] (.tup [obA zOb, boA false]) := by
  obtain ⟨j, hj⟩ := (op_loop hl _ 3 rfl h3 _ h).2 rfl
  have ht := hj.tri
  generalize encOs os = rs at *
  exact pwalk (an := []) (ls := [.inv [0,1,4,6] 1 (.out 0) (opS rs nm j)]) (ps := [Tri EX (.loop (subC (bodyOf Tryz.f101) [1,0,1,0,0])) (opS rs nm 3) (.out 0) (opS rs nm j)]) Tryz.func101 (by kernel_rfl) (by kernel_rfl) ⟨ht, trivial⟩
end Go.Proofs.YtendgffijciehaaGreatDoor
/- Entries of the built-in world, of the reference. -/
namespace Go.Proofs.YtendgffijciehaaGreatDoor
open Go.RowKit
open Te

abbrev zT : List AV := [inA 0, stA [], stA [], inA 0, stA [], stA [], stA [], stA [], stA [], .nil, .nil]
abbrev enZ : List AV := inA 0 :: stA [] :: stA [] :: stA [] :: .nil :: stA [] :: stA [] :: .nil :: boA false :: (zT ++ [.nil, .nil, .nil, .nil, stA [], stA [], .nil, .nil, .nil, .nil, stA [], .dt (.val (.int .u64 0))])
abbrev enF (nm : List UInt8) (p : AV) : List AV := stA lispB :: stA nm :: p :: inA 1 :: ((encT yesT).map .dt ++ (zT ++ zT))
/-- an entry, as it is returned -/
abbrev entA (f : Rdr.Fnc) : AV := .agg (inA 3 :: stA lispB :: stA f.nm :: stA [] :: .nil :: stA [] :: stA [] :: .nil :: boA false :: (zT ++ [.dt (.row [encF f]), .nil, .nil, .nil, stA [], stA [], .nil, .nil, .nil, .nil, stA [], .dt (.val (.int .u64 0))]))
abbrev en0 (es os : List (List Dt)) (form : Ob) (nm : List UInt8) (qs : List (List Dt)) : AS := ⟨stt 99 [(0, .own 0 es.length), (3, .ptr 1 0), (4, .ptr 2 0), (5, .dt (.row os)), (7, .ptr 3 0), (8, .dt (.row qs)), (10, inA 0)], [wB es, some (.cells ((encL form).map .dt)), some (.cells enZ), some (.cells (enF nm .nil))]⟩
abbrev enS (es os : List (List Dt)) (form : Ob) (nm : List UInt8) (qs rs : List (List Dt)) (i : Int) : AS := ⟨stt 99 [(0, .own 0 es.length), (3, .ptr 1 0), (4, .ptr 2 0), (5, .dt (.row os)), (7, .ptr 3 0), (8, .dt (.row qs)), (10, inA i)], [wB es, some (.cells ((encL form).map .dt)), some (.cells enZ), some (.cells (enF nm (.own 4 rs.length))), some (.buf 32 2 rs)]⟩
theorem src_lrow (n : List UInt8) : SrcOK 2 [lrow n] := by
  intro x hx
  rw [List.mem_singleton] at hx
  subst hx
  exact ⟨rfl, fun d hd => by simp only [List.mem_cons, List.not_mem_nil, or_false] at hd; rcases hd with rfl | rfl <;> rfl⟩
noncomputable abbrev enB : Code := subC (bodyOf Tryz.f73) [1,1,1,1,0,1,0,0]
theorem enB0 {es os qs : List (List Dt)} {form : Ob} {nm n : List UInt8} (hi : 0 < qs.length) (hx : IxAt qs 0 7 (encL (symB n))) : Tri (EXn 1) enB (en0 es os form nm qs) .nxt (enS es os form nm qs [lrow n] 1) :=
  tw (E := EXn 1) (c := subC (bodyOf Tryz.f73) [1,1,1,1,0,1,0,0]) (s := en0 es os form nm qs) (an := [.av (inA qs.length), yT, .av (.pin ((encL (symB n)).map .dt)), .av (.un), .no]) (ls := []) (ft := [0,3,4,5,7,8,10]) (nb := 5) (e := .nxt) (s' := enS es os form nm qs [lrow n] 1) (ps := [(vi ↑qs.length) = (vi ↑qs.length), Bn .lss 3 (.tmp 35) (.tmp 37) (vi 0) (vi ↑qs.length) bT, IxAt qs 0 7 (encL (symB n)), FitB 32 (([[Dt.val (str (symB n).sp), Dt.val (str (symB n).sn)]]).length), SrcOK 2 [[(.val (str (symB n).sp)), (.val (str (symB n).sn))]]]) (by kernel_rfl) ⟨rfl, bin_ilt (decide_eq_true (by omega)), hx, fit_of (by omega) (by simp), src_lrow n, trivial⟩
theorem enB1 {es os qs rs : List (List Dt)} {form : Ob} {nm n : List UInt8} {i : Nat} (hi : i < qs.length) (hl : qs.length ≤ 1000) (hr : rs.length ≤ 1000) (hx : IxAt qs (i : Int) 7 (encL (symB n))) : Tri (EXn 1) enB (enS es os form nm qs rs i) .nxt (enS es os form nm qs (rs ++ [lrow n]) ((i + 1 : Nat) : Int)) :=
  tw (E := EXn 1) (c := subC (bodyOf Tryz.f73) [1,1,1,1,0,1,0,0]) (s := enS es os form nm qs rs i) (an := [.av (inA qs.length), yT, .av (.pin ((encL (symB n)).map .dt)), .av (.un), .av (inA ((i + 1 : Nat) : Int))]) (ls := []) (ft := [0,3,4,5,7,8,10]) (nb := 5) (e := .nxt) (s' := enS es os form nm qs (rs ++ [lrow n]) ((i + 1 : Nat) : Int)) (ps := [(vi ↑qs.length) = (vi ↑qs.length), Bn .lss 3 (.tmp 35) (.tmp 37) (vi ↑i) (vi ↑qs.length) bT, IxAt qs ↑i 7 (encL (symB n)), (rs.length) = (rs.length), FitB 32 ((rs ++ [[Dt.val (str (symB n).sp), Dt.val (str (symB n).sn)]]).length), SrcOK 2 [[(.val (str (symB n).sp)), (.val (str (symB n).sn))]], Bn .add 3 (.tmp 39) (.const (vi 1)) (vi ↑i) (vi 1) (vi (↑(i + 1)))]) (by kernel_rfl) ⟨rfl, bin_ilt (decide_eq_true (by omega)), hx, rfl, fit_of (by omega) (by simp; omega), src_lrow n, bin_iadd (by omega) (by omega) (by omega), trivial⟩
theorem enB2 {es os qs rs : List (List Dt)} {form : Ob} {nm : List UInt8} {i : Nat} (hi : i = qs.length) : Tri (EXn 1) enB (enS es os form nm qs rs i) (.out 0) (enS es os form nm qs rs i) :=
  tw (E := EXn 1) (c := subC (bodyOf Tryz.f73) [1,1,1,1,0,1,0,0]) (s := enS es os form nm qs rs i) (an := [.av (inA qs.length), yF]) (ls := []) (ft := [0,3,4,5,7,8,10]) (nb := 5) (e := .out 0) (s' := enS es os form nm qs rs i) (ps := [(vi ↑qs.length) = (vi ↑qs.length), Bn .lss 3 (.tmp 35) (.tmp 37) (vi ↑i) (vi ↑qs.length) bF]) (by kernel_rfl) ⟨rfl, bin_ilt (decide_eq_false (by omega)), trivial⟩
theorem w_ent00 {es os qs : List (List Dt)} {ps : List (List UInt8)} {nm : List UInt8} {form px b : Ob} {bt : Te} {k : Int} (h1 : Puk 98 [obA form] (.tup [.dt (.row os), boA true])) (hx1 : IxAt os 1 7 (encL (symB nm))) (hx2 : IxAt os 2 7 (encL px)) (h2 : Puk 98 [obA px] (.tup [.dt (.row qs), boA true])) (hlp : Tri (EXn 1) (.loop enB) (en0 es os form nm qs) (.out 0) (enS es os form nm qs (ps.map lrow) k)) (hz : IxAt os (os.length - 1) 7 (encL b)) (hl : os.length ≤ 1000) (hb : Suk 100 [.own 0 es.length, .dt (.row [encF ⟨nm, ps, yesT, zTe, zTe⟩]), obA b] [wB es] (.tup [teA bt, inA 0]) [wB es]) (hg : Puk 101 [.dt (.row os), stA Rdr.guardB] (.tup [obA zOb, boA false])) (hm : Puk 101 [.dt (.row os), stA Rdr.measB] (.tup [obA zOb, boA false])) : Suk 73 [.own 0 es.length, obA form] [wB es] (entA ⟨nm, ps, yesT, bt, zTe⟩) [wB es] :=
  psw (n := 1) (ks := [0]) (an := [.av (.tup [.dt (.row os), boA true]), .av (.pin ((encL (symB nm)).map .dt)), .av (obA tO), .av (teA yesT), .av (.pin ((encL px).map .dt)), .av (.tup [.dt (.row qs), boA true]), .av (inA os.length), .av (inA (os.length - 1)), .av (.pin ((encL b).map .dt)), .av (.tup [obA zOb, boA false]), .av (.tup [obA zOb, boA false])]) (ls := [.inv [0,3,4,5,7,8,10] 4 (.out 0) (enS es os form nm qs (ps.map lrow) k), .scl 9 8 [0] (.tup [teA bt, inA 0]) [some (.buf 109 32 es)]]) (ps := [Puk 98 [(obA form)] (.tup [(.dt (.row os)), (boA true)]), IxAt os 1 7 (encL (symB nm)), Puk 99 [] (obA tO), Puk 16 [(obA tO)] (.agg [(inA 2), (stA yesT.np), (stA yesT.nn), (inA 2), (stA yesT.val.num), (stA yesT.val.den), (stA yesT.val.sp), (stA yesT.val.sn), (stA yesT.val.text), (.dt (.row (List.map Ob.enc yesT.val.pair))), (.dt (.row (List.map Te.enc yesT.args)))]), IxAt os 2 7 (encL px), Puk 98 [(obA px)] (.tup [(.dt (.row qs)), (boA true)]), Tri (EXn 1) (.loop (subC (bodyOf Tryz.f73) [1,1,1,1,0,1,0,0])) (en0 es os form nm qs) (.out 0) (enS es os form nm qs (ps.map lrow) k), ((List.map lrow ps).length) = ((List.map lrow ps).length), (vi ↑os.length) = (vi ↑os.length), Bn .sub 3 (.tmp 58) (.const (vi 1)) (vi ↑os.length) (vi 1) (vi (↑os.length - 1)), IxAt os (↑os.length - 1) 7 (encL b), Suk 100 [AV.own 0 es.length, AV.dt (Dt.row ([(Dt.val (str lispB) :: Dt.val (str nm) :: Dt.row (List.map lrow ps) :: Dt.val (vi 1) :: Dt.val (vi yesT.kind) :: Dt.val (str yesT.np) :: Dt.val (str yesT.nn) :: Dt.val (vi yesT.val.kind) :: Dt.val (str yesT.val.num) :: Dt.val (str yesT.val.den) :: Dt.val (str yesT.val.sp) :: Dt.val (str yesT.val.sn) :: Dt.val (str yesT.val.text) :: Dt.row (List.map Ob.enc yesT.val.pair) :: Dt.row (List.map Te.enc yesT.args) :: Dt.val (vi 0) :: Dt.val (str []) :: Dt.val (str []) :: Dt.val (vi 0) :: Dt.val (str []) :: Dt.val (str []) :: Dt.val (str []) :: Dt.val (str []) :: Dt.val (str []) :: Dt.row [] :: Dt.row [] :: Dt.val (vi 0) :: Dt.val (str []) :: Dt.val (str []) :: Dt.val (vi 0) :: Dt.val (str []) :: Dt.val (str []) :: Dt.val (str []) :: Dt.val (str []) :: Dt.val (str []) :: Dt.row [] :: Dt.row [] :: [])])), AV.agg [AV.dt (Dt.val (vi b.kind)), AV.dt (Dt.val (str b.num)), AV.dt (Dt.val (str b.den)), AV.dt (Dt.val (str b.sp)), AV.dt (Dt.val (str b.sn)), AV.dt (Dt.val (str b.text)), AV.dt (Dt.row (List.map Ob.enc b.pair))]] [some (Bx.buf 109 32 es)] (AV.tup [teA bt, inA 0]) [some (Bx.buf 109 32 es)], Puk 101 [(.dt (.row os)), (stA [103, 117, 97, 114, 100])] (.tup [(obA zOb), (boA false)]), Puk 101 [(.dt (.row os)), (stA [109, 101, 97, 115, 117, 114, 101])] (.tup [(obA zOb), (boA false)]), ((List.map lrow ps).length) = ((List.map lrow ps).length)]) Tryz.func73 (by kernel_rfl) (by kernel_rfl) ⟨h1, hx1, p_rT, p_rConst _, hx2, h2, hlp, rfl, rfl, bin_isub rfl (by omega) (by omega), hz, hb, hg, hm, rfl, trivial⟩
theorem w_ent01 {es os qs : List (List Dt)} {ps : List (List UInt8)} {nm : List UInt8} {form px b mo : Ob} {bt mt : Te} {k : Int} (h1 : Puk 98 [obA form] (.tup [.dt (.row os), boA true])) (hx1 : IxAt os 1 7 (encL (symB nm))) (hx2 : IxAt os 2 7 (encL px)) (h2 : Puk 98 [obA px] (.tup [.dt (.row qs), boA true])) (hlp : Tri (EXn 1) (.loop enB) (en0 es os form nm qs) (.out 0) (enS es os form nm qs (ps.map lrow) k)) (hz : IxAt os (os.length - 1) 7 (encL b)) (hl : os.length ≤ 1000) (hb : Suk 100 [.own 0 es.length, .dt (.row [encF ⟨nm, ps, yesT, zTe, zTe⟩]), obA b] [wB es] (.tup [teA bt, inA 0]) [wB es]) (hg : Puk 101 [.dt (.row os), stA Rdr.guardB] (.tup [obA zOb, boA false])) (hm : Puk 101 [.dt (.row os), stA Rdr.measB] (.tup [obA mo, boA true])) (hmt : Suk 100 [.own 0 es.length, .dt (.row [encF ⟨nm, ps, yesT, zTe, zTe⟩]), obA mo] [wB es] (.tup [teA mt, inA 0]) [wB es]) : Suk 73 [.own 0 es.length, obA form] [wB es] (entA ⟨nm, ps, yesT, bt, mt⟩) [wB es] :=
  psw (n := 1) (ks := [0]) (an := [.av (.tup [.dt (.row os), boA true]), .av (.pin ((encL (symB nm)).map .dt)), .av (obA tO), .av (teA yesT), .av (.pin ((encL px).map .dt)), .av (.tup [.dt (.row qs), boA true]), .av (inA os.length), .av (inA (os.length - 1)), .av (.pin ((encL b).map .dt)), .av (.tup [obA zOb, boA false]), .av (.tup [obA mo, boA true])]) (ls := [.inv [0,3,4,5,7,8,10] 4 (.out 0) (enS es os form nm qs (ps.map lrow) k), .scl 9 8 [0] (.tup [teA bt, inA 0]) [some (.buf 109 32 es)], .scl 15 3 [0] (.tup [teA mt, inA 0]) [some (.buf 109 32 es)]]) (ps := [Puk 98 [(obA form)] (.tup [(.dt (.row os)), (boA true)]), IxAt os 1 7 (encL (symB nm)), Puk 99 [] (obA tO), Puk 16 [(obA tO)] (.agg [(inA 2), (stA yesT.np), (stA yesT.nn), (inA 2), (stA yesT.val.num), (stA yesT.val.den), (stA yesT.val.sp), (stA yesT.val.sn), (stA yesT.val.text), (.dt (.row (List.map Ob.enc yesT.val.pair))), (.dt (.row (List.map Te.enc yesT.args)))]), IxAt os 2 7 (encL px), Puk 98 [(obA px)] (.tup [(.dt (.row qs)), (boA true)]), Tri (EXn 1) (.loop (subC (bodyOf Tryz.f73) [1,1,1,1,0,1,0,0])) (en0 es os form nm qs) (.out 0) (enS es os form nm qs (ps.map lrow) k), ((List.map lrow ps).length) = ((List.map lrow ps).length), (vi ↑os.length) = (vi ↑os.length), Bn .sub 3 (.tmp 58) (.const (vi 1)) (vi ↑os.length) (vi 1) (vi (↑os.length - 1)), IxAt os (↑os.length - 1) 7 (encL b), Suk 100 [AV.own 0 es.length, AV.dt (Dt.row ([(Dt.val (str lispB) :: Dt.val (str nm) :: Dt.row (List.map lrow ps) :: Dt.val (vi 1) :: Dt.val (vi yesT.kind) :: Dt.val (str yesT.np) :: Dt.val (str yesT.nn) :: Dt.val (vi yesT.val.kind) :: Dt.val (str yesT.val.num) :: Dt.val (str yesT.val.den) :: Dt.val (str yesT.val.sp) :: Dt.val (str yesT.val.sn) :: Dt.val (str yesT.val.text) :: Dt.row (List.map Ob.enc yesT.val.pair) :: Dt.row (List.map Te.enc yesT.args) :: Dt.val (vi 0) :: Dt.val (str []) :: Dt.val (str []) :: Dt.val (vi 0) :: Dt.val (str []) :: Dt.val (str []) :: Dt.val (str []) :: Dt.val (str []) :: Dt.val (str []) :: Dt.row [] :: Dt.row [] :: Dt.val (vi 0) :: Dt.val (str []) :: Dt.val (str []) :: Dt.val (vi 0) :: Dt.val (str []) :: Dt.val (str []) :: Dt.val (str []) :: Dt.val (str []) :: Dt.val (str []) :: Dt.row [] :: Dt.row [] :: [])])), AV.agg [AV.dt (Dt.val (vi b.kind)), AV.dt (Dt.val (str b.num)), AV.dt (Dt.val (str b.den)), AV.dt (Dt.val (str b.sp)), AV.dt (Dt.val (str b.sn)), AV.dt (Dt.val (str b.text)), AV.dt (Dt.row (List.map Ob.enc b.pair))]] [some (Bx.buf 109 32 es)] (AV.tup [teA bt, inA 0]) [some (Bx.buf 109 32 es)], Puk 101 [(.dt (.row os)), (stA [103, 117, 97, 114, 100])] (.tup [(obA zOb), (boA false)]), Puk 101 [(.dt (.row os)), (stA [109, 101, 97, 115, 117, 114, 101])] (.tup [(obA mo), (boA true)]), Suk 100 [AV.own 0 es.length, AV.dt (Dt.row ([(Dt.val (str lispB) :: Dt.val (str nm) :: Dt.row (List.map lrow ps) :: Dt.val (vi 1) :: Dt.val (vi yesT.kind) :: Dt.val (str yesT.np) :: Dt.val (str yesT.nn) :: Dt.val (vi yesT.val.kind) :: Dt.val (str yesT.val.num) :: Dt.val (str yesT.val.den) :: Dt.val (str yesT.val.sp) :: Dt.val (str yesT.val.sn) :: Dt.val (str yesT.val.text) :: Dt.row (List.map Ob.enc yesT.val.pair) :: Dt.row (List.map Te.enc yesT.args) :: Dt.val (vi 0) :: Dt.val (str []) :: Dt.val (str []) :: Dt.val (vi 0) :: Dt.val (str []) :: Dt.val (str []) :: Dt.val (str []) :: Dt.val (str []) :: Dt.val (str []) :: Dt.row [] :: Dt.row [] :: Dt.val (vi 0) :: Dt.val (str []) :: Dt.val (str []) :: Dt.val (vi 0) :: Dt.val (str []) :: Dt.val (str []) :: Dt.val (str []) :: Dt.val (str []) :: Dt.val (str []) :: Dt.row [] :: Dt.row [] :: [])])), AV.agg [AV.dt (Dt.val (vi mo.kind)), AV.dt (Dt.val (str mo.num)), AV.dt (Dt.val (str mo.den)), AV.dt (Dt.val (str mo.sp)), AV.dt (Dt.val (str mo.sn)), AV.dt (Dt.val (str mo.text)), AV.dt (Dt.row (List.map Ob.enc mo.pair))]] [some (Bx.buf 109 32 es)] (AV.tup [teA mt, inA 0]) [some (Bx.buf 109 32 es)], ((List.map lrow ps).length) = ((List.map lrow ps).length)]) Tryz.func73 (by kernel_rfl) (by kernel_rfl) ⟨h1, hx1, p_rT, p_rConst _, hx2, h2, hlp, rfl, rfl, bin_isub rfl (by omega) (by omega), hz, hb, hg, hm, hmt, rfl, trivial⟩
theorem w_ent10 {es os qs : List (List Dt)} {ps : List (List UInt8)} {nm : List UInt8} {form px b go : Ob} {bt gt : Te} {k : Int} (h1 : Puk 98 [obA form] (.tup [.dt (.row os), boA true])) (hx1 : IxAt os 1 7 (encL (symB nm))) (hx2 : IxAt os 2 7 (encL px)) (h2 : Puk 98 [obA px] (.tup [.dt (.row qs), boA true])) (hlp : Tri (EXn 1) (.loop enB) (en0 es os form nm qs) (.out 0) (enS es os form nm qs (ps.map lrow) k)) (hz : IxAt os (os.length - 1) 7 (encL b)) (hl : os.length ≤ 1000) (hb : Suk 100 [.own 0 es.length, .dt (.row [encF ⟨nm, ps, yesT, zTe, zTe⟩]), obA b] [wB es] (.tup [teA bt, inA 0]) [wB es]) (hg : Puk 101 [.dt (.row os), stA Rdr.guardB] (.tup [obA go, boA true])) (hgt : Suk 100 [.own 0 es.length, .dt (.row [encF ⟨nm, ps, yesT, zTe, zTe⟩]), obA go] [wB es] (.tup [teA gt, inA 0]) [wB es]) (hm : Puk 101 [.dt (.row os), stA Rdr.measB] (.tup [obA zOb, boA false])) : Suk 73 [.own 0 es.length, obA form] [wB es] (entA ⟨nm, ps, gt, bt, zTe⟩) [wB es] :=
  psw (n := 1) (ks := [0]) (an := [.av (.tup [.dt (.row os), boA true]), .av (.pin ((encL (symB nm)).map .dt)), .av (obA tO), .av (teA yesT), .av (.pin ((encL px).map .dt)), .av (.tup [.dt (.row qs), boA true]), .av (inA os.length), .av (inA (os.length - 1)), .av (.pin ((encL b).map .dt)), .av (.tup [obA go, boA true]), .av (.tup [obA zOb, boA false])]) (ls := [.inv [0,3,4,5,7,8,10] 4 (.out 0) (enS es os form nm qs (ps.map lrow) k), .scl 9 8 [0] (.tup [teA bt, inA 0]) [some (.buf 109 32 es)], .scl 12 3 [0] (.tup [teA gt, inA 0]) [some (.buf 109 32 es)]]) (ps := [Puk 98 [(obA form)] (.tup [(.dt (.row os)), (boA true)]), IxAt os 1 7 (encL (symB nm)), Puk 99 [] (obA tO), Puk 16 [(obA tO)] (.agg [(inA 2), (stA yesT.np), (stA yesT.nn), (inA 2), (stA yesT.val.num), (stA yesT.val.den), (stA yesT.val.sp), (stA yesT.val.sn), (stA yesT.val.text), (.dt (.row (List.map Ob.enc yesT.val.pair))), (.dt (.row (List.map Te.enc yesT.args)))]), IxAt os 2 7 (encL px), Puk 98 [(obA px)] (.tup [(.dt (.row qs)), (boA true)]), Tri (EXn 1) (.loop (subC (bodyOf Tryz.f73) [1,1,1,1,0,1,0,0])) (en0 es os form nm qs) (.out 0) (enS es os form nm qs (ps.map lrow) k), ((List.map lrow ps).length) = ((List.map lrow ps).length), (vi ↑os.length) = (vi ↑os.length), Bn .sub 3 (.tmp 58) (.const (vi 1)) (vi ↑os.length) (vi 1) (vi (↑os.length - 1)), IxAt os (↑os.length - 1) 7 (encL b), Suk 100 [AV.own 0 es.length, AV.dt (Dt.row ([(Dt.val (str lispB) :: Dt.val (str nm) :: Dt.row (List.map lrow ps) :: Dt.val (vi 1) :: Dt.val (vi yesT.kind) :: Dt.val (str yesT.np) :: Dt.val (str yesT.nn) :: Dt.val (vi yesT.val.kind) :: Dt.val (str yesT.val.num) :: Dt.val (str yesT.val.den) :: Dt.val (str yesT.val.sp) :: Dt.val (str yesT.val.sn) :: Dt.val (str yesT.val.text) :: Dt.row (List.map Ob.enc yesT.val.pair) :: Dt.row (List.map Te.enc yesT.args) :: Dt.val (vi 0) :: Dt.val (str []) :: Dt.val (str []) :: Dt.val (vi 0) :: Dt.val (str []) :: Dt.val (str []) :: Dt.val (str []) :: Dt.val (str []) :: Dt.val (str []) :: Dt.row [] :: Dt.row [] :: Dt.val (vi 0) :: Dt.val (str []) :: Dt.val (str []) :: Dt.val (vi 0) :: Dt.val (str []) :: Dt.val (str []) :: Dt.val (str []) :: Dt.val (str []) :: Dt.val (str []) :: Dt.row [] :: Dt.row [] :: [])])), AV.agg [AV.dt (Dt.val (vi b.kind)), AV.dt (Dt.val (str b.num)), AV.dt (Dt.val (str b.den)), AV.dt (Dt.val (str b.sp)), AV.dt (Dt.val (str b.sn)), AV.dt (Dt.val (str b.text)), AV.dt (Dt.row (List.map Ob.enc b.pair))]] [some (Bx.buf 109 32 es)] (AV.tup [teA bt, inA 0]) [some (Bx.buf 109 32 es)], Puk 101 [(.dt (.row os)), (stA [103, 117, 97, 114, 100])] (.tup [(obA go), (boA true)]), Suk 100 [AV.own 0 es.length, AV.dt (Dt.row ([(Dt.val (str lispB) :: Dt.val (str nm) :: Dt.row (List.map lrow ps) :: Dt.val (vi 1) :: Dt.val (vi yesT.kind) :: Dt.val (str yesT.np) :: Dt.val (str yesT.nn) :: Dt.val (vi yesT.val.kind) :: Dt.val (str yesT.val.num) :: Dt.val (str yesT.val.den) :: Dt.val (str yesT.val.sp) :: Dt.val (str yesT.val.sn) :: Dt.val (str yesT.val.text) :: Dt.row (List.map Ob.enc yesT.val.pair) :: Dt.row (List.map Te.enc yesT.args) :: Dt.val (vi 0) :: Dt.val (str []) :: Dt.val (str []) :: Dt.val (vi 0) :: Dt.val (str []) :: Dt.val (str []) :: Dt.val (str []) :: Dt.val (str []) :: Dt.val (str []) :: Dt.row [] :: Dt.row [] :: Dt.val (vi 0) :: Dt.val (str []) :: Dt.val (str []) :: Dt.val (vi 0) :: Dt.val (str []) :: Dt.val (str []) :: Dt.val (str []) :: Dt.val (str []) :: Dt.val (str []) :: Dt.row [] :: Dt.row [] :: [])])), AV.agg [AV.dt (Dt.val (vi go.kind)), AV.dt (Dt.val (str go.num)), AV.dt (Dt.val (str go.den)), AV.dt (Dt.val (str go.sp)), AV.dt (Dt.val (str go.sn)), AV.dt (Dt.val (str go.text)), AV.dt (Dt.row (List.map Ob.enc go.pair))]] [some (Bx.buf 109 32 es)] (AV.tup [teA gt, inA 0]) [some (Bx.buf 109 32 es)], Puk 101 [(.dt (.row os)), (stA [109, 101, 97, 115, 117, 114, 101])] (.tup [(obA zOb), (boA false)]), ((List.map lrow ps).length) = ((List.map lrow ps).length)]) Tryz.func73 (by kernel_rfl) (by kernel_rfl) ⟨h1, hx1, p_rT, p_rConst _, hx2, h2, hlp, rfl, rfl, bin_isub rfl (by omega) (by omega), hz, hb, hg, hgt, hm, rfl, trivial⟩
theorem w_ent11 {es os qs : List (List Dt)} {ps : List (List UInt8)} {nm : List UInt8} {form px b go mo : Ob} {bt gt mt : Te} {k : Int} (h1 : Puk 98 [obA form] (.tup [.dt (.row os), boA true])) (hx1 : IxAt os 1 7 (encL (symB nm))) (hx2 : IxAt os 2 7 (encL px)) (h2 : Puk 98 [obA px] (.tup [.dt (.row qs), boA true])) (hlp : Tri (EXn 1) (.loop enB) (en0 es os form nm qs) (.out 0) (enS es os form nm qs (ps.map lrow) k)) (hz : IxAt os (os.length - 1) 7 (encL b)) (hl : os.length ≤ 1000) (hb : Suk 100 [.own 0 es.length, .dt (.row [encF ⟨nm, ps, yesT, zTe, zTe⟩]), obA b] [wB es] (.tup [teA bt, inA 0]) [wB es]) (hg : Puk 101 [.dt (.row os), stA Rdr.guardB] (.tup [obA go, boA true])) (hgt : Suk 100 [.own 0 es.length, .dt (.row [encF ⟨nm, ps, yesT, zTe, zTe⟩]), obA go] [wB es] (.tup [teA gt, inA 0]) [wB es]) (hm : Puk 101 [.dt (.row os), stA Rdr.measB] (.tup [obA mo, boA true])) (hmt : Suk 100 [.own 0 es.length, .dt (.row [encF ⟨nm, ps, yesT, zTe, zTe⟩]), obA mo] [wB es] (.tup [teA mt, inA 0]) [wB es]) : Suk 73 [.own 0 es.length, obA form] [wB es] (entA ⟨nm, ps, gt, bt, mt⟩) [wB es] :=
  psw (n := 1) (ks := [0]) (an := [.av (.tup [.dt (.row os), boA true]), .av (.pin ((encL (symB nm)).map .dt)), .av (obA tO), .av (teA yesT), .av (.pin ((encL px).map .dt)), .av (.tup [.dt (.row qs), boA true]), .av (inA os.length), .av (inA (os.length - 1)), .av (.pin ((encL b).map .dt)), .av (.tup [obA go, boA true]), .av (.tup [obA mo, boA true])]) (ls := [.inv [0,3,4,5,7,8,10] 4 (.out 0) (enS es os form nm qs (ps.map lrow) k), .scl 9 8 [0] (.tup [teA bt, inA 0]) [some (.buf 109 32 es)], .scl 12 3 [0] (.tup [teA gt, inA 0]) [some (.buf 109 32 es)], .scl 15 3 [0] (.tup [teA mt, inA 0]) [some (.buf 109 32 es)]]) (ps := [Puk 98 [(obA form)] (.tup [(.dt (.row os)), (boA true)]), IxAt os 1 7 (encL (symB nm)), Puk 99 [] (obA tO), Puk 16 [(obA tO)] (.agg [(inA 2), (stA yesT.np), (stA yesT.nn), (inA 2), (stA yesT.val.num), (stA yesT.val.den), (stA yesT.val.sp), (stA yesT.val.sn), (stA yesT.val.text), (.dt (.row (List.map Ob.enc yesT.val.pair))), (.dt (.row (List.map Te.enc yesT.args)))]), IxAt os 2 7 (encL px), Puk 98 [(obA px)] (.tup [(.dt (.row qs)), (boA true)]), Tri (EXn 1) (.loop (subC (bodyOf Tryz.f73) [1,1,1,1,0,1,0,0])) (en0 es os form nm qs) (.out 0) (enS es os form nm qs (ps.map lrow) k), ((List.map lrow ps).length) = ((List.map lrow ps).length), (vi ↑os.length) = (vi ↑os.length), Bn .sub 3 (.tmp 58) (.const (vi 1)) (vi ↑os.length) (vi 1) (vi (↑os.length - 1)), IxAt os (↑os.length - 1) 7 (encL b), Suk 100 [AV.own 0 es.length, AV.dt (Dt.row ([(Dt.val (str lispB) :: Dt.val (str nm) :: Dt.row (List.map lrow ps) :: Dt.val (vi 1) :: Dt.val (vi yesT.kind) :: Dt.val (str yesT.np) :: Dt.val (str yesT.nn) :: Dt.val (vi yesT.val.kind) :: Dt.val (str yesT.val.num) :: Dt.val (str yesT.val.den) :: Dt.val (str yesT.val.sp) :: Dt.val (str yesT.val.sn) :: Dt.val (str yesT.val.text) :: Dt.row (List.map Ob.enc yesT.val.pair) :: Dt.row (List.map Te.enc yesT.args) :: Dt.val (vi 0) :: Dt.val (str []) :: Dt.val (str []) :: Dt.val (vi 0) :: Dt.val (str []) :: Dt.val (str []) :: Dt.val (str []) :: Dt.val (str []) :: Dt.val (str []) :: Dt.row [] :: Dt.row [] :: Dt.val (vi 0) :: Dt.val (str []) :: Dt.val (str []) :: Dt.val (vi 0) :: Dt.val (str []) :: Dt.val (str []) :: Dt.val (str []) :: Dt.val (str []) :: Dt.val (str []) :: Dt.row [] :: Dt.row [] :: [])])), AV.agg [AV.dt (Dt.val (vi b.kind)), AV.dt (Dt.val (str b.num)), AV.dt (Dt.val (str b.den)), AV.dt (Dt.val (str b.sp)), AV.dt (Dt.val (str b.sn)), AV.dt (Dt.val (str b.text)), AV.dt (Dt.row (List.map Ob.enc b.pair))]] [some (Bx.buf 109 32 es)] (AV.tup [teA bt, inA 0]) [some (Bx.buf 109 32 es)], Puk 101 [(.dt (.row os)), (stA [103, 117, 97, 114, 100])] (.tup [(obA go), (boA true)]), Suk 100 [AV.own 0 es.length, AV.dt (Dt.row ([(Dt.val (str lispB) :: Dt.val (str nm) :: Dt.row (List.map lrow ps) :: Dt.val (vi 1) :: Dt.val (vi yesT.kind) :: Dt.val (str yesT.np) :: Dt.val (str yesT.nn) :: Dt.val (vi yesT.val.kind) :: Dt.val (str yesT.val.num) :: Dt.val (str yesT.val.den) :: Dt.val (str yesT.val.sp) :: Dt.val (str yesT.val.sn) :: Dt.val (str yesT.val.text) :: Dt.row (List.map Ob.enc yesT.val.pair) :: Dt.row (List.map Te.enc yesT.args) :: Dt.val (vi 0) :: Dt.val (str []) :: Dt.val (str []) :: Dt.val (vi 0) :: Dt.val (str []) :: Dt.val (str []) :: Dt.val (str []) :: Dt.val (str []) :: Dt.val (str []) :: Dt.row [] :: Dt.row [] :: Dt.val (vi 0) :: Dt.val (str []) :: Dt.val (str []) :: Dt.val (vi 0) :: Dt.val (str []) :: Dt.val (str []) :: Dt.val (str []) :: Dt.val (str []) :: Dt.val (str []) :: Dt.row [] :: Dt.row [] :: [])])), AV.agg [AV.dt (Dt.val (vi go.kind)), AV.dt (Dt.val (str go.num)), AV.dt (Dt.val (str go.den)), AV.dt (Dt.val (str go.sp)), AV.dt (Dt.val (str go.sn)), AV.dt (Dt.val (str go.text)), AV.dt (Dt.row (List.map Ob.enc go.pair))]] [some (Bx.buf 109 32 es)] (AV.tup [teA gt, inA 0]) [some (Bx.buf 109 32 es)], Puk 101 [(.dt (.row os)), (stA [109, 101, 97, 115, 117, 114, 101])] (.tup [(obA mo), (boA true)]), Suk 100 [AV.own 0 es.length, AV.dt (Dt.row ([(Dt.val (str lispB) :: Dt.val (str nm) :: Dt.row (List.map lrow ps) :: Dt.val (vi 1) :: Dt.val (vi yesT.kind) :: Dt.val (str yesT.np) :: Dt.val (str yesT.nn) :: Dt.val (vi yesT.val.kind) :: Dt.val (str yesT.val.num) :: Dt.val (str yesT.val.den) :: Dt.val (str yesT.val.sp) :: Dt.val (str yesT.val.sn) :: Dt.val (str yesT.val.text) :: Dt.row (List.map Ob.enc yesT.val.pair) :: Dt.row (List.map Te.enc yesT.args) :: Dt.val (vi 0) :: Dt.val (str []) :: Dt.val (str []) :: Dt.val (vi 0) :: Dt.val (str []) :: Dt.val (str []) :: Dt.val (str []) :: Dt.val (str []) :: Dt.val (str []) :: Dt.row [] :: Dt.row [] :: Dt.val (vi 0) :: Dt.val (str []) :: Dt.val (str []) :: Dt.val (vi 0) :: Dt.val (str []) :: Dt.val (str []) :: Dt.val (str []) :: Dt.val (str []) :: Dt.val (str []) :: Dt.row [] :: Dt.row [] :: [])])), AV.agg [AV.dt (Dt.val (vi mo.kind)), AV.dt (Dt.val (str mo.num)), AV.dt (Dt.val (str mo.den)), AV.dt (Dt.val (str mo.sp)), AV.dt (Dt.val (str mo.sn)), AV.dt (Dt.val (str mo.text)), AV.dt (Dt.row (List.map Ob.enc mo.pair))]] [some (Bx.buf 109 32 es)] (AV.tup [teA mt, inA 0]) [some (Bx.buf 109 32 es)], ((List.map lrow ps).length) = ((List.map lrow ps).length)]) Tryz.func73 (by kernel_rfl) (by kernel_rfl) ⟨h1, hx1, p_rT, p_rConst _, hx2, h2, hlp, rfl, rfl, bin_isub rfl (by omega) (by omega), hz, hb, hg, hgt, hm, hmt, rfl, trivial⟩
theorem pars_map : ∀ {l : List Tr} {ps : List (List UInt8)}, Rdr.pars l = some ps → l = ps.map (Tr.sym lispB ·)
  | [], ps, h => by cases h; rfl
  | .sym p n :: r, ps, h => by
    rw [Rdr.pars] at h
    split at h
    · rename_i e
      subst e
      rw [Option.map_eq_some_iff] at h
      obtain ⟨qs, h1, rfl⟩ := h
      rw [List.map_cons, ← pars_map h1]
    · cases h
  | .num _ :: _, _, h => by cases h
  | .txt _ :: _, _, h => by cases h
  | .cons _ _ :: _, _, h => by cases h
theorem ix_par {ps : List (List UInt8)} {i : Nat} {n : List UInt8} (h : ps[i]? = some n) : IxAt (encOs (ps.map (Tr.sym lispB ·))) (i : Int) 7 (encL (symB n)) := ⟨Int.natCast_nonneg _, by rw [Int.toNat_natCast]; unfold encOs; rw [List.getElem?_map, List.getElem?_map, h]; rfl, rfl⟩
theorem en_loop {es os : List (List Dt)} {form : Ob} {nm : List UInt8} {ps : List (List UInt8)} (hl : ps.length ≤ 8) : ∀ (s : List (List UInt8)) (i : Nat), ps.drop i = s → i ≤ ps.length → Lps (EXn 1) enB (enS es os form nm (encOs (ps.map (Tr.sym lispB ·))) ((ps.take i).map lrow) i) (.out 0) (enS es os form nm (encOs (ps.map (Tr.sym lispB ·))) (ps.map lrow) ps.length) := by
  have hlo : (encOs (ps.map (Tr.sym lispB ·))).length = ps.length := by unfold encOs; rw [List.length_map, List.length_map]
  intro s
  induction s with
  | nil =>
    intro i hd hi
    have e1 := congrArg List.length hd
    rw [List.length_drop, List.length_nil] at e1
    obtain rfl : i = ps.length := by omega
    rw [List.take_length]
    exact .stop (enB2 hlo.symm) (fun h => by cases h)
  | cons x s ih =>
    intro i hd hi
    have hx : ps[i]? = some x := by rw [← List.head?_drop, hd]; rfl
    have hlt := (List.getElem?_eq_some_iff.1 hx).1
    have hs := enB1 (es := es) (os := os) (form := form) (nm := nm) (rs := (ps.take i).map lrow) (by omega) (by omega) (by rw [List.length_map, List.length_take]; omega) (ix_par hx)
    have e : (ps.take i).map lrow ++ [lrow x] = (ps.take (i + 1)).map lrow := by rw [List.take_add_one, hx, List.map_append]; rfl
    rw [e] at hs
    exact .more hs (ih (i + 1) (by rw [← List.drop_drop, hd]; rfl) (by omega))
theorem p_entry {ws : List Rdr.Fnc} (hw : ws.length ≤ 900) {x : Tr} {f : Rdr.Fnc} (h : Rdr.entry primL ws x = some f) : Suk 73 [.own 0 (ws.map encE).length, trA x] [wB (ws.map encE)] (entA f) [wB (ws.map encE)] := by
  unfold Rdr.entry at h
  split at h
  case h_2 => cases h
  rename_i d p nm px y r hi
  split at h
  case h_2 => cases h
  rename_i pl hpx
  split at h
  case h_2 => cases h
  rename_i ps hps
  split at h
  case isFalse => cases h
  rename_i hc
  obtain ⟨rfl, hnm, hpn, hpl, hr⟩ := hc
  split at h
  case h_2 => cases h
  rename_i bt gt mt hb hg hm
  cases h
  have hx := items_list hi
  have hpx := items_list hpx
  have hpl2 := pars_map hps
  subst hpl2
  subst hx
  subst hpx
  have hI := p_rItems (l := d :: Tr.sym lispB nm :: Tr.list (ps.map (Tr.sym lispB ·)) :: y :: r) (by simp only [List.length_cons]; omega)
  have hP := p_rItems (l := ps.map (Tr.sym lispB ·)) (by rw [List.length_map]; omega)
  have hL3 : (d :: Tr.sym lispB nm :: Tr.list (ps.map (Tr.sym lispB ·)) :: y :: r).drop 3 = y :: r := rfl
  have hLl : (d :: Tr.sym lispB nm :: Tr.list (ps.map (Tr.sym lispB ·)) :: y :: r).length = r.length + 4 := rfl
  have hlast : (d :: Tr.sym lispB nm :: Tr.list (ps.map (Tr.sym lispB ·)) :: y :: r)[r.length + 3]? = some ((y :: r).getLast (by simp)) := by
    show (y :: r)[r.length]? = _
    rw [List.getLast_eq_getElem, List.getElem?_eq_getElem (by simp)]
    rfl
  generalize hLe : (d :: Tr.sym lispB nm :: Tr.list (ps.map (Tr.sym lispB ·)) :: y :: r) = L at *
  have hlo : (encOs L).length = r.length + 4 := by unfold encOs; rw [List.length_map, hLl]
  have hx1 : IxAt (encOs L) 1 7 (encL (symB nm)) := by subst hLe; exact ⟨by decide, rfl, rfl⟩
  have hx2 : IxAt (encOs L) 2 7 (encL (Tr.list (ps.map (Tr.sym lispB ·))).ob) := by subst hLe; exact ⟨by decide, rfl, rfl⟩
  have hz : IxAt (encOs L) ((encOs L).length - 1) 7 (encL ((y :: r).getLast (by simp)).ob) := ⟨by omega, by
    rw [hlo]
    have : ((((r.length + 4 : Nat) : Int) - 1)).toNat = r.length + 3 := by omega
    rw [this]
    unfold encOs
    rw [List.getElem?_map, hlast]
    rfl, rfl⟩
  have hlp : Tri (EXn 1) (.loop enB) (en0 (ws.map encE) (encOs L) (Tr.list L).ob nm (encOs (ps.map (Tr.sym lispB ·)))) (.out 0) (enS (ws.map encE) (encOs L) (Tr.list L).ob nm (encOs (ps.map (Tr.sym lispB ·))) (ps.map lrow) ps.length) := by
    cases ps with
    | nil => exact absurd rfl hpn
    | cons n0 ps' =>
      have hs := enB0 (es := ws.map encE) (os := encOs L) (form := (Tr.list L).ob) (nm := nm) (n := n0) (qs := encOs ((n0 :: ps').map (Tr.sym lispB ·))) (by simp [encOs]) (ix_par (i := 0) rfl)
      have hn := en_loop (es := ws.map encE) (os := encOs L) (form := (Tr.list L).ob) (nm := nm) hpl _ 1 rfl (by simp)
      exact (Lps.more hs hn).tri
  have hT : ∀ {o : Tr} {t : Te}, Rdr.trm (Rdr.arity primL ws nm ps) o = some t → Suk 100 [.own 0 (ws.map encE).length, .dt (.row [encF ⟨nm, ps, yesT, zTe, zTe⟩]), trA o] [wB (ws.map encE)] (.tup [teA t, inA 0]) [wB (ws.map encE)] := fun h => p_Term12 (f := ⟨nm, ps, yesT, zTe, zTe⟩) (by omega) h
  have hbS := hT hb
  have hll : (encOs L).length ≤ 1000 := by omega
  cases hgo : Rdr.option Rdr.guardB (y :: r) with
  | none => rw [hgo] at hg; cases hg
  | some go =>
    rw [hgo] at hg
    cases hmo : Rdr.option Rdr.measB (y :: r) with
    | none => rw [hmo] at hm; cases hm
    | some mo =>
      rw [hmo] at hm
      rw [← hL3] at hgo hmo
      cases go with
      | none =>
        cases hg
        have kg := p_option0 (by omega) (by omega) hgo
        cases mo with
        | none =>
          cases hm
          exact w_ent00 hI hx1 hx2 hP hlp hz hll hbS kg (p_option0 (by omega) (by omega) hmo)
        | some mo => exact w_ent01 hI hx1 hx2 hP hlp hz hll hbS kg (p_option1 (by omega) (by omega) hmo) (hT hm)
      | some go =>
        have kg := p_option1 (by omega) (by omega) hgo
        cases mo with
        | none =>
          cases hm
          exact w_ent10 hI hx1 hx2 hP hlp hz hll hbS kg (hT hg) (p_option0 (by omega) (by omega) hmo)
        | some mo => exact w_ent11 hI hx1 hx2 hP hlp hz hll hbS kg (hT hg) (p_option1 (by omega) (by omega) hmo) (hT hm)
end Go.Proofs.YtendgffijciehaaGreatDoor
/- The built-in world, of the reference. -/
namespace Go.Proofs.YtendgffijciehaaGreatDoor
open Go.RowKit
open Te

theorem s_Names7 : Suk 102 [] [] (.own 0 25) [some (.buf 32 2 (primL.map prow))] :=
  psw (n := 0) (ks := [0]) (an := [.av (.dt (.row (primL.map rrow))), .no, .no, .no, .av (syA lispB [105, 102]), .no, .no, .no, .no, .no, .av (syA lispB [101, 113, 117, 97, 108]), .no, .no, .no, .no, .no, .av (syA lispB [99, 111, 110, 115]), .no, .no, .no, .no, .no, .av (syA lispB [99, 97, 114]), .no, .no, .no, .no, .no, .av (syA lispB [99, 100, 114]), .no, .no, .no, .no, .no, .av (syA lispB [99, 111, 110, 115, 112]), .no, .no, .no, .no, .no, .av (syA lispB [115, 121, 109, 98, 111, 108, 112]), .no, .no, .no, .no, .no, .av (syA lispB [115, 116, 114, 105, 110, 103, 112]), .no, .no, .no, .no, .no, .av (syA lispB [114, 97, 116, 105, 111, 110, 97, 108, 112]), .no, .no, .no, .no, .no, .av (syA lispB [105, 110, 116, 101, 103, 101, 114, 112]), .no, .no, .no, .no, .no, .av (syA lispB [98, 105, 110, 97, 114, 121, 45, 43]), .no, .no, .no, .no, .no, .av (syA lispB [98, 105, 110, 97, 114, 121, 45, 42]), .no, .no, .no, .no, .no, .av (syA lispB [117, 110, 97, 114, 121, 45, 45]), .no, .no, .no, .no, .no, .av (syA lispB [117, 110, 97, 114, 121, 45, 47]), .no, .no, .no, .no, .no, .av (syA lispB [60]), .no, .no, .no, .no, .no, .av (syA lispB [110, 117, 109, 101, 114, 97, 116, 111, 114]), .no, .no, .no, .no, .no, .av (syA lispB [100, 101, 110, 111, 109, 105, 110, 97, 116, 111, 114]), .no, .no, .no, .no, .no, .av (syA lispB [102, 108, 111, 111, 114]), .no, .no, .no, .no, .no, .av (syA lispB [115, 121, 109, 98, 111, 108, 45, 110, 97, 109, 101]), .no, .no, .no, .no, .no, .av (syA lispB [115, 121, 109, 98, 111, 108, 45, 112, 97, 99, 107, 97, 103, 101, 45, 110, 97, 109, 101]), .no, .no, .no, .no, .no, .av (syA lispB [105, 110, 116, 101, 114, 110]), .no, .no, .no, .no, .no, .av (syA lispB [115, 116, 114, 105, 110, 103, 45, 97, 112, 112, 101, 110, 100]), .no, .no, .no, .no, .no, .av (syA lispB [115, 116, 114, 105, 110, 103, 45, 108, 101, 110, 103, 116, 104]), .no, .no, .no, .no, .no, .av (syA lispB [115, 116, 114, 105, 110, 103, 45, 98, 121, 116, 101]), .no, .no, .no, .no, .no, .av (syA lispB [98, 121, 116, 101, 45, 115, 116, 114, 105, 110, 103]), .no, .no]) (ls := [.run 26]) (ps := [Puk 122 [] (.dt (.row (List.map rrow primL))), Puk 51 [(stA ([105, 102], 3).fst)] (syA lispB [105, 102]), Puk 51 [(stA ([101, 113, 117, 97, 108], 2).fst)] (syA lispB [101, 113, 117, 97, 108]), Puk 51 [(stA ([99, 111, 110, 115], 2).fst)] (syA lispB [99, 111, 110, 115]), Puk 51 [(stA ([99, 97, 114], 1).fst)] (syA lispB [99, 97, 114]), Puk 51 [(stA ([99, 100, 114], 1).fst)] (syA lispB [99, 100, 114]), Puk 51 [(stA ([99, 111, 110, 115, 112], 1).fst)] (syA lispB [99, 111, 110, 115, 112]), Puk 51 [(stA ([115, 121, 109, 98, 111, 108, 112], 1).fst)] (syA lispB [115, 121, 109, 98, 111, 108, 112]), Puk 51 [(stA ([115, 116, 114, 105, 110, 103, 112], 1).fst)] (syA lispB [115, 116, 114, 105, 110, 103, 112]), Puk 51 [(stA ([114, 97, 116, 105, 111, 110, 97, 108, 112], 1).fst)] (syA lispB [114, 97, 116, 105, 111, 110, 97, 108, 112]), Puk 51 [(stA ([105, 110, 116, 101, 103, 101, 114, 112], 1).fst)] (syA lispB [105, 110, 116, 101, 103, 101, 114, 112]), Puk 51 [(stA ([98, 105, 110, 97, 114, 121, 45, 43], 2).fst)] (syA lispB [98, 105, 110, 97, 114, 121, 45, 43]), Puk 51 [(stA ([98, 105, 110, 97, 114, 121, 45, 42], 2).fst)] (syA lispB [98, 105, 110, 97, 114, 121, 45, 42]), Puk 51 [(stA ([117, 110, 97, 114, 121, 45, 45], 1).fst)] (syA lispB [117, 110, 97, 114, 121, 45, 45]), Puk 51 [(stA ([117, 110, 97, 114, 121, 45, 47], 1).fst)] (syA lispB [117, 110, 97, 114, 121, 45, 47]), Puk 51 [(stA ([60], 2).fst)] (syA lispB [60]), Puk 51 [(stA ([110, 117, 109, 101, 114, 97, 116, 111, 114], 1).fst)] (syA lispB [110, 117, 109, 101, 114, 97, 116, 111, 114]), Puk 51 [(stA ([100, 101, 110, 111, 109, 105, 110, 97, 116, 111, 114], 1).fst)] (syA lispB [100, 101, 110, 111, 109, 105, 110, 97, 116, 111, 114]), Puk 51 [(stA ([102, 108, 111, 111, 114], 1).fst)] (syA lispB [102, 108, 111, 111, 114]), Puk 51 [(stA ([115, 121, 109, 98, 111, 108, 45, 110, 97, 109, 101], 1).fst)] (syA lispB [115, 121, 109, 98, 111, 108, 45, 110, 97, 109, 101]), Puk 51 [(stA ([115, 121, 109, 98, 111, 108, 45, 112, 97, 99, 107, 97, 103, 101, 45, 110, 97, 109, 101], 1).fst)] (syA lispB [115, 121, 109, 98, 111, 108, 45, 112, 97, 99, 107, 97, 103, 101, 45, 110, 97, 109, 101]), Puk 51 [(stA ([105, 110, 116, 101, 114, 110], 2).fst)] (syA lispB [105, 110, 116, 101, 114, 110]), Puk 51 [(stA ([115, 116, 114, 105, 110, 103, 45, 97, 112, 112, 101, 110, 100], 2).fst)] (syA lispB [115, 116, 114, 105, 110, 103, 45, 97, 112, 112, 101, 110, 100]), Puk 51 [(stA ([115, 116, 114, 105, 110, 103, 45, 108, 101, 110, 103, 116, 104], 1).fst)] (syA lispB [115, 116, 114, 105, 110, 103, 45, 108, 101, 110, 103, 116, 104]), Puk 51 [(stA ([115, 116, 114, 105, 110, 103, 45, 98, 121, 116, 101], 2).fst)] (syA lispB [115, 116, 114, 105, 110, 103, 45, 98, 121, 116, 101]), Puk 51 [(stA ([98, 121, 116, 101, 45, 115, 116, 114, 105, 110, 103], 1).fst)] (syA lispB [98, 121, 116, 101, 45, 115, 116, 114, 105, 110, 103])]) Tryz.func102 (by kernel_rfl) (by kernel_rfl) ⟨p_rows, p_lisp _, p_lisp _, p_lisp _, p_lisp _, p_lisp _, p_lisp _, p_lisp _, p_lisp _, p_lisp _, p_lisp _, p_lisp _, p_lisp _, p_lisp _, p_lisp _, p_lisp _, p_lisp _, p_lisp _, p_lisp _, p_lisp _, p_lisp _, p_lisp _, p_lisp _, p_lisp _, p_lisp _, p_lisp _, trivial⟩
def wordsL : List (List UInt8) := [[110, 105, 108], [116], [113, 117, 111, 116, 101], [108, 101, 116], [108, 101, 116, 42], [99, 111, 110, 100], [97, 110, 100], [111, 114], [108, 105, 115, 116], [108, 105, 115, 116, 42], [43], [42], [45], [47], [60, 61], [62], [62, 61], [97, 112, 112, 101, 110, 100], [100, 101, 102, 112, 107, 103], [100, 101, 102, 109, 97, 99, 114, 111], [100, 101, 102, 117, 110], [109, 117, 116, 117, 97, 108, 45, 114, 101, 99, 117, 114, 115, 105, 111, 110], [100, 101, 102, 116, 104, 109], [101, 110, 99, 97, 112, 115, 117, 108, 97, 116, 101], [100, 101, 102, 99, 104, 111, 111, 115, 101], [100, 101, 102, 115, 116, 111, 98, 106], [105, 110, 45, 116, 104, 101, 111, 114, 121], [105, 110, 99, 108, 117, 100, 101, 45, 98, 111, 111, 107], [100, 101, 102, 108, 97, 98, 101, 108], [117, 110, 100, 111]] ++ ([[100, 101, 102, 105, 110, 115, 116, 97, 110, 99, 101], [100, 101, 102, 101, 113, 117, 105, 118], [100, 101, 102, 112, 114, 111, 99, 101, 115, 115, 111, 114], [108, 111, 99, 97, 108], [100, 101, 99, 108, 97, 114, 101], [103, 117, 97, 114, 100], [109, 101, 97, 115, 117, 114, 101], [115, 105, 103, 110, 97, 116, 117, 114, 101], [114, 101, 115, 116], [101, 110, 97, 98, 108, 101], [100, 105, 115, 97, 98, 108, 101], [104, 105, 110, 116, 115], [117, 115, 101], [105, 110, 100, 117, 99, 116], [119, 105, 116, 104, 111, 117, 116], [114, 117, 108, 101, 45, 99, 108, 97, 115, 115, 101, 115], [114, 101, 119, 114, 105, 116, 101], [116, 121, 112, 101, 45, 112, 114, 101, 115, 99, 114, 105, 112, 116, 105, 111, 110], [102, 111, 114, 119, 97, 114, 100, 45, 99, 104, 97, 105, 110, 105, 110, 103], [108, 105, 110, 101, 97, 114], [101, 108, 105, 109], [101, 113, 117, 105, 118, 97, 108, 101, 110, 99, 101], [99, 111, 110, 103, 114, 117, 101, 110, 99, 101], [103, 101, 110, 101, 114, 97, 108, 105, 122, 101], [112, 114, 111, 99, 101, 115, 115, 111, 114], [115, 105, 109, 112, 108, 105, 102, 121], [100, 101, 115, 116, 114, 117, 99, 116, 111, 114, 115], [102, 101, 114, 116, 105, 108, 105, 122, 101], [103, 101, 110, 101, 114, 97, 108, 105, 122, 97, 116, 105, 111, 110], [105, 114, 114, 101, 108, 101, 118, 97, 110, 99, 101], [105, 110, 100, 117, 99, 116, 105, 111, 110]] : List (List UInt8))
theorem fit_big {b n : Nat} (hb : b ≤ 100000) (h : n ≤ 1000000) : FitB b n := ⟨by show n ≤ 2 ^ 63 - 1; omega, by
  have := Nat.mul_le_mul h hb
  omega⟩
/- Names -/
abbrev nmS (fs rs : List (List Dt)) (i : Int) : AS := ⟨stt 47 [(1, .own 0 rs.length), (2, .dt (.row fs)), (3, inA i)], [some (.buf 32 2 rs)]⟩
noncomputable abbrev nmB : Code := subC (bodyOf Tryz.f74) [1,1,1,0,1,0,0]
theorem nmB1 {fs os rs : List (List Dt)} {n : List UInt8} {x : Ob} {i : Nat} (hi : i < fs.length) (hl : fs.length ≤ 1000) (hr : rs.length ≤ 1000) (hx : IxAt fs (i : Int) 7 (encL x)) (h : Puk 98 [obA x] (.tup [.dt (.row os), boA true])) (hn : IxAt os 1 7 (encL (symB n))) : Tri EX nmB (nmS fs rs i) .nxt (nmS fs (rs ++ [lrow n]) ((i + 1 : Nat) : Int)) :=
  twalk (c := subC (bodyOf Tryz.f74) [1,1,1,0,1,0,0]) (s := nmS fs rs i) (an := [.av (inA fs.length), yT, .av (.pin ((encL x).map .dt)), .av (.tup [.dt (.row os), boA true]), .av (.pin ((encL (symB n)).map .dt)), .av (.un), .av (inA ((i + 1 : Nat) : Int))]) (ls := []) (ft := [1,2,3]) (nb := 1) (e := .nxt) (s' := nmS fs (rs ++ [lrow n]) ((i + 1 : Nat) : Int)) (ps := [(vi ↑fs.length) = (vi ↑fs.length), Bn .lss 3 (.tmp 10) (.tmp 12) (vi ↑i) (vi ↑fs.length) bT, IxAt fs ↑i 7 (encL x), Puk 98 [(obA x)] (.tup [(.dt (.row os)), (boA true)]), IxAt os 1 7 (encL (symB n)), (rs.length) = (rs.length), FitB 32 ((rs ++ [[Dt.val (str (symB n).sp), Dt.val (str (symB n).sn)]]).length), SrcOK 2 [[(.val (str (symB n).sp)), (.val (str (symB n).sn))]], Bn .add 3 (.tmp 14) (.const (vi 1)) (vi ↑i) (vi 1) (vi (↑(i + 1)))]) (by kernel_rfl) ⟨rfl, bin_ilt (decide_eq_true (by omega)), hx, h, hn, rfl, fit_of (by omega) (by simp; omega), src_lrow n, bin_iadd (by omega) (by omega) (by omega), trivial⟩
theorem nmB2 {fs rs : List (List Dt)} {i : Nat} (hi : i = fs.length) : Tri EX nmB (nmS fs rs i) (.out 0) (nmS fs rs i) :=
  twalk (c := subC (bodyOf Tryz.f74) [1,1,1,0,1,0,0]) (s := nmS fs rs i) (an := [.av (inA fs.length), yF]) (ls := []) (ft := [1,2,3]) (nb := 1) (e := .out 0) (s' := nmS fs rs i) (ps := [(vi ↑fs.length) = (vi ↑fs.length), Bn .lss 3 (.tmp 10) (.tmp 12) (vi ↑i) (vi ↑fs.length) bF]) (by kernel_rfl) ⟨rfl, bin_ilt (decide_eq_false (by omega)), trivial⟩
abbrev wdrow (w : List UInt8) : List Dt := [.val (str w)]
abbrev nwS (ws : List (List UInt8)) (rs : List (List Dt)) (i : Int) : AS := ⟨stt 47 [(1, .own 0 rs.length), (6, .ful (ws.map wdrow)), (7, inA i)], [some (.buf 32 2 rs)]⟩
noncomputable abbrev nwB : Code := subC (bodyOf Tryz.f74) [1,1,1,1,1,0,1,0,0]
theorem lenW (l : List (List UInt8)) : Value.int .i64 (l.length : Int) = Value.int .i64 ((l.map wdrow).length : Int) := by rw [List.length_map]
theorem ix_w {ws : List (List UInt8)} {i : Nat} {w : List UInt8} (h : ws[i]? = some w) : IxAt (ws.map wdrow) (i : Int) 1 (wdrow w) := ⟨Int.natCast_nonneg _, by rw [Int.toNat_natCast, List.getElem?_map, h]; rfl, rfl⟩
theorem nwB1 {ws : List (List UInt8)} {rs : List (List Dt)} {w : List UInt8} {i : Nat} (hl : ws.length ≤ 1000) (hr : rs.length ≤ 1000) (hx : ws[i]? = some w) : Tri EX nwB (nwS ws rs i) .nxt (nwS ws (rs ++ [lrow w]) ((i + 1 : Nat) : Int)) :=
  have hi := (List.getElem?_eq_some_iff.1 hx).1
  twalk (c := subC (bodyOf Tryz.f74) [1,1,1,1,1,0,1,0,0]) (s := nwS ws rs i) (an := [.av (inA ws.length), yT, .av (.pin [stA w]), .av (syA lispB w), .av (.un), .av (inA ((i + 1 : Nat) : Int))]) (ls := []) (ft := [1,6,7]) (nb := 1) (e := .nxt) (s' := nwS ws (rs ++ [lrow w]) ((i + 1 : Nat) : Int)) (ps := [(vi ↑ws.length) = (vi (↑(List.map wdrow ws).length)), Bn .lss 3 (.tmp 32) (.tmp 34) (vi ↑i) (vi ↑ws.length) bT, IxAt (List.map wdrow ws) ↑i 1 ([(.val (str w))]), Puk 51 [(stA w)] (syA lispB w), (rs.length) = (rs.length), FitB 32 ((rs ++ [[Dt.val (str lispB), Dt.val (str w)]]).length), SrcOK 2 [[(.val (str lispB)), (.val (str w))]], Bn .add 3 (.tmp 36) (.const (vi 1)) (vi ↑i) (vi 1) (vi (↑(i + 1)))]) (by kernel_rfl) ⟨lenW _, bin_ilt (decide_eq_true (by omega)), ix_w hx, p_lisp _, rfl, fit_of (by omega) (by simp; omega), src_lrow w, bin_iadd (by omega) (by omega) (by omega), trivial⟩
theorem nwB2 {ws : List (List UInt8)} {rs : List (List Dt)} {i : Nat} (hi : i = ws.length) : Tri EX nwB (nwS ws rs i) (.out 2) (nwS ws rs i) :=
  twalk (c := subC (bodyOf Tryz.f74) [1,1,1,1,1,0,1,0,0]) (s := nwS ws rs i) (an := [.av (inA ws.length), yF]) (ls := []) (ft := [1,6,7]) (nb := 1) (e := .out 2) (s' := nwS ws rs i) (ps := [(vi ↑ws.length) = (vi (↑(List.map wdrow ws).length)), Bn .lss 3 (.tmp 32) (.tmp 34) (vi ↑i) (vi ↑ws.length) bF]) (by kernel_rfl) ⟨lenW _, bin_ilt (decide_eq_false (by omega)), trivial⟩
theorem nw_loop {ws : List (List UInt8)} (hl : ws.length ≤ 100) : ∀ (s : List (List UInt8)) (i : Nat) (rs : List (List Dt)), ws.drop i = s → i ≤ ws.length → rs.length ≤ 100 + i → Lps EX nwB (nwS ws rs i) (.out 2) (nwS ws (rs ++ s.map lrow) ws.length) := by
  intro s
  induction s with
  | nil =>
    intro i rs hd hi _
    have e1 := congrArg List.length hd
    rw [List.length_drop, List.length_nil] at e1
    obtain rfl : i = ws.length := by omega
    rw [List.map_nil, List.append_nil]
    exact .stop (nwB2 rfl) (fun h => by cases h)
  | cons x s ih =>
    intro i rs hd hi hr
    have hx : ws[i]? = some x := by rw [← List.head?_drop, hd]; rfl
    have hlt := (List.getElem?_eq_some_iff.1 hx).1
    have hn := ih (i + 1) (rs ++ [lrow x]) (by rw [← List.drop_drop, hd]; rfl) (by omega) (by simp; omega)
    rw [List.append_assoc, List.singleton_append, ← List.map_cons] at hn
    exact .more (nwB1 (by omega) (by omega) hx) hn
theorem w_Names {fs rs : List (List Dt)} {k : Int} (hd : Puk 72 [] (.dt (.row fs))) (h1 : Tri EX (.loop nmB) (nmS fs (primL.map prow) 0) (.out 0) (nmS fs rs k)) (h2 : Tri EX (.loop nwB) (nwS wordsL rs 0) (.out 2) (nwS wordsL (rs ++ wordsL.map lrow) wordsL.length)) : Puk 74 [] (.dt (.row (rs ++ wordsL.map lrow))) :=
  pwalk (an := [.av (.dt (.row fs))]) (ls := [.scl 1 0 [] (.own 0 25) [some (.buf 32 2 (primL.map prow))], .inv [1,2,3] 1 (.out 0) (nmS fs rs k), .inv [1,6,7] 1 (.out 2) (nwS wordsL (rs ++ wordsL.map lrow) wordsL.length)]) (ps := [Suk 102 [] [] (AV.own 0 25) [some (Bx.buf 32 2 (List.map prow primL))], Puk 72 [] (.dt (.row fs)), Tri EX (.loop (subC (bodyOf Tryz.f74) [1,1,1,0,1,0,0])) (nmS fs (primL.map prow) 0) (.out 0) (nmS fs rs k), Tri EX (.loop (subC (bodyOf Tryz.f74) [1,1,1,1,1,0,1,0,0])) (nwS wordsL rs 0) (.out 2) (nwS wordsL (rs ++ wordsL.map lrow) wordsL.length), ((rs ++ List.map lrow wordsL).length) = ((rs ++ List.map lrow wordsL).length)]) Tryz.func74 (by kernel_rfl) (by kernel_rfl) ⟨s_Names7, hd, h1, h2, rfl, trivial⟩
theorem src_encE (f : Rdr.Fnc) : SrcOK 32 [encE f] := by
  intro x hx
  rw [List.mem_singleton] at hx
  subst hx
  exact ⟨rfl, fun d hd => by
    have h : (encE f).all Dt.one = true := rfl
    exact List.all_eq_true.1 h d hd⟩
theorem src_encP (ns : List (List Dt)) : SrcOK 32 [encP ns] := by
  intro x hx
  rw [List.mem_singleton] at hx
  subst hx
  exact ⟨rfl, fun d hd => by
    have h : (encP ns).all Dt.one = true := rfl
    exact List.all_eq_true.1 h d hd⟩
/- World -/
abbrev wo0 (fs : List (List Dt)) : AS := ⟨stt 27 [(1, .nil), (2, .dt (.row fs)), (3, inA 0)], []⟩
abbrev woS (fs es : List (List Dt)) (i : Int) : AS := ⟨stt 27 [(1, .own 0 es.length), (2, .dt (.row fs)), (3, inA i)], [wB es]⟩
noncomputable abbrev woB : Code := subC (bodyOf Tryz.f45) [1,1,1,0,1,0,0]
theorem woB1 {fs es : List (List Dt)} {x : Ob} {f : Rdr.Fnc} {i : Nat} (hi : i < fs.length) (hl : fs.length ≤ 1000) (hr : es.length ≤ 1000) (hx : IxAt fs (i : Int) 7 (encL x)) (h : Suk 73 [.own 0 es.length, obA x] [wB es] (entA f) [wB es]) : Tri EX woB (woS fs es i) .nxt (woS fs (es ++ [encE f]) ((i + 1 : Nat) : Int)) :=
  twalk (c := subC (bodyOf Tryz.f45) [1,1,1,0,1,0,0]) (s := woS fs es i) (an := [.av (inA fs.length), yT, .av (.pin ((encL x).map .dt)), .av (.un), .av (inA ((i + 1 : Nat) : Int))]) (ls := [.scl 6 6 [0] (entA f) [some (.buf 109 32 es)]]) (ft := [1,2,3]) (nb := 1) (e := .nxt) (s' := woS fs (es ++ [encE f]) ((i + 1 : Nat) : Int)) (ps := [(vi ↑fs.length) = (vi ↑fs.length), Bn .lss 3 (.tmp 5) (.tmp 7) (vi ↑i) (vi ↑fs.length) bT, IxAt fs ↑i 7 (encL x), Suk 73 [AV.own 0 es.length, AV.agg [AV.dt (Dt.val (vi x.kind)), AV.dt (Dt.val (str x.num)), AV.dt (Dt.val (str x.den)), AV.dt (Dt.val (str x.sp)), AV.dt (Dt.val (str x.sn)), AV.dt (Dt.val (str x.text)), AV.dt (Dt.row (List.map Ob.enc x.pair))]] [some (Bx.buf 109 32 es)] (entA f) [some (Bx.buf 109 32 es)], (es.length) = (es.length), FitB 568 ((es ++ [[Dt.val (vi 3), Dt.val (str lispB), Dt.val (str f.nm), Dt.val (str []), Dt.row [], Dt.val (str []), Dt.val (str []), Dt.row [], Dt.val bF, Dt.val (vi 0), Dt.val (str []), Dt.val (str []), Dt.val (vi 0), Dt.val (str []), Dt.val (str []), Dt.val (str []), Dt.val (str []), Dt.val (str []), Dt.row [], Dt.row [], Dt.row [encF f], Dt.row [], Dt.row [], Dt.row [], Dt.val (str []), Dt.val (str []), Dt.row [], Dt.row [], Dt.row [], Dt.row [], Dt.val (str []), Dt.val (Value.int .u64 0)]]).length), SrcOK 32 [encE f], Bn .add 3 (.tmp 9) (.const (vi 1)) (vi ↑i) (vi 1) (vi (↑(i + 1)))]) (by kernel_rfl) ⟨rfl, bin_ilt (decide_eq_true (by omega)), hx, h, rfl, fit_big (by omega) (by simp; omega), src_encE f, bin_iadd (by omega) (by omega) (by omega), trivial⟩
theorem woB2 {fs es : List (List Dt)} {i : Nat} (hi : i = fs.length) : Tri EX woB (woS fs es i) (.out 0) (woS fs es i) :=
  twalk (c := subC (bodyOf Tryz.f45) [1,1,1,0,1,0,0]) (s := woS fs es i) (an := [.av (inA fs.length), yF]) (ls := []) (ft := [1,2,3]) (nb := 1) (e := .out 0) (s' := woS fs es i) (ps := [(vi ↑fs.length) = (vi ↑fs.length), Bn .lss 3 (.tmp 5) (.tmp 7) (vi ↑i) (vi ↑fs.length) bF]) (by kernel_rfl) ⟨rfl, bin_ilt (decide_eq_false (by omega)), trivial⟩
theorem w_World {fs es ns : List (List Dt)} {k : Int} (hd : Puk 72 [] (.dt (.row fs))) (hlp : Tri EX (.loop woB) (wo0 fs) (.out 0) (woS fs es k)) (hn : Puk 74 [] (.dt (.row ns))) (hl : es.length ≤ 1000) : Puk 45 [] (.dt (.row (es ++ [encP ns]))) :=
  pwalk (an := [.av (.dt (.row fs)), .av (syA lispB [117, 115, 101, 114, 45, 112, 97, 99, 107, 97, 103, 101]), .av (.dt (.row ns)), .av (.un)]) (ls := [.inv [1,2,3] 0 (.out 0) (woS fs es k)]) (ps := [Puk 72 [] (.dt (.row fs)), Tri EX (.loop (subC (bodyOf Tryz.f45) [1,1,1,0,1,0,0])) (wo0 fs) (.out 0) (woS fs es k), Puk 51 [(stA [117, 115, 101, 114, 45, 112, 97, 99, 107, 97, 103, 101])] (syA lispB [117, 115, 101, 114, 45, 112, 97, 99, 107, 97, 103, 101]), Puk 74 [] (.dt (.row ns)), (es.length) = (es.length), FitB 568 ((es ++ [[Dt.val (vi 1), Dt.val (str lispB), Dt.val (str [117, 115, 101, 114, 45, 112, 97, 99, 107, 97, 103, 101]), Dt.val (Value.string { data := #[117, 115, 101, 114] : ByteArray }), Dt.row ns, Dt.val (Value.string { data := #[] : ByteArray }), Dt.val (Value.string { data := #[] : ByteArray }), Dt.row [], Dt.val bF, Dt.val (vi 0), Dt.val (Value.string { data := #[] : ByteArray }), Dt.val (Value.string { data := #[] : ByteArray }), Dt.val (vi 0), Dt.val (Value.string { data := #[] : ByteArray }), Dt.val (Value.string { data := #[] : ByteArray }), Dt.val (Value.string { data := #[] : ByteArray }), Dt.val (Value.string { data := #[] : ByteArray }), Dt.val (Value.string { data := #[] : ByteArray }), Dt.row [], Dt.row [], Dt.row [], Dt.row [], Dt.row [], Dt.row [], Dt.val (Value.string { data := #[] : ByteArray }), Dt.val (Value.string { data := #[] : ByteArray }), Dt.row [], Dt.row [], Dt.row [], Dt.row [], Dt.val (Value.string { data := #[] : ByteArray }), Dt.val (Value.int .u64 0)]]).length), SrcOK 32 [[(.val (vi 1)), (.val (str lispB)), (.val (str [117, 115, 101, 114, 45, 112, 97, 99, 107, 97, 103, 101])), (.val (str [117, 115, 101, 114])), (.row ns), (.val (str [])), (.val (str [])), (.row []), (.val bF), (.val (vi 0)), (.val (str [])), (.val (str [])), (.val (vi 0)), (.val (str [])), (.val (str [])), (.val (str [])), (.val (str [])), (.val (str [])), (.row []), (.row []), (.row []), (.row []), (.row []), (.row []), (.val (str [])), (.val (str [])), (.row []), (.row []), (.row []), (.row []), (.val (str [])), (.val (Value.int .u64 0))]], ((es ++ [[Dt.val (vi 1), Dt.val (str lispB), Dt.val (str [117, 115, 101, 114, 45, 112, 97, 99, 107, 97, 103, 101]), Dt.val (Value.string { data := #[117, 115, 101, 114] : ByteArray }), Dt.row ns, Dt.val (Value.string { data := #[] : ByteArray }), Dt.val (Value.string { data := #[] : ByteArray }), Dt.row [], Dt.val bF, Dt.val (vi 0), Dt.val (Value.string { data := #[] : ByteArray }), Dt.val (Value.string { data := #[] : ByteArray }), Dt.val (vi 0), Dt.val (Value.string { data := #[] : ByteArray }), Dt.val (Value.string { data := #[] : ByteArray }), Dt.val (Value.string { data := #[] : ByteArray }), Dt.val (Value.string { data := #[] : ByteArray }), Dt.val (Value.string { data := #[] : ByteArray }), Dt.row [], Dt.row [], Dt.row [], Dt.row [], Dt.row [], Dt.row [], Dt.val (Value.string { data := #[] : ByteArray }), Dt.val (Value.string { data := #[] : ByteArray }), Dt.row [], Dt.row [], Dt.row [], Dt.row [], Dt.val (Value.string { data := #[] : ByteArray }), Dt.val (Value.int .u64 0)]]).length) = ((es ++ [[Dt.val (vi 1), Dt.val (str lispB), Dt.val (str [117, 115, 101, 114, 45, 112, 97, 99, 107, 97, 103, 101]), Dt.val (Value.string { data := #[117, 115, 101, 114] : ByteArray }), Dt.row ns, Dt.val (Value.string { data := #[] : ByteArray }), Dt.val (Value.string { data := #[] : ByteArray }), Dt.row [], Dt.val bF, Dt.val (vi 0), Dt.val (Value.string { data := #[] : ByteArray }), Dt.val (Value.string { data := #[] : ByteArray }), Dt.val (vi 0), Dt.val (Value.string { data := #[] : ByteArray }), Dt.val (Value.string { data := #[] : ByteArray }), Dt.val (Value.string { data := #[] : ByteArray }), Dt.val (Value.string { data := #[] : ByteArray }), Dt.val (Value.string { data := #[] : ByteArray }), Dt.row [], Dt.row [], Dt.row [], Dt.row [], Dt.row [], Dt.row [], Dt.val (Value.string { data := #[] : ByteArray }), Dt.val (Value.string { data := #[] : ByteArray }), Dt.row [], Dt.row [], Dt.row [], Dt.row [], Dt.val (Value.string { data := #[] : ByteArray }), Dt.val (Value.int .u64 0)]]).length)]) Tryz.func45 (by kernel_rfl) (by kernel_rfl) ⟨hd, hlp, p_lisp _, hn, rfl, fit_big (by omega) (by simp; omega), src_encP ns, rfl, trivial⟩
end Go.Proofs.YtendgffijciehaaGreatDoor
/- The built-in world: what World and Names answer. -/
namespace Go.Proofs.YtendgffijciehaaGreatDoor
open Go.RowKit
open Te

theorem entry_items {ws : List Rdr.Fnc} {x : Tr} {f : Rdr.Fnc} (h : Rdr.entry primL ws x = some f) : ∃ d r, r.length ≤ 200 ∧ x = Tr.list (d :: Tr.sym lispB f.nm :: r) := by
  unfold Rdr.entry at h
  split at h
  case h_2 => cases h
  rename_i d p nm px y r hi
  split at h
  case h_2 => cases h
  split at h
  case h_2 => cases h
  split at h
  case isFalse => cases h
  rename_i hc
  obtain ⟨rfl, hnm, hpn, hpl, hr⟩ := hc
  split at h
  case h_2 => cases h
  cases h
  exact ⟨d, px :: y :: r, by simp only [List.length_cons]; omega, items_list hi⟩
theorem ix_form {L : List Tr} {i : Nat} {x : Tr} (h : L[i]? = some x) : IxAt (encOs L) (i : Int) 7 (encL x.ob) := ⟨Int.natCast_nonneg _, by rw [Int.toNat_natCast]; unfold encOs; rw [List.getElem?_map, h]; rfl, rfl⟩
theorem wo_loop {L : List Tr} (hl : L.length ≤ 100) {wf : List Rdr.Fnc} : ∀ (s : List Tr) (i : Nat) (ws : List Rdr.Fnc), L.drop i = s → i ≤ L.length → ws.length = i → Rdr.world primL s ws = some wf → Lps EX woB (woS (encOs L) (ws.map encE) i) (.out 0) (woS (encOs L) (wf.map encE) L.length) := by
  have hlo : (encOs L).length = L.length := by unfold encOs; rw [List.length_map]
  intro s
  induction s with
  | nil =>
    intro i ws hd hi hw h
    cases h
    have e1 := congrArg List.length hd
    rw [List.length_drop, List.length_nil] at e1
    obtain rfl : i = L.length := by omega
    exact .stop (woB2 hlo.symm) (fun h => by cases h)
  | cons x s ih =>
    intro i ws hd hi hw h
    rw [Rdr.world] at h
    split at h
    case h_2 => cases h
    rename_i f hf
    have hx : L[i]? = some x := by rw [← List.head?_drop, hd]; rfl
    have hlt := (List.getElem?_eq_some_iff.1 hx).1
    have hs := woB1 (fs := encOs L) (es := ws.map encE) (i := i) (by omega) (by omega) (by rw [List.length_map]; omega) (ix_form hx) (p_entry (by omega) hf)
    have e : ws.map encE ++ [encE f] = (ws ++ [f]).map encE := by rw [List.map_append]; rfl
    rw [e] at hs
    exact .more hs (ih (i + 1) (ws ++ [f]) (by rw [← List.drop_drop, hd]; rfl) hlt (by simp [hw]) h)
theorem nm_loop {L : List Tr} (hl : L.length ≤ 100) {wf : List Rdr.Fnc} : ∀ (s : List Tr) (i : Nat) (ws : List Rdr.Fnc), L.drop i = s → i ≤ L.length → ws.length = i → Rdr.world primL s ws = some wf → Lps EX nmB (nmS (encOs L) (primL.map prow ++ ws.map fun f => lrow f.nm) i) (.out 0) (nmS (encOs L) (primL.map prow ++ wf.map fun f => lrow f.nm) L.length) := by
  have hlo : (encOs L).length = L.length := by unfold encOs; rw [List.length_map]
  have hpl : primL.length = 25 := rfl
  intro s
  induction s with
  | nil =>
    intro i ws hd hi hw h
    cases h
    have e1 := congrArg List.length hd
    rw [List.length_drop, List.length_nil] at e1
    obtain rfl : i = L.length := by omega
    exact .stop (nmB2 hlo.symm) (fun h => by cases h)
  | cons x s ih =>
    intro i ws hd hi hw h
    rw [Rdr.world] at h
    split at h
    case h_2 => cases h
    rename_i f hf
    have hx : L[i]? = some x := by rw [← List.head?_drop, hd]; rfl
    have hlt := (List.getElem?_eq_some_iff.1 hx).1
    obtain ⟨d, r, hr, hxe⟩ := entry_items hf
    have hI := p_rItems (l := d :: Tr.sym lispB f.nm :: r) (by simp only [List.length_cons]; omega)
    rw [← hxe] at hI
    have hs := nmB1 (fs := encOs L) (rs := primL.map prow ++ ws.map fun f => lrow f.nm) (i := i) (by omega) (by omega) (by rw [List.length_append, List.length_map, List.length_map]; omega) (ix_form hx) hI (ix_os1 _ _ _)
    have e : (primL.map prow ++ ws.map fun f => lrow f.nm) ++ [lrow f.nm] = primL.map prow ++ (ws ++ [f]).map fun f => lrow f.nm := by rw [List.append_assoc, List.map_append]; rfl
    rw [e] at hs
    exact .more hs (ih (i + 1) (ws ++ [f]) (by rw [← List.drop_drop, hd]; rfl) hlt (by simp [hw]) h)
/-- the functions of the built-in world -/
def worldB : List Rdr.Fnc := (Rdr.world primL forms []).getD []
theorem worldB_eq : Rdr.world primL forms [] = some worldB := by
  have h : (Rdr.world primL forms []).isSome = true := by decide +kernel
  obtain ⟨l, hl⟩ := Option.isSome_iff_exists.1 h
  unfold worldB
  rw [hl]
  rfl
theorem worldB_len : worldB.length = 28 := by decide +kernel
theorem wordsL_len : wordsL.length = 61 := by decide +kernel
/-- what Names answers -/
def namesR : List (List Dt) := (primL.map prow ++ worldB.map fun f => lrow f.nm) ++ wordsL.map lrow
theorem forms_le : forms.length ≤ 100 := by rw [forms_len]; decide
theorem p_Names13 : Puk 74 [] (.dt (.row namesR)) := by
  have h1 := (nm_loop forms_le forms 0 [] rfl (Nat.zero_le _) rfl worldB_eq).tri
  have h2 := (nw_loop (ws := wordsL) (by rw [wordsL_len]; decide) wordsL 0 (primL.map prow ++ worldB.map fun f => lrow f.nm) rfl (Nat.zero_le _) (by rw [List.length_append, List.length_map, List.length_map, worldB_len]; decide)).tri
  rw [List.map_nil, List.append_nil] at h1
  exact w_Names p_definitions h1 h2
/-- the rows of the built-in world -/
def wrows : List (List Dt) := worldB.map encE ++ [encP namesR]
theorem p_World : Puk 45 [] (.dt (.row wrows)) := by
  have h := (wo_loop forms_le forms 0 [] rfl (Nat.zero_le _) rfl worldB_eq).tri
  have ht : Tri EX (.loop woB) (wo0 (encOs forms)) (.out 0) (woS (encOs forms) (worldB.map encE) forms.length) := Tri.own0 1 109 32 (by show 1 < 27; omega) rfl h
  exact w_World p_definitions ht p_Names13 (by rw [List.length_map, worldB_len]; decide)
end Go.Proofs.YtendgffijciehaaGreatDoor
/- The maker's names, over the built-in world. -/
namespace Go.Proofs.YtendgffijciehaaGreatDoor
open Go.RowKit
open Te

abbrev mnS (es rs : List (List Dt)) (i : Int) : AS := ⟨stt 36 [(0, .dt (.row es)), (3, .own 0 rs.length), (4, inA i)], [some (.buf 32 2 rs)]⟩
noncomputable abbrev mnB : Code := subC (bodyOf Tryz.f76) [1,1,0,1,0,0]
theorem mnB1 {es rs : List (List Dt)} {f : Rdr.Fnc} {i : Nat} (hi : i < es.length) (hl : es.length ≤ 1000) (hr : rs.length ≤ 1000) (hx : IxAt es (i : Int) 32 (encE f)) : Tri EX mnB (mnS es rs i) .nxt (mnS es (rs ++ [lrow f.nm]) ((i + 1 : Nat) : Int)) :=
  twalk (c := subC (bodyOf Tryz.f76) [1,1,0,1,0,0]) (s := mnS es rs i) (an := [.av (inA es.length), yT, .av (.pin ((encE f).map .dt)), .no, .no, .av (.pin ((encE f).map .dt)), .no, .av (.un), .no, .av (.pin ((encE f).map .dt)), .no, .no, .av (inA ((i + 1 : Nat) : Int))]) (ls := [.run 2]) (ft := [0,3,4]) (nb := 1) (e := .nxt) (s' := mnS es (rs ++ [lrow f.nm]) ((i + 1 : Nat) : Int)) (ps := [(vi ↑es.length) = (vi ↑es.length), Bn .lss 3 (.tmp 7) (.tmp 9) (vi ↑i) (vi ↑es.length) bT, IxAt es ↑i 32 (encE f), IxAt es ↑i 32 (encE f), (rs.length) = (rs.length), FitB 32 ((rs ++ [[Dt.val (str lispB), Dt.val (str f.nm)]]).length), SrcOK 2 [[(.val (str lispB)), (.val (str f.nm))]], IxAt es ↑i 32 (encE f), Bn .add 3 (.tmp 11) (.const (vi 1)) (vi ↑i) (vi 1) (vi (↑(i + 1)))]) (by kernel_rfl) ⟨rfl, bin_ilt (decide_eq_true (by omega)), hx, hx, rfl, fit_of (by omega) (by simp; omega), src_lrow f.nm, hx, bin_iadd (by omega) (by omega) (by omega), trivial⟩
theorem mnB3 {es rs ns : List (List Dt)} {i : Nat} (hi : i < es.length) (hl : es.length ≤ 1000) (hx : IxAt es (i : Int) 32 (encP ns)) : Tri EX mnB (mnS es rs i) .nxt (mnS es rs ((i + 1 : Nat) : Int)) :=
  twalk (c := subC (bodyOf Tryz.f76) [1,1,0,1,0,0]) (s := mnS es rs i) (an := [.av (inA es.length), yT, .av (.pin ((encP ns).map .dt)), .no, .no, .av (inA ((i + 1 : Nat) : Int))]) (ls := [.run 1]) (ft := [0,3,4]) (nb := 1) (e := .nxt) (s' := mnS es rs ((i + 1 : Nat) : Int)) (ps := [(vi ↑es.length) = (vi ↑es.length), Bn .lss 3 (.tmp 7) (.tmp 9) (vi ↑i) (vi ↑es.length) bT, IxAt es ↑i 32 ([(.val (vi 1)), (.val (str lispB)), (.val (str [117, 115, 101, 114, 45, 112, 97, 99, 107, 97, 103, 101])), (.val (str [117, 115, 101, 114])), (.row ns), (.val (str [])), (.val (str [])), (.row []), (.val bF), (.val (vi 0)), (.val (str [])), (.val (str [])), (.val (vi 0)), (.val (str [])), (.val (str [])), (.val (str [])), (.val (str [])), (.val (str [])), (.row []), (.row []), (.row []), (.row []), (.row []), (.row []), (.val (str [])), (.val (str [])), (.row []), (.row []), (.row []), (.row []), (.val (str [])), (.val (Value.int .u64 0))]), Bn .add 3 (.tmp 11) (.const (vi 1)) (vi ↑i) (vi 1) (vi (↑(i + 1)))]) (by kernel_rfl) ⟨rfl, bin_ilt (decide_eq_true (by omega)), hx, bin_iadd (by omega) (by omega) (by omega), trivial⟩
theorem mnB2 {es rs : List (List Dt)} {i : Nat} (hi : i = es.length) : Tri EX mnB (mnS es rs i) (.out 0) (mnS es rs i) :=
  twalk (c := subC (bodyOf Tryz.f76) [1,1,0,1,0,0]) (s := mnS es rs i) (an := [.av (inA es.length), yF]) (ls := []) (ft := [0,3,4]) (nb := 1) (e := .out 0) (s' := mnS es rs i) (ps := [(vi ↑es.length) = (vi ↑es.length), Bn .lss 3 (.tmp 7) (.tmp 9) (vi ↑i) (vi ↑es.length) bF]) (by kernel_rfl) ⟨rfl, bin_ilt (decide_eq_false (by omega)), trivial⟩
theorem mn_loop {ws : List Rdr.Fnc} {ns : List (List Dt)} (hl : ws.length ≤ 100) : ∀ (s : List Rdr.Fnc) (i : Nat) (rs : List (List Dt)), ws.drop i = s → i ≤ ws.length → rs.length ≤ 100 + i → Lps EX mnB (mnS (ws.map encE ++ [encP ns]) rs i) (.out 0) (mnS (ws.map encE ++ [encP ns]) (rs ++ s.map fun f => lrow f.nm) ((ws.length + 1 : Nat) : Int)) := by
  have hlo : (ws.map encE ++ [encP ns]).length = ws.length + 1 := by rw [List.length_append, List.length_map]; rfl
  intro s
  induction s with
  | nil =>
    intro i rs hd hi _
    have e1 := congrArg List.length hd
    rw [List.length_drop, List.length_nil] at e1
    obtain rfl : i = ws.length := by omega
    rw [List.map_nil, List.append_nil]
    have hx : IxAt (ws.map encE ++ [encP ns]) (ws.length : Int) 32 (encP ns) := ⟨Int.natCast_nonneg _, by rw [Int.toNat_natCast, List.getElem?_append_right (by rw [List.length_map]; exact Nat.le_refl _), List.length_map, Nat.sub_self]; rfl, rfl⟩
    exact .more (mnB3 (by omega) (by omega) hx) (.stop (mnB2 hlo.symm) (fun h => by cases h))
  | cons x s ih =>
    intro i rs hd hi hr
    have hx : ws[i]? = some x := by rw [← List.head?_drop, hd]; rfl
    have hlt := (List.getElem?_eq_some_iff.1 hx).1
    have hn := ih (i + 1) (rs ++ [lrow x.nm]) (by rw [← List.drop_drop, hd]; rfl) (by omega) (by simp; omega)
    rw [List.append_assoc, List.singleton_append] at hn
    exact .more (mnB1 (by omega) (by omega) (by omega) (ix_E hx)) hn
theorem p_mkNames {ws : List Rdr.Fnc} {ns : List (List Dt)} (hl : ws.length ≤ 100) : Puk 76 [.dt (.row (ws.map encE ++ [encP ns]))] (.dt (.row (primL.map prow ++ ws.map fun f => lrow f.nm))) := by
  have h1 := (mn_loop (ns := ns) hl ws 0 (primL.map prow) rfl (Nat.zero_le _) (by rw [List.length_map]; decide)).tri
  generalize ws.map encE ++ [encP ns] = es at *
  generalize (((ws.length + 1 : Nat)) : Int) = k at *
  generalize hrs : (primL.map prow ++ ws.map fun f => lrow f.nm) = rs at *
  exact pwalk (an := []) (ls := [.scl 1 0 [] (.own 0 25) [some (.buf 32 2 (primL.map prow))], .inv [0,3,4] 1 (.out 0) (mnS es rs k)]) (ps := [Suk 102 [] [] (AV.own 0 25) [some (Bx.buf 32 2 (List.map prow primL))], Tri EX (.loop (subC (bodyOf Tryz.f76) [1,1,0,1,0,0])) (mnS es (primL.map prow) 0) (.out 0) (mnS es rs k), (rs.length) = (rs.length)]) Tryz.func76 (by kernel_rfl) (by kernel_rfl) ⟨s_Names7, h1, rfl, trivial⟩
end Go.Proofs.YtendgffijciehaaGreatDoor
/- Clauses that the maker makes over the built-in world. -/
namespace Go.Proofs.YtendgffijciehaaGreatDoor
open Go.RowKit
open Te

section
variable {X : Nat → Prop} {n0 : Nat} {w0 : World × Mm} {ok0 : Nat → Prop} {M : Mm} {nt : Nat} {tm : Nat → AV} {bx : Nat → Option Bx} {a : Act} {w : World}
theorem Inv.nilR (h : Inv X n0 w0 ok0 M nt tm bx a w) {t : Nat} (ht : tm t = .nil) : Inv X n0 w0 ok0 M nt (fun i => if i = t then .dt (.row []) else tm i) bx a w := by
  refine ⟨h.below, h.le, h.defers, h.size, fun i => ?_, h.sto, h.src, h.anc⟩
  show RV _ _ (if i = t then _ else _) _
  by_cases hi : i = t
  · subst hi
    have hv := h.tmps i
    rw [ht] at hv
    rw [if_pos rfl]
    exact RV.nilRow hv
  · rw [if_neg hi]
    exact h.tmps i
end
/-- a piece of code that begins with an empty slice in slot t, seen as data -/
theorem Tri.nilR {E : En} {c : Code} {s s' : AS} {e : AE} (t : Nat) (hl : t < s.tm.length) (ht : s.tmf t = .nil) (h : Tri E c ⟨s.tm.set t (.dt (.row [])), s.bx⟩ e s') : Tri E c s e s' := by
  obtain ⟨h1, h2⟩ := h
  have hlen : (s.tm.set t (.dt (.row []))).length = s.tm.length := List.length_set ..
  refine ⟨h1.trans hlen, fun X n0 w0 ok0 a w hG ⟨M, hI⟩ => ?_⟩
  have hI2 := hI.nilR ht
  have e1 : (AS.mk (s.tm.set t (.dt (.row []))) s.bx).tmf = fun i => if i = t then .dt (.row []) else s.tmf i := by
    funext i
    unfold AS.tmf
    by_cases hi : i = t
    · subst hi
      simp [List.getD_eq_getElem?_getD, hl]
    · simp [List.getD_eq_getElem?_getD, Ne.symm hi, hi]
  have hL : Left X n0 w0 ok0 (AS.mk (s.tm.set t (.dt (.row []))) s.bx).tm.length (AS.mk (s.tm.set t (.dt (.row []))) s.bx).tmf (AS.mk (s.tm.set t (.dt (.row []))) s.bx).bxf a w := by
    rw [e1, show (AS.mk (s.tm.set t (.dt (.row []))) s.bx).tm.length = s.tm.length from hlen]
    exact ⟨_, hI2⟩
  have := h2 X n0 w0 ok0 a w hG hL
  rw [show (AS.mk (s.tm.set t (.dt (.row []))) s.bx).tm.length = s.tm.length from hlen] at this
  exact this
/- what the maker is told -/
def nlB : List (List UInt8) := primL.map (·.1) ++ worldB.map (·.nm)
def nl0 : List (List UInt8) := primL.map (·.1)
abbrev vl4 : List (List UInt8) := [[120], [121], [122], [117]]
theorem nlB_ok : ∀ n ∈ nlB, n.length ≤ 1000 ∧ ∃ k : Nat, k ≤ 8 ∧ ariW worldB n = some k := by
  have h : (nlB.all fun n => decide (n.length ≤ 1000) && (match ariW worldB n with | some k => decide (k ≤ 8) | none => false)) = true := by decide +kernel
  intro n hn
  have := List.all_eq_true.1 h n hn
  rw [Bool.and_eq_true] at this
  obtain ⟨h1, h2⟩ := this
  refine ⟨of_decide_eq_true h1, ?_⟩
  split at h2
  · rename_i k hk
    exact ⟨k, of_decide_eq_true h2, hk⟩
  · cases h2
theorem nl0_ok : ∀ n ∈ nl0, n.length ≤ 1000 ∧ ∃ k : Nat, k ≤ 8 ∧ ariW [] n = some k := by
  have h : (nl0.all fun n => decide (n.length ≤ 1000) && (match ariW [] n with | some k => decide (k ≤ 8) | none => false)) = true := by decide +kernel
  intro n hn
  have := List.all_eq_true.1 h n hn
  rw [Bool.and_eq_true] at this
  obtain ⟨h1, h2⟩ := this
  refine ⟨of_decide_eq_true h1, ?_⟩
  split at h2
  · rename_i k hk
    exact ⟨k, of_decide_eq_true h2, hk⟩
  · cases h2
theorem nlB_len : nlB.length = 53 := by decide +kernel
theorem mkB (vl : List (List UInt8)) (h1 : 0 < vl.length) (h2 : vl.length ≤ 4) (h3 : ∀ v ∈ vl, v ∈ vlM) : Mk wrows nlB vl := ⟨by rw [nlB_len]; decide, by rw [nlB_len]; decide, h1, h2, fun n hn => by
  obtain ⟨k1, k, k2, k3⟩ := nlB_ok n hn
  refine ⟨k1, k, k2, ?_⟩
  have hwl := worldB_len
  exact p_AriW (ws := worldB) (r := [encP namesR]) (by rw [List.length_append, List.length_map, hwl]; decide) k3, h3⟩
theorem mk0 (vl : List (List UInt8)) (h1 : 0 < vl.length) (h2 : vl.length ≤ 4) (h3 : ∀ v ∈ vl, v ∈ vlM) : Mk [] nl0 vl := ⟨by decide, by decide, h1, h2, fun n hn => by
  obtain ⟨k1, k, k2, k3⟩ := nl0_ok n hn
  exact ⟨k1, k, k2, p_AriW (ws := []) (r := []) (by decide) k3⟩, h3⟩
theorem vl4_ok : ∀ v ∈ vl4, v ∈ vlM := by decide
theorem p_NamesB : Puk 76 [.dt (.row wrows)] (namA nlB) := by
  have h := p_mkNames (ws := worldB) (ns := namesR) (by rw [worldB_len]; decide)
  have e : (primL.map prow ++ worldB.map fun f => lrow f.nm) = nlB.map lrow := by
    unfold nlB
    rw [List.map_append, List.map_map, List.map_map]
    rfl
  rw [e] at h
  exact h
theorem p_Names0 : Puk 76 [.dt (.row [])] (namA nl0) :=
  pwalk (an := [.av (.dt (.row (primL.map prow))), .no, .no]) (ls := [.run 1]) (ps := [Puk 102 [] (.dt (.row (List.map prow primL)))]) Tryz.func76 (by kernel_rfl) (by kernel_rfl) ⟨p_rNames, trivial⟩
/-- a literal over the built-in world, one over no world -/
theorem p_litB {r : Raw} (hf : Fit r) : ∃ t : Te, t.Mkd ∧ Puk 12 [.dt (.row wrows), varA vl4, rawA r] (teA t) := p_lit (mkB vl4 (by decide) (by decide) vl4_ok) p_NamesB hf
/- clauses -/
abbrev rwsA (l : List Raw) : AV := .dt (.row (l.map Raw.enc))
abbrev ckS (wr : List (List Dt)) (vl : List (List UInt8)) (l : List Raw) (c : List Te) (i : Int) : AS := ⟨stt 26 [(0, .dt (.row wr)), (1, varA vl), (2, rwsA l), (7, tesA c), (8, inA i)], []⟩
abbrev ck0 (wr : List (List Dt)) (vl : List (List UInt8)) (l : List Raw) : AS := ⟨stt 26 [(0, .dt (.row wr)), (1, varA vl), (2, rwsA l), (7, .nil), (8, inA 0)], []⟩
noncomputable abbrev ckB : Code := subC (bodyOf Tryz.f44) [1,1,0,1,0,0]
theorem ckB1 {wr : List (List Dt)} {vl : List (List UInt8)} {l : List Raw} {c c' : List Te} {x : Raw} {t : Te} {i : Nat} (hx : l[i]? = some x) (hl : l.length ≤ 1000) (h : Puk 12 [.dt (.row wr), varA vl, rawA x] (teA t)) (ha : Puk 18 [tesA c, .dt (.row [encT t])] (tesA c')) : Tri EX ckB (ckS wr vl l c i) .nxt (ckS wr vl l c' ((i + 1 : Nat) : Int)) :=
  have hi := (List.getElem?_eq_some_iff.1 hx).1
  twalk (c := subC (bodyOf Tryz.f44) [1,1,0,1,0,0]) (s := ckS wr vl l c i) (an := [.av (inA l.length), yT, .av (.pin ((encR x).map .dt)), .av (teA t), .av (tesA c'), .av (inA ((i + 1 : Nat) : Int))]) (ls := []) (ft := [0,1,2,7,8]) (nb := 0) (e := .nxt) (s' := ckS wr vl l c' ((i + 1 : Nat) : Int)) (ps := [(vi ↑l.length) = (vi (↑(List.map Raw.enc l).length)), Bn .lss 3 (.tmp 9) (.tmp 11) (vi ↑i) (vi ↑l.length) bT, IxAt (List.map Raw.enc l) ↑i 4 (encR x), Puk 12 [(.dt (.row wr)), (.dt (.row (List.map srow vl))), (rawA x)] (teA t), Puk 18 [(.dt (.row (List.map Te.enc c))), (.dt (.row [encT t]))] (.dt (.row (List.map Te.enc c'))), Bn .add 3 (.tmp 13) (.const (vi 1)) (vi ↑i) (vi 1) (vi (↑(i + 1)))]) (by kernel_rfl) ⟨lenEncR _, bin_ilt (decide_eq_true (by omega)), ix_raw hx, h, ha, bin_iadd (by omega) (by omega) (by omega), trivial⟩
theorem ckB2 {wr : List (List Dt)} {vl : List (List UInt8)} {l : List Raw} {c : List Te} {i : Nat} (hi : i = l.length) : Tri EX ckB (ckS wr vl l c i) (.out 0) (ckS wr vl l c i) :=
  twalk (c := subC (bodyOf Tryz.f44) [1,1,0,1,0,0]) (s := ckS wr vl l c i) (an := [.av (inA l.length), yF]) (ls := []) (ft := [0,1,2,7,8]) (nb := 0) (e := .out 0) (s' := ckS wr vl l c i) (ps := [(vi ↑l.length) = (vi (↑(List.map Raw.enc l).length)), Bn .lss 3 (.tmp 9) (.tmp 11) (vi ↑i) (vi ↑l.length) bF]) (by kernel_rfl) ⟨lenEncR _, bin_ilt (decide_eq_false (by omega)), trivial⟩
theorem ck_loop {wr : List (List Dt)} {vl : List (List UInt8)} {l : List Raw} (hl : l.length ≤ 1000) (h : ∀ x ∈ l, ∃ t : Te, t.Mkd ∧ Puk 12 [.dt (.row wr), varA vl, rawA x] (teA t)) : ∀ (s : List Raw) (i : Nat) (c : List Te), l.drop i = s → i ≤ l.length → c.length ≤ i → (∀ x ∈ c, x.Mkd) → ∃ c', (∀ x ∈ c', Te.Mkd x) ∧ c'.length ≤ l.length ∧ Lps EX ckB (ckS wr vl l c i) (.out 0) (ckS wr vl l c' l.length) := by
  intro s
  induction s with
  | nil =>
    intro i c hd hi hc hm
    have e1 := congrArg List.length hd
    rw [List.length_drop, List.length_nil] at e1
    obtain rfl : i = l.length := by omega
    exact ⟨c, hm, hc, .stop (ckB2 rfl) (fun h => by cases h)⟩
  | cons x s ih =>
    intro i c hd hi hc hm
    have hx : l[i]? = some x := by rw [← List.head?_drop, hd]; rfl
    have hlt := (List.getElem?_eq_some_iff.1 hx).1
    obtain ⟨t, h1, h2⟩ := h x (List.mem_of_getElem? hx)
    have ht1 : ∀ y ∈ [t], Te.Mkd y := fun y hy => by rw [List.mem_singleton] at hy; subst hy; exact h1
    have ha := p_rAdd (c := c) (l := [t]) (by omega) (by show 1 ≤ 100000; decide) (fun y hy => (hm y hy).wf) (fun y hy => (ht1 y hy).wf)
    rw [show tesA [t] = .dt (.row [encT t]) by unfold tesA; rw [row1]] at ha
    have hlen : (addN c [t]).length ≤ i + 1 := by
      simp only [addN]
      split
      · omega
      · simp; omega
    obtain ⟨c', k1, k2, k3⟩ := ih (i + 1) (addN c [t]) (by rw [← List.drop_drop, hd]; rfl) (by omega) hlen (addN_mkd _ _ hm ht1)
    exact ⟨c', k1, k2, .more (ckB1 hx hl h2 ha) k3⟩
/-- a clause over the built-in world -/
theorem p_ckB {l : List Raw} (hl : l.length ≤ 1000) (hf : ∀ x ∈ l, Fit x) : ∃ c : List Te, (∀ x ∈ c, x.Mkd) ∧ c.length ≤ l.length ∧ Puk 44 [.dt (.row wrows), varA vl4, rwsA l] (tesA c) := by
  obtain ⟨c, h1, h2, h3⟩ := ck_loop (wr := wrows) (vl := vl4) hl (fun x hx => p_litB (hf x hx)) l 0 [] rfl (Nat.zero_le _) (Nat.le_refl _) (fun x hx => by cases hx)
  have ht : Tri EX (.loop ckB) (ck0 wrows vl4 l) (.out 0) (ckS wrows vl4 l c l.length) := Tri.nilR 7 (by show 7 < 26; omega) rfl h3.tri
  refine ⟨c, h1, h2, ?_⟩
  generalize wrows = wr at *
  generalize vl4 = vl at *
  generalize ((l.length : Nat) : Int) = k at *
  exact pwalk (an := []) (ls := [.inv [0,1,2,7,8] 0 (.out 0) (ckS wr vl l c k)]) (ps := [Tri EX (.loop (subC (bodyOf Tryz.f44) [1,1,0,1,0,0])) (ck0 wr vl l) (.out 0) (ckS wr vl l c k)]) Tryz.func44 (by kernel_rfl) (by kernel_rfl) ⟨ht, trivial⟩
theorem w_made {l : List Raw} {c : List Te} (h : Puk 44 [.dt (.row wrows), varA vl4, rwsA l] (tesA c)) : Puk 11 [rwsA l] (tesA c) := by
  have hw := p_World
  have hv := p_vars4
  generalize wrows = wr at *
  exact pwalk (an := [.av (.dt (.row wr)), .av (varA vl4), .av (tesA c)]) (ls := []) (ps := [Puk 45 [] (.dt (.row wr)), Puk 13 [(inA 4)] (.dt (.row (List.map srow vl4))), Puk 44 [(.dt (.row wr)), (.dt (.row (List.map srow vl4))), (.dt (.row (List.map Raw.enc l)))] (.dt (.row (List.map Te.enc c)))]) Tryz.func11 (by kernel_rfl) (by kernel_rfl) ⟨hw, hv, h, trivial⟩
/-- a clause over the built-in world, as the laws make it -/
theorem p_made {l : List Raw} (hl : l.length ≤ 1000) (hf : ∀ x ∈ l, Fit x) : ∃ c : List Te, (∀ x ∈ c, x.Mkd) ∧ c.length ≤ l.length ∧ Puk 11 [rwsA l] (tesA c) := by
  obtain ⟨c, h1, h2, h3⟩ := p_ckB hl hf
  exact ⟨c, h1, h2, w_made h3⟩
end Go.Proofs.YtendgffijciehaaGreatDoor
