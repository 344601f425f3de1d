/- Terms: constants, calls of functions, what a call is. -/
import Derived.Test.YtendgffijciehaaGreatDoorEG
namespace Go.Proofs.YtendgffijciehaaGreatDoor
open Go.RowKit

theorem syFs : (Tryz.prog).fieldsOf 32 = #[⟨"Package", 9, 0, false, "", "", 0⟩, ⟨"Name", 9, 1, false, "", "", 16⟩] := by kernel_rfl
theorem syU : Tryz.prog.underlying 32 = some (.struct (Tryz.prog.fieldsOf 32)) := by kernel_rfl
theorem syH : Tryz.prog.stoodInHeld 32 = false := by kernel_rfl
theorem syG : Tryz.prog.eqGuardType Tryz.prog.depth 32 = false := by kernel_rfl
theorem part_s (p s : List UInt8) (w : World) : (part 9 #[str p, str s] 0).run Tryz.prog w = .ok (str p) w ∧ (part 9 #[str p, str s] 1).run Tryz.prog w = .ok (str s) w := by
  constructor <;> simp [part]
theorem sy_equal {p s p' s' : List UInt8} (w : World) : (Op.equalIn 10000 32 (.agg #[str p, str s]) (.agg #[str p', str s'])).run Tryz.prog w = .ok (decide (p = p') && decide (s = s')) w := by
  rw [run_equalIn_agg w 9999 _ _ _ syU syH, syFs]
  have e1 := run_equalIn_string (P := Tryz.prog) w 9998 9 ⟨p.toArray⟩ ⟨p'.toArray⟩ Tryz.underlying9
  have e2 := run_equalIn_string (P := Tryz.prog) w 9998 9 ⟨s.toArray⟩ ⟨s'.toArray⟩ Tryz.underlying9
  rw [toList_str, toList_str, eqD] at e1 e2
  simp only [Op.eqFields, Sem.run_bind, (part_s p s w).1, (part_s p s w).2, (part_s p' s' w).1, (part_s p' s' w).2, Result.andThen_ok, e1, e2, ne_eq, Sem.run_ite, Sem.run_pure]
  cases decide (p = p') <;> cases decide (s = s') <;> simp
theorem bin_syeq {x y : Operand} {p s p' s' : List UInt8} {r : Bool} (h : (decide (p = p') && decide (s = s')) = r) : BinIs Tryz.prog .eql 32 x y (.agg #[str p, str s]) (.agg #[str p', str s']) (.bool r) := by
  intro w
  rw [← h]
  simp only [Sem.run_bind, run_eqGuard_agg w .eql _ x y _ _ syG, Result.andThen_ok, run_eql_struct, sy_equal]
theorem bin_ine {P : Program} {t : TypeId} {x y : Operand} {k : IntKind} {a b : Int} {r : Bool} (h : decide (a = b) = !r) : BinIs P .neq t x y (.int k a) (.int k b) (.bool r) := by
  refine sbin_is ?_
  simp only [sbin, decide_true]
  show some (Value.bool (!(a == b))) = _
  rw [eqD a b, h, Bool.not_not]
abbrev syA (p n : List UInt8) : AV := .agg [stA p, stA n]
theorem p_tConst (o : Ob) : Puk 80 [obA o] (teA (Te.con o)) := pwalk (an := []) (ls := []) (ps := []) Tryz.func80 (by kernel_rfl) (by kernel_rfl) trivial
theorem p_rConst (o : Ob) : Puk 16 [obA o] (teA (Te.con o)) := pwalk (an := []) (ls := []) (ps := []) Tryz.func16 (by kernel_rfl) (by kernel_rfl) trivial
theorem p_oSym (p n : List UInt8) : Puk 105 [syA p n] (obA ⟨2, [], [], p, n, [], []⟩) := pwalk (an := []) (ls := []) (ps := []) Tryz.func105 (by kernel_rfl) (by kernel_rfl) trivial
theorem p_rSym (p n : List UInt8) : Puk 52 [syA p n] (obA ⟨2, [], [], p, n, [], []⟩) := pwalk (an := []) (ls := []) (ps := []) Tryz.func52 (by kernel_rfl) (by kernel_rfl) trivial
theorem p_oNil : Puk 82 [] (obA nilO) := pwalk (an := [.av (obA nilO)]) (ls := []) (ps := [Puk 105 [(syA [108, 105, 115, 112] [110, 105, 108])] (obA nilO)]) Tryz.func82 (by kernel_rfl) (by kernel_rfl) ⟨p_oSym _ _, trivial⟩
theorem p_oT : Puk 81 [] (obA tO) := pwalk (an := [.av (obA tO)]) (ls := []) (ps := [Puk 105 [(syA [108, 105, 115, 112] [116])] (obA tO)]) Tryz.func81 (by kernel_rfl) (by kernel_rfl) ⟨p_oSym _ _, trivial⟩
theorem p_lisp (n : List UInt8) : Puk 51 [stA n] (syA lispB n) := pwalk (an := []) (ls := []) (ps := []) Tryz.func51 (by kernel_rfl) (by kernel_rfl) trivial
theorem p_rNil : Puk 17 [] (obA nilO) := pwalk (an := [.av (syA lispB [110, 105, 108]), .av (obA nilO)]) (ls := []) (ps := [Puk 51 [(stA [110, 105, 108])] (syA lispB [110, 105, 108]), Puk 52 [(syA lispB [110, 105, 108])] (obA nilO)]) Tryz.func17 (by kernel_rfl) (by kernel_rfl) ⟨p_lisp _, p_rSym _ _, trivial⟩
theorem p_rT : Puk 99 [] (obA tO) := pwalk (an := [.av (syA lispB [116]), .av (obA tO)]) (ls := []) (ps := [Puk 51 [(stA [116])] (syA lispB [116]), Puk 52 [(syA lispB [116])] (obA tO)]) Tryz.func99 (by kernel_rfl) (by kernel_rfl) ⟨p_lisp _, p_rSym _ _, trivial⟩
theorem p_constant (b : Bool) : Puk 58 [boA b] (teA (bif b then Te.yesT else Te.noT)) := by
  cases b with
  | true => exact pwalk (an := [.av (obA tO), .av (teA Te.yesT)]) (ls := []) (ps := [Puk 81 [] (obA tO), Puk 80 [(obA tO)] (.agg [(inA 2), (stA Te.yesT.np), (stA Te.yesT.nn), (inA 2), (stA Te.yesT.val.num), (stA Te.yesT.val.den), (stA Te.yesT.val.sp), (stA Te.yesT.val.sn), (stA Te.yesT.val.text), (.dt (.row (List.map Ob.enc Te.yesT.val.pair))), (.dt (.row (List.map Te.enc Te.yesT.args)))])]) Tryz.func58 (by kernel_rfl) (by kernel_rfl) ⟨p_oT, p_tConst _, trivial⟩
  | false => exact pwalk (an := [.av (obA nilO), .av (teA Te.noT)]) (ls := []) (ps := [Puk 82 [] (obA nilO), Puk 80 [(obA nilO)] (.agg [(inA 2), (stA Te.noT.np), (stA Te.noT.nn), (inA 2), (stA Te.noT.val.num), (stA Te.noT.val.den), (stA Te.noT.val.sp), (stA Te.noT.val.sn), (stA Te.noT.val.text), (.dt (.row (List.map Ob.enc Te.noT.val.pair))), (.dt (.row (List.map Te.enc Te.noT.args)))])]) Tryz.func58 (by kernel_rfl) (by kernel_rfl) ⟨p_oNil, p_tConst _, trivial⟩
abbrev rcT (p n : List UInt8) (rs : List (List Dt)) : AV := .agg [inA 3, stA p, stA n, inA 0, stA [], stA [], stA [], stA [], stA [], .dt (.row []), .dt (.row rs)]
theorem p_tApp (p n : List UInt8) (rs : List (List Dt)) : Puk 83 [syA p n, .dt (.row rs)] (rcT p n rs) := pwalk (an := []) (ls := []) (ps := []) Tryz.func83 (by kernel_rfl) (by kernel_rfl) trivial
theorem p_rApp (p n : List UInt8) (rs : List (List Dt)) : Puk 50 [syA p n, .dt (.row rs)] (rcT p n rs) := pwalk (an := []) (ls := []) (ps := []) Tryz.func50 (by kernel_rfl) (by kernel_rfl) trivial
theorem p_tLisp' (n : List UInt8) (rs : List (List Dt)) : Puk 61 [stA n, .dt (.row rs)] (rcT lispB n rs) := pwalk (an := [.av (rcT lispB n rs)]) (ls := []) (ps := [Puk 83 [(syA [108, 105, 115, 112] n), (.dt (.row rs))] (.agg [(inA 3), (stA lispB), (stA n), (inA 0), (stA []), (stA []), (stA []), (stA []), (stA []), (.dt (.row [])), (.dt (.row rs))])]) Tryz.func61 (by kernel_rfl) (by kernel_rfl) ⟨p_tApp _ _ _, trivial⟩
theorem p_rLisp' (n : List UInt8) (rs : List (List Dt)) : Puk 15 [stA n, .dt (.row rs)] (rcT lispB n rs) := pwalk (an := [.av (syA lispB n), .av (rcT lispB n rs)]) (ls := []) (ps := [Puk 51 [(stA n)] (syA lispB n), Puk 50 [(syA lispB n), (.dt (.row rs))] (.agg [(inA 3), (stA lispB), (stA n), (inA 0), (stA []), (stA []), (stA []), (stA []), (stA []), (.dt (.row [])), (.dt (.row rs))])]) Tryz.func15 (by kernel_rfl) (by kernel_rfl) ⟨p_lisp n, p_rApp _ _ _, trivial⟩
/-- a call of a function of the package lisp is made -/
theorem p_tLisp (n : List UInt8) (l : List Te) {rs : List (List Dt)} (h : rs = l.map Te.enc) : Puk 61 [stA n, .dt (.row rs)] (teA (Te.ap n l)) := by subst h; exact p_tLisp' _ _
theorem p_rLisp (n : List UInt8) (l : List Te) {rs : List (List Dt)} (h : rs = l.map Te.enc) : Puk 15 [stA n, .dt (.row rs)] (teA (Te.ap n l)) := by subst h; exact p_rLisp' _ _
theorem p_oIsNil (o : Ob) : Puk 55 [obA o] (boA (decide (o.kind = 2 ∧ o.sp = lispB ∧ o.sn = nilB))) :=
  pk_ov (fnm Tryz.func55 rfl (by kernel_rfl)) fun _ A n c w _ _ => oIsNil_any o A n c w
theorem p_rIsNil {o : Ob} (h : o.Wf) : Puk 59 [obA o] (boA (sameD o nilO)) :=
  ⟨fnm Tryz.func59 rfl (by kernel_rfl), fun ok w vs _ hv => by
    obtain ⟨A, n, c, rfl, hr⟩ := hv.one_obj
    exact (rIsNil_any ok o h A n c w hr).mono fun _ _ h => h.pure⟩
theorem p_oEqO {a : Ob} (h : a.Wf) (b : Ob) : Puk 78 [obA a, obA b] (boA (sameD a b)) :=
  ⟨fnm Tryz.func78 rfl (by kernel_rfl), fun ok w vs _ hv => by
    obtain ⟨A, n, c, A', n', c', rfl, hr, hr'⟩ := hv.two_obj
    exact (oEqual_any ok ok a.size a b (Nat.le_refl _) h A A' n n' c c' w hr hr').mono fun _ _ h => h.pure⟩
theorem p_rEqO {a : Ob} (h : a.Wf) (b : Ob) : Puk 60 [obA a, obA b] (boA (sameD a b)) :=
  ⟨fnm Tryz.func60 rfl (by kernel_rfl), fun ok w vs _ hv => by
    obtain ⟨A, n, c, A', n', c', rfl, hr, hr'⟩ := hv.two_obj
    exact (rEqual_any ok ok a.size a b (Nat.le_refl _) h A A' n n' c c' w hr hr').mono fun _ _ h => h.pure⟩
theorem isD {t : Te} {n : List UInt8} {k : Nat} : decide (t.is n k) = (decide (t.kind = 3) && (decide (t.np = lispB) && decide (t.nn = n) && decide (t.args.length = k))) := by
  show decide (_ ∧ _ ∧ _ ∧ _) = _
  simp [Bool.and_assoc]
theorem p_is (t : Te) (n : List UInt8) (k : Nat) : Puk 56 [teA t, stA n, inA k] (boA (decide (t.is n k))) := by
  rw [isD]
  cases hk : decide (t.kind = 3) with
  | false => exact pwalk (an := [yF]) (ls := []) (ps := [Bn .eql 3 (.tmp 8) (.const (vi 3)) (vi t.kind) (vi 3) bF]) Tryz.func56 (by kernel_rfl) (by kernel_rfl) ⟨bin_ieq hk, trivial⟩
  | true =>
    cases hs : decide (t.np = lispB) && decide (t.nn = n) with
    | false => exact pwalk (an := [yT, yF]) (ls := []) (ps := [Bn .eql 3 (.tmp 8) (.const (vi 3)) (vi t.kind) (vi 3) bT, Bn .eql 32 (.tmp 12) (.tmp 14) (Value.agg #[str t.np, str t.nn]) (Value.agg #[Value.string { data := #[108, 105, 115, 112] : ByteArray }, str n]) bF]) Tryz.func56 (by kernel_rfl) (by kernel_rfl) ⟨bin_ieq hk, bin_syeq hs, trivial⟩
    | true => exact pwalk (an := [yT, yT, .av (inA t.args.length), .av (boA (decide (t.args.length = k)))]) (ls := []) (ps := [Bn .eql 3 (.tmp 8) (.const (vi 3)) (vi t.kind) (vi 3) bT, Bn .eql 32 (.tmp 12) (.tmp 14) (Value.agg #[str t.np, str t.nn]) (Value.agg #[Value.string { data := #[108, 105, 115, 112] : ByteArray }, str n]) bT, (vi ↑t.args.length) = (vi (↑(List.map Te.enc t.args).length)), Bn .eql 3 (.tmp 20) (.tmp 21) (vi ↑t.args.length) (vi ↑k) (Value.bool (decide (t.args.length = k)))]) Tryz.func56 (by kernel_rfl) (by kernel_rfl) ⟨bin_ieq hk, bin_syeq hs, lenEncT _, bin_ieq (by rw [decide_eq_decide]; omega), trivial⟩
theorem p_rIs (t : Te) (n : List UInt8) (k : Nat) : Puk 49 [teA t, stA n, inA k] (boA (decide (t.is n k))) := by
  rw [isD]
  cases hk : decide (t.kind = 3) with
  | false => exact pwalk (an := [yF]) (ls := []) (ps := [Bn .eql 3 (.tmp 8) (.const (vi 3)) (vi t.kind) (vi 3) bF]) Tryz.func49 (by kernel_rfl) (by kernel_rfl) ⟨bin_ieq hk, trivial⟩
  | true =>
    cases hs : decide (t.np = lispB) && decide (t.nn = n) with
    | false => exact pwalk (an := [yT, .av (syA lispB n), yF]) (ls := []) (ps := [Bn .eql 3 (.tmp 8) (.const (vi 3)) (vi t.kind) (vi 3) bT, Puk 51 [(stA n)] (syA lispB n), Bn .eql 32 (.tmp 12) (.tmp 14) (Value.agg #[str t.np, str t.nn]) (Value.agg #[str lispB, str n]) bF]) Tryz.func49 (by kernel_rfl) (by kernel_rfl) ⟨bin_ieq hk, p_lisp n, bin_syeq hs, trivial⟩
    | true => exact pwalk (an := [yT, .av (syA lispB n), yT, .av (inA t.args.length), .av (boA (decide (t.args.length = k)))]) (ls := []) (ps := [Bn .eql 3 (.tmp 8) (.const (vi 3)) (vi t.kind) (vi 3) bT, Puk 51 [(stA n)] (syA lispB n), Bn .eql 32 (.tmp 12) (.tmp 14) (Value.agg #[str t.np, str t.nn]) (Value.agg #[str lispB, str n]) bT, (vi ↑t.args.length) = (vi (↑(List.map Te.enc t.args).length)), Bn .eql 3 (.tmp 20) (.tmp 21) (vi ↑t.args.length) (vi ↑k) (Value.bool (decide (t.args.length = k)))]) Tryz.func49 (by kernel_rfl) (by kernel_rfl) ⟨bin_ieq hk, p_lisp n, bin_syeq hs, lenEncT _, bin_ieq (by rw [decide_eq_decide]; omega), trivial⟩
end Go.Proofs.YtendgffijciehaaGreatDoor
/- Equality of terms and membership in clauses, both texts. -/
namespace Go.Proofs.YtendgffijciehaaGreatDoor
open Go.RowKit

namespace Te
theorem Wf.val {t : Te} (h : t.Wf) : t.val.Wf := by cases h with | mk _ hv hl hx => exact hv
theorem Wf.len {t : Te} (h : t.Wf) : t.args.length ≤ 9223372036854775807 := by cases h with | mk _ hv hl hx => exact hl
theorem Wf.kids {t x : Te} (h : t.Wf) (hx : x ∈ t.args) : x.Wf := by cases h with | mk _ hv hl hh => exact hh x hx
theorem same_cons {x y : Te} {a b : List Te} : sameD (x :: a) (y :: b) = (sameD x y && sameD a b) := by
  unfold sameD
  by_cases h1 : x = y <;> by_cases h2 : a = b <;> simp [h1, h2]
theorem same_iff {a b : Te} : sameD a b = (decide (a.kind = b.kind) && (decide (a.np = b.np) && decide (a.nn = b.nn)) && sameD a.val b.val && sameD a.args b.args) := by
  obtain ⟨k, p, n, o, l⟩ := a
  obtain ⟨k', p', n', o', l'⟩ := b
  unfold sameD
  rw [Bool.eq_iff_iff]
  simp [and_assoc]
end Te
abbrev fEq : AV := .clf 57 []
abbrev eqS (a b : List Te) (i : Int) : AS := ⟨stt 32 [(1, tesA b), (2, fEq), (15, tesA a), (16, inA a.length), (17, inA i)], []⟩
abbrev eqR (b : Bool) : AS := ⟨stt 32 [(6, boA b)], []⟩
abbrev eqN : AS := ⟨stt 32 [], []⟩
noncomputable abbrev eqB : Code := subC (bodyOf Tryz.f79) [1, 1, 0, 1, 0, 0]
theorem eqB1 {a b : List Te} {x y : Te} {i : Nat} (hx : a[i]? = some x) (hy : b[i]? = some y) (hl : a.length ≤ 9223372036854775807) (h : Puk 57 [teA x, teA y] (boA true)) : Tri EX eqB (eqS a b i) .nxt (eqS a b ((i + 1 : Nat) : Int)) :=
  twalk (c := subC (bodyOf Tryz.f79) [1,1,0,1,0,0]) (s := eqS a b i) (an := [yT, .av (.pin ((encT x).map .dt)), .av (.pin ((encT y).map .dt)), yT, .av (inA ((i + 1 : Nat) : Int))]) (ls := []) (ft := [1,2,15,16,17]) (nb := 0) (e := .nxt) (s' := eqS a b ((i + 1 : Nat) : Int)) (ps := [Bn .lss 3 (.tmp 17) (.tmp 16) (vi ↑i) (vi ↑a.length) bT, IxAt (List.map Te.enc a) ↑i 11 (encT x), IxAt (List.map Te.enc b) ↑i 11 (encT y), Puk 57 [(teA x), (teA y)] (boA true), Bn .add 3 (.tmp 17) (.const (vi 1)) (vi ↑i) (vi 1) (vi (↑(i + 1)))]) (by kernel_rfl)
    ⟨bin_ilt (decide_eq_true (by have := (List.getElem?_eq_some_iff.1 hx).1; omega)), ix_te hx, ix_te hy, h, bin_iadd (by omega) (by omega) (by have := (List.getElem?_eq_some_iff.1 hx).1; omega), trivial⟩
theorem eqB2 {a b : List Te} {i : Nat} (hi : i = a.length) : Tri EX eqB (eqS a b i) (.out 0) eqN :=
  twalk (c := subC (bodyOf Tryz.f79) [1,1,0,1,0,0]) (s := eqS a b i) (an := [yF]) (ls := []) (ft := []) (nb := 0) (e := .out 0) (s' := eqN) (ps := [Bn .lss 3 (.tmp 17) (.tmp 16) (vi ↑i) (vi ↑a.length) bF]) (by kernel_rfl)
    ⟨bin_ilt (decide_eq_false (by omega)), trivial⟩
theorem eqB3 {a b : List Te} {x y : Te} {i : Nat} (hx : a[i]? = some x) (hy : b[i]? = some y) (h : Puk 57 [teA x, teA y] (boA false)) : Tri EX eqB (eqS a b i) .ret (eqR false) :=
  twalk (c := subC (bodyOf Tryz.f79) [1,1,0,1,0,0]) (s := eqS a b i) (an := [yT, .av (.pin ((encT x).map .dt)), .av (.pin ((encT y).map .dt)), yF]) (ls := []) (ft := [6]) (nb := 0) (e := .ret) (s' := eqR false) (ps := [Bn .lss 3 (.tmp 17) (.tmp 16) (vi ↑i) (vi ↑a.length) bT, IxAt (List.map Te.enc a) ↑i 11 (encT x), IxAt (List.map Te.enc b) ↑i 11 (encT y), Puk 57 [(teA x), (teA y)] (boA false)]) (by kernel_rfl)
    ⟨bin_ilt (decide_eq_true (by have := (List.getElem?_eq_some_iff.1 hx).1; omega)), ix_te hx, ix_te hy, h, trivial⟩
theorem p_eqFunc {a b : List Te} (hl : a.length ≤ 9223372036854775807) (h : ∀ x ∈ a, ∀ y, Puk 57 [teA x, teA y] (boA (sameD x y))) : Puk 79 [tesA a, tesA b, fEq] (boA (sameD a b)) := by
  by_cases hne : a.length = b.length
  · have loop : ∀ (s s' : List Te) (i : Nat), a.drop i = s → b.drop i = s' → i ≤ a.length → (sameD s s' = true → Lps EX eqB (eqS a b i) (.out 0) eqN) ∧ (sameD s s' = false → Lps EX eqB (eqS a b i) .ret (eqR false)) := by
      intro s
      induction s with
      | nil =>
        intro s' i hd hd' hi
        have e1 := congrArg List.length hd
        rw [List.length_drop, List.length_nil] at e1
        have e2 := congrArg List.length hd'
        rw [List.length_drop] at e2
        obtain rfl : s' = [] := List.eq_nil_of_length_eq_zero (by omega)
        exact ⟨fun _ => .stop (eqB2 (by omega)) (fun h => by cases h), fun h => by simp at h⟩
      | cons x s ih =>
        intro s' i hd hd' hi
        have hx : a[i]? = some x := by rw [← List.head?_drop, hd]; rfl
        have hlt := (List.getElem?_eq_some_iff.1 hx).1
        cases s' with
        | nil =>
          have e2 := congrArg List.length hd'
          rw [List.length_drop, List.length_nil] at e2
          omega
        | cons y s' =>
          have hy : b[i]? = some y := by rw [← List.head?_drop, hd']; rfl
          have hc := h x (List.mem_of_getElem? hx) y
          obtain ⟨k1, k2⟩ := ih s' (i + 1) (by rw [← List.drop_drop, hd]; rfl) (by rw [← List.drop_drop, hd']; rfl) (by omega)
          rw [Te.same_cons]
          cases hxy : sameD x y with
          | true =>
            rw [hxy] at hc
            rw [Bool.true_and]
            exact ⟨fun e => .more (eqB1 hx hy hl hc) (k1 e), fun e => .more (eqB1 hx hy hl hc) (k2 e)⟩
          | false =>
            rw [hxy] at hc
            exact ⟨fun e => by simp at e, fun _ => .stop (eqB3 hx hy hc) (fun h => by cases h)⟩
    obtain ⟨k1, k2⟩ := loop a b 0 rfl rfl (Nat.zero_le _)
    cases hab : sameD a b with
    | true => exact pwalk (an := [.av (inA a.length), .av (inA b.length), yF, .av (inA a.length)]) (ls := [.inv [1,2,15,16,17] 0 (.out 0) (eqN)]) (ps := [(vi ↑a.length) = (vi (↑(List.map Te.enc a).length)), (vi ↑b.length) = (vi (↑(List.map Te.enc b).length)), Bn .neq 3 (.tmp 11) (.tmp 13) (vi ↑a.length) (vi ↑b.length) bF, (vi ↑a.length) = (vi (↑(List.map Te.enc a).length)), Tri EX (.loop (subC (bodyOf Tryz.f79) [1, 1, 0, 1, 0, 0])) (eqS a b 0) (.out 0) (eqN)]) Tryz.func79 (by kernel_rfl) (by kernel_rfl) ⟨lenEncT _, lenEncT _, bin_ine (by simp [hne]), lenEncT _, (k1 hab).tri, trivial⟩
    | false => exact pwalk (an := [.av (inA a.length), .av (inA b.length), yF, .av (inA a.length)]) (ls := [.inv [1,2,15,16,17] 0 (.ret) (eqR false)]) (ps := [(vi ↑a.length) = (vi (↑(List.map Te.enc a).length)), (vi ↑b.length) = (vi (↑(List.map Te.enc b).length)), Bn .neq 3 (.tmp 11) (.tmp 13) (vi ↑a.length) (vi ↑b.length) bF, (vi ↑a.length) = (vi (↑(List.map Te.enc a).length)), Tri EX (.loop (subC (bodyOf Tryz.f79) [1, 1, 0, 1, 0, 0])) (eqS a b 0) (.ret) (eqR false)]) Tryz.func79 (by kernel_rfl) (by kernel_rfl) ⟨lenEncT _, lenEncT _, bin_ine (by simp [hne]), lenEncT _, (k2 hab).tri, trivial⟩
  · have e : sameD a b = false := decide_eq_false fun e => hne (congrArg List.length e)
    rw [e]
    exact pwalk (an := [.av (inA a.length), .av (inA b.length), yT]) (ls := []) (ps := [(vi ↑a.length) = (vi (↑(List.map Te.enc a).length)), (vi ↑b.length) = (vi (↑(List.map Te.enc b).length)), Bn .neq 3 (.tmp 11) (.tmp 13) (vi ↑a.length) (vi ↑b.length) bT]) Tryz.func79 (by kernel_rfl) (by kernel_rfl) ⟨lenEncT _, lenEncT _, bin_ine (by simp; omega), trivial⟩
/-- terms are compared -/
theorem p_tEq : ∀ (N : Nat) (a b : Te), a.size ≤ N → a.Wf → Puk 57 [teA a, teA b] (boA (sameD a b)) := by
  intro N
  induction N with
  | zero => intro a b h; have := Te.size_pos a; omega
  | succ N ih =>
    intro a b hN hw
    rw [Te.same_iff]
    cases hk : decide (a.kind = b.kind) with
    | false => exact pwalk (an := [yF]) (ls := []) (ps := [Bn .eql 3 (.tmp 6) (.tmp 8) (vi a.kind) (vi b.kind) bF]) Tryz.func57 (by kernel_rfl) (by kernel_rfl) ⟨bin_ieq hk, trivial⟩
    | true =>
      cases hs : decide (a.np = b.np) && decide (a.nn = b.nn) with
      | false => exact pwalk (an := [yT, yF]) (ls := []) (ps := [Bn .eql 3 (.tmp 6) (.tmp 8) (vi a.kind) (vi b.kind) bT, Bn .eql 32 (.tmp 12) (.tmp 14) (Value.agg #[str a.np, str a.nn]) (Value.agg #[str b.np, str b.nn]) bF]) Tryz.func57 (by kernel_rfl) (by kernel_rfl) ⟨bin_ieq hk, bin_syeq hs, trivial⟩
      | true =>
        have h1 := p_oEqO hw.val b.val
        cases hv : sameD a.val b.val with
        | false =>
          rw [hv] at h1
          exact pwalk (an := [yT, yT, yF]) (ls := []) (ps := [Bn .eql 3 (.tmp 6) (.tmp 8) (vi a.kind) (vi b.kind) bT, Bn .eql 32 (.tmp 12) (.tmp 14) (Value.agg #[str a.np, str a.nn]) (Value.agg #[str b.np, str b.nn]) bT, Puk 78 [(obA a.val), (obA b.val)] (boA false)]) Tryz.func57 (by kernel_rfl) (by kernel_rfl) ⟨bin_ieq hk, bin_syeq hs, h1, trivial⟩
        | true =>
          rw [hv] at h1
          exact pwalk (an := [yT, yT, yT, .av (boA (sameD a.args b.args))]) (ls := []) (ps := [Bn .eql 3 (.tmp 6) (.tmp 8) (vi a.kind) (vi b.kind) bT, Bn .eql 32 (.tmp 12) (.tmp 14) (Value.agg #[str a.np, str a.nn]) (Value.agg #[str b.np, str b.nn]) bT, Puk 78 [(obA a.val), (obA b.val)] (boA true), Puk 79 [(.dt (.row (List.map Te.enc a.args))), (.dt (.row (List.map Te.enc b.args))), (.clf 57 [])] (boA (sameD a.args b.args))]) Tryz.func57 (by kernel_rfl) (by kernel_rfl) ⟨bin_ieq hk, bin_syeq hs, h1, p_eqFunc hw.len fun x hx y => ih x y (by have := Te.size_args hx; omega) (hw.kids hx), trivial⟩
theorem p_teq {a : Te} (h : a.Wf) (b : Te) : Puk 57 [teA a, teA b] (boA (sameD a b)) := p_tEq _ a b (Nat.le_refl _) h
end Go.Proofs.YtendgffijciehaaGreatDoor
/- Equality in the reference; membership in clauses, both texts. -/
namespace Go.Proofs.YtendgffijciehaaGreatDoor
open Go.RowKit

abbrev eaS (a b : List Te) (i : Int) : AS := ⟨stt 27 [(0, tesA a), (1, tesA b), (5, inA i)], []⟩
abbrev eaR (b : Bool) : AS := ⟨stt 27 [(4, boA b)], []⟩
abbrev eaN : AS := ⟨stt 27 [], []⟩
noncomputable abbrev eaB : Code := subC (bodyOf Tryz.f26) [1, 1, 0, 1, 0, 0]
theorem eaB1 {a b : List Te} {x y : Te} {i : Nat} (hx : a[i]? = some x) (hy : b[i]? = some y) (hl : a.length ≤ 9223372036854775807) (h : Puk 22 [teA x, teA y] (boA true)) : Tri EX eaB (eaS a b i) .nxt (eaS a b ((i + 1 : Nat) : Int)) :=
  twalk (c := subC (bodyOf Tryz.f26) [1,1,0,1,0,0]) (s := eaS a b i) (an := [.av (inA a.length), yT, .av (.pin ((encT x).map .dt)), .av (.pin ((encT y).map .dt)), yT, .av (inA ((i + 1 : Nat) : Int))]) (ls := []) (ft := [0,1,5]) (nb := 0) (e := .nxt) (s' := eaS a b ((i + 1 : Nat) : Int)) (ps := [(vi ↑a.length) = (vi (↑(List.map Te.enc a).length)), Bn .lss 3 (.tmp 11) (.tmp 13) (vi ↑i) (vi ↑a.length) bT, IxAt (List.map Te.enc a) ↑i 11 (encT x), IxAt (List.map Te.enc b) ↑i 11 (encT y), Puk 22 [(teA x), (teA y)] (boA true), Bn .add 3 (.tmp 15) (.const (vi 1)) (vi ↑i) (vi 1) (vi (↑(i + 1)))]) (by kernel_rfl)
    ⟨lenEncT _, bin_ilt (decide_eq_true (by have := (List.getElem?_eq_some_iff.1 hx).1; omega)), ix_te hx, ix_te hy, h, bin_iadd (by omega) (by omega) (by have := (List.getElem?_eq_some_iff.1 hx).1; omega), trivial⟩
theorem eaB2 {a b : List Te} {i : Nat} (hi : i = a.length) : Tri EX eaB (eaS a b i) (.out 0) eaN :=
  twalk (c := subC (bodyOf Tryz.f26) [1,1,0,1,0,0]) (s := eaS a b i) (an := [.av (inA a.length), yF]) (ls := []) (ft := []) (nb := 0) (e := .out 0) (s' := eaN) (ps := [(vi ↑a.length) = (vi (↑(List.map Te.enc a).length)), Bn .lss 3 (.tmp 11) (.tmp 13) (vi ↑i) (vi ↑a.length) bF]) (by kernel_rfl)
    ⟨lenEncT _, bin_ilt (decide_eq_false (by omega)), trivial⟩
theorem eaB3 {a b : List Te} {x y : Te} {i : Nat} (hx : a[i]? = some x) (hy : b[i]? = some y) (h : Puk 22 [teA x, teA y] (boA false)) : Tri EX eaB (eaS a b i) .ret (eaR false) :=
  twalk (c := subC (bodyOf Tryz.f26) [1,1,0,1,0,0]) (s := eaS a b i) (an := [.av (inA a.length), yT, .av (.pin ((encT x).map .dt)), .av (.pin ((encT y).map .dt)), yF]) (ls := []) (ft := [4]) (nb := 0) (e := .ret) (s' := eaR false) (ps := [(vi ↑a.length) = (vi (↑(List.map Te.enc a).length)), Bn .lss 3 (.tmp 11) (.tmp 13) (vi ↑i) (vi ↑a.length) bT, IxAt (List.map Te.enc a) ↑i 11 (encT x), IxAt (List.map Te.enc b) ↑i 11 (encT y), Puk 22 [(teA x), (teA y)] (boA false)]) (by kernel_rfl)
    ⟨lenEncT _, bin_ilt (decide_eq_true (by have := (List.getElem?_eq_some_iff.1 hx).1; omega)), ix_te hx, ix_te hy, h, trivial⟩
theorem p_eqAll' {a b : List Te} (hl : a.length ≤ 9223372036854775807) (h : ∀ x ∈ a, ∀ y, Puk 22 [teA x, teA y] (boA (sameD x y))) : Puk 26 [tesA a, tesA b] (boA (sameD a b)) := by
  by_cases hne : a.length = b.length
  · have loop : ∀ (s s' : List Te) (i : Nat), a.drop i = s → b.drop i = s' → i ≤ a.length → (sameD s s' = true → Lps EX eaB (eaS a b i) (.out 0) eaN) ∧ (sameD s s' = false → Lps EX eaB (eaS a b i) .ret (eaR false)) := by
      intro s
      induction s with
      | nil =>
        intro s' i hd hd' hi
        have e1 := congrArg List.length hd
        rw [List.length_drop, List.length_nil] at e1
        have e2 := congrArg List.length hd'
        rw [List.length_drop] at e2
        obtain rfl : s' = [] := List.eq_nil_of_length_eq_zero (by omega)
        exact ⟨fun _ => .stop (eaB2 (by omega)) (fun h => by cases h), fun h => by simp at h⟩
      | cons x s ih =>
        intro s' i hd hd' hi
        have hx : a[i]? = some x := by rw [← List.head?_drop, hd]; rfl
        have hlt := (List.getElem?_eq_some_iff.1 hx).1
        cases s' with
        | nil =>
          have e2 := congrArg List.length hd'
          rw [List.length_drop, List.length_nil] at e2
          omega
        | cons y s' =>
          have hy : b[i]? = some y := by rw [← List.head?_drop, hd']; rfl
          have hc := h x (List.mem_of_getElem? hx) y
          obtain ⟨k1, k2⟩ := ih s' (i + 1) (by rw [← List.drop_drop, hd]; rfl) (by rw [← List.drop_drop, hd']; rfl) (by omega)
          rw [Te.same_cons]
          cases hxy : sameD x y with
          | true =>
            rw [hxy] at hc
            rw [Bool.true_and]
            exact ⟨fun e => .more (eaB1 hx hy hl hc) (k1 e), fun e => .more (eaB1 hx hy hl hc) (k2 e)⟩
          | false =>
            rw [hxy] at hc
            exact ⟨fun e => by simp at e, fun _ => .stop (eaB3 hx hy hc) (fun h => by cases h)⟩
    obtain ⟨k1, k2⟩ := loop a b 0 rfl rfl (Nat.zero_le _)
    cases hab : sameD a b with
    | true => exact pwalk (an := [.av (inA a.length), .av (inA b.length), yF]) (ls := [.inv [0,1,5] 0 (.out 0) (eaN)]) (ps := [(vi ↑a.length) = (vi (↑(List.map Te.enc a).length)), (vi ↑b.length) = (vi (↑(List.map Te.enc b).length)), Bn .neq 3 (.tmp 7) (.tmp 9) (vi ↑a.length) (vi ↑b.length) bF, Tri EX (.loop (subC (bodyOf Tryz.f26) [1, 1, 0, 1, 0, 0])) (eaS a b 0) (.out 0) (eaN)]) Tryz.func26 (by kernel_rfl) (by kernel_rfl) ⟨lenEncT _, lenEncT _, bin_ine (by simp [hne]), (k1 hab).tri, trivial⟩
    | false => exact pwalk (an := [.av (inA a.length), .av (inA b.length), yF]) (ls := [.inv [0,1,5] 0 (.ret) (eaR false)]) (ps := [(vi ↑a.length) = (vi (↑(List.map Te.enc a).length)), (vi ↑b.length) = (vi (↑(List.map Te.enc b).length)), Bn .neq 3 (.tmp 7) (.tmp 9) (vi ↑a.length) (vi ↑b.length) bF, Tri EX (.loop (subC (bodyOf Tryz.f26) [1, 1, 0, 1, 0, 0])) (eaS a b 0) (.ret) (eaR false)]) Tryz.func26 (by kernel_rfl) (by kernel_rfl) ⟨lenEncT _, lenEncT _, bin_ine (by simp [hne]), (k2 hab).tri, trivial⟩
  · have e : sameD a b = false := decide_eq_false fun e => hne (congrArg List.length e)
    rw [e]
    exact pwalk (an := [.av (inA a.length), .av (inA b.length), yT]) (ls := []) (ps := [(vi ↑a.length) = (vi (↑(List.map Te.enc a).length)), (vi ↑b.length) = (vi (↑(List.map Te.enc b).length)), Bn .neq 3 (.tmp 7) (.tmp 9) (vi ↑a.length) (vi ↑b.length) bT]) Tryz.func26 (by kernel_rfl) (by kernel_rfl) ⟨lenEncT _, lenEncT _, bin_ine (by simp; omega), trivial⟩
theorem p_rEqT : ∀ (N : Nat) (a b : Te), a.size ≤ N → a.Wf → Puk 22 [teA a, teA b] (boA (sameD a b)) := by
  intro N
  induction N with
  | zero => intro a b h; have := Te.size_pos a; omega
  | succ N ih =>
    intro a b hN hw
    rw [Te.same_iff]
    cases hk : decide (a.kind = b.kind) with
    | false => exact pwalk (an := [yF]) (ls := []) (ps := [Bn .eql 3 (.tmp 6) (.tmp 8) (vi a.kind) (vi b.kind) bF]) Tryz.func22 (by kernel_rfl) (by kernel_rfl) ⟨bin_ieq hk, trivial⟩
    | true =>
      cases hs : decide (a.np = b.np) && decide (a.nn = b.nn) with
      | false => exact pwalk (an := [yT, yF]) (ls := []) (ps := [Bn .eql 3 (.tmp 6) (.tmp 8) (vi a.kind) (vi b.kind) bT, Bn .eql 32 (.tmp 12) (.tmp 14) (Value.agg #[str a.np, str a.nn]) (Value.agg #[str b.np, str b.nn]) bF]) Tryz.func22 (by kernel_rfl) (by kernel_rfl) ⟨bin_ieq hk, bin_syeq hs, trivial⟩
      | true =>
        have h1 := p_rEqO hw.val b.val
        cases hv : sameD a.val b.val with
        | false =>
          rw [hv] at h1
          exact pwalk (an := [yT, yT, yF]) (ls := []) (ps := [Bn .eql 3 (.tmp 6) (.tmp 8) (vi a.kind) (vi b.kind) bT, Bn .eql 32 (.tmp 12) (.tmp 14) (Value.agg #[str a.np, str a.nn]) (Value.agg #[str b.np, str b.nn]) bT, Puk 60 [(obA a.val), (obA b.val)] (boA false)]) Tryz.func22 (by kernel_rfl) (by kernel_rfl) ⟨bin_ieq hk, bin_syeq hs, h1, trivial⟩
        | true =>
          rw [hv] at h1
          exact pwalk (an := [yT, yT, yT, .av (boA (sameD a.args b.args))]) (ls := []) (ps := [Bn .eql 3 (.tmp 6) (.tmp 8) (vi a.kind) (vi b.kind) bT, Bn .eql 32 (.tmp 12) (.tmp 14) (Value.agg #[str a.np, str a.nn]) (Value.agg #[str b.np, str b.nn]) bT, Puk 60 [(obA a.val), (obA b.val)] (boA true), Puk 26 [(.dt (.row (List.map Te.enc a.args))), (.dt (.row (List.map Te.enc b.args)))] (boA (sameD a.args b.args))]) Tryz.func22 (by kernel_rfl) (by kernel_rfl) ⟨bin_ieq hk, bin_syeq hs, h1, p_eqAll' hw.len fun x hx y => ih x y (by have := Te.size_args hx; omega) (hw.kids hx), trivial⟩
theorem p_req {a : Te} (h : a.Wf) (b : Te) : Puk 22 [teA a, teA b] (boA (sameD a b)) := p_rEqT _ a b (Nat.le_refl _) h
theorem p_eqAll {a b : List Te} (hl : a.length ≤ 9223372036854775807) (h : ∀ x ∈ a, x.Wf) : Puk 26 [tesA a, tesA b] (boA (sameD a b)) := p_eqAll' hl fun x hx y => p_req (h x hx) y
/- the first element for which a function holds -/
abbrev ixS (c : List Te) (f : FuncId) (cs : List AV) (i : Int) : AS := ⟨stt 19 [(0, tesA c), (1, .clf f cs), (7, inA c.length), (8, inA i)], []⟩
abbrev ixR (i : Int) : AS := ⟨stt 19 [(4, inA i)], []⟩
abbrev ixN : AS := ⟨stt 19 [], []⟩
noncomputable abbrev ixB : Code := subC (bodyOf Tryz.f77) [1, 0, 1, 0, 0]
theorem ixB1 {c : List Te} {f : FuncId} {cs : List AV} {x : Te} {i : Nat} (hx : c[i]? = some x) (hl : c.length ≤ 9223372036854775807) (h : Puk f ([teA x] ++ cs) (boA false)) : Tri EX ixB (ixS c f cs i) .nxt (ixS c f cs ((i + 1 : Nat) : Int)) :=
  twalk (c := subC (bodyOf Tryz.f77) [1,0,1,0,0]) (s := ixS c f cs i) (an := [yT, .av (.pin ((encT x).map .dt)), yF, .av (inA ((i + 1 : Nat) : Int))]) (ls := []) (ft := [0,1,7,8]) (nb := 0) (e := .nxt) (s' := ixS c f cs ((i + 1 : Nat) : Int)) (ps := [Bn .lss 3 (.tmp 8) (.tmp 7) (vi ↑i) (vi ↑c.length) bT, IxAt (List.map Te.enc c) ↑i 11 (encT x), Puk f ([(teA x)] ++ cs) (boA false), Bn .add 3 (.tmp 8) (.const (vi 1)) (vi ↑i) (vi 1) (vi (↑(i + 1)))]) (by kernel_rfl)
    ⟨bin_ilt (decide_eq_true (by have := (List.getElem?_eq_some_iff.1 hx).1; omega)), ix_te hx, h, bin_iadd (by omega) (by omega) (by have := (List.getElem?_eq_some_iff.1 hx).1; omega), trivial⟩
theorem ixB2 {c : List Te} {f : FuncId} {cs : List AV} {i : Nat} (hi : i = c.length) : Tri EX ixB (ixS c f cs i) (.out 0) ixN :=
  twalk (c := subC (bodyOf Tryz.f77) [1,0,1,0,0]) (s := ixS c f cs i) (an := [yF]) (ls := []) (ft := []) (nb := 0) (e := .out 0) (s' := ixN) (ps := [Bn .lss 3 (.tmp 8) (.tmp 7) (vi ↑i) (vi ↑c.length) bF]) (by kernel_rfl)
    ⟨bin_ilt (decide_eq_false (by omega)), trivial⟩
theorem ixB3 {c : List Te} {f : FuncId} {cs : List AV} {x : Te} {i : Nat} (hx : c[i]? = some x) (h : Puk f ([teA x] ++ cs) (boA true)) : Tri EX ixB (ixS c f cs i) .ret (ixR i) :=
  twalk (c := subC (bodyOf Tryz.f77) [1,0,1,0,0]) (s := ixS c f cs i) (an := [yT, .av (.pin ((encT x).map .dt)), yT]) (ls := []) (ft := [4]) (nb := 0) (e := .ret) (s' := ixR i) (ps := [Bn .lss 3 (.tmp 8) (.tmp 7) (vi ↑i) (vi ↑c.length) bT, IxAt (List.map Te.enc c) ↑i 11 (encT x), Puk f ([(teA x)] ++ cs) (boA true)]) (by kernel_rfl)
    ⟨bin_ilt (decide_eq_true (by have := (List.getElem?_eq_some_iff.1 hx).1; omega)), ix_te hx, h, trivial⟩
theorem p_ixFunc {c : List Te} {f : FuncId} {cs : List AV} {p : Te → Bool} (hl : c.length ≤ 9223372036854775807) (h : ∀ x ∈ c, Puk f ([teA x] ++ cs) (boA (p x))) : ∃ k : Int, Puk 77 [tesA c, .clf f cs] (inA k) ∧ decide (0 ≤ k) = c.any p := by
  have loop : ∀ (s : List Te) (i : Nat), c.drop i = s → i ≤ c.length → (s.any p = true → ∃ j : Nat, Lps EX ixB (ixS c f cs i) .ret (ixR j)) ∧ (s.any p = false → Lps EX ixB (ixS c f cs i) (.out 0) ixN) := by
    intro s
    induction s with
    | nil =>
      intro i hd hi
      have e1 := congrArg List.length hd
      rw [List.length_drop, List.length_nil] at e1
      exact ⟨fun h => by simp at h, fun _ => .stop (ixB2 (by omega)) (fun h => by cases h)⟩
    | cons x s ih =>
      intro i hd hi
      have hx : c[i]? = some x := by rw [← List.head?_drop, hd]; rfl
      have hlt := (List.getElem?_eq_some_iff.1 hx).1
      have hc := h x (List.mem_of_getElem? hx)
      obtain ⟨k1, k2⟩ := ih (i + 1) (by rw [← List.drop_drop, hd]; rfl) (by omega)
      rw [List.any_cons]
      cases hp : p x with
      | true =>
        rw [hp] at hc
        exact ⟨fun _ => ⟨i, .stop (ixB3 hx hc) (fun h => by cases h)⟩, fun e => by simp at e⟩
      | false =>
        rw [hp] at hc
        rw [Bool.false_or]
        exact ⟨fun e => (k1 e).elim fun j hj => ⟨j, .more (ixB1 hx hl hc) hj⟩, fun e => .more (ixB1 hx hl hc) (k2 e)⟩
  obtain ⟨k1, k2⟩ := loop c 0 rfl (Nat.zero_le _)
  cases hp : c.any p with
  | true =>
    obtain ⟨j, hj⟩ := k1 hp
    exact ⟨j, pwalk (an := [.av (inA c.length)]) (ls := [.inv [0,1,7,8] 0 (.ret) (ixR j)]) (ps := [(vi ↑c.length) = (vi (↑(List.map Te.enc c).length)), Tri EX (.loop (subC (bodyOf Tryz.f77) [1, 0, 1, 0, 0])) (ixS c f cs 0) (.ret) (ixR j)]) Tryz.func77 (by kernel_rfl) (by kernel_rfl) ⟨lenEncT _, hj.tri, trivial⟩, decide_eq_true (by omega)⟩
  | false => exact ⟨-1, pwalk (an := [.av (inA c.length)]) (ls := [.inv [0,1,7,8] 0 (.out 0) (ixN)]) (ps := [(vi ↑c.length) = (vi (↑(List.map Te.enc c).length)), Tri EX (.loop (subC (bodyOf Tryz.f77) [1, 0, 1, 0, 0])) (ixS c f cs 0) (.out 0) (ixN)]) Tryz.func77 (by kernel_rfl) (by kernel_rfl) ⟨lenEncT _, (k2 hp).tri, trivial⟩, rfl⟩
theorem p_ctFunc {c : List Te} {f : FuncId} {cs : List AV} {p : Te → Bool} (hl : c.length ≤ 9223372036854775807) (h : ∀ x ∈ c, Puk f ([teA x] ++ cs) (boA (p x))) : Puk 53 [tesA c, .clf f cs] (boA (c.any p)) := by
  obtain ⟨k, h1, h2⟩ := p_ixFunc hl h
  rw [← h2]
  exact pwalk (an := [.av (inA k), .av (boA (decide (0 ≤ k)))]) (ls := []) (ps := [Puk 77 [(.dt (.row (List.map Te.enc c))), (.clf f cs)] (inA k), Bn .geq 3 (.tmp 7) (.const (vi 0)) (vi k) (vi 0) (Value.bool (decide (0 ≤ k)))]) Tryz.func53 (by kernel_rfl) (by kernel_rfl) ⟨h1, bin_ige rfl, trivial⟩
theorem p_cont1 {x : Te} (hx : x.Wf) (t : Te) : Puk 62 [teA x, .pin ((encT t).map .dt)] (boA (sameD x t)) := pwalk (an := [.av (boA (sameD x t))]) (ls := []) (ps := [Puk 57 [(teA x), (teA t)] (boA (sameD x t))]) Tryz.func62 (by kernel_rfl) (by kernel_rfl) ⟨p_teq hx t, trivial⟩
theorem any_mem {c : List Te} {t : Te} : c.any (fun x => sameD x t) = decide (t ∈ c) := by
  rw [Bool.eq_iff_iff, List.any_eq_true, decide_eq_true_iff]
  exact ⟨fun ⟨x, hx, e⟩ => (of_decide_eq_true e) ▸ hx, fun h => ⟨t, h, decide_eq_true rfl⟩⟩
/-- membership -/
theorem p_cont {c : List Te} (hl : c.length ≤ 9223372036854775807) (h : ∀ x ∈ c, x.Wf) (t : Te) : Puk 24 [tesA c, teA t] (boA (decide (t ∈ c))) :=
  pwalk (an := [.av (boA (decide (t ∈ c)))]) (ls := []) (ps := [Puk 53 [(.dt (.row (List.map Te.enc c))), (.clf 62 [(.pin ((encT t).map .dt))])] (boA (decide (t ∈ c)))]) Tryz.func24 (by kernel_rfl) (by kernel_rfl) ⟨(p_ctFunc (p := fun x => sameD x t) hl fun x hx => p_cont1 (h x hx) t).b any_mem, trivial⟩
abbrev rcS (c : List Te) (t : Te) (i : Int) : AS := ⟨stt 18 [(0, tesA c), (3, .ptr 0 0), (5, inA i)], [some (.cells ((encT t).map .dt))]⟩
abbrev rcR (t : Te) (b : Bool) : AS := ⟨stt 18 [(4, boA b)], [some (.cells ((encT t).map .dt))]⟩
abbrev rcN (t : Te) : AS := ⟨stt 18 [], [some (.cells ((encT t).map .dt))]⟩
noncomputable abbrev rcB : Code := subC (bodyOf Tryz.f25) [1, 0, 1, 0, 0]
theorem rcB1 {c : List Te} {t x : Te} {i : Nat} (hx : c[i]? = some x) (hl : c.length ≤ 9223372036854775807) (h : Puk 22 [teA x, teA t] (boA false)) : Tri EX rcB (rcS c t i) .nxt (rcS c t ((i + 1 : Nat) : Int)) :=
  twalk (c := subC (bodyOf Tryz.f25) [1,0,1,0,0]) (s := rcS c t i) (an := [.av (inA c.length), yT, .av (.pin ((encT x).map .dt)), yF, .av (inA ((i + 1 : Nat) : Int))]) (ls := []) (ft := [0,3,5]) (nb := 1) (e := .nxt) (s' := rcS c t ((i + 1 : Nat) : Int)) (ps := [(vi ↑c.length) = (vi (↑(List.map Te.enc c).length)), Bn .lss 3 (.tmp 6) (.tmp 8) (vi ↑i) (vi ↑c.length) bT, IxAt (List.map Te.enc c) ↑i 11 (encT x), Puk 22 [(teA x), (teA t)] (boA false), Bn .add 3 (.tmp 10) (.const (vi 1)) (vi ↑i) (vi 1) (vi (↑(i + 1)))]) (by kernel_rfl)
    ⟨lenEncT _, bin_ilt (decide_eq_true (by have := (List.getElem?_eq_some_iff.1 hx).1; omega)), ix_te hx, h, bin_iadd (by omega) (by omega) (by have := (List.getElem?_eq_some_iff.1 hx).1; omega), trivial⟩
theorem rcB2 {c : List Te} {t : Te} {i : Nat} (hi : i = c.length) : Tri EX rcB (rcS c t i) (.out 0) (rcN t) :=
  twalk (c := subC (bodyOf Tryz.f25) [1,0,1,0,0]) (s := rcS c t i) (an := [.av (inA c.length), yF]) (ls := []) (ft := []) (nb := 1) (e := .out 0) (s' := rcN t) (ps := [(vi ↑c.length) = (vi (↑(List.map Te.enc c).length)), Bn .lss 3 (.tmp 6) (.tmp 8) (vi ↑i) (vi ↑c.length) bF]) (by kernel_rfl)
    ⟨lenEncT _, bin_ilt (decide_eq_false (by omega)), trivial⟩
theorem rcB3 {c : List Te} {t x : Te} {i : Nat} (hx : c[i]? = some x) (h : Puk 22 [teA x, teA t] (boA true)) : Tri EX rcB (rcS c t i) .ret (rcR t true) :=
  twalk (c := subC (bodyOf Tryz.f25) [1,0,1,0,0]) (s := rcS c t i) (an := [.av (inA c.length), yT, .av (.pin ((encT x).map .dt)), yT]) (ls := []) (ft := [4]) (nb := 1) (e := .ret) (s' := rcR t true) (ps := [(vi ↑c.length) = (vi (↑(List.map Te.enc c).length)), Bn .lss 3 (.tmp 6) (.tmp 8) (vi ↑i) (vi ↑c.length) bT, IxAt (List.map Te.enc c) ↑i 11 (encT x), Puk 22 [(teA x), (teA t)] (boA true)]) (by kernel_rfl)
    ⟨lenEncT _, bin_ilt (decide_eq_true (by have := (List.getElem?_eq_some_iff.1 hx).1; omega)), ix_te hx, h, trivial⟩
theorem p_rcont {c : List Te} (hl : c.length ≤ 9223372036854775807) (h : ∀ x ∈ c, x.Wf) (t : Te) : Puk 25 [tesA c, teA t] (boA (decide (t ∈ c))) := by
  have loop : ∀ (s : List Te) (i : Nat), c.drop i = s → i ≤ c.length → (s.any (fun x => sameD x t) = true → Lps EX rcB (rcS c t i) .ret (rcR t true)) ∧ (s.any (fun x => sameD x t) = false → Lps EX rcB (rcS c t i) (.out 0) (rcN t)) := by
    intro s
    induction s with
    | nil =>
      intro i hd hi
      have e1 := congrArg List.length hd
      rw [List.length_drop, List.length_nil] at e1
      exact ⟨fun h => by simp at h, fun _ => .stop (rcB2 (by omega)) (fun h => by cases h)⟩
    | cons x s ih =>
      intro i hd hi
      have hx : c[i]? = some x := by rw [← List.head?_drop, hd]; rfl
      have hlt := (List.getElem?_eq_some_iff.1 hx).1
      have hc := p_req (h x (List.mem_of_getElem? hx)) t
      obtain ⟨k1, k2⟩ := ih (i + 1) (by rw [← List.drop_drop, hd]; rfl) (by omega)
      rw [List.any_cons]
      cases hp : sameD x t with
      | true =>
        rw [hp] at hc
        exact ⟨fun _ => .stop (rcB3 hx hc) (fun h => by cases h), fun e => by simp at e⟩
      | false =>
        rw [hp] at hc
        rw [Bool.false_or]
        exact ⟨fun e => .more (rcB1 hx hl hc) (k1 e), fun e => .more (rcB1 hx hl hc) (k2 e)⟩
  obtain ⟨k1, k2⟩ := loop c 0 rfl (Nat.zero_le _)
  rw [← any_mem]
  cases hp : c.any fun x => sameD x t with
  | true => exact pwalk (an := []) (ls := [.inv [0,3,5] 1 (.ret) (rcR t true)]) (ps := [Tri EX (.loop (subC (bodyOf Tryz.f25) [1, 0, 1, 0, 0])) (rcS c t 0) (.ret) (rcR t true)]) Tryz.func25 (by kernel_rfl) (by kernel_rfl) ⟨(k1 hp).tri, trivial⟩
  | false => exact pwalk (an := []) (ls := [.inv [0,3,5] 1 (.out 0) (rcN t)]) (ps := [Tri EX (.loop (subC (bodyOf Tryz.f25) [1, 0, 1, 0, 0])) (rcS c t 0) (.out 0) (rcN t)]) Tryz.func25 (by kernel_rfl) (by kernel_rfl) ⟨(k2 hp).tri, trivial⟩
end Go.Proofs.YtendgffijciehaaGreatDoor
/- Negations and the propositional functions, both texts. -/
namespace Go.Proofs.YtendgffijciehaaGreatDoor
open Go.RowKit

namespace Te
theorem arg_at {t : Te} {n : List UInt8} {k i : Nat} (h : is t n k) (hi : i < k) : t.args[i]? = some (t.arg i) := by
  have hl : t.args.length = k := h.2.2.2
  unfold arg
  rw [List.getD_eq_getElem?_getD, List.getElem?_eq_getElem (by omega)]
  rfl
theorem row1 (a : Te) : [encT a] = [a].map Te.enc := by simp only [List.map_cons, List.map_nil, enc_T]
theorem row3 (a b c : Te) : [encT a, encT b, encT c] = [a, b, c].map Te.enc := by simp only [List.map_cons, List.map_nil, enc_T]
end Te
open Te
theorem p_tLisp1 (n : List UInt8) (a : Te) : Puk 61 [stA n, .dt (.row [encT a])] (teA (Te.ap n [a])) := p_tLisp n [a] (row1 a)
theorem p_rLisp1 (n : List UInt8) (a : Te) : Puk 15 [stA n, .dt (.row [encT a])] (teA (Te.ap n [a])) := p_rLisp n [a] (row1 a)
theorem p_tLisp3 (n : List UInt8) (a b c : Te) : Puk 61 [stA n, .dt (.row [encT a, encT b, encT c])] (teA (Te.ap n [a, b, c])) := p_tLisp n [a, b, c] (row3 a b c)
theorem p_rLisp3 (n : List UInt8) (a b c : Te) : Puk 15 [stA n, .dt (.row [encT a, encT b, encT c])] (teA (Te.ap n [a, b, c])) := p_rLisp n [a, b, c] (row3 a b c)
abbrev opA : Option Te → Te → AV
  | some t, _ => .tup [teA t, boA true]
  | none, t => .tup [teA t, boA false]
theorem yesD {p : Prop} [Decidable p] (h : p) : decide p = true := decide_eq_true h
theorem noD {p : Prop} [Decidable p] (h : ¬ p) : decide p = false := decide_eq_false h
theorem p_neg (t : Te) : Puk 23 [teA t] (teA (neg t)) := by
  unfold neg
  by_cases h : is t notB 1
  · rw [if_pos h]
    have h0 := arg_at h (show 0 < 1 by omega)
    generalize t.arg 0 = a at *
    exact pwalk (an := [yT, .av (.pin ((encT a).map .dt))]) (ls := []) (ps := [Puk 56 [(.agg [(inA t.kind), (stA t.np), (stA t.nn), (inA t.val.kind), (stA t.val.num), (stA t.val.den), (stA t.val.sp), (stA t.val.sn), (stA t.val.text), (.dt (.row (List.map Ob.enc t.val.pair))), (.dt (.row (List.map enc t.args)))]), (stA [110, 111, 116]), (inA 1)] (boA true), IxAt (List.map enc t.args) 0 11 ([(.val (vi a.kind)), (.val (str a.np)), (.val (str a.nn)), (.val (vi a.val.kind)), (.val (str a.val.num)), (.val (str a.val.den)), (.val (str a.val.sp)), (.val (str a.val.sn)), (.val (str a.val.text)), (.row (List.map Ob.enc a.val.pair)), (.row (List.map enc a.args))])]) Tryz.func23 (by kernel_rfl) (by kernel_rfl) ⟨(p_is t notB 1).b (yesD h), ix_te h0, trivial⟩
  · rw [if_neg h]
    exact pwalk (an := [yF, .av (teA (ap notB [t]))]) (ls := []) (ps := [Puk 56 [(.agg [(inA t.kind), (stA t.np), (stA t.nn), (inA t.val.kind), (stA t.val.num), (stA t.val.den), (stA t.val.sp), (stA t.val.sn), (stA t.val.text), (.dt (.row (List.map Ob.enc t.val.pair))), (.dt (.row (List.map enc t.args)))]), (stA [110, 111, 116]), (inA 1)] (boA false), Puk 61 [(stA [110, 111, 116]), (.dt (.row [[(.val (vi t.kind)), (.val (str t.np)), (.val (str t.nn)), (.val (vi t.val.kind)), (.val (str t.val.num)), (.val (str t.val.den)), (.val (str t.val.sp)), (.val (str t.val.sn)), (.val (str t.val.text)), (.row (List.map Ob.enc t.val.pair)), (.row (List.map enc t.args))]]))] (.agg [(inA ((ap notB [t]).kind)), (stA (ap notB [t]).np), (stA (ap notB [t]).nn), (inA ((ap notB [t]).val.kind)), (stA (ap notB [t]).val.num), (stA (ap notB [t]).val.den), (stA (ap notB [t]).val.sp), (stA (ap notB [t]).val.sn), (stA (ap notB [t]).val.text), (.dt (.row (List.map Ob.enc (ap notB [t]).val.pair))), (.dt (.row (List.map enc (ap notB [t]).args)))])]) Tryz.func23 (by kernel_rfl) (by kernel_rfl) ⟨(p_is t notB 1).b (noD h), p_tLisp notB [t] (row1 t), trivial⟩
theorem p_rneg (t : Te) : Puk 14 [teA t] (teA (neg t)) := by
  unfold neg
  by_cases h : is t notB 1
  · rw [if_pos h]
    have h0 := arg_at h (show 0 < 1 by omega)
    generalize t.arg 0 = a at *
    exact pwalk (an := [yT, .av (.pin ((encT a).map .dt))]) (ls := []) (ps := [Puk 49 [(.agg [(inA t.kind), (stA t.np), (stA t.nn), (inA t.val.kind), (stA t.val.num), (stA t.val.den), (stA t.val.sp), (stA t.val.sn), (stA t.val.text), (.dt (.row (List.map Ob.enc t.val.pair))), (.dt (.row (List.map enc t.args)))]), (stA [110, 111, 116]), (inA 1)] (boA true), IxAt (List.map enc t.args) 0 11 ([(.val (vi a.kind)), (.val (str a.np)), (.val (str a.nn)), (.val (vi a.val.kind)), (.val (str a.val.num)), (.val (str a.val.den)), (.val (str a.val.sp)), (.val (str a.val.sn)), (.val (str a.val.text)), (.row (List.map Ob.enc a.val.pair)), (.row (List.map enc a.args))])]) Tryz.func14 (by kernel_rfl) (by kernel_rfl) ⟨(p_rIs t notB 1).b (yesD h), ix_te h0, trivial⟩
  · rw [if_neg h]
    exact pwalk (an := [yF, .av (teA (ap notB [t]))]) (ls := []) (ps := [Puk 49 [(.agg [(inA t.kind), (stA t.np), (stA t.nn), (inA t.val.kind), (stA t.val.num), (stA t.val.den), (stA t.val.sp), (stA t.val.sn), (stA t.val.text), (.dt (.row (List.map Ob.enc t.val.pair))), (.dt (.row (List.map enc t.args)))]), (stA [110, 111, 116]), (inA 1)] (boA false), Puk 15 [(stA [110, 111, 116]), (.dt (.row [[(.val (vi t.kind)), (.val (str t.np)), (.val (str t.nn)), (.val (vi t.val.kind)), (.val (str t.val.num)), (.val (str t.val.den)), (.val (str t.val.sp)), (.val (str t.val.sn)), (.val (str t.val.text)), (.row (List.map Ob.enc t.val.pair)), (.row (List.map enc t.args))]]))] (.agg [(inA ((ap notB [t]).kind)), (stA (ap notB [t]).np), (stA (ap notB [t]).nn), (inA ((ap notB [t]).val.kind)), (stA (ap notB [t]).val.num), (stA (ap notB [t]).val.den), (stA (ap notB [t]).val.sp), (stA (ap notB [t]).val.sn), (stA (ap notB [t]).val.text), (.dt (.row (List.map Ob.enc (ap notB [t]).val.pair))), (.dt (.row (List.map enc (ap notB [t]).args)))])]) Tryz.func14 (by kernel_rfl) (by kernel_rfl) ⟨(p_rIs t notB 1).b (noD h), p_rLisp notB [t] (row1 t), trivial⟩
theorem p_opened (t : Te) : Puk 93 [teA t] (opA (opened t) zTe) := by
  unfold opened
  by_cases h : is t notB 1
  · rw [if_pos h]
    have h0 := arg_at h (show 0 < 1 by omega)
    generalize t.arg 0 = a at *
    exact pwalk (an := [.av (teA yesT), .av (teA noT), yT, .av (.pin ((encT a).map .dt)), .av (teA (ap ifB [a, noT, yesT]))]) (ls := []) (ps := [Puk 58 [(boA true)] (.agg [(inA 2), (stA yesT.np), (stA yesT.nn), (inA 2), (stA yesT.val.num), (stA yesT.val.den), (stA yesT.val.sp), (stA yesT.val.sn), (stA yesT.val.text), (.dt (.row (List.map Ob.enc yesT.val.pair))), (.dt (.row (List.map enc yesT.args)))]), Puk 58 [(boA false)] (.agg [(inA 2), (stA noT.np), (stA noT.nn), (inA 2), (stA noT.val.num), (stA noT.val.den), (stA noT.val.sp), (stA noT.val.sn), (stA noT.val.text), (.dt (.row (List.map Ob.enc noT.val.pair))), (.dt (.row (List.map enc noT.args)))]), Puk 56 [(.agg [(inA t.kind), (stA t.np), (stA t.nn), (inA t.val.kind), (stA t.val.num), (stA t.val.den), (stA t.val.sp), (stA t.val.sn), (stA t.val.text), (.dt (.row (List.map Ob.enc t.val.pair))), (.dt (.row (List.map enc t.args)))]), (stA [110, 111, 116]), (inA 1)] (boA true), IxAt (List.map enc t.args) 0 11 ([(.val (vi a.kind)), (.val (str a.np)), (.val (str a.nn)), (.val (vi a.val.kind)), (.val (str a.val.num)), (.val (str a.val.den)), (.val (str a.val.sp)), (.val (str a.val.sn)), (.val (str a.val.text)), (.row (List.map Ob.enc a.val.pair)), (.row (List.map enc a.args))]), Puk 61 [(stA [105, 102]), (.dt (.row [[(.val (vi a.kind)), (.val (str a.np)), (.val (str a.nn)), (.val (vi a.val.kind)), (.val (str a.val.num)), (.val (str a.val.den)), (.val (str a.val.sp)), (.val (str a.val.sn)), (.val (str a.val.text)), (.row (List.map Ob.enc a.val.pair)), (.row (List.map enc a.args))], [(.val (vi 2)), (.val (str noT.np)), (.val (str noT.nn)), (.val (vi 2)), (.val (str noT.val.num)), (.val (str noT.val.den)), (.val (str noT.val.sp)), (.val (str noT.val.sn)), (.val (str noT.val.text)), (.row (List.map Ob.enc noT.val.pair)), (.row (List.map enc noT.args))], [(.val (vi 2)), (.val (str yesT.np)), (.val (str yesT.nn)), (.val (vi 2)), (.val (str yesT.val.num)), (.val (str yesT.val.den)), (.val (str yesT.val.sp)), (.val (str yesT.val.sn)), (.val (str yesT.val.text)), (.row (List.map Ob.enc yesT.val.pair)), (.row (List.map enc yesT.args))]]))] (.agg [(inA ((ap ifB [a, noT, yesT]).kind)), (stA (ap ifB [a, noT, yesT]).np), (stA (ap ifB [a, noT, yesT]).nn), (inA ((ap ifB [a, noT, yesT]).val.kind)), (stA (ap ifB [a, noT, yesT]).val.num), (stA (ap ifB [a, noT, yesT]).val.den), (stA (ap ifB [a, noT, yesT]).val.sp), (stA (ap ifB [a, noT, yesT]).val.sn), (stA (ap ifB [a, noT, yesT]).val.text), (.dt (.row (List.map Ob.enc (ap ifB [a, noT, yesT]).val.pair))), (.dt (.row (List.map enc (ap ifB [a, noT, yesT]).args)))])]) Tryz.func93 (by kernel_rfl) (by kernel_rfl) ⟨p_constant true, p_constant false, (p_is t notB 1).b (yesD h), ix_te h0, p_tLisp3 ifB a noT yesT, trivial⟩
  rw [if_neg h]
  by_cases h2 : is t impB 2
  · rw [if_pos h2]
    have h0 := arg_at h2 (show 0 < 2 by omega)
    have h1 := arg_at h2 (show 1 < 2 by omega)
    generalize t.arg 0 = a at *
    generalize t.arg 1 = b at *
    exact pwalk (an := [.av (teA yesT), .av (teA noT), yF, yT, .av (.pin ((encT a).map .dt)), .av (.pin ((encT b).map .dt)), .av (teA (ap ifB [b, yesT, noT])), .av (teA (ap ifB [a, ap ifB [b, yesT, noT], yesT]))]) (ls := []) (ps := [Puk 58 [(boA true)] (.agg [(inA 2), (stA yesT.np), (stA yesT.nn), (inA 2), (stA yesT.val.num), (stA yesT.val.den), (stA yesT.val.sp), (stA yesT.val.sn), (stA yesT.val.text), (.dt (.row (List.map Ob.enc yesT.val.pair))), (.dt (.row (List.map enc yesT.args)))]), Puk 58 [(boA false)] (.agg [(inA 2), (stA noT.np), (stA noT.nn), (inA 2), (stA noT.val.num), (stA noT.val.den), (stA noT.val.sp), (stA noT.val.sn), (stA noT.val.text), (.dt (.row (List.map Ob.enc noT.val.pair))), (.dt (.row (List.map enc noT.args)))]), Puk 56 [(.agg [(inA t.kind), (stA t.np), (stA t.nn), (inA t.val.kind), (stA t.val.num), (stA t.val.den), (stA t.val.sp), (stA t.val.sn), (stA t.val.text), (.dt (.row (List.map Ob.enc t.val.pair))), (.dt (.row (List.map enc t.args)))]), (stA [110, 111, 116]), (inA 1)] (boA false), Puk 56 [(.agg [(inA t.kind), (stA t.np), (stA t.nn), (inA t.val.kind), (stA t.val.num), (stA t.val.den), (stA t.val.sp), (stA t.val.sn), (stA t.val.text), (.dt (.row (List.map Ob.enc t.val.pair))), (.dt (.row (List.map enc t.args)))]), (stA [105, 109, 112, 108, 105, 101, 115]), (inA 2)] (boA true), IxAt (List.map enc t.args) 0 11 ([(.val (vi a.kind)), (.val (str a.np)), (.val (str a.nn)), (.val (vi a.val.kind)), (.val (str a.val.num)), (.val (str a.val.den)), (.val (str a.val.sp)), (.val (str a.val.sn)), (.val (str a.val.text)), (.row (List.map Ob.enc a.val.pair)), (.row (List.map enc a.args))]), IxAt (List.map enc t.args) 1 11 ([(.val (vi b.kind)), (.val (str b.np)), (.val (str b.nn)), (.val (vi b.val.kind)), (.val (str b.val.num)), (.val (str b.val.den)), (.val (str b.val.sp)), (.val (str b.val.sn)), (.val (str b.val.text)), (.row (List.map Ob.enc b.val.pair)), (.row (List.map enc b.args))]), Puk 61 [(stA [105, 102]), (.dt (.row [[(.val (vi b.kind)), (.val (str b.np)), (.val (str b.nn)), (.val (vi b.val.kind)), (.val (str b.val.num)), (.val (str b.val.den)), (.val (str b.val.sp)), (.val (str b.val.sn)), (.val (str b.val.text)), (.row (List.map Ob.enc b.val.pair)), (.row (List.map enc b.args))], [(.val (vi 2)), (.val (str yesT.np)), (.val (str yesT.nn)), (.val (vi 2)), (.val (str yesT.val.num)), (.val (str yesT.val.den)), (.val (str yesT.val.sp)), (.val (str yesT.val.sn)), (.val (str yesT.val.text)), (.row (List.map Ob.enc yesT.val.pair)), (.row (List.map enc yesT.args))], [(.val (vi 2)), (.val (str noT.np)), (.val (str noT.nn)), (.val (vi 2)), (.val (str noT.val.num)), (.val (str noT.val.den)), (.val (str noT.val.sp)), (.val (str noT.val.sn)), (.val (str noT.val.text)), (.row (List.map Ob.enc noT.val.pair)), (.row (List.map enc noT.args))]]))] (.agg [(inA ((ap ifB [b, yesT, noT]).kind)), (stA (ap ifB [b, yesT, noT]).np), (stA (ap ifB [b, yesT, noT]).nn), (inA ((ap ifB [b, yesT, noT]).val.kind)), (stA (ap ifB [b, yesT, noT]).val.num), (stA (ap ifB [b, yesT, noT]).val.den), (stA (ap ifB [b, yesT, noT]).val.sp), (stA (ap ifB [b, yesT, noT]).val.sn), (stA (ap ifB [b, yesT, noT]).val.text), (.dt (.row (List.map Ob.enc (ap ifB [b, yesT, noT]).val.pair))), (.dt (.row (List.map enc (ap ifB [b, yesT, noT]).args)))]), Puk 61 [(stA [105, 102]), (.dt (.row [[(.val (vi a.kind)), (.val (str a.np)), (.val (str a.nn)), (.val (vi a.val.kind)), (.val (str a.val.num)), (.val (str a.val.den)), (.val (str a.val.sp)), (.val (str a.val.sn)), (.val (str a.val.text)), (.row (List.map Ob.enc a.val.pair)), (.row (List.map enc a.args))], [(.val (vi ((ap ifB [b, yesT, noT]).kind))), (.val (str (ap ifB [b, yesT, noT]).np)), (.val (str (ap ifB [b, yesT, noT]).nn)), (.val (vi ((ap ifB [b, yesT, noT]).val.kind))), (.val (str (ap ifB [b, yesT, noT]).val.num)), (.val (str (ap ifB [b, yesT, noT]).val.den)), (.val (str (ap ifB [b, yesT, noT]).val.sp)), (.val (str (ap ifB [b, yesT, noT]).val.sn)), (.val (str (ap ifB [b, yesT, noT]).val.text)), (.row (List.map Ob.enc (ap ifB [b, yesT, noT]).val.pair)), (.row (List.map enc (ap ifB [b, yesT, noT]).args))], [(.val (vi 2)), (.val (str yesT.np)), (.val (str yesT.nn)), (.val (vi 2)), (.val (str yesT.val.num)), (.val (str yesT.val.den)), (.val (str yesT.val.sp)), (.val (str yesT.val.sn)), (.val (str yesT.val.text)), (.row (List.map Ob.enc yesT.val.pair)), (.row (List.map enc yesT.args))]]))] (.agg [(inA ((ap ifB [a, ap ifB [b, yesT, noT], yesT]).kind)), (stA (ap ifB [a, ap ifB [b, yesT, noT], yesT]).np), (stA (ap ifB [a, ap ifB [b, yesT, noT], yesT]).nn), (inA ((ap ifB [a, ap ifB [b, yesT, noT], yesT]).val.kind)), (stA (ap ifB [a, ap ifB [b, yesT, noT], yesT]).val.num), (stA (ap ifB [a, ap ifB [b, yesT, noT], yesT]).val.den), (stA (ap ifB [a, ap ifB [b, yesT, noT], yesT]).val.sp), (stA (ap ifB [a, ap ifB [b, yesT, noT], yesT]).val.sn), (stA (ap ifB [a, ap ifB [b, yesT, noT], yesT]).val.text), (.dt (.row (List.map Ob.enc (ap ifB [a, ap ifB [b, yesT, noT], yesT]).val.pair))), (.dt (.row (List.map enc (ap ifB [a, ap ifB [b, yesT, noT], yesT]).args)))])]) Tryz.func93 (by kernel_rfl) (by kernel_rfl) ⟨p_constant true, p_constant false, (p_is t notB 1).b (noD h), (p_is t impB 2).b (yesD h2), ix_te h0, ix_te h1, p_tLisp3 ifB b yesT noT, p_tLisp3 ifB a (ap ifB [b, yesT, noT]) yesT, trivial⟩
  rw [if_neg h2]
  by_cases h3 : is t iffB 2
  · rw [if_pos h3]
    have h0 := arg_at h3 (show 0 < 2 by omega)
    have h1 := arg_at h3 (show 1 < 2 by omega)
    generalize t.arg 0 = a at *
    generalize t.arg 1 = b at *
    exact pwalk (an := [.av (teA yesT), .av (teA noT), yF, yF, yT, .av (.pin ((encT a).map .dt)), .av (.pin ((encT b).map .dt)), .av (teA (ap ifB [b, yesT, noT])), .av (.pin ((encT b).map .dt)), .av (teA (ap ifB [b, noT, yesT])), .av (teA (ap ifB [a, ap ifB [b, yesT, noT], ap ifB [b, noT, yesT]]))]) (ls := []) (ps := [Puk 58 [(boA true)] (.agg [(inA 2), (stA yesT.np), (stA yesT.nn), (inA 2), (stA yesT.val.num), (stA yesT.val.den), (stA yesT.val.sp), (stA yesT.val.sn), (stA yesT.val.text), (.dt (.row (List.map Ob.enc yesT.val.pair))), (.dt (.row (List.map enc yesT.args)))]), Puk 58 [(boA false)] (.agg [(inA 2), (stA noT.np), (stA noT.nn), (inA 2), (stA noT.val.num), (stA noT.val.den), (stA noT.val.sp), (stA noT.val.sn), (stA noT.val.text), (.dt (.row (List.map Ob.enc noT.val.pair))), (.dt (.row (List.map enc noT.args)))]), Puk 56 [(.agg [(inA t.kind), (stA t.np), (stA t.nn), (inA t.val.kind), (stA t.val.num), (stA t.val.den), (stA t.val.sp), (stA t.val.sn), (stA t.val.text), (.dt (.row (List.map Ob.enc t.val.pair))), (.dt (.row (List.map enc t.args)))]), (stA [110, 111, 116]), (inA 1)] (boA false), Puk 56 [(.agg [(inA t.kind), (stA t.np), (stA t.nn), (inA t.val.kind), (stA t.val.num), (stA t.val.den), (stA t.val.sp), (stA t.val.sn), (stA t.val.text), (.dt (.row (List.map Ob.enc t.val.pair))), (.dt (.row (List.map enc t.args)))]), (stA [105, 109, 112, 108, 105, 101, 115]), (inA 2)] (boA false), Puk 56 [(.agg [(inA t.kind), (stA t.np), (stA t.nn), (inA t.val.kind), (stA t.val.num), (stA t.val.den), (stA t.val.sp), (stA t.val.sn), (stA t.val.text), (.dt (.row (List.map Ob.enc t.val.pair))), (.dt (.row (List.map enc t.args)))]), (stA [105, 102, 102]), (inA 2)] (boA true), IxAt (List.map enc t.args) 0 11 ([(.val (vi a.kind)), (.val (str a.np)), (.val (str a.nn)), (.val (vi a.val.kind)), (.val (str a.val.num)), (.val (str a.val.den)), (.val (str a.val.sp)), (.val (str a.val.sn)), (.val (str a.val.text)), (.row (List.map Ob.enc a.val.pair)), (.row (List.map enc a.args))]), IxAt (List.map enc t.args) 1 11 ([(.val (vi b.kind)), (.val (str b.np)), (.val (str b.nn)), (.val (vi b.val.kind)), (.val (str b.val.num)), (.val (str b.val.den)), (.val (str b.val.sp)), (.val (str b.val.sn)), (.val (str b.val.text)), (.row (List.map Ob.enc b.val.pair)), (.row (List.map enc b.args))]), Puk 61 [(stA [105, 102]), (.dt (.row [[(.val (vi b.kind)), (.val (str b.np)), (.val (str b.nn)), (.val (vi b.val.kind)), (.val (str b.val.num)), (.val (str b.val.den)), (.val (str b.val.sp)), (.val (str b.val.sn)), (.val (str b.val.text)), (.row (List.map Ob.enc b.val.pair)), (.row (List.map enc b.args))], [(.val (vi 2)), (.val (str yesT.np)), (.val (str yesT.nn)), (.val (vi 2)), (.val (str yesT.val.num)), (.val (str yesT.val.den)), (.val (str yesT.val.sp)), (.val (str yesT.val.sn)), (.val (str yesT.val.text)), (.row (List.map Ob.enc yesT.val.pair)), (.row (List.map enc yesT.args))], [(.val (vi 2)), (.val (str noT.np)), (.val (str noT.nn)), (.val (vi 2)), (.val (str noT.val.num)), (.val (str noT.val.den)), (.val (str noT.val.sp)), (.val (str noT.val.sn)), (.val (str noT.val.text)), (.row (List.map Ob.enc noT.val.pair)), (.row (List.map enc noT.args))]]))] (.agg [(inA ((ap ifB [b, yesT, noT]).kind)), (stA (ap ifB [b, yesT, noT]).np), (stA (ap ifB [b, yesT, noT]).nn), (inA ((ap ifB [b, yesT, noT]).val.kind)), (stA (ap ifB [b, yesT, noT]).val.num), (stA (ap ifB [b, yesT, noT]).val.den), (stA (ap ifB [b, yesT, noT]).val.sp), (stA (ap ifB [b, yesT, noT]).val.sn), (stA (ap ifB [b, yesT, noT]).val.text), (.dt (.row (List.map Ob.enc (ap ifB [b, yesT, noT]).val.pair))), (.dt (.row (List.map enc (ap ifB [b, yesT, noT]).args)))]), IxAt (List.map enc t.args) 1 11 ([(.val (vi b.kind)), (.val (str b.np)), (.val (str b.nn)), (.val (vi b.val.kind)), (.val (str b.val.num)), (.val (str b.val.den)), (.val (str b.val.sp)), (.val (str b.val.sn)), (.val (str b.val.text)), (.row (List.map Ob.enc b.val.pair)), (.row (List.map enc b.args))]), Puk 61 [(stA [105, 102]), (.dt (.row [[(.val (vi b.kind)), (.val (str b.np)), (.val (str b.nn)), (.val (vi b.val.kind)), (.val (str b.val.num)), (.val (str b.val.den)), (.val (str b.val.sp)), (.val (str b.val.sn)), (.val (str b.val.text)), (.row (List.map Ob.enc b.val.pair)), (.row (List.map enc b.args))], [(.val (vi 2)), (.val (str noT.np)), (.val (str noT.nn)), (.val (vi 2)), (.val (str noT.val.num)), (.val (str noT.val.den)), (.val (str noT.val.sp)), (.val (str noT.val.sn)), (.val (str noT.val.text)), (.row (List.map Ob.enc noT.val.pair)), (.row (List.map enc noT.args))], [(.val (vi 2)), (.val (str yesT.np)), (.val (str yesT.nn)), (.val (vi 2)), (.val (str yesT.val.num)), (.val (str yesT.val.den)), (.val (str yesT.val.sp)), (.val (str yesT.val.sn)), (.val (str yesT.val.text)), (.row (List.map Ob.enc yesT.val.pair)), (.row (List.map enc yesT.args))]]))] (.agg [(inA ((ap ifB [b, noT, yesT]).kind)), (stA (ap ifB [b, noT, yesT]).np), (stA (ap ifB [b, noT, yesT]).nn), (inA ((ap ifB [b, noT, yesT]).val.kind)), (stA (ap ifB [b, noT, yesT]).val.num), (stA (ap ifB [b, noT, yesT]).val.den), (stA (ap ifB [b, noT, yesT]).val.sp), (stA (ap ifB [b, noT, yesT]).val.sn), (stA (ap ifB [b, noT, yesT]).val.text), (.dt (.row (List.map Ob.enc (ap ifB [b, noT, yesT]).val.pair))), (.dt (.row (List.map enc (ap ifB [b, noT, yesT]).args)))]), Puk 61 [(stA [105, 102]), (.dt (.row [[(.val (vi a.kind)), (.val (str a.np)), (.val (str a.nn)), (.val (vi a.val.kind)), (.val (str a.val.num)), (.val (str a.val.den)), (.val (str a.val.sp)), (.val (str a.val.sn)), (.val (str a.val.text)), (.row (List.map Ob.enc a.val.pair)), (.row (List.map enc a.args))], [(.val (vi ((ap ifB [b, yesT, noT]).kind))), (.val (str (ap ifB [b, yesT, noT]).np)), (.val (str (ap ifB [b, yesT, noT]).nn)), (.val (vi ((ap ifB [b, yesT, noT]).val.kind))), (.val (str (ap ifB [b, yesT, noT]).val.num)), (.val (str (ap ifB [b, yesT, noT]).val.den)), (.val (str (ap ifB [b, yesT, noT]).val.sp)), (.val (str (ap ifB [b, yesT, noT]).val.sn)), (.val (str (ap ifB [b, yesT, noT]).val.text)), (.row (List.map Ob.enc (ap ifB [b, yesT, noT]).val.pair)), (.row (List.map enc (ap ifB [b, yesT, noT]).args))], [(.val (vi ((ap ifB [b, noT, yesT]).kind))), (.val (str (ap ifB [b, noT, yesT]).np)), (.val (str (ap ifB [b, noT, yesT]).nn)), (.val (vi ((ap ifB [b, noT, yesT]).val.kind))), (.val (str (ap ifB [b, noT, yesT]).val.num)), (.val (str (ap ifB [b, noT, yesT]).val.den)), (.val (str (ap ifB [b, noT, yesT]).val.sp)), (.val (str (ap ifB [b, noT, yesT]).val.sn)), (.val (str (ap ifB [b, noT, yesT]).val.text)), (.row (List.map Ob.enc (ap ifB [b, noT, yesT]).val.pair)), (.row (List.map enc (ap ifB [b, noT, yesT]).args))]]))] (.agg [(inA ((ap ifB [a, ap ifB [b, yesT, noT], ap ifB [b, noT, yesT]]).kind)), (stA (ap ifB [a, ap ifB [b, yesT, noT], ap ifB [b, noT, yesT]]).np), (stA (ap ifB [a, ap ifB [b, yesT, noT], ap ifB [b, noT, yesT]]).nn), (inA ((ap ifB [a, ap ifB [b, yesT, noT], ap ifB [b, noT, yesT]]).val.kind)), (stA (ap ifB [a, ap ifB [b, yesT, noT], ap ifB [b, noT, yesT]]).val.num), (stA (ap ifB [a, ap ifB [b, yesT, noT], ap ifB [b, noT, yesT]]).val.den), (stA (ap ifB [a, ap ifB [b, yesT, noT], ap ifB [b, noT, yesT]]).val.sp), (stA (ap ifB [a, ap ifB [b, yesT, noT], ap ifB [b, noT, yesT]]).val.sn), (stA (ap ifB [a, ap ifB [b, yesT, noT], ap ifB [b, noT, yesT]]).val.text), (.dt (.row (List.map Ob.enc (ap ifB [a, ap ifB [b, yesT, noT], ap ifB [b, noT, yesT]]).val.pair))), (.dt (.row (List.map enc (ap ifB [a, ap ifB [b, yesT, noT], ap ifB [b, noT, yesT]]).args)))])]) Tryz.func93 (by kernel_rfl) (by kernel_rfl) ⟨p_constant true, p_constant false, (p_is t notB 1).b (noD h), (p_is t impB 2).b (noD h2), (p_is t iffB 2).b (yesD h3), ix_te h0, ix_te h1, p_tLisp3 ifB b yesT noT, ix_te h1, p_tLisp3 ifB b noT yesT, p_tLisp3 ifB a (ap ifB [b, yesT, noT]) (ap ifB [b, noT, yesT]), trivial⟩
  rw [if_neg h3]
  exact pwalk (an := [.av (teA yesT), .av (teA noT), yF, yF, yF]) (ls := []) (ps := [Puk 58 [(boA true)] (.agg [(inA 2), (stA yesT.np), (stA yesT.nn), (inA 2), (stA yesT.val.num), (stA yesT.val.den), (stA yesT.val.sp), (stA yesT.val.sn), (stA yesT.val.text), (.dt (.row (List.map Ob.enc yesT.val.pair))), (.dt (.row (List.map enc yesT.args)))]), Puk 58 [(boA false)] (.agg [(inA 2), (stA noT.np), (stA noT.nn), (inA 2), (stA noT.val.num), (stA noT.val.den), (stA noT.val.sp), (stA noT.val.sn), (stA noT.val.text), (.dt (.row (List.map Ob.enc noT.val.pair))), (.dt (.row (List.map enc noT.args)))]), Puk 56 [(.agg [(inA t.kind), (stA t.np), (stA t.nn), (inA t.val.kind), (stA t.val.num), (stA t.val.den), (stA t.val.sp), (stA t.val.sn), (stA t.val.text), (.dt (.row (List.map Ob.enc t.val.pair))), (.dt (.row (List.map enc t.args)))]), (stA [110, 111, 116]), (inA 1)] (boA false), Puk 56 [(.agg [(inA t.kind), (stA t.np), (stA t.nn), (inA t.val.kind), (stA t.val.num), (stA t.val.den), (stA t.val.sp), (stA t.val.sn), (stA t.val.text), (.dt (.row (List.map Ob.enc t.val.pair))), (.dt (.row (List.map enc t.args)))]), (stA [105, 109, 112, 108, 105, 101, 115]), (inA 2)] (boA false), Puk 56 [(.agg [(inA t.kind), (stA t.np), (stA t.nn), (inA t.val.kind), (stA t.val.num), (stA t.val.den), (stA t.val.sp), (stA t.val.sn), (stA t.val.text), (.dt (.row (List.map Ob.enc t.val.pair))), (.dt (.row (List.map enc t.args)))]), (stA [105, 102, 102]), (inA 2)] (boA false)]) Tryz.func93 (by kernel_rfl) (by kernel_rfl) ⟨p_constant true, p_constant false, (p_is t notB 1).b (noD h), (p_is t impB 2).b (noD h2), (p_is t iffB 2).b (noD h3), trivial⟩
end Go.Proofs.YtendgffijciehaaGreatDoor
/- Plain walks: an empty slice seen as a row that grows. -/
namespace Go.Proofs.YtendgffijciehaaGreatDoor
open Go.RowKit

section
variable {X : Nat → Prop} {n0 : Nat} {w0 : World × Mm} {ok0 : Nat → Prop} {M : Mm} {nt : Nat} {tm : Nat → AV} {bx : Nat → Option Bx} {a : Act} {w : World}
def Mm.own0 (M : Mm) (k : Nat) : Mm := ⟨M.m, M.F, fun b => if b = k then some (none, 0, 0) else M.o b⟩
theorem Mm.own0_at (M : Mm) (k : Nat) : (M.own0 k).o k = some (none, 0, 0) := if_pos rfl
theorem go_own0 {X' : Nat → Prop} {m0 : Nat} {k : Nat} (hS : Sto X n0 M bx w) (hk : bx k = none) : Go1 X' m0 M w (M.own0 k) w :=
  ⟨Bel.refl _ _ _, fun _ _ _ => rfl, fun _ h _ => h, fun _ _ h => h, fun b A n c h => by
    by_cases e : b = k
    · subst e; rw [hS.fresh_o hk] at h; cases h
    · exact ⟨A, n, c, (if_neg e).trans h, Nat.le_refl _, fun _ => ⟨rfl, rfl⟩⟩⟩
theorem sto_own0 {k : Nat} (hS : Sto X n0 M bx w) (le : n0 ≤ w.heap.size) (hk : bx k = none) (e : TypeId) (kk : Nat) : Sto X n0 (M.own0 k) (updX1 bx k (.buf e kk [])) w :=
  hS.upd (go_own0 hS hk) le (fun _ hb => ⟨rfl, if_neg hb⟩) (fun _ _ _ => rfl) (fun q hq => ⟨hS.fz q hq, .inl hq⟩) ⟨none, 0, 0, M.own0_at k, OwnD.nil _ _ _ _ _⟩
    (fun q ⟨n, c, hq⟩ => by rw [M.own0_at k] at hq; cases hq) (fun q hq => by rw [show (M.own0 k).m k = M.m k from rfl, hS.fresh_m hk] at hq; cases hq)
theorem rv_own0 {k : Nat} {v : Value} (h : RV M w .nil v) : RV (M.own0 k) w (.own k 0) v := ⟨none, 0, none, 0, 0, h, M.own0_at k, Nat.le_refl _, fun _ => ⟨rfl, rfl⟩⟩
theorem Inv.own0 (h : Inv X n0 w0 ok0 M nt tm bx a w) {t k : Nat} (ht : tm t = .nil) (hk : bx k = none) (e : TypeId) (kk : Nat) :
    Inv X n0 w0 ok0 (M.own0 k) nt (fun i => if i = t then .own k 0 else tm i) (updX1 bx k (.buf e kk [])) a w := by
  have g : Go1 X n0 M w (M.own0 k) w := go_own0 h.sto hk
  refine ⟨h.below, h.le, h.defers, h.size, fun i => ?_, sto_own0 h.sto h.le hk e kk, h.src, h.anc.trans g⟩
  by_cases hi : i = t
  · subst hi
    have hv := h.tmps i
    rw [ht] at hv
    show RV _ _ (if i = i then _ else _) _
    rw [if_pos rfl]
    exact rv_own0 hv
  · show RV _ _ (if i = t then _ else _) _
    rw [if_neg hi]
    exact RV.go g _ _ (h.tmps i)
end
/-- a function that returns a slice without room -/
def afunF (E : En) (fn : Func) (args : List AV) (an : List An) (ls : List LA) : Option (List (List Dt) × List Prop) := match fn.body with
  | none => none
  | some c => match acode E c ⟨args ++ List.replicate (fn.ntmps - args.length) (.dt (.val undef)), []⟩ an ls with
    | some (.out _, _) => none
    | none => none
    | some (_, s, ps, _, _) => match ares E.P s fn.results.toList with
      | some [.ful es] => some (es, ps)
      | _ => none
theorem walkF {E : En} (hG : ∀ w w', E.G w → Below w.heap.size w w' → E.G w') {f : FuncId} {fn : Func} (hf : E.P.funcs[f]? = some fn) (hn : (fn.name == "runtime.NumGoroutine") = false)
    {args : List AV} {an : List An} {ls : List LA} {es : List (List Dt)} {ps : List Prop} (h : afunF E fn args an ls = some (es, ps)) (hp : AllP ps) : PureOK E.P E.G f args (.ful es) := by
  unfold afunF at h
  have key : ∃ c e s an' ls', fn.body = some c ∧ acode E c ⟨args ++ List.replicate (fn.ntmps - args.length) (.dt (.val undef)), []⟩ an ls = some (e, s, ps, an', ls') ∧ (∀ i, e ≠ .out i) ∧ ares E.P s fn.results.toList = some [.ful es] := by
    split at h
    · cases h
    · rename_i c hb
      split at h
      · cases h
      · cases h
      · rename_i e s ps' an' ls' hne hc
        split at h
        · rename_i es' hcs
          cases h
          exact ⟨c, e, s, an', ls', hb, hc, fun i he => by subst he; exact hne _ rfl, hcs⟩
        · cases h
  obtain ⟨c, e, s, an', ls', hb, hc, hne, hcs⟩ := key
  refine ⟨⟨fn, hf, by rw [hb]; rfl, hn⟩, fun ok w vs hw hargs => ?_⟩
  obtain ⟨hlen, htri⟩ := acode_sound hc hp
  have hal := hargs.len
  refine calls_of_wp hf hb (wp_mono (htri (fun _ => False) w.heap.size (w, M0 fun b => ok b ∧ b < w.heap.size) ok _ w ⟨fun w' hb => hG w w' hw hb.below, fun _ _ => ⟨rfl, rfl⟩⟩ ⟨M0 fun b => ok b ∧ b < w.heap.size, ?_⟩) ?_)
  · have nobx : ∀ b x, (AS.mk (args ++ List.replicate (fn.ntmps - args.length) (.dt (.val undef))) []).bxf b ≠ some x := fun b x h => by simp [AS.bxf] at h
    refine ⟨Bel.refl _ _ _, Nat.le_refl _, rfl, ?_, ?_, ⟨fun b x h => absurd h (nobx b x), fun b x _ h => absurd h (nobx b x), fun b _ x _ _ h => absurd h (nobx b x), (fun b g h => by cases h), (fun b v h => by cases h), fun b hb => hb.2⟩, fun b hb _ => .inl hb.1, Go1.refl _ _ _ _⟩
    · simp [hal]
    · intro t
      have hargs' : RL (M0 fun b => ok b ∧ b < w.heap.size) w args vs := RL.flatter (fun b hb hl => ⟨hb, hl⟩) hargs
      by_cases ht : t < args.length
      · obtain ⟨u, hu1, hu2⟩ := hargs'.get (i := t) (c := args[t]) (List.getElem?_eq_getElem ht)
        have e1 : (AS.mk (args ++ List.replicate (fn.ntmps - args.length) (.dt (.val undef))) []).tmf t = args[t] := by
          unfold AS.tmf
          simp [List.getElem?_append_left ht, ht]
        have e2 : (vs.toArray ++ Array.replicate (fn.ntmps - vs.toArray.size) undef).getD t undef = u := by
          have ht' : t < vs.length := by omega
          simp only [Array.getD_eq_getD_getElem?]
          rw [Array.getElem?_append_left (by simpa using ht')]
          simp [hu1]
        rw [e1, e2]
        exact hu2
      · have e1 : (AS.mk (args ++ List.replicate (fn.ntmps - args.length) (.dt (.val undef))) []).tmf t = .dt (.val undef) := by
          unfold AS.tmf
          rw [List.getD_eq_getElem?_getD, List.getElem?_append_right (by omega), List.getElem?_replicate]
          split <;> rfl
        have e2 : (vs.toArray ++ Array.replicate (fn.ntmps - vs.toArray.size) undef).getD t undef = undef := by
          simp only [Array.getD_eq_getD_getElem?]
          rw [Array.getElem?_append_right (by simp; omega), Array.getElem?_replicate]
          split <;> rfl
        rw [e1, e2]
        exact rv_undef
  · rintro x a' w' ⟨rfl, M, hI⟩
    obtain ⟨us, h1, u, us', rfl, ⟨A, hA, hr⟩, hu2⟩ := ares_run hI hcs
    obtain rfl : us' = [] := hu2
    have hR : ∃ v, (results fn a'.tmps).run E.P w' = .ok v w' ∧ (fun e w' => ∃ v, e = Ending.returned v ∧ Below w.heap.size w w' ∧ RV (M0 fun b => ok b ∨ w.heap.size ≤ b) w' (.ful es) v) (.returned v) w' := by
      refine ⟨_, results_run h1, _, rfl, hI.below.below, A, hA, ?_⟩
      subst hA
      refine hr.mono fun b hb _ => ?_
      by_cases e : b < w.heap.size
      · rcases hI.src b hb e with h | h
        · exact .inl h
        · exact h.elim
      · exact .inr (by omega)
    cases e with
    | nxt => exact ⟨hI.defers, hR⟩
    | ret => exact ⟨hI.defers, hR⟩
    | out i => exact absurd rfl (hne i)
/-- a piece of code that begins with an empty slice in slot t -/
theorem Tri.own0 {E : En} {c : Code} {s s' : AS} {e : AE} (t : Nat) (T : TypeId) (kk : Nat) (hl : t < s.tm.length) (ht : s.tmf t = .nil) (h : Tri E c ⟨s.tm.set t (.own s.bx.length 0), s.bx ++ [some (.buf T kk [])]⟩ e s') : Tri E c s e s' := by
  obtain ⟨h1, h2⟩ := h
  have hlen : (s.tm.set t (.own s.bx.length 0)).length = s.tm.length := List.length_set ..
  refine ⟨h1.trans hlen, fun X n0 w0 ok0 a w hG ⟨M, hI⟩ => ?_⟩
  have hb : s.bxf s.bx.length = none := by unfold AS.bxf; rw [List.getElem?_eq_none (Nat.le_refl _)]
  have hI2 := hI.own0 ht hb T kk
  have e1 : (AS.mk (s.tm.set t (.own s.bx.length 0)) (s.bx ++ [some (.buf T kk [])])).tmf = fun i => if i = t then .own s.bx.length 0 else s.tmf i := by
    funext i
    unfold AS.tmf
    by_cases hi : i = t
    · subst hi
      simp [List.getD_eq_getElem?_getD, hl]
    · simp [List.getD_eq_getElem?_getD, Ne.symm hi, hi]
  have e2 : (AS.mk (s.tm.set t (.own s.bx.length 0)) (s.bx ++ [some (.buf T kk [])])).bxf = updX1 s.bxf s.bx.length (.buf T kk []) := by
    funext k
    unfold AS.bxf
    by_cases hk : k = s.bx.length
    · subst hk
      simp
    · simp only [if_neg hk]
      rcases Nat.lt_or_ge k s.bx.length with hlt | hge
      · rw [List.getElem?_append_left hlt]
      · rw [List.getElem?_eq_none (by simp; omega), List.getElem?_eq_none hge]
  have hL : Left X n0 w0 ok0 (AS.mk (s.tm.set t (.own s.bx.length 0)) (s.bx ++ [some (.buf T kk [])])).tm.length (AS.mk (s.tm.set t (.own s.bx.length 0)) (s.bx ++ [some (.buf T kk [])])).tmf (AS.mk (s.tm.set t (.own s.bx.length 0)) (s.bx ++ [some (.buf T kk [])])).bxf a w := by
    rw [e1, e2, show (AS.mk (s.tm.set t (.own s.bx.length 0)) (s.bx ++ [some (.buf T kk [])])).tm.length = s.tm.length from hlen]
    exact ⟨_, hI2⟩
  have := h2 X n0 w0 ok0 a w hG hL
  rw [show (AS.mk (s.tm.set t (.own s.bx.length 0)) (s.bx ++ [some (.buf T kk [])])).tm.length = s.tm.length from hlen] at this
  exact this
/-- a row that grows no more, behind a piece of code -/
theorem Tri.frz {E : En} {c : Code} {s s' : AS} {e : AE} (t b : Nat) {T : TypeId} {kk : Nat} {es : List (List Dt)} (htl : t < s'.tm.length) (hb : s'.bx[b]? = some (some (.buf T kk es))) (ht : s'.tmf t = .own b es.length) (h : Tri E c s e s') : Tri E c s e ⟨s'.tm.set t (.dt (.row es)), s'.bx.set b (some (.fzn es))⟩ := by
  obtain ⟨h1, h2⟩ := h
  refine ⟨(List.length_set ..).trans h1, fun X n0 w0 ok0 a w hG hL => wp_mono (h2 X n0 w0 ok0 a w hG hL) ?_⟩
  rintro x a' w' ⟨rfl, M, hI⟩
  refine ⟨rfl, ?_⟩
  have hbl : b < s'.bx.length := (List.getElem?_eq_some_iff.1 hb).1
  have hbf : s'.bxf b = some (.buf T kk es) := by unfold AS.bxf; rw [hb]
  obtain ⟨M', g, hS, hm, ho, hF⟩ := hI.sto.frz hbf
  have e1 : (AS.mk (s'.tm.set t (.dt (.row es))) (s'.bx.set b (some (.fzn es)))).tmf = fun i => if i = t then .dt (.row es) else s'.tmf i := by
    funext i
    unfold AS.tmf
    by_cases hi : i = t
    · subst hi
      simp [List.getD_eq_getElem?_getD, htl]
    · simp [List.getD_eq_getElem?_getD, Ne.symm hi, hi]
  have e2 : (AS.mk (s'.tm.set t (.dt (.row es))) (s'.bx.set b (some (.fzn es)))).bxf = updX1 s'.bxf b (.fzn es) := by
    funext k
    unfold AS.bxf
    by_cases hk : k = b
    · subst hk
      simp [hbl]
    · simp only [if_neg hk]
      rw [List.getElem?_set_ne (Ne.symm hk)]
  rw [e1, e2]
  refine ⟨M', hI.below, hI.le, hI.defers, hI.size, fun i => ?_, hS, fun q hq hl => ?_, hI.anc.trans g⟩
  · by_cases hi : i = t
    · subst hi
      have hv := hI.tmps i
      rw [ht] at hv
      obtain ⟨A, c1, A', n', c', hv1, hv2, hv3, hv4⟩ := hv
      obtain ⟨A2, n2, c2, k1, k2⟩ := hS.box b (.fzn es) (if_pos rfl)
      rw [ho, hv2] at k1
      cases k1
      have hn := k2.len
      obtain ⟨rfl, rfl⟩ := hv4 hn
      show RV _ _ (if i = i then _ else _) _
      rw [if_pos rfl, hv1, hn]
      exact k2
    · show RV _ _ (if i = t then _ else _) _
      rw [if_neg hi]
      exact RV.go g _ _ (hI.tmps i)
  · rcases hF q hq with e | e | e
    · exact hI.src q e hl
    · omega
    · exact .inr e
/-- a function that is handed a struct whose first field is an empty slice -/
theorem SOK.own0 {P : Program} {G : World → Prop} {f : FuncId} {args : List AV} {cs : List AV} {T : TypeId} {kk : Nat} {r : AV} {xs' : List (Option Bx)} (h : SOK P G f args [some (.cells (.own 1 0 :: cs)), some (.buf T kk [])] r xs') : SOK P G f args [some (.cells (.nil :: cs))] r xs' := by
  refine ⟨h.1, fun X M w vs hG hS hargs => ?_⟩
  have hk : lk [some (.cells (.nil :: cs))] 1 = none := rfl
  have g : Go1 X w.heap.size M w (M.own0 1) w := go_own0 hS hk
  have hS2 := sto_own0 hS (Nat.le_refl _) hk T kk
  have hb0 : updX1 (lk [some (.cells (.nil :: cs))]) 1 (.buf T kk []) 0 = some (.cells (.nil :: cs)) := rfl
  have far : ∀ b, updX1 (lk [some (.cells (.nil :: cs))]) 1 (.buf T kk []) (b + 2) = none := fun b => by
    show (if b + 2 = 1 then _ else _) = _
    rw [if_neg (by omega)]
    rfl
  have e0 : ∀ b x, b ≠ 0 → lk [some (.cells (.own 1 0 :: cs)), some (.buf T kk [])] b = some x → updX1 (lk [some (.cells (.nil :: cs))]) 1 (.buf T kk []) b = some x := by
    intro b x hb hx
    match b, hb with
    | 1, _ => exact hx
    | b + 2, _ => simp [lk] at hx
  have old : ∀ b x q, lk [some (.cells (.own 1 0 :: cs)), some (.buf T kk [])] b = some x → Hx (M.own0 1) b x q → ∃ y, updX1 (lk [some (.cells (.nil :: cs))]) 1 (.buf T kk []) b = some y ∧ Hx (M.own0 1) b y q := by
    intro b x q hx hq
    by_cases hb : b = 0
    · subst hb
      cases hx
      exact ⟨_, hb0, hq⟩
    · exact ⟨x, e0 b x hb hx, hq⟩
  have hS3 : Sto X w.heap.size (M.own0 1) (lk [some (.cells (.own 1 0 :: cs)), some (.buf T kk [])]) w := by
    refine ⟨fun b x hx => ?_, fun b x q hx hq => ?_, fun b b' x x' q h1 h2 h3 h4 => ?_, fun b q hq => ?_, fun b v hv => ?_, hS2.fz⟩
    · by_cases hb : b = 0
      · subst hb
        cases hx
        obtain ⟨gg, T', us, k1, k2, u, us', rfl, k3, k4⟩ := hS2.box 0 _ hb0
        exact ⟨gg, T', _, k1, k2, u, us', rfl, ⟨none, 0, none, 0, 0, k3, M.own0_at 1, Nat.le_refl _, fun _ => ⟨rfl, rfl⟩⟩, k4⟩
      · exact hS2.box b x (e0 b x hb hx)
    · obtain ⟨y, h1, h2⟩ := old b x q hx hq
      exact hS2.dom b y q h1 h2
    · obtain ⟨y, k1, k2⟩ := old b x q h1 h3
      obtain ⟨y', k1', k2'⟩ := old b' x' q h2 h4
      exact hS2.inj b b' y y' q k1 k1' k2 k2'
    · obtain ⟨x, h1, h2⟩ := hS2.hm b q hq
      match b, h1 with
      | 0, _ => exact ⟨_, rfl, rfl⟩
      | 1, h1 => exact ⟨x, h1, h2⟩
      | b + 2, h1 => rw [far b] at h1; cases h1
    · have h1 := hS2.ho b v hv
      match b, h1 with
      | 0, _ => rfl
      | 1, _ => rfl
      | b + 2, h1 => rw [far b] at h1; cases h1
  refine (h.2 X (M.own0 1) w vs hG hS3 (RL.go g _ _ hargs)).mono fun e w' ⟨v, M', h1, h2, h3, h4, h5⟩ => ⟨v, M', h1, g.trans h2, h3, fun b hb => h4 b hb, h5⟩
end Go.Proofs.YtendgffijciehaaGreatDoor
/- The code's normalizer: 'fail'. -/
namespace Go.Proofs.YtendgffijciehaaGreatDoor
open Go.RowKit
open Te

abbrev encTs (l : List Te) : List (List Dt) := l.map Te.enc
abbrev bxN (cs : List (List Dt)) (ex er : Int) : List (Option Bx) := [some (.cells [.own 1 cs.length, inA ex, inA er]), some (.buf 29 1 cs)]
/-- a normalizer -/
abbrev bxS (s : NS) : List (Option Bx) := bxN (s.out.map encC) s.ex s.er
theorem src_te (l : List Te) : SrcOK 11 (encTs l) := by
  intro x hx
  obtain ⟨t, _, rfl⟩ := List.mem_map.1 hx
  rw [enc_T]
  refine ⟨rfl, fun d hd => ?_⟩
  simp only [List.mem_cons, List.not_mem_nil, or_false] at hd
  rcases hd with rfl | rfl | rfl | rfl | rfl | rfl | rfl | rfl | rfl | rfl | rfl <;> rfl
theorem src_te1 (t : Te) : SrcOK 11 [encT t] := row1 t ▸ src_te [t]
theorem src_c (d : List (List Dt)) : SrcOK 1 [[.row d]] := by
  intro x hx
  rw [List.mem_singleton] at hx
  subst hx
  exact ⟨rfl, fun d hd => by rw [List.mem_singleton] at hd; subst hd; rfl⟩
theorem fit_of {b n : Nat} (hb : b ≤ 200) (h : n ≤ 1000000) : FitB b n := ⟨by show n ≤ 2 ^ 63 - 1; omega, by
  have := Nat.mul_le_mul h hb
  omega⟩
abbrev flS (qs ms : List Te) (cs : List (List Dt)) (ex er : Int) (es : List (List Dt)) (i : Int) : AS := ⟨stt 48 [(0, .ptr 0 0), (2, tesA ms), (6, .own 2 es.length), (9, tesA qs), (10, inA qs.length), (11, inA i)], bxN cs ex er ++ [some (.buf 37 11 es)]⟩
noncomputable abbrev flB : Code := subC (bodyOf Tryz.f92) [1, 0, 1, 0, 0]
theorem flB1 {qs ms : List Te} {x y : Te} {i : Nat} {es cs : List (List Dt)} {ex er : Int} (hx : qs[i]? = some x) (hl : qs.length ≤ 100000) (he : es.length ≤ 100000) (h : Puk 23 [teA x] (teA y)) : Tri (EXn 2) flB (flS qs ms cs ex er es i) .nxt (flS qs ms cs ex er (es ++ [encT y]) ((i + 1 : Nat) : Int)) :=
  tw (E := EXn 2) (c := subC (bodyOf Tryz.f92) [1,0,1,0,0]) (s := flS qs ms cs ex er es i) (an := [yT, .av (.pin ((encT x).map .dt)), .av (teA y), .av (.un), .av (inA ((i+1 : Nat) : Int))]) (ls := []) (ft := [0,2,6,9,10,11]) (nb := 3) (e := .nxt) (s' := flS qs ms cs ex er (es ++ [encT y]) ((i + 1 : Nat) : Int)) (ps := [Bn .lss 3 (.tmp 11) (.tmp 10) (vi ↑i) (vi ↑qs.length) bT, IxAt (List.map Te.enc qs) ↑i 11 (encT x), Puk 23 [(teA x)] (teA y), (es.length) = (es.length), FitB 176 ((es ++ [encT y]).length), SrcOK 11 [encT y], Bn .add 3 (.tmp 11) (.const (vi 1)) (vi ↑i) (vi 1) (vi (↑(i + 1)))]) (by kernel_rfl)
    ⟨bin_ilt (decide_eq_true (by have := (List.getElem?_eq_some_iff.1 hx).1; omega)), ix_te hx, h, rfl, fit_of (by omega) (by simp; omega), src_te1 y, bin_iadd (by omega) (by omega) (by have := (List.getElem?_eq_some_iff.1 hx).1; omega), trivial⟩
theorem flB2 {qs ms : List Te} {i : Nat} {es cs : List (List Dt)} {ex er : Int} (hi : i = qs.length) : Tri (EXn 2) flB (flS qs ms cs ex er es i) (.out 0) (flS qs ms cs ex er es i) :=
  tw (E := EXn 2) (c := subC (bodyOf Tryz.f92) [1,0,1,0,0]) (s := flS qs ms cs ex er es i) (an := [yF]) (ls := []) (ft := [0,2,6,9,10,11]) (nb := 3) (e := .out 0) (s' := flS qs ms cs ex er es i) (ps := [Bn .lss 3 (.tmp 11) (.tmp 10) (vi ↑i) (vi ↑qs.length) bF]) (by kernel_rfl)
    ⟨bin_ilt (decide_eq_false (by omega)), trivial⟩
theorem fl_loop {qs ms : List Te} {cs : List (List Dt)} {ex er : Int} (hl : qs.length ≤ 100000) : ∀ (s : List Te) (i : Nat) (es : List (List Dt)), qs.drop i = s → i ≤ qs.length → es.length = i → Lps (EXn 2) flB (flS qs ms cs ex er es i) (.out 0) (flS qs ms cs ex er (es ++ encTs (s.map neg)) qs.length) := by
  intro s
  induction s with
  | nil =>
    intro i es hd hi he
    have e1 := congrArg List.length hd
    rw [List.length_drop, List.length_nil] at e1
    obtain rfl : i = qs.length := by omega
    rw [List.map_nil, show encTs [] = [] from rfl, List.append_nil]
    exact .stop (flB2 rfl) (fun h => by cases h)
  | cons x s ih =>
    intro i es hd hi he
    have hx : qs[i]? = some x := by rw [← List.head?_drop, hd]; rfl
    have hlt := (List.getElem?_eq_some_iff.1 hx).1
    have := ih (i + 1) (es ++ [encT (neg x)]) (by rw [← List.drop_drop, hd]; rfl) (by omega) (by simp [he])
    rw [List.append_assoc] at this
    have e : [encT (neg x)] ++ encTs (s.map neg) = encTs ((x :: s).map neg) := by rw [row1]; rfl
    rw [e] at this
    exact .more (flB1 hx hl (by omega) (p_neg x)) this
/-- the loop of 'fail', from an empty clause -/
theorem fl_tri {qs ms : List Te} {cs : List (List Dt)} {ex er : Int} (hl : qs.length ≤ 100000) : Tri (EXn 2) (.loop flB) ⟨stt 48 [(0, .ptr 0 0), (2, tesA ms), (6, .nil), (9, tesA qs), (10, inA qs.length), (11, inA 0)], bxN cs ex er⟩ (.out 0) (flS qs ms cs ex er (encTs (qs.map neg)) qs.length) := by
  have h := (fl_loop (ms := ms) (cs := cs) (ex := ex) (er := er) hl qs 0 [] rfl (Nat.zero_le _) rfl).tri
  exact Tri.own0 6 37 11 (by show 6 < 48; omega) rfl h
theorem neg_len (qs : List Te) : (encTs (qs.map neg)).length = qs.length := by simp [encTs]
/-- a clause is added -/
theorem p_fail (s : NS) (qs ms : List Te) (hl : qs.length ≤ 100000) (hm : ms.length ≤ 1000) (ho : s.out.length ≤ 400) : Suk 92 [.ptr 0 0, tesA qs, tesA ms] (bxS s) (.tup []) (bxS (s.fail id (qs.map neg ++ ms))) := by
  obtain ⟨out, ex, er⟩ := s
  dsimp only at ho
  have ht := fl_tri (ms := ms) (cs := out.map encC) (ex := ex) (er := er) hl
  have hlen := neg_len qs
  have hc : (qs.map neg ++ ms).length = (encTs (qs.map neg)).length + ms.length := by rw [hlen]; simp
  have happ : encTs (qs.map neg) ++ encTs ms = encTs (qs.map neg ++ ms) := List.map_append.symm
  unfold NS.fail
  rw [id, hc]
  generalize encTs (qs.map neg) = es at *
  have hsz : ((es.length + ms.length : Nat) : Int) = ((es ++ List.map Te.enc ms).length : Int) := by rw [List.length_append, List.length_map]
  by_cases h1 : 60 < es.length + ms.length
  · rw [if_pos (.inl h1)]
    generalize out.map encC = cs at *
    exact psw (n := 2) (ks := [0, 1]) (an := [.av (inA qs.length), .av (.un), .av (inA (es.length + ms.length : Nat)), yT]) (ls := [.inv [0,2,6,9,10,11] 2 (.out 0) (flS qs ms cs ex er es qs.length)]) (ps := [(vi ↑qs.length) = (vi (↑(List.map Te.enc qs).length)), Tri (EXn 2) (.loop (subC (bodyOf Tryz.f92) [1,0,1,0,0])) (⟨stt 48 [(0, .ptr 0 0), (2, tesA ms), (6, .nil), (9, tesA qs), (10, inA qs.length), (11, inA 0)], bxN cs ex er⟩) (.out 0) (flS qs ms cs ex er es qs.length), (es.length) = (es.length), FitB 176 ((es ++ List.map Te.enc ms).length), SrcOK 11 (List.map Te.enc ms), (vi (↑(es.length + ms.length))) = (vi (↑(es ++ List.map Te.enc ms).length)), Bn .gtr 3 (.tmp 25) (.const (vi 60)) (vi (↑(es.length + ms.length))) (vi 60) bT]) Tryz.func92 (by kernel_rfl) (by kernel_rfl) ⟨lenEncT _, ht, rfl, fit_of (by omega) (by rw [← Int.natCast_inj.1 hsz]; omega), src_te ms, congrArg _ hsz, bin_igt (decide_eq_true (by omega)), trivial⟩
  have hout : (out.map encC).length = out.length := List.length_map ..
  have hadd : (out ++ [qs.map neg ++ ms]).map encC = out.map encC ++ [[.row (encTs (qs.map neg ++ ms))]] := by rw [List.map_append]; rfl
  rw [← happ] at hadd
  by_cases h2 : 400 ≤ out.length
  · rw [if_pos (.inr h2)]
    generalize out.map encC = cs at *
    exact psw (n := 2) (ks := [0, 1]) (an := [.av (inA qs.length), .av (.un), .av (inA (es.length + ms.length : Nat)), yF, .no, yT]) (ls := [.inv [0,2,6,9,10,11] 2 (.out 0) (flS qs ms cs ex er es qs.length)]) (ps := [(vi ↑qs.length) = (vi (↑(List.map Te.enc qs).length)), Tri (EXn 2) (.loop (subC (bodyOf Tryz.f92) [1,0,1,0,0])) (⟨stt 48 [(0, .ptr 0 0), (2, tesA ms), (6, .nil), (9, tesA qs), (10, inA qs.length), (11, inA 0)], bxN cs ex er⟩) (.out 0) (flS qs ms cs ex er es qs.length), (es.length) = (es.length), FitB 176 ((es ++ List.map Te.enc ms).length), SrcOK 11 (List.map Te.enc ms), (vi (↑(es.length + ms.length))) = (vi (↑(es ++ List.map Te.enc ms).length)), Bn .gtr 3 (.tmp 25) (.const (vi 60)) (vi (↑(es.length + ms.length))) (vi 60) bF, Bn .geq 3 (.tmp 32) (.const (vi 400)) (vi ↑cs.length) (vi 400) bT]) Tryz.func92 (by kernel_rfl) (by kernel_rfl) ⟨lenEncT _, ht, rfl, fit_of (by omega) (by rw [← Int.natCast_inj.1 hsz]; omega), src_te ms, congrArg _ hsz, bin_igt (decide_eq_false (by omega)), bin_ige (decide_eq_true (by omega)), trivial⟩
  · rw [if_neg (fun h => h.elim h1 h2)]
    show Suk _ _ _ _ (bxN ((out ++ [qs.map neg ++ ms]).map encC) ex er)
    rw [hadd]
    generalize out.map encC = cs at *
    exact psw (n := 2) (ks := [0, 1]) (an := [.av (inA qs.length), .av (.un), .av (inA (es.length + ms.length : Nat)), yF, .no, yF, .av (.un)]) (ls := [.inv [0,2,6,9,10,11] 2 (.out 0) (flS qs ms cs ex er es qs.length)]) (ps := [(vi ↑qs.length) = (vi (↑(List.map Te.enc qs).length)), Tri (EXn 2) (.loop (subC (bodyOf Tryz.f92) [1,0,1,0,0])) (⟨stt 48 [(0, .ptr 0 0), (2, tesA ms), (6, .nil), (9, tesA qs), (10, inA qs.length), (11, inA 0)], bxN cs ex er⟩) (.out 0) (flS qs ms cs ex er es qs.length), (es.length) = (es.length), FitB 176 ((es ++ List.map Te.enc ms).length), SrcOK 11 (List.map Te.enc ms), (vi (↑(es.length + ms.length))) = (vi (↑(es ++ List.map Te.enc ms).length)), Bn .gtr 3 (.tmp 25) (.const (vi 60)) (vi (↑(es.length + ms.length))) (vi 60) bF, Bn .geq 3 (.tmp 32) (.const (vi 400)) (vi ↑cs.length) (vi 400) bF, ((es ++ List.map Te.enc ms).length) = ((es ++ List.map Te.enc ms).length), (cs.length) = (cs.length), FitB 24 ((cs ++ [[Dt.row (es ++ List.map Te.enc ms)]]).length), SrcOK 1 [[(.row (es ++ List.map Te.enc ms))]]]) Tryz.func92 (by kernel_rfl) (by kernel_rfl) ⟨lenEncT _, ht, rfl, fit_of (by omega) (by rw [← Int.natCast_inj.1 hsz]; omega), src_te ms, congrArg _ hsz, bin_igt (decide_eq_false (by omega)), bin_ige (decide_eq_false (by omega)), rfl, rfl, fit_of (by omega) (by simp; omega), src_c _, trivial⟩
end Go.Proofs.YtendgffijciehaaGreatDoor
