/- Plain walks: objects; contracts turned into plain ones. -/
import Derived.Test.YtgphkgmhcmffnaaGreatDoorQA
import Derived.Test.YtgphkgmhcmffnaaGreatDoorOrdWa
import Derived.Test.YtgphkgmhcmffnaaGreatDoorRar
namespace Go.Proofs.YtgphkgmhcmffnaaGreatDoor
open Go.RowKit

abbrev Puk (f : FuncId) (args : List AV) (r : AV) : Prop := PureOK Tryz.prog Tab f args r
/-- an object -/
abbrev obA (o : Ob) : AV := .agg [.dt (.val (.int .i64 o.kind)), .dt (.val (str o.num)), .dt (.val (str o.den)), .dt (.val (str o.sp)), .dt (.val (str o.sn)), .dt (.val (str o.text)), .dt (.row (o.pair.map Ob.enc))]
abbrev boA (b : Bool) : AV := .dt (.val (.bool b))
abbrev inA (n : Int) : AV := .dt (.val (.int .i64 n))
abbrev stA (l : List UInt8) : AV := .dt (.val (str l))
theorem RV.obj {M : Mm} {w : World} {o : Ob} {v : Value} (h : RV M w (obA o) v) : ∃ A n c, v = objV o (.slice A n c) ∧ Rd M.F w (.slice A n c) (.row (o.pair.map Ob.enc)) := by
  obtain ⟨vs, rfl, u0, _, rfl, h0, u1, _, rfl, h1, u2, _, rfl, h2, u3, _, rfl, h3, u4, _, rfl, h4, u5, _, rfl, h5, u6, _, rfl, h6, rfl⟩ := h
  obtain ⟨A, n, c, rfl, _⟩ := Rd.slice h6
  refine ⟨A, n, c, ?_, h6⟩
  rw [Rd.val_eq h0, Rd.val_eq h1, Rd.val_eq h2, Rd.val_eq h3, Rd.val_eq h4, Rd.val_eq h5]
theorem RV.ofObj {M : Mm} {w : World} {o : Ob} {A : Option Addr} {n c : Nat} (h : Rd M.F w (.slice A n c) (.row (o.pair.map Ob.enc))) : RV M w (obA o) (objV o (.slice A n c)) :=
  ⟨_, rfl, _, _, rfl, .val _, _, _, rfl, .val _, _, _, rfl, .val _, _, _, rfl, .val _, _, _, rfl, .val _, _, _, rfl, .val _, _, _, rfl, h, rfl⟩
theorem RL.one_obj {M : Mm} {w : World} {o : Ob} {vs : List Value} (h : RL M w [obA o] vs) : ∃ A n c, vs = [objV o (.slice A n c)] ∧ Rd M.F w (.slice A n c) (.row (o.pair.map Ob.enc)) := by
  obtain ⟨u, us, rfl, h1, rfl⟩ := h
  obtain ⟨A, n, c, rfl, h⟩ := h1.obj
  exact ⟨A, n, c, rfl, h⟩
theorem RL.two_obj {M : Mm} {w : World} {o o' : Ob} {vs : List Value} (h : RL M w [obA o, obA o'] vs) : ∃ A n c A' n' c', vs = [objV o (.slice A n c), objV o' (.slice A' n' c')] ∧ Rd M.F w (.slice A n c) (.row (o.pair.map Ob.enc)) ∧ Rd M.F w (.slice A' n' c') (.row (o'.pair.map Ob.enc)) := by
  obtain ⟨u, us, rfl, h1, h2⟩ := h
  obtain ⟨A, n, c, rfl, h⟩ := h1.obj
  obtain ⟨A', n', c', rfl, h'⟩ := RL.one_obj h2
  exact ⟨A, n, c, A', n', c', rfl, h, h'⟩
theorem RL.one_val {M : Mm} {w : World} {u : Value} {vs : List Value} (h : RL M w [.dt (.val u)] vs) : vs = [u] := by
  obtain ⟨x, us, rfl, h1, rfl⟩ := h
  rw [Rd.val_eq h1]
theorem RetObj.pure {ok : Nat → Prop} {r : Ob} {w w' : World} {e : Ending} (h : RetObj ok r w e w') : ∃ v, e = .returned v ∧ Below w.heap.size w w' ∧ RV ⟨fun _ => none, fun b => ok b ∨ w.heap.size ≤ b⟩ w' (obA r) v := by
  obtain ⟨A, n, c, rfl, h1, h2⟩ := h
  exact ⟨_, rfl, h2, RV.ofObj h1⟩
theorem RetBel.pure {ok : Nat → Prop} {r : Value} {w w' : World} {e : Ending} (h : RetBel r w e w') : ∃ v, e = .returned v ∧ Below w.heap.size w w' ∧ RV ⟨fun _ => none, fun b => ok b ∨ w.heap.size ≤ b⟩ w' (.dt (.val r)) v := by
  obtain ⟨rfl, h2⟩ := h
  exact ⟨_, rfl, h2, .val _⟩
abbrev Fn (f : FuncId) : Prop := ∃ fn, Tryz.prog.funcs[f]? = some fn ∧ fn.body.isNone = false ∧ (fn.name == "runtime.NumGoroutine") = false
theorem pk_oo {f : FuncId} (hf : Fn f) {o r : Ob} (h : ∀ (ok : Nat → Prop) (A : Option Addr) (n c : Nat) (w : World), Tab w → Rd ok w (.slice A n c) (.row (o.pair.map Ob.enc)) → Calls Tryz.prog f #[objV o (.slice A n c)] w (RetObj ok r w)) : Puk f [obA o] (obA r) :=
  ⟨hf, fun ok w vs ht hv => by
    obtain ⟨A, n, c, rfl, hr⟩ := hv.one_obj
    exact (h ok A n c w ht hr).mono fun _ _ => RetObj.pure⟩
theorem pk_ov {f : FuncId} (hf : Fn f) {o : Ob} {r : Value} (h : ∀ (ok : Nat → Prop) (A : Option Addr) (n c : Nat) (w : World), Tab w → Rd ok w (.slice A n c) (.row (o.pair.map Ob.enc)) → Calls Tryz.prog f #[objV o (.slice A n c)] w (RetBel r w)) : Puk f [obA o] (.dt (.val r)) :=
  ⟨hf, fun ok w vs ht hv => by
    obtain ⟨A, n, c, rfl, hr⟩ := hv.one_obj
    exact (h ok A n c w ht hr).mono fun _ _ => RetBel.pure⟩
theorem pk_vo {f : FuncId} (hf : Fn f) {u : Value} {r : Ob} (h : ∀ (ok : Nat → Prop) (w : World), Tab w → Calls Tryz.prog f #[u] w (RetObj ok r w)) : Puk f [.dt (.val u)] (obA r) :=
  ⟨hf, fun ok w vs ht hv => by
    obtain rfl := hv.one_val
    exact (h ok w ht).mono fun _ _ => RetObj.pure⟩
theorem pk_ooo {f : FuncId} (hf : Fn f) {o o' r : Ob} (h : ∀ (ok : Nat → Prop) (A A' : Option Addr) (n c n' c' : Nat) (w : World), Tab w → Rd ok w (.slice A n c) (.row (o.pair.map Ob.enc)) → Rd ok w (.slice A' n' c') (.row (o'.pair.map Ob.enc)) → Calls Tryz.prog f #[objV o (.slice A n c), objV o' (.slice A' n' c')] w (RetObj ok r w)) : Puk f [obA o, obA o'] (obA r) :=
  ⟨hf, fun ok w vs ht hv => by
    obtain ⟨A, n, c, A', n', c', rfl, hr, hr'⟩ := hv.two_obj
    exact (h ok A A' n c n' c' w ht hr hr').mono fun _ _ => RetObj.pure⟩
theorem pk_oov {f : FuncId} (hf : Fn f) {o o' : Ob} {r : Value} (h : ∀ (ok : Nat → Prop) (A A' : Option Addr) (n c n' c' : Nat) (w : World), Tab w → Rd ok w (.slice A n c) (.row (o.pair.map Ob.enc)) → Rd ok w (.slice A' n' c') (.row (o'.pair.map Ob.enc)) → Calls Tryz.prog f #[objV o (.slice A n c), objV o' (.slice A' n' c')] w (RetBel r w)) : Puk f [obA o, obA o'] (.dt (.val r)) :=
  ⟨hf, fun ok w vs ht hv => by
    obtain ⟨A, n, c, A', n', c', rfl, hr, hr'⟩ := hv.two_obj
    exact (h ok A A' n c n' c' w ht hr hr').mono fun _ _ => RetBel.pure⟩
theorem mixed : Tryz.prog.follows .mixedOrders = true := by kernel_rfl
/-- a function walked -/
theorem pwalk {f : FuncId} {fn : Func} (hf : Tryz.prog.funcs[f]? = some fn) (hn : (fn.name == "runtime.NumGoroutine") = false) {args : List AV} {an : List (Option AV)} {ls : List LA} {r : AV} {ps : List Prop} (h : afunB Tryz.prog Tab fn args an ls = some (r, ps)) (hp : AllP ps) : Puk f args r :=
  walkB mixed (fun _ _ h hb => h.below hb) hf hn h hp
theorem twalk {c : Code} {s s' : AS} {an : List (Option AV)} {ls : List LA} {ft : List Nat} {nb : Nat} {e : AE} {ps : List Prop} (h : acodeF Tryz.prog Tab c s an ls ft nb = some (e, s', ps)) (hp : AllP ps) : Tri Tryz.prog Tab c s e s' := tw mixed h hp
theorem fnm {f : FuncId} {fn : Func} (hf : Tryz.prog.funcs[f]? = some fn) (hb : fn.body.isNone = false) (hn : (fn.name == "runtime.NumGoroutine") = false) : Fn f := ⟨fn, hf, hb, hn⟩
theorem Puk.val {f : FuncId} {args : List AV} {a b : AV} (h : Puk f args a) (e : a = b) : Puk f args b := e ▸ h
theorem Puk.b {f : FuncId} {args : List AV} {a b : Bool} (h : Puk f args (boA a)) (e : a = b) : Puk f args (boA b) := e ▸ h
def Tr.isC : Tr → Bool
  | .cons _ _ => true
  | _ => false
abbrev trA (t : Tr) : AV := obA t.ob
abbrev encL (o : Ob) : List Dt := [.val (.int .i64 o.kind), .val (str o.num), .val (str o.den), .val (str o.sp), .val (str o.sn), .val (str o.text), .row (o.pair.map Ob.enc)]
theorem enc_L (o : Ob) : o.enc = encL o := Ob.enc_eq o
theorem ix_obj {l : List Ob} {i : Nat} {o : Ob} (h : l[i]? = some o) : IxAt (l.map Ob.enc) (i : Int) 7 (encL o) := ⟨Int.natCast_nonneg _, by
  rw [Int.toNat_natCast, List.getElem?_map, h]
  exact congrArg some (enc_L o), rfl⟩
theorem RetEq.pure {ok : Nat → Prop} {p : Prop} [Decidable p] {w w' : World} {e : Ending} (h : RetEq p w e w') : ∃ v, e = .returned v ∧ Below w.heap.size w w' ∧ RV ⟨fun _ => none, fun b => ok b ∨ w.heap.size ≤ b⟩ w' (boA (decide p)) v := by
  obtain ⟨b, rfl, hb, h2⟩ := h
  refine ⟨_, rfl, h2, ?_⟩
  rw [show decide p = b by cases b <;> simp_all]
  exact .val _
theorem RetEq.iff {p q : Prop} (h : p ↔ q) {w w' : World} {e : Ending} (hr : RetEq p w e w') : RetEq q w e w' := by
  obtain ⟨b, h1, h2, h3⟩ := hr
  exact ⟨b, h1, h2.trans h, h3⟩
theorem RetLeaf.pure {ok : Nat → Prop} {r : Ob} {w w' : World} {e : Ending} (hp : r.pair = []) (h : RetLeaf r w e w') : ∃ v, e = .returned v ∧ Below w.heap.size w w' ∧ RV ⟨fun _ => none, fun b => ok b ∨ w.heap.size ≤ b⟩ w' (obA r) v := RetObj.pure (ok := ok) (h.obj hp)
theorem RetNum.pure {ok : Nat → Prop} {q : Rat} {w w' : World} {e : Ending} (h : RetNum q w e w') : ∃ v, e = .returned v ∧ Below w.heap.size w w' ∧ RV ⟨fun _ => none, fun b => ok b ∨ w.heap.size ≤ b⟩ w' (trA (.num q)) v := by
  obtain ⟨A, c, rfl, h2⟩ := h
  exact ⟨_, rfl, h2, RV.ofObj (o := ratO q) (.nil _ _)⟩
theorem p_oCons (a d : Ob) : Puk 86 [obA a, obA d] (obA (consO a d)) :=
  pk_ooo (fnm Tryz.func86 rfl (by kernel_rfl)) fun ok A A' n c n' c' w _ h h' => oCons_any ok a d A A' n n' c c' w h h'
theorem p_oEq {k : Nat} {a : Tr} (b : Tr) (ha : a.Ok k) (hk : k ≤ 100000) : Puk 91 [trA a, trA b] (boA (decide (a = b))) :=
  ⟨fnm Tryz.func91 rfl (by kernel_rfl), fun ok w vs ht hv => by
    obtain ⟨A, n, c, A', n', c', rfl, hr, hr'⟩ := hv.two_obj
    exact (oEqual_any ok ok a.ob.size a.ob b.ob (Nat.le_refl _) (ha.wf hk) A A' n n' c c' w hr hr').mono fun e w' h => (RetEq.iff Tr.ob_iff h).pure⟩
theorem p_oLessN {k : Nat} {a b : Tr} (ha : a.Ok k) (hb : b.Ok k) (h1 : 1 ≤ k) (hk : k ≤ 10000) : Puk 92 [trA a, trA b] (boA (decide (a.val < b.val))) :=
  ⟨fnm Tryz.func92 rfl (by kernel_rfl), fun ok w vs ht hv => by
    obtain ⟨A, n, c, A', n', c', rfl, hr, hr'⟩ := hv.two_obj
    have e1 := hr.len
    have e2 := hr'.len
    rw [List.length_map] at e1 e2
    exact (oLess_any a.ob b.ob a.val b.val a.val_ob b.val_ob (ha.val h1) (hb.val h1) hk hk A A' n n' c c' e1 e2 w ht).mono fun _ _ => RetBel.pure⟩
theorem p_oSum {k : Nat} {a b : Tr} (ha : a.Ok k) (hb : b.Ok k) (h1 : 1 ≤ k) (hk : k ≤ 10000) : Puk 94 [trA a, trA b] (trA (.num (a.val + b.val))) :=
  ⟨fnm Tryz.func94 rfl (by kernel_rfl), fun ok w vs ht hv => by
    obtain ⟨A, n, c, A', n', c', rfl, hr, hr'⟩ := hv.two_obj
    have e1 := hr.len
    have e2 := hr'.len
    rw [List.length_map] at e1 e2
    exact (oSum_any a.ob b.ob a.val b.val a.val_ob b.val_ob (ha.val h1) (hb.val h1) hk hk A A' n n' c c' e1 e2 w ht).mono fun _ _ => RetNum.pure⟩
theorem p_oProd {k : Nat} {a b : Tr} (ha : a.Ok k) (hb : b.Ok k) (h1 : 1 ≤ k) (hk : k ≤ 10000) : Puk 99 [trA a, trA b] (trA (.num (a.val * b.val))) :=
  ⟨fnm Tryz.func99 rfl (by kernel_rfl), fun ok w vs ht hv => by
    obtain ⟨A, n, c, A', n', c', rfl, hr, hr'⟩ := hv.two_obj
    have e1 := hr.len
    have e2 := hr'.len
    rw [List.length_map] at e1 e2
    exact (oProduct_any a.ob b.ob a.val b.val a.val_ob b.val_ob (ha.val h1) (hb.val h1) hk hk A A' n n' c c' e1 e2 w ht).mono fun _ _ => RetNum.pure⟩
theorem p_oValid {k : Nat} {t : Tr} (h : t.Ok k) (hk : k ≤ 100000) : Puk 46 [trA t] (boA t.valid) :=
  pk_ov (fnm Tryz.func46 rfl (by kernel_rfl)) fun ok A n c w ht hr => by
    rw [← Tr.validB_ob]
    exact oValid_any ok t.ob (h.wf hk) (h.sm hk) A n c w ht hr
theorem p_rCons (a d : Ob) : Puk 30 [obA a, obA d] (obA (consO a d)) :=
  pk_ooo (fnm Tryz.func30 rfl (by kernel_rfl)) fun ok A A' n c n' c' w _ h h' => rCons_any ok a d A A' n n' c c' w h h'
theorem p_rEq {k : Nat} {a : Tr} (b : Tr) (ha : a.Ok k) (hk : k ≤ 100000) : Puk 19 [trA a, trA b] (boA (decide (a = b))) :=
  ⟨fnm Tryz.func19 rfl (by kernel_rfl), fun ok w vs ht hv => by
    obtain ⟨A, n, c, A', n', c', rfl, hr, hr'⟩ := hv.two_obj
    exact (rEqual_any ok ok a.ob.size a.ob b.ob (Nat.le_refl _) (ha.wf hk) A A' n n' c c' w hr hr').mono fun e w' h => (RetEq.iff Tr.ob_iff h).pure⟩
theorem p_rLessN {k : Nat} {a b : Tr} (ha : a.Ok k) (hb : b.Ok k) (h1 : 1 ≤ k) (hk : k ≤ 10000) : Puk 93 [trA a, trA b] (boA (decide (a.val < b.val))) :=
  ⟨fnm Tryz.func93 rfl (by kernel_rfl), fun ok w vs ht hv => by
    obtain ⟨A, n, c, A', n', c', rfl, hr, hr'⟩ := hv.two_obj
    have e1 := hr.len
    have e2 := hr'.len
    rw [List.length_map] at e1 e2
    exact (rLess_any a.ob b.ob a.val b.val a.val_ob b.val_ob (ha.val h1) (hb.val h1) hk hk A A' n n' c c' e1 e2 w ht).mono fun _ _ => RetBel.pure⟩
theorem p_rSum {k : Nat} {a b : Tr} (ha : a.Ok k) (hb : b.Ok k) (h1 : 1 ≤ k) (hk : k ≤ 10000) : Puk 63 [trA a, trA b] (trA (.num (a.val + b.val))) :=
  ⟨fnm Tryz.func63 rfl (by kernel_rfl), fun ok w vs ht hv => by
    obtain ⟨A, n, c, A', n', c', rfl, hr, hr'⟩ := hv.two_obj
    have e1 := hr.len
    have e2 := hr'.len
    rw [List.length_map] at e1 e2
    exact (rSum_any a.ob b.ob a.val b.val a.val_ob b.val_ob (ha.val h1) (hb.val h1) hk hk A A' n n' c c' e1 e2 w ht).mono fun _ _ => RetNum.pure⟩
theorem p_rProd {k : Nat} {a b : Tr} (ha : a.Ok k) (hb : b.Ok k) (h1 : 1 ≤ k) (hk : k ≤ 10000) : Puk 68 [trA a, trA b] (trA (.num (a.val * b.val))) :=
  ⟨fnm Tryz.func68 rfl (by kernel_rfl), fun ok w vs ht hv => by
    obtain ⟨A, n, c, A', n', c', rfl, hr, hr'⟩ := hv.two_obj
    have e1 := hr.len
    have e2 := hr'.len
    rw [List.length_map] at e1 e2
    exact (rProduct_any a.ob b.ob a.val b.val a.val_ob b.val_ob (ha.val h1) (hb.val h1) hk hk A A' n n' c c' e1 e2 w ht).mono fun _ _ => RetNum.pure⟩
theorem p_rValid {k : Nat} {t : Tr} (h : t.Ok k) (hk : k ≤ 100000) : Puk 72 [trA t] (boA t.valid) :=
  pk_ov (fnm Tryz.func72 rfl (by kernel_rfl)) fun ok A n c w ht hr => by
    rw [← Tr.validB_ob]
    exact rValid_any ok t.ob (h.wf hk) (h.sm hk) A n c w hr
theorem p_oInt (n : Int) (h0 : -9223372036854775808 ≤ n) (h1 : n ≤ 9223372036854775807) : Puk 80 [inA n] (trA (.num n)) :=
  ⟨fnm Tryz.func80 rfl (by kernel_rfl), fun ok w vs ht hv => by
    obtain rfl := hv.one_val
    exact (oInt_any n w ht h0 h1).mono fun _ _ h => RetLeaf.pure (r := (Tr.num n).ob) rfl (by
      show RetLeaf (ratO n) _ _ _
      rw [ratO_int]
      exact h)⟩
theorem p_rInt (n : Int) (h0 : -9223372036854775808 ≤ n) (h1 : n ≤ 9223372036854775807) : Puk 15 [inA n] (trA (.num n)) :=
  ⟨fnm Tryz.func15 rfl (by kernel_rfl), fun ok w vs ht hv => by
    obtain rfl := hv.one_val
    exact (rInt_any n w ht h0 h1).mono fun _ _ h => RetLeaf.pure (r := (Tr.num n).ob) rfl h⟩
theorem p_rIsCons (o : Ob) (hn : o.pair.length ≤ 9223372036854775807) : Puk 95 [obA o] (boA (decide (o.kind = 4 ∧ o.pair.length = 2))) :=
  pk_ov (fnm Tryz.func95 rfl (by kernel_rfl)) fun ok A n c w _ hr => by
    have e1 := hr.len
    rw [List.length_map] at e1
    rw [e1]
    exact rIsCons_any o A n c w (by omega)
theorem p_oNat (t : Tr) : Puk 74 [trA t] (boA t.isNat) := pk_ov (fnm Tryz.func74 rfl (by kernel_rfl)) fun _ A n c w _ _ => oNatural_t t A n c w
theorem p_rNat (t : Tr) : Puk 75 [trA t] (boA t.isNat) := pk_ov (fnm Tryz.func75 rfl (by kernel_rfl)) fun _ A n c w _ _ => rNatural_t t A n c w
theorem p_oZero (t : Tr) : Puk 85 [trA t] (boA t.isZ) := pk_ov (fnm Tryz.func85 rfl (by kernel_rfl)) fun _ A n c w _ _ => oZero_t t A n c w
theorem p_rZero (t : Tr) : Puk 60 [trA t] (boA t.isZ) := pk_ov (fnm Tryz.func60 rfl (by kernel_rfl)) fun _ A n c w _ _ => rZero_t t A n c w
theorem p_oInf (t : Tr) : Puk 90 [trA t] (boA t.inf) := pk_ov (fnm Tryz.func90 rfl (by kernel_rfl)) fun ok A n c w _ h => oInfinite_t ok t A n c w h
end Go.Proofs.YtgphkgmhcmffnaaGreatDoor
/- Ordinals: parts, of both texts, as plain walks. -/
namespace Go.Proofs.YtgphkgmhcmffnaaGreatDoor
open Go.RowKit

theorem ix_obj0 {o : Ob} {l : List Ob} : IxAt ((o :: l).map Ob.enc) 0 7 (encL o) := ix_obj (i := 0) rfl
theorem ix_obj1 {o o' : Ob} {l : List Ob} : IxAt ((o' :: o :: l).map Ob.enc) 1 7 (encL o) := ix_obj (i := 1) rfl
theorem p_oInt0 : Puk 80 [inA 0] (trA Tr.zero) := p_oInt 0 (by decide) (by decide)
theorem p_rInt0 : Puk 15 [inA 0] (trA Tr.zero) := p_rInt 0 (by decide) (by decide)
theorem Tr.coef_fin {t : Tr} (h : t.inf = false) : t.coef = t := by
  unfold Tr.coef
  split
  · cases h
  · rfl
theorem Tr.rest_fin {t : Tr} (h : t.inf = false) : t.rest = Tr.zero := by
  unfold Tr.rest
  split
  · cases h
  · rfl
theorem p_rIsConsT (t : Tr) : Puk 95 [trA t] (boA t.isC) := by
  refine (p_rIsCons t.ob ?_).b ?_
  · cases t <;> (show List.length _ ≤ _; simp [Tr.ob])
  · cases t with
    | num q => exact decide_eq_false fun h => absurd h.1 (by show ¬ (1 : Int) = 4; decide)
    | txt q => exact decide_eq_false fun h => absurd h.1 (by show ¬ (3 : Int) = 4; decide)
    | sym p q => exact decide_eq_false fun h => absurd h.1 (by show ¬ (2 : Int) = 4; decide)
    | cons a d => exact decide_eq_true ⟨rfl, rfl⟩
theorem p_rInf (t : Tr) : Puk 61 [trA t] (boA t.inf) := by
  cases t with
  | cons a d =>
    refine Puk.b (a := a.isC) ?_ (by cases a <;> rfl)
    exact pwalk (an := [some (boA true), some (.pin (encL a.ob)), some (boA a.isC)]) (ls := []) (ps := [Puk 95 [(obA ((a.cons d).ob))] (boA true), IxAt (List.map Ob.enc (a.cons d).ob.pair) 0 7 ([(.val (.int IntKind.i64 a.ob.kind)), (.val (.string ({ data := a.ob.num.toArray }))), (.val (.string ({ data := a.ob.den.toArray }))), (.val (.string ({ data := a.ob.sp.toArray }))), (.val (.string ({ data := a.ob.sn.toArray }))), (.val (.string ({ data := a.ob.text.toArray }))), (.row (List.map Ob.enc a.ob.pair))]), Puk 95 [(obA a.ob)] (boA a.isC)]) Tryz.func61 (by kernel_rfl) (by kernel_rfl) ⟨p_rIsConsT (.cons a d), ix_obj0, p_rIsConsT a, trivial⟩
  | num q => exact pwalk (an := [some (boA false)]) (ls := []) (ps := [Puk 95 [(obA ((Tr.num q).ob))] (boA false)]) Tryz.func61 (by kernel_rfl) (by kernel_rfl) ⟨p_rIsConsT (.num q), trivial⟩
  | txt q => exact pwalk (an := [some (boA false)]) (ls := []) (ps := [Puk 95 [(obA ((Tr.txt q).ob))] (boA false)]) Tryz.func61 (by kernel_rfl) (by kernel_rfl) ⟨p_rIsConsT (.txt q), trivial⟩
  | sym p q => exact pwalk (an := [some (boA false)]) (ls := []) (ps := [Puk 95 [(obA ((Tr.sym p q).ob))] (boA false)]) Tryz.func61 (by kernel_rfl) (by kernel_rfl) ⟨p_rIsConsT (.sym p q), trivial⟩
theorem p_oExp (t : Tr) : Puk 77 [trA t] (trA t.exp) := by
  rcases Tr.fin_or t with h | ⟨e, k, r, rfl⟩
  · rw [Tr.exp_fin h]
    exact pwalk (an := [some (boA false), some (trA Tr.zero)]) (ls := []) (ps := [Puk 90 [(obA t.ob)] (boA false), Puk 80 [(inA 0)] (obA Tr.zero.ob)]) Tryz.func77 (by kernel_rfl) (by kernel_rfl) ⟨(p_oInf t).b h, p_oInt0, trivial⟩
  · exact pwalk (an := [some (boA true), some (.pin (encL (consO e.ob k.ob))), some (.pin (encL e.ob))]) (ls := []) (ps := [Puk 90 [(obA (((e.cons k).cons r).ob))] (boA true), IxAt (List.map Ob.enc ((e.cons k).cons r).ob.pair) 0 7 ([(.val (.int IntKind.i64 ((consO e.ob k.ob).kind))), (.val (.string ({ data := (consO e.ob k.ob).num.toArray }))), (.val (.string ({ data := (consO e.ob k.ob).den.toArray }))), (.val (.string ({ data := (consO e.ob k.ob).sp.toArray }))), (.val (.string ({ data := (consO e.ob k.ob).sn.toArray }))), (.val (.string ({ data := (consO e.ob k.ob).text.toArray }))), (.row (List.map Ob.enc (consO e.ob k.ob).pair))]), IxAt (List.map Ob.enc (consO e.ob k.ob).pair) 0 7 ([(.val (.int IntKind.i64 e.ob.kind)), (.val (.string ({ data := e.ob.num.toArray }))), (.val (.string ({ data := e.ob.den.toArray }))), (.val (.string ({ data := e.ob.sp.toArray }))), (.val (.string ({ data := e.ob.sn.toArray }))), (.val (.string ({ data := e.ob.text.toArray }))), (.row (List.map Ob.enc e.ob.pair))])]) Tryz.func77 (by kernel_rfl) (by kernel_rfl) ⟨p_oInf (.cons (.cons e k) r), ix_obj0, ix_obj0, trivial⟩
theorem p_oCoef (t : Tr) : Puk 78 [trA t] (trA t.coef) := by
  rcases Tr.fin_or t with h | ⟨e, k, r, rfl⟩
  · rw [Tr.coef_fin h]
    exact pwalk (an := [some (boA false)]) (ls := []) (ps := [Puk 90 [(obA t.ob)] (boA false)]) Tryz.func78 (by kernel_rfl) (by kernel_rfl) ⟨(p_oInf t).b h, trivial⟩
  · exact pwalk (an := [some (boA true), some (.pin (encL (consO e.ob k.ob))), some (.pin (encL k.ob))]) (ls := []) (ps := [Puk 90 [(obA (((e.cons k).cons r).ob))] (boA true), IxAt (List.map Ob.enc ((e.cons k).cons r).ob.pair) 0 7 ([(.val (.int IntKind.i64 ((consO e.ob k.ob).kind))), (.val (.string ({ data := (consO e.ob k.ob).num.toArray }))), (.val (.string ({ data := (consO e.ob k.ob).den.toArray }))), (.val (.string ({ data := (consO e.ob k.ob).sp.toArray }))), (.val (.string ({ data := (consO e.ob k.ob).sn.toArray }))), (.val (.string ({ data := (consO e.ob k.ob).text.toArray }))), (.row (List.map Ob.enc (consO e.ob k.ob).pair))]), IxAt (List.map Ob.enc (consO e.ob k.ob).pair) 1 7 ([(.val (.int IntKind.i64 k.ob.kind)), (.val (.string ({ data := k.ob.num.toArray }))), (.val (.string ({ data := k.ob.den.toArray }))), (.val (.string ({ data := k.ob.sp.toArray }))), (.val (.string ({ data := k.ob.sn.toArray }))), (.val (.string ({ data := k.ob.text.toArray }))), (.row (List.map Ob.enc k.ob.pair))])]) Tryz.func78 (by kernel_rfl) (by kernel_rfl) ⟨p_oInf (.cons (.cons e k) r), ix_obj0, ix_obj1, trivial⟩
theorem p_oRest (t : Tr) : Puk 79 [trA t] (trA t.rest) := by
  rcases Tr.fin_or t with h | ⟨e, k, r, rfl⟩
  · rw [Tr.rest_fin h]
    exact pwalk (an := [some (boA false), some (trA Tr.zero)]) (ls := []) (ps := [Puk 90 [(obA t.ob)] (boA false), Puk 80 [(inA 0)] (obA Tr.zero.ob)]) Tryz.func79 (by kernel_rfl) (by kernel_rfl) ⟨(p_oInf t).b h, p_oInt0, trivial⟩
  · exact pwalk (an := [some (boA true), some (.pin (encL r.ob))]) (ls := []) (ps := [Puk 90 [(obA (((e.cons k).cons r).ob))] (boA true), IxAt (List.map Ob.enc ((e.cons k).cons r).ob.pair) 1 7 ([(.val (.int IntKind.i64 r.ob.kind)), (.val (.string ({ data := r.ob.num.toArray }))), (.val (.string ({ data := r.ob.den.toArray }))), (.val (.string ({ data := r.ob.sp.toArray }))), (.val (.string ({ data := r.ob.sn.toArray }))), (.val (.string ({ data := r.ob.text.toArray }))), (.row (List.map Ob.enc r.ob.pair))])]) Tryz.func79 (by kernel_rfl) (by kernel_rfl) ⟨p_oInf (.cons (.cons e k) r), ix_obj1, trivial⟩
theorem p_oPower (e k r : Ob) : Puk 49 [obA e, obA k, obA r] (obA (consO (consO e k) r)) :=
  pwalk (an := [some (obA (consO e k)), some (obA (consO (consO e k) r))]) (ls := []) (ps := [Puk 86 [(obA e), (obA k)] (obA (consO e k)), Puk 86 [(obA (consO e k)), (obA r)] (obA (consO (consO e k) r))]) Tryz.func49 (by kernel_rfl) (by kernel_rfl) ⟨p_oCons _ _, p_oCons _ _, trivial⟩
theorem p_rExp (t : Tr) : Puk 64 [trA t] (trA t.exp) := by
  rcases Tr.fin_or t with h | ⟨e, k, r, rfl⟩
  · rw [Tr.exp_fin h]
    exact pwalk (an := [some (boA false), some (trA Tr.zero)]) (ls := []) (ps := [Puk 61 [(obA t.ob)] (boA false), Puk 15 [(inA 0)] (obA Tr.zero.ob)]) Tryz.func64 (by kernel_rfl) (by kernel_rfl) ⟨(p_rInf t).b h, p_rInt0, trivial⟩
  · exact pwalk (an := [some (boA true), some (.pin (encL (consO e.ob k.ob))), some (.pin (encL e.ob))]) (ls := []) (ps := [Puk 61 [(obA (((e.cons k).cons r).ob))] (boA true), IxAt (List.map Ob.enc ((e.cons k).cons r).ob.pair) 0 7 ([(.val (.int IntKind.i64 ((consO e.ob k.ob).kind))), (.val (.string ({ data := (consO e.ob k.ob).num.toArray }))), (.val (.string ({ data := (consO e.ob k.ob).den.toArray }))), (.val (.string ({ data := (consO e.ob k.ob).sp.toArray }))), (.val (.string ({ data := (consO e.ob k.ob).sn.toArray }))), (.val (.string ({ data := (consO e.ob k.ob).text.toArray }))), (.row (List.map Ob.enc (consO e.ob k.ob).pair))]), IxAt (List.map Ob.enc (consO e.ob k.ob).pair) 0 7 ([(.val (.int IntKind.i64 e.ob.kind)), (.val (.string ({ data := e.ob.num.toArray }))), (.val (.string ({ data := e.ob.den.toArray }))), (.val (.string ({ data := e.ob.sp.toArray }))), (.val (.string ({ data := e.ob.sn.toArray }))), (.val (.string ({ data := e.ob.text.toArray }))), (.row (List.map Ob.enc e.ob.pair))])]) Tryz.func64 (by kernel_rfl) (by kernel_rfl) ⟨p_rInf (.cons (.cons e k) r), ix_obj0, ix_obj0, trivial⟩
theorem p_rCoef (t : Tr) : Puk 65 [trA t] (trA t.coef) := by
  rcases Tr.fin_or t with h | ⟨e, k, r, rfl⟩
  · rw [Tr.coef_fin h]
    exact pwalk (an := [some (boA false)]) (ls := []) (ps := [Puk 61 [(obA t.ob)] (boA false)]) Tryz.func65 (by kernel_rfl) (by kernel_rfl) ⟨(p_rInf t).b h, trivial⟩
  · exact pwalk (an := [some (boA true), some (.pin (encL (consO e.ob k.ob))), some (.pin (encL k.ob))]) (ls := []) (ps := [Puk 61 [(obA (((e.cons k).cons r).ob))] (boA true), IxAt (List.map Ob.enc ((e.cons k).cons r).ob.pair) 0 7 ([(.val (.int IntKind.i64 ((consO e.ob k.ob).kind))), (.val (.string ({ data := (consO e.ob k.ob).num.toArray }))), (.val (.string ({ data := (consO e.ob k.ob).den.toArray }))), (.val (.string ({ data := (consO e.ob k.ob).sp.toArray }))), (.val (.string ({ data := (consO e.ob k.ob).sn.toArray }))), (.val (.string ({ data := (consO e.ob k.ob).text.toArray }))), (.row (List.map Ob.enc (consO e.ob k.ob).pair))]), IxAt (List.map Ob.enc (consO e.ob k.ob).pair) 1 7 ([(.val (.int IntKind.i64 k.ob.kind)), (.val (.string ({ data := k.ob.num.toArray }))), (.val (.string ({ data := k.ob.den.toArray }))), (.val (.string ({ data := k.ob.sp.toArray }))), (.val (.string ({ data := k.ob.sn.toArray }))), (.val (.string ({ data := k.ob.text.toArray }))), (.row (List.map Ob.enc k.ob.pair))])]) Tryz.func65 (by kernel_rfl) (by kernel_rfl) ⟨p_rInf (.cons (.cons e k) r), ix_obj0, ix_obj1, trivial⟩
theorem p_rRest (t : Tr) : Puk 66 [trA t] (trA t.rest) := by
  rcases Tr.fin_or t with h | ⟨e, k, r, rfl⟩
  · rw [Tr.rest_fin h]
    exact pwalk (an := [some (boA false), some (trA Tr.zero)]) (ls := []) (ps := [Puk 61 [(obA t.ob)] (boA false), Puk 15 [(inA 0)] (obA Tr.zero.ob)]) Tryz.func66 (by kernel_rfl) (by kernel_rfl) ⟨(p_rInf t).b h, p_rInt0, trivial⟩
  · exact pwalk (an := [some (boA true), some (.pin (encL r.ob))]) (ls := []) (ps := [Puk 61 [(obA (((e.cons k).cons r).ob))] (boA true), IxAt (List.map Ob.enc ((e.cons k).cons r).ob.pair) 1 7 ([(.val (.int IntKind.i64 r.ob.kind)), (.val (.string ({ data := r.ob.num.toArray }))), (.val (.string ({ data := r.ob.den.toArray }))), (.val (.string ({ data := r.ob.sp.toArray }))), (.val (.string ({ data := r.ob.sn.toArray }))), (.val (.string ({ data := r.ob.text.toArray }))), (.row (List.map Ob.enc r.ob.pair))])]) Tryz.func66 (by kernel_rfl) (by kernel_rfl) ⟨p_rInf (.cons (.cons e k) r), ix_obj1, trivial⟩
theorem p_rPower (e k r : Ob) : Puk 50 [obA e, obA k, obA r] (obA (consO (consO e k) r)) :=
  pwalk (an := [some (obA (consO e k)), some (obA (consO (consO e k) r))]) (ls := []) (ps := [Puk 30 [(obA e), (obA k)] (obA (consO e k)), Puk 30 [(obA (consO e k)), (obA r)] (obA (consO (consO e k) r))]) Tryz.func50 (by kernel_rfl) (by kernel_rfl) ⟨p_rCons _ _, p_rCons _ _, trivial⟩
end Go.Proofs.YtgphkgmhcmffnaaGreatDoor
/- Ordinals: states of loops, plain functions. -/
namespace Go.Proofs.YtgphkgmhcmffnaaGreatDoor
open Go.RowKit

abbrev lessS (a b : Tr) : AS := ⟨stt 50 [(2, .ptr 0 0), (3, .ptr 1 0), (4, boA false)], [some (trA a).cells, some (trA b).cells]⟩
abbrev lessF (r : Bool) : AS := ⟨stt 50 [(4, boA r)], []⟩
end Go.Proofs.YtgphkgmhcmffnaaGreatDoor
/- Ordinals: less, of both texts. -/
namespace Go.Proofs.YtgphkgmhcmffnaaGreatDoor
open Go.RowKit

theorem lessB1 {m : Nat} {e k r e' k' r' : Tr} (hm : m ≤ 10000) (he : e.Ok m) (hne : e ≠ e') (ih : Puk 57 [trA e, trA e'] (boA (Tr.less e e'))) :
    Tri Tryz.prog Tab (subC (bodyOf Tryz.f57) [1, 0, 0, 0]) (lessS (.cons (.cons e k) r) (.cons (.cons e' k') r')) .ret (lessF (Tr.less e e')) :=
  twalk (c := subC (bodyOf Tryz.f57) [1,0,0,0]) (s := lessS (.cons (.cons e k) r) (.cons (.cons e' k') r')) (an := [some (boA true), some (boA true), some (trA e), some (trA e'), some (boA false), some (trA e), some (trA e'), some (boA (Tr.less e e'))]) (ls := []) (ft := [4]) (nb := 0) (e := .ret) (s' := lessF (Tr.less e e')) (ps := [Puk 90 [(obA (((e.cons k).cons r).ob))] (boA true), Puk 90 [(obA (((e'.cons k').cons r').ob))] (boA true), Puk 77 [(obA (((e.cons k).cons r).ob))] (obA e.ob), Puk 77 [(obA (((e'.cons k').cons r').ob))] (obA e'.ob), Puk 91 [(obA e.ob), (obA e'.ob)] (boA false), Puk 77 [(obA (((e.cons k).cons r).ob))] (obA e.ob), Puk 77 [(obA (((e'.cons k').cons r').ob))] (obA e'.ob), Puk 57 [(obA e.ob), (obA e'.ob)] (boA (e.less e'))]) (by kernel_rfl)
    ⟨p_oInf (.cons (.cons e k) r), p_oInf (.cons (.cons e' k') r'), p_oExp (.cons (.cons e k) r), p_oExp (.cons (.cons e' k') r'), (p_oEq e' he (by omega)).b (decide_eq_false hne), p_oExp (.cons (.cons e k) r), p_oExp (.cons (.cons e' k') r'), ih, trivial⟩
theorem lessB2 {m : Nat} {e k r k' r' : Tr} (h1 : 1 ≤ m) (hm : m ≤ 10000) (he : e.Ok m) (hk : k.Ok m) (hk' : k'.Ok m) (hne : k ≠ k') :
    Tri Tryz.prog Tab (subC (bodyOf Tryz.f57) [1, 0, 0, 0]) (lessS (.cons (.cons e k) r) (.cons (.cons e k') r')) .ret (lessF (decide (k.val < k'.val))) :=
  twalk (c := subC (bodyOf Tryz.f57) [1,0,0,0]) (s := lessS (.cons (.cons e k) r) (.cons (.cons e k') r')) (an := [some (boA true), some (boA true), some (trA e), some (trA e), some (boA true), some (trA k), some (trA k'), some (boA false), some (trA k), some (trA k'), some (boA (decide (k.val < k'.val)))]) (ls := []) (ft := [4]) (nb := 0) (e := .ret) (s' := lessF (decide (k.val < k'.val))) (ps := [Puk 90 [(obA (((e.cons k).cons r).ob))] (boA true), Puk 90 [(obA (((e.cons k').cons r').ob))] (boA true), Puk 77 [(obA (((e.cons k).cons r).ob))] (obA e.ob), Puk 77 [(obA (((e.cons k').cons r').ob))] (obA e.ob), Puk 91 [(obA e.ob), (obA e.ob)] (boA true), Puk 78 [(obA (((e.cons k).cons r).ob))] (obA k.ob), Puk 78 [(obA (((e.cons k').cons r').ob))] (obA k'.ob), Puk 91 [(obA k.ob), (obA k'.ob)] (boA false), Puk 78 [(obA (((e.cons k).cons r).ob))] (obA k.ob), Puk 78 [(obA (((e.cons k').cons r').ob))] (obA k'.ob), Puk 92 [(obA k.ob), (obA k'.ob)] (boA (decide (k.val < k'.val)))]) (by kernel_rfl)
    ⟨p_oInf (.cons (.cons e k) r), p_oInf (.cons (.cons e k') r'), p_oExp (.cons (.cons e k) r), p_oExp (.cons (.cons e k') r'), (p_oEq e he (by omega)).b (decide_eq_true rfl), p_oCoef (.cons (.cons e k) r), p_oCoef (.cons (.cons e k') r'), (p_oEq k' hk (by omega)).b (decide_eq_false hne), p_oCoef (.cons (.cons e k) r), p_oCoef (.cons (.cons e k') r'), p_oLessN hk hk' h1 hm, trivial⟩
theorem lessB3 {m : Nat} {e k r r' : Tr} (hm : m ≤ 10000) (he : e.Ok m) (hk : k.Ok m) :
    Tri Tryz.prog Tab (subC (bodyOf Tryz.f57) [1, 0, 0, 0]) (lessS (.cons (.cons e k) r) (.cons (.cons e k) r')) .nxt (lessS r r') :=
  twalk (c := subC (bodyOf Tryz.f57) [1,0,0,0]) (s := lessS (.cons (.cons e k) r) (.cons (.cons e k) r')) (an := [some (boA true), some (boA true), some (trA e), some (trA e), some (boA true), some (trA k), some (trA k), some (boA true), some (trA r), some (trA r')]) (ls := []) (ft := [2,3,4]) (nb := 2) (e := .nxt) (s' := lessS r r') (ps := [Puk 90 [(obA (((e.cons k).cons r).ob))] (boA true), Puk 90 [(obA (((e.cons k).cons r').ob))] (boA true), Puk 77 [(obA (((e.cons k).cons r).ob))] (obA e.ob), Puk 77 [(obA (((e.cons k).cons r').ob))] (obA e.ob), Puk 91 [(obA e.ob), (obA e.ob)] (boA true), Puk 78 [(obA (((e.cons k).cons r).ob))] (obA k.ob), Puk 78 [(obA (((e.cons k).cons r').ob))] (obA k.ob), Puk 91 [(obA k.ob), (obA k.ob)] (boA true), Puk 79 [(obA (((e.cons k).cons r).ob))] (obA r.ob), Puk 79 [(obA (((e.cons k).cons r').ob))] (obA r'.ob)]) (by kernel_rfl)
    ⟨p_oInf (.cons (.cons e k) r), p_oInf (.cons (.cons e k) r'), p_oExp (.cons (.cons e k) r), p_oExp (.cons (.cons e k) r'), (p_oEq e he (by omega)).b (decide_eq_true rfl), p_oCoef (.cons (.cons e k) r), p_oCoef (.cons (.cons e k) r'), (p_oEq k hk (by omega)).b (decide_eq_true rfl), p_oRest (.cons (.cons e k) r), p_oRest (.cons (.cons e k) r'), trivial⟩
theorem lessB4 {a b : Tr} (ha : a.inf = false) :
    Tri Tryz.prog Tab (subC (bodyOf Tryz.f57) [1, 0, 0, 0]) (lessS a b) (.out 0) (lessS a b) :=
  twalk (c := subC (bodyOf Tryz.f57) [1,0,0,0]) (s := lessS a b) (an := [some (boA false)]) (ls := []) (ft := [2,3,4]) (nb := 2) (e := .out 0) (s' := lessS a b) (ps := [Puk 90 [(obA a.ob)] (boA false)]) (by kernel_rfl) ⟨(p_oInf a).b ha, trivial⟩
theorem lessB5 {a b : Tr} (ha : a.inf = true) (hb : b.inf = false) :
    Tri Tryz.prog Tab (subC (bodyOf Tryz.f57) [1, 0, 0, 0]) (lessS a b) (.out 0) (lessS a b) :=
  twalk (c := subC (bodyOf Tryz.f57) [1,0,0,0]) (s := lessS a b) (an := [some (boA true), some (boA false)]) (ls := []) (ft := [2,3,4]) (nb := 2) (e := .out 0) (s' := lessS a b) (ps := [Puk 90 [(obA a.ob)] (boA true), Puk 90 [(obA b.ob)] (boA false)]) (by kernel_rfl) ⟨(p_oInf a).b ha, (p_oInf b).b hb, trivial⟩
theorem lessE1 {a b : Tr} {x : Bool} (h : Lps Tryz.prog Tab (subC (bodyOf Tryz.f57) [1, 0, 0, 0]) (lessS a b) .ret (lessF x)) : Puk 57 [trA a, trA b] (boA x) :=
  pwalk (an := []) (ls := [⟨[2,3,4], 2, .ret, lessF x⟩]) (ps := [Tri Tryz.prog Tab (.loop (subC (bodyOf Tryz.f57) [1,0,0,0])) (lessS a b) (.ret) (lessF x)]) Tryz.func57 (by kernel_rfl) (by kernel_rfl) ⟨h.tri, trivial⟩
theorem lessE2 {m : Nat} {a b a' b' : Tr} (h1 : 1 ≤ m) (hm : m ≤ 10000) (ha : a'.Ok m) (hb : b'.Ok m) (hf : a'.inf = false ∨ b'.inf = false) (h : Lps Tryz.prog Tab (subC (bodyOf Tryz.f57) [1, 0, 0, 0]) (lessS a b) (.out 0) (lessS a' b')) : Puk 57 [trA a, trA b] (boA (Tr.less a' b')) := by
  rw [Tr.less_fin hf]
  cases ia : a'.inf with
  | true =>
    have ib : b'.inf = false := hf.resolve_left (by rw [ia]; simp)
    rw [ib]
    exact pwalk (an := [some (boA true), some (boA false)]) (ls := [⟨[2,3,4], 2, .out 0, lessS a' b'⟩]) (ps := [Tri Tryz.prog Tab (.loop (subC (bodyOf Tryz.f57) [1,0,0,0])) (lessS a b) (.out 0) (lessS a' b'), Puk 90 [(obA a'.ob)] (boA true), Puk 90 [(obA b'.ob)] (boA false)]) Tryz.func57 (by kernel_rfl) (by kernel_rfl) ⟨h.tri, (p_oInf a').b ia, (p_oInf b').b ib, trivial⟩
  | false =>
    cases ib : b'.inf with
    | true => exact pwalk (an := [some (boA false), some (boA true), some (boA true)]) (ls := [⟨[2,3,4], 2, .out 0, lessS a' b'⟩]) (ps := [Tri Tryz.prog Tab (.loop (subC (bodyOf Tryz.f57) [1,0,0,0])) (lessS a b) (.out 0) (lessS a' b'), Puk 90 [(obA a'.ob)] (boA false), Puk 90 [(obA b'.ob)] (boA true), Puk 90 [(obA b'.ob)] (boA true)]) Tryz.func57 (by kernel_rfl) (by kernel_rfl) ⟨h.tri, (p_oInf a').b ia, (p_oInf b').b ib, (p_oInf b').b ib, trivial⟩
    | false => exact pwalk (an := [some (boA false), some (boA false), some (boA (decide (a'.val < b'.val)))]) (ls := [⟨[2,3,4], 2, .out 0, lessS a' b'⟩]) (ps := [Tri Tryz.prog Tab (.loop (subC (bodyOf Tryz.f57) [1,0,0,0])) (lessS a b) (.out 0) (lessS a' b'), Puk 90 [(obA a'.ob)] (boA false), Puk 90 [(obA b'.ob)] (boA false), Puk 92 [(obA a'.ob), (obA b'.ob)] (boA (decide (a'.val < b'.val)))]) Tryz.func57 (by kernel_rfl) (by kernel_rfl) ⟨h.tri, (p_oInf a').b ia, (p_oInf b').b ib, p_oLessN ha hb h1 hm, trivial⟩
theorem p_oLess {m : Nat} (h1 : 1 ≤ m) (hm : m ≤ 10000) : ∀ (N : Nat) (a b : Tr), a.size ≤ N → a.Ok m → b.Ok m → Puk 57 [trA a, trA b] (boA (Tr.less a b)) := by
  intro N
  induction N with
  | zero => intro a b h; have := Tr.size_pos a; omega
  | succ N ih =>
    intro a b hN ha hb
    have loop : ∀ (M : Nat), M ≤ N + 1 → ∀ a b : Tr, a.size ≤ M → a.Ok m → b.Ok m → ∃ ee s', Lps Tryz.prog Tab (subC (bodyOf Tryz.f57) [1, 0, 0, 0]) (lessS a b) ee s' ∧
        ((ee = .ret ∧ s' = lessF (Tr.less a b)) ∨ (ee = .out 0 ∧ ∃ a' b', s' = lessS a' b' ∧ (a'.inf = false ∨ b'.inf = false) ∧ Tr.less a' b' = Tr.less a b ∧ a'.Ok m ∧ b'.Ok m)) := by
      intro M
      induction M with
      | zero => intro _ a b h; have := Tr.size_pos a; omega
      | succ M ihM =>
        intro hM a b hs ha hb
        rcases Tr.fin_or a with fa | ⟨e, k, r, rfl⟩
        · exact ⟨_, _, .stop (lessB4 fa) (fun h => by cases h), .inr ⟨rfl, a, b, rfl, .inl fa, rfl, ha, hb⟩⟩
        rcases Tr.fin_or b with fb | ⟨e', k', r', rfl⟩
        · exact ⟨_, _, .stop (lessB5 rfl fb) (fun h => by cases h), .inr ⟨rfl, _, b, rfl, .inr fb, rfl, ha, hb⟩⟩
        have sz := Tr.size_e e k r
        rw [Tr.less_inf]
        by_cases he : e = e'
        · subst he
          rw [if_pos rfl]
          by_cases hk : k = k'
          · subst hk
            rw [if_pos rfl]
            obtain ⟨ee, s', hl, ho⟩ := ihM (by omega) r r' (by omega) ha.2 hb.2
            exact ⟨ee, s', .more (lessB3 hm ha.1.1 ha.1.2) hl, ho⟩
          · rw [if_neg hk]
            exact ⟨_, _, .stop (lessB2 h1 hm ha.1.1 ha.1.2 hb.1.2 hk) (fun h => by cases h), .inl ⟨rfl, rfl⟩⟩
        · rw [if_neg he]
          exact ⟨_, _, .stop (lessB1 hm ha.1.1 he (ih e e' (by omega) ha.1.1 hb.1.1)) (fun h => by cases h), .inl ⟨rfl, rfl⟩⟩
    obtain ⟨ee, s', hl, ho⟩ := loop (N + 1) (Nat.le_refl _) a b hN ha hb
    rcases ho with ⟨rfl, rfl⟩ | ⟨rfl, a', b', rfl, hf, hl', ha', hb'⟩
    · exact lessE1 hl
    · rw [← hl']
      exact lessE2 h1 hm ha' hb' hf hl
end Go.Proofs.YtgphkgmhcmffnaaGreatDoor
/- Ordinals: less of the reference, normal, Valid and the parts that are handed out, of both texts. -/
namespace Go.Proofs.YtgphkgmhcmffnaaGreatDoor
open Go.RowKit

theorem p_rLess {m : Nat} (h1 : 1 ≤ m) (hm : m ≤ 10000) : ∀ (N : Nat) (a b : Tr), a.size ≤ N → a.Ok m → b.Ok m → Puk 58 [trA a, trA b] (boA (Tr.less a b)) := by
  intro N
  induction N with
  | zero => intro a b h; have := Tr.size_pos a; omega
  | succ N ih =>
    intro a b hN ha hb
    rcases Tr.fin_or a with fa | ⟨e, k, r, rfl⟩
    · rw [Tr.less_fin (.inl fa), fa]
      cases ib : b.inf with
      | false => exact pwalk (an := [some (boA false), some (boA false), some (boA (decide (a.val < b.val)))]) (ls := []) (ps := [Puk 61 [(obA a.ob)] (boA false), Puk 61 [(obA b.ob)] (boA false), Puk 93 [(obA a.ob), (obA b.ob)] (boA (decide (a.val < b.val)))]) Tryz.func58 (by kernel_rfl) (by kernel_rfl) ⟨(p_rInf a).b fa, (p_rInf b).b ib, p_rLessN ha hb h1 hm, trivial⟩
      | true => exact pwalk (an := [some (boA false), some (boA true), some (boA false), some (boA true)]) (ls := []) (ps := [Puk 61 [(obA a.ob)] (boA false), Puk 61 [(obA b.ob)] (boA true), Puk 61 [(obA a.ob)] (boA false), Puk 61 [(obA b.ob)] (boA true)]) Tryz.func58 (by kernel_rfl) (by kernel_rfl) ⟨(p_rInf a).b fa, (p_rInf b).b ib, (p_rInf a).b fa, (p_rInf b).b ib, trivial⟩
    rcases Tr.fin_or b with fb | ⟨e', k', r', rfl⟩
    · rw [Tr.less_fin (.inr fb), fb]
      exact pwalk (an := [some (boA true), some (boA true), some (boA false), some (boA false)]) (ls := []) (ps := [Puk 61 [(obA (((e.cons k).cons r).ob))] (boA true), Puk 61 [(obA (((e.cons k).cons r).ob))] (boA true), Puk 61 [(obA b.ob)] (boA false), Puk 61 [(obA b.ob)] (boA false)]) Tryz.func58 (by kernel_rfl) (by kernel_rfl) ⟨p_rInf (.cons (.cons e k) r), p_rInf (.cons (.cons e k) r), (p_rInf b).b fb, (p_rInf b).b fb, trivial⟩
    have sz := Tr.size_e e k r
    rw [Tr.less_inf]
    by_cases he : e = e'
    · subst he
      rw [if_pos rfl]
      by_cases hk : k = k'
      · subst hk
        rw [if_pos rfl]
        exact pwalk (an := [some (boA true), some (boA true), some (boA true), some (trA e), some (trA e), some (boA true), some (trA k), some (trA k), some (boA true), some (trA r), some (trA r'), some (boA (Tr.less r r'))]) (ls := []) (ps := [Puk 61 [(obA (((e.cons k).cons r).ob))] (boA true), Puk 61 [(obA (((e.cons k).cons r).ob))] (boA true), Puk 61 [(obA (((e.cons k).cons r').ob))] (boA true), Puk 64 [(obA (((e.cons k).cons r).ob))] (obA e.ob), Puk 64 [(obA (((e.cons k).cons r').ob))] (obA e.ob), Puk 19 [(obA e.ob), (obA e.ob)] (boA true), Puk 65 [(obA (((e.cons k).cons r).ob))] (obA k.ob), Puk 65 [(obA (((e.cons k).cons r').ob))] (obA k.ob), Puk 19 [(obA k.ob), (obA k.ob)] (boA true), Puk 66 [(obA (((e.cons k).cons r).ob))] (obA r.ob), Puk 66 [(obA (((e.cons k).cons r').ob))] (obA r'.ob), Puk 58 [(obA r.ob), (obA r'.ob)] (boA (r.less r'))]) Tryz.func58 (by kernel_rfl) (by kernel_rfl) ⟨p_rInf (.cons (.cons e k) r), p_rInf (.cons (.cons e k) r), p_rInf (.cons (.cons e k) r'), p_rExp (.cons (.cons e k) r), p_rExp (.cons (.cons e k) r'), (p_rEq e ha.1.1 (by omega)).b (decide_eq_true rfl), p_rCoef (.cons (.cons e k) r), p_rCoef (.cons (.cons e k) r'), (p_rEq k ha.1.2 (by omega)).b (decide_eq_true rfl), p_rRest (.cons (.cons e k) r), p_rRest (.cons (.cons e k) r'), ih r r' (by omega) ha.2 hb.2, trivial⟩
      · rw [if_neg hk]
        exact pwalk (an := [some (boA true), some (boA true), some (boA true), some (trA e), some (trA e), some (boA true), some (trA k), some (trA k'), some (boA false), some (trA k), some (trA k'), some (boA (decide (k.val < k'.val)))]) (ls := []) (ps := [Puk 61 [(obA (((e.cons k).cons r).ob))] (boA true), Puk 61 [(obA (((e.cons k).cons r).ob))] (boA true), Puk 61 [(obA (((e.cons k').cons r').ob))] (boA true), Puk 64 [(obA (((e.cons k).cons r).ob))] (obA e.ob), Puk 64 [(obA (((e.cons k').cons r').ob))] (obA e.ob), Puk 19 [(obA e.ob), (obA e.ob)] (boA true), Puk 65 [(obA (((e.cons k).cons r).ob))] (obA k.ob), Puk 65 [(obA (((e.cons k').cons r').ob))] (obA k'.ob), Puk 19 [(obA k.ob), (obA k'.ob)] (boA false), Puk 65 [(obA (((e.cons k).cons r).ob))] (obA k.ob), Puk 65 [(obA (((e.cons k').cons r').ob))] (obA k'.ob), Puk 93 [(obA k.ob), (obA k'.ob)] (boA (decide (k.val < k'.val)))]) Tryz.func58 (by kernel_rfl) (by kernel_rfl) ⟨p_rInf (.cons (.cons e k) r), p_rInf (.cons (.cons e k) r), p_rInf (.cons (.cons e k') r'), p_rExp (.cons (.cons e k) r), p_rExp (.cons (.cons e k') r'), (p_rEq e ha.1.1 (by omega)).b (decide_eq_true rfl), p_rCoef (.cons (.cons e k) r), p_rCoef (.cons (.cons e k') r'), (p_rEq k' ha.1.2 (by omega)).b (decide_eq_false hk), p_rCoef (.cons (.cons e k) r), p_rCoef (.cons (.cons e k') r'), p_rLessN ha.1.2 hb.1.2 h1 hm, trivial⟩
    · rw [if_neg he]
      exact pwalk (an := [some (boA true), some (boA true), some (boA true), some (trA e), some (trA e'), some (boA false), some (trA e), some (trA e'), some (boA (Tr.less e e'))]) (ls := []) (ps := [Puk 61 [(obA (((e.cons k).cons r).ob))] (boA true), Puk 61 [(obA (((e.cons k).cons r).ob))] (boA true), Puk 61 [(obA (((e'.cons k').cons r').ob))] (boA true), Puk 64 [(obA (((e.cons k).cons r).ob))] (obA e.ob), Puk 64 [(obA (((e'.cons k').cons r').ob))] (obA e'.ob), Puk 19 [(obA e.ob), (obA e'.ob)] (boA false), Puk 64 [(obA (((e.cons k).cons r).ob))] (obA e.ob), Puk 64 [(obA (((e'.cons k').cons r').ob))] (obA e'.ob), Puk 58 [(obA e.ob), (obA e'.ob)] (boA (e.less e'))]) Tryz.func58 (by kernel_rfl) (by kernel_rfl) ⟨p_rInf (.cons (.cons e k) r), p_rInf (.cons (.cons e k) r), p_rInf (.cons (.cons e' k') r'), p_rExp (.cons (.cons e k) r), p_rExp (.cons (.cons e' k') r'), (p_rEq e' ha.1.1 (by omega)).b (decide_eq_false he), p_rExp (.cons (.cons e k) r), p_rExp (.cons (.cons e' k') r'), ih e e' (by omega) ha.1.1 hb.1.1, trivial⟩
theorem exp_ok {m : Nat} {t : Tr} (h : t.Ok m) (h1 : 1 ≤ m) : t.exp.Ok m := by
  rcases Tr.fin_or t with f | ⟨e, k, r, rfl⟩
  · rw [Tr.exp_fin f]; exact Rb.zero.mono h1
  · exact h.1.1
theorem rest_ok {m : Nat} {t : Tr} (h : t.Ok m) (h1 : 1 ≤ m) : t.rest.Ok m := by
  rcases Tr.fin_or t with f | ⟨e, k, r, rfl⟩
  · rw [Tr.rest_fin f]; exact Rb.zero.mono h1
  · exact h.2
theorem coef_ok {m : Nat} {t : Tr} (h : t.Ok m) : t.coef.Ok m := by
  rcases Tr.fin_or t with f | ⟨e, k, r, rfl⟩
  · rw [Tr.coef_fin f]; exact h
  · exact h.1.2
theorem p_oTerm {m : Nat} (h1 : 1 ≤ m) (hm : m ≤ 10000) {e c r : Tr} (he : e.Ok m) (hr : r.Ok m) (ne : Puk 71 [trA e] (boA e.nf)) (nr : Puk 71 [trA r] (boA r.nf)) :
    Puk 47 [trA e, trA c, trA r] (boA (e.nf && !e.isZ && c.isNat && !c.isZ && r.nf && Tr.less r.exp e)) := by
  cases hc1 : e.nf with
  | true =>
    cases hc2 : e.isZ with
    | true => exact Puk.b (a := false) (pwalk (an := [some (boA true), some (boA true)]) (ls := []) (ps := [Puk 71 [(obA e.ob)] (boA true), Puk 85 [(obA e.ob)] (boA true)]) Tryz.func47 (by kernel_rfl) (by kernel_rfl) ⟨(ne).b hc1, (p_oZero e).b hc2, trivial⟩) (by simp)
    | false =>
      cases hc3 : c.isNat with
      | true =>
        cases hc4 : c.isZ with
        | true => exact Puk.b (a := false) (pwalk (an := [some (boA true), some (boA false), some (boA true), some (boA true)]) (ls := []) (ps := [Puk 71 [(obA e.ob)] (boA true), Puk 85 [(obA e.ob)] (boA false), Puk 74 [(obA c.ob)] (boA true), Puk 85 [(obA c.ob)] (boA true)]) Tryz.func47 (by kernel_rfl) (by kernel_rfl) ⟨(ne).b hc1, (p_oZero e).b hc2, (p_oNat c).b hc3, (p_oZero c).b hc4, trivial⟩) (by simp)
        | false =>
          cases hc5 : r.nf with
          | true =>
            exact Puk.b (a := Tr.less r.exp e) (pwalk (an := [some (boA true), some (boA false), some (boA true), some (boA false), some (boA true), some (trA r.exp), some (boA (Tr.less r.exp e))]) (ls := []) (ps := [Puk 71 [(obA e.ob)] (boA true), Puk 85 [(obA e.ob)] (boA false), Puk 74 [(obA c.ob)] (boA true), Puk 85 [(obA c.ob)] (boA false), Puk 71 [(obA r.ob)] (boA true), Puk 77 [(obA r.ob)] (obA r.exp.ob), Puk 57 [(obA r.exp.ob), (obA e.ob)] (boA (r.exp.less e))]) Tryz.func47 (by kernel_rfl) (by kernel_rfl) ⟨(ne).b hc1, (p_oZero e).b hc2, (p_oNat c).b hc3, (p_oZero c).b hc4, (nr).b hc5, p_oExp r, p_oLess h1 hm _ r.exp e (Nat.le_refl _) (exp_ok hr h1) he, trivial⟩) (by simp)
          | false => exact Puk.b (a := false) (pwalk (an := [some (boA true), some (boA false), some (boA true), some (boA false), some (boA false)]) (ls := []) (ps := [Puk 71 [(obA e.ob)] (boA true), Puk 85 [(obA e.ob)] (boA false), Puk 74 [(obA c.ob)] (boA true), Puk 85 [(obA c.ob)] (boA false), Puk 71 [(obA r.ob)] (boA false)]) Tryz.func47 (by kernel_rfl) (by kernel_rfl) ⟨(ne).b hc1, (p_oZero e).b hc2, (p_oNat c).b hc3, (p_oZero c).b hc4, (nr).b hc5, trivial⟩) (by simp)
      | false => exact Puk.b (a := false) (pwalk (an := [some (boA true), some (boA false), some (boA false)]) (ls := []) (ps := [Puk 71 [(obA e.ob)] (boA true), Puk 85 [(obA e.ob)] (boA false), Puk 74 [(obA c.ob)] (boA false)]) Tryz.func47 (by kernel_rfl) (by kernel_rfl) ⟨(ne).b hc1, (p_oZero e).b hc2, (p_oNat c).b hc3, trivial⟩) (by simp)
  | false => exact Puk.b (a := false) (pwalk (an := [some (boA false)]) (ls := []) (ps := [Puk 71 [(obA e.ob)] (boA false)]) Tryz.func47 (by kernel_rfl) (by kernel_rfl) ⟨(ne).b hc1, trivial⟩) (by simp)
theorem p_oNf {m : Nat} (h1 : 1 ≤ m) (hm : m ≤ 10000) : ∀ (N : Nat) (t : Tr), t.size ≤ N → t.Ok m → Puk 71 [trA t] (boA t.nf) := by
  intro N
  induction N with
  | zero => intro t h; have := Tr.size_pos t; omega
  | succ N ih =>
    intro t hN ht
    rcases Tr.fin_or t with f | ⟨e, k, r, rfl⟩
    · rw [Tr.nf_fin f]
      exact pwalk (an := [some (boA false), some (boA t.isNat)]) (ls := []) (ps := [Puk 90 [(obA t.ob)] (boA false), Puk 74 [(obA t.ob)] (boA t.isNat)]) Tryz.func71 (by kernel_rfl) (by kernel_rfl) ⟨(p_oInf t).b f, p_oNat t, trivial⟩
    · have sz := Tr.size_e e k r
      rw [Tr.nf_inf]
      exact pwalk (an := [some (boA true), some (trA e), some (trA k), some (trA r), some (boA (e.nf && !e.isZ && k.isNat && !k.isZ && r.nf && Tr.less r.exp e))]) (ls := []) (ps := [Puk 90 [(obA (((e.cons k).cons r).ob))] (boA true), Puk 77 [(obA (((e.cons k).cons r).ob))] (obA e.ob), Puk 78 [(obA (((e.cons k).cons r).ob))] (obA k.ob), Puk 79 [(obA (((e.cons k).cons r).ob))] (obA r.ob), Puk 47 [(obA e.ob), (obA k.ob), (obA r.ob)] (boA (e.nf && !e.isZ && k.isNat && !k.isZ && r.nf && r.exp.less e))]) Tryz.func71 (by kernel_rfl) (by kernel_rfl) ⟨p_oInf (.cons (.cons e k) r), p_oExp (.cons (.cons e k) r), p_oCoef (.cons (.cons e k) r), p_oRest (.cons (.cons e k) r), p_oTerm h1 hm ht.1.1 ht.2 (ih e (by omega) ht.1.1) (ih r (by omega) ht.2), trivial⟩
theorem p_rNf {m : Nat} (h1 : 1 ≤ m) (hm : m ≤ 10000) : ∀ (N : Nat) (t : Tr), t.size ≤ N → t.Ok m → Puk 73 [trA t] (boA t.nf) := by
  intro N
  induction N with
  | zero => intro t h; have := Tr.size_pos t; omega
  | succ N ih =>
    intro t hN ht
    rcases Tr.fin_or t with f | ⟨e, c, r, rfl⟩
    · rw [Tr.nf_fin f]
      exact pwalk (an := [some (boA false), some (boA t.isNat)]) (ls := []) (ps := [Puk 61 [(obA t.ob)] (boA false), Puk 75 [(obA t.ob)] (boA t.isNat)]) Tryz.func73 (by kernel_rfl) (by kernel_rfl) ⟨(p_rInf t).b f, p_rNat t, trivial⟩
    · have sz := Tr.size_e e c r
      have ne := ih e (by omega) ht.1.1
      have nr := ih r (by omega) ht.2
      have he := ht.1.1
      have hr := ht.2
      rw [Tr.nf_inf]
      cases hc1 : e.nf with
      | true =>
        cases hc2 : e.isZ with
        | true => exact Puk.b (a := false) (pwalk (an := [some (boA true), some (.pin (encL (consO e.ob c.ob))), some (.pin (encL e.ob)), some (.pin (encL (consO e.ob c.ob))), some (.pin (encL c.ob)), some (.pin (encL r.ob)), some (boA true), some (boA true)]) (ls := []) (ps := [Puk 61 [(obA (((e.cons c).cons r).ob))] (boA true), IxAt (List.map Ob.enc ((e.cons c).cons r).ob.pair) 0 7 ([(.val (.int IntKind.i64 ((consO e.ob c.ob).kind))), (.val (.string ({ data := (consO e.ob c.ob).num.toArray }))), (.val (.string ({ data := (consO e.ob c.ob).den.toArray }))), (.val (.string ({ data := (consO e.ob c.ob).sp.toArray }))), (.val (.string ({ data := (consO e.ob c.ob).sn.toArray }))), (.val (.string ({ data := (consO e.ob c.ob).text.toArray }))), (.row (List.map Ob.enc (consO e.ob c.ob).pair))]), IxAt (List.map Ob.enc (consO e.ob c.ob).pair) 0 7 ([(.val (.int IntKind.i64 e.ob.kind)), (.val (.string ({ data := e.ob.num.toArray }))), (.val (.string ({ data := e.ob.den.toArray }))), (.val (.string ({ data := e.ob.sp.toArray }))), (.val (.string ({ data := e.ob.sn.toArray }))), (.val (.string ({ data := e.ob.text.toArray }))), (.row (List.map Ob.enc e.ob.pair))]), IxAt (List.map Ob.enc ((e.cons c).cons r).ob.pair) 0 7 ([(.val (.int IntKind.i64 ((consO e.ob c.ob).kind))), (.val (.string ({ data := (consO e.ob c.ob).num.toArray }))), (.val (.string ({ data := (consO e.ob c.ob).den.toArray }))), (.val (.string ({ data := (consO e.ob c.ob).sp.toArray }))), (.val (.string ({ data := (consO e.ob c.ob).sn.toArray }))), (.val (.string ({ data := (consO e.ob c.ob).text.toArray }))), (.row (List.map Ob.enc (consO e.ob c.ob).pair))]), IxAt (List.map Ob.enc (consO e.ob c.ob).pair) 1 7 ([(.val (.int IntKind.i64 c.ob.kind)), (.val (.string ({ data := c.ob.num.toArray }))), (.val (.string ({ data := c.ob.den.toArray }))), (.val (.string ({ data := c.ob.sp.toArray }))), (.val (.string ({ data := c.ob.sn.toArray }))), (.val (.string ({ data := c.ob.text.toArray }))), (.row (List.map Ob.enc c.ob.pair))]), IxAt (List.map Ob.enc ((e.cons c).cons r).ob.pair) 1 7 ([(.val (.int IntKind.i64 r.ob.kind)), (.val (.string ({ data := r.ob.num.toArray }))), (.val (.string ({ data := r.ob.den.toArray }))), (.val (.string ({ data := r.ob.sp.toArray }))), (.val (.string ({ data := r.ob.sn.toArray }))), (.val (.string ({ data := r.ob.text.toArray }))), (.row (List.map Ob.enc r.ob.pair))]), Puk 73 [(obA e.ob)] (boA true), Puk 60 [(obA e.ob)] (boA true)]) Tryz.func73 (by kernel_rfl) (by kernel_rfl) ⟨p_rInf (.cons (.cons e c) r), ix_obj0, ix_obj0, ix_obj0, ix_obj1, ix_obj1, (ne).b hc1, (p_rZero e).b hc2, trivial⟩) (by simp)
        | false =>
          cases hc3 : c.isNat with
          | true =>
            cases hc4 : c.isZ with
            | true => exact Puk.b (a := false) (pwalk (an := [some (boA true), some (.pin (encL (consO e.ob c.ob))), some (.pin (encL e.ob)), some (.pin (encL (consO e.ob c.ob))), some (.pin (encL c.ob)), some (.pin (encL r.ob)), some (boA true), some (boA false), some (boA true), some (boA true)]) (ls := []) (ps := [Puk 61 [(obA (((e.cons c).cons r).ob))] (boA true), IxAt (List.map Ob.enc ((e.cons c).cons r).ob.pair) 0 7 ([(.val (.int IntKind.i64 ((consO e.ob c.ob).kind))), (.val (.string ({ data := (consO e.ob c.ob).num.toArray }))), (.val (.string ({ data := (consO e.ob c.ob).den.toArray }))), (.val (.string ({ data := (consO e.ob c.ob).sp.toArray }))), (.val (.string ({ data := (consO e.ob c.ob).sn.toArray }))), (.val (.string ({ data := (consO e.ob c.ob).text.toArray }))), (.row (List.map Ob.enc (consO e.ob c.ob).pair))]), IxAt (List.map Ob.enc (consO e.ob c.ob).pair) 0 7 ([(.val (.int IntKind.i64 e.ob.kind)), (.val (.string ({ data := e.ob.num.toArray }))), (.val (.string ({ data := e.ob.den.toArray }))), (.val (.string ({ data := e.ob.sp.toArray }))), (.val (.string ({ data := e.ob.sn.toArray }))), (.val (.string ({ data := e.ob.text.toArray }))), (.row (List.map Ob.enc e.ob.pair))]), IxAt (List.map Ob.enc ((e.cons c).cons r).ob.pair) 0 7 ([(.val (.int IntKind.i64 ((consO e.ob c.ob).kind))), (.val (.string ({ data := (consO e.ob c.ob).num.toArray }))), (.val (.string ({ data := (consO e.ob c.ob).den.toArray }))), (.val (.string ({ data := (consO e.ob c.ob).sp.toArray }))), (.val (.string ({ data := (consO e.ob c.ob).sn.toArray }))), (.val (.string ({ data := (consO e.ob c.ob).text.toArray }))), (.row (List.map Ob.enc (consO e.ob c.ob).pair))]), IxAt (List.map Ob.enc (consO e.ob c.ob).pair) 1 7 ([(.val (.int IntKind.i64 c.ob.kind)), (.val (.string ({ data := c.ob.num.toArray }))), (.val (.string ({ data := c.ob.den.toArray }))), (.val (.string ({ data := c.ob.sp.toArray }))), (.val (.string ({ data := c.ob.sn.toArray }))), (.val (.string ({ data := c.ob.text.toArray }))), (.row (List.map Ob.enc c.ob.pair))]), IxAt (List.map Ob.enc ((e.cons c).cons r).ob.pair) 1 7 ([(.val (.int IntKind.i64 r.ob.kind)), (.val (.string ({ data := r.ob.num.toArray }))), (.val (.string ({ data := r.ob.den.toArray }))), (.val (.string ({ data := r.ob.sp.toArray }))), (.val (.string ({ data := r.ob.sn.toArray }))), (.val (.string ({ data := r.ob.text.toArray }))), (.row (List.map Ob.enc r.ob.pair))]), Puk 73 [(obA e.ob)] (boA true), Puk 60 [(obA e.ob)] (boA false), Puk 75 [(obA c.ob)] (boA true), Puk 60 [(obA c.ob)] (boA true)]) Tryz.func73 (by kernel_rfl) (by kernel_rfl) ⟨p_rInf (.cons (.cons e c) r), ix_obj0, ix_obj0, ix_obj0, ix_obj1, ix_obj1, (ne).b hc1, (p_rZero e).b hc2, (p_rNat c).b hc3, (p_rZero c).b hc4, trivial⟩) (by simp)
            | false =>
              cases hc5 : r.nf with
              | true =>
                exact Puk.b (a := Tr.less r.exp e) (pwalk (an := [some (boA true), some (.pin (encL (consO e.ob c.ob))), some (.pin (encL e.ob)), some (.pin (encL (consO e.ob c.ob))), some (.pin (encL c.ob)), some (.pin (encL r.ob)), some (boA true), some (boA false), some (boA true), some (boA false), some (boA true), some (trA r.exp), some (boA (Tr.less r.exp e))]) (ls := []) (ps := [Puk 61 [(obA (((e.cons c).cons r).ob))] (boA true), IxAt (List.map Ob.enc ((e.cons c).cons r).ob.pair) 0 7 ([(.val (.int IntKind.i64 ((consO e.ob c.ob).kind))), (.val (.string ({ data := (consO e.ob c.ob).num.toArray }))), (.val (.string ({ data := (consO e.ob c.ob).den.toArray }))), (.val (.string ({ data := (consO e.ob c.ob).sp.toArray }))), (.val (.string ({ data := (consO e.ob c.ob).sn.toArray }))), (.val (.string ({ data := (consO e.ob c.ob).text.toArray }))), (.row (List.map Ob.enc (consO e.ob c.ob).pair))]), IxAt (List.map Ob.enc (consO e.ob c.ob).pair) 0 7 ([(.val (.int IntKind.i64 e.ob.kind)), (.val (.string ({ data := e.ob.num.toArray }))), (.val (.string ({ data := e.ob.den.toArray }))), (.val (.string ({ data := e.ob.sp.toArray }))), (.val (.string ({ data := e.ob.sn.toArray }))), (.val (.string ({ data := e.ob.text.toArray }))), (.row (List.map Ob.enc e.ob.pair))]), IxAt (List.map Ob.enc ((e.cons c).cons r).ob.pair) 0 7 ([(.val (.int IntKind.i64 ((consO e.ob c.ob).kind))), (.val (.string ({ data := (consO e.ob c.ob).num.toArray }))), (.val (.string ({ data := (consO e.ob c.ob).den.toArray }))), (.val (.string ({ data := (consO e.ob c.ob).sp.toArray }))), (.val (.string ({ data := (consO e.ob c.ob).sn.toArray }))), (.val (.string ({ data := (consO e.ob c.ob).text.toArray }))), (.row (List.map Ob.enc (consO e.ob c.ob).pair))]), IxAt (List.map Ob.enc (consO e.ob c.ob).pair) 1 7 ([(.val (.int IntKind.i64 c.ob.kind)), (.val (.string ({ data := c.ob.num.toArray }))), (.val (.string ({ data := c.ob.den.toArray }))), (.val (.string ({ data := c.ob.sp.toArray }))), (.val (.string ({ data := c.ob.sn.toArray }))), (.val (.string ({ data := c.ob.text.toArray }))), (.row (List.map Ob.enc c.ob.pair))]), IxAt (List.map Ob.enc ((e.cons c).cons r).ob.pair) 1 7 ([(.val (.int IntKind.i64 r.ob.kind)), (.val (.string ({ data := r.ob.num.toArray }))), (.val (.string ({ data := r.ob.den.toArray }))), (.val (.string ({ data := r.ob.sp.toArray }))), (.val (.string ({ data := r.ob.sn.toArray }))), (.val (.string ({ data := r.ob.text.toArray }))), (.row (List.map Ob.enc r.ob.pair))]), Puk 73 [(obA e.ob)] (boA true), Puk 60 [(obA e.ob)] (boA false), Puk 75 [(obA c.ob)] (boA true), Puk 60 [(obA c.ob)] (boA false), Puk 73 [(obA r.ob)] (boA true), Puk 64 [(obA r.ob)] (obA r.exp.ob), Puk 58 [(obA r.exp.ob), (obA e.ob)] (boA (r.exp.less e))]) Tryz.func73 (by kernel_rfl) (by kernel_rfl) ⟨p_rInf (.cons (.cons e c) r), ix_obj0, ix_obj0, ix_obj0, ix_obj1, ix_obj1, (ne).b hc1, (p_rZero e).b hc2, (p_rNat c).b hc3, (p_rZero c).b hc4, (nr).b hc5, p_rExp r, p_rLess h1 hm _ r.exp e (Nat.le_refl _) (exp_ok hr h1) he, trivial⟩) (by simp)
              | false => exact Puk.b (a := false) (pwalk (an := [some (boA true), some (.pin (encL (consO e.ob c.ob))), some (.pin (encL e.ob)), some (.pin (encL (consO e.ob c.ob))), some (.pin (encL c.ob)), some (.pin (encL r.ob)), some (boA true), some (boA false), some (boA true), some (boA false), some (boA false)]) (ls := []) (ps := [Puk 61 [(obA (((e.cons c).cons r).ob))] (boA true), IxAt (List.map Ob.enc ((e.cons c).cons r).ob.pair) 0 7 ([(.val (.int IntKind.i64 ((consO e.ob c.ob).kind))), (.val (.string ({ data := (consO e.ob c.ob).num.toArray }))), (.val (.string ({ data := (consO e.ob c.ob).den.toArray }))), (.val (.string ({ data := (consO e.ob c.ob).sp.toArray }))), (.val (.string ({ data := (consO e.ob c.ob).sn.toArray }))), (.val (.string ({ data := (consO e.ob c.ob).text.toArray }))), (.row (List.map Ob.enc (consO e.ob c.ob).pair))]), IxAt (List.map Ob.enc (consO e.ob c.ob).pair) 0 7 ([(.val (.int IntKind.i64 e.ob.kind)), (.val (.string ({ data := e.ob.num.toArray }))), (.val (.string ({ data := e.ob.den.toArray }))), (.val (.string ({ data := e.ob.sp.toArray }))), (.val (.string ({ data := e.ob.sn.toArray }))), (.val (.string ({ data := e.ob.text.toArray }))), (.row (List.map Ob.enc e.ob.pair))]), IxAt (List.map Ob.enc ((e.cons c).cons r).ob.pair) 0 7 ([(.val (.int IntKind.i64 ((consO e.ob c.ob).kind))), (.val (.string ({ data := (consO e.ob c.ob).num.toArray }))), (.val (.string ({ data := (consO e.ob c.ob).den.toArray }))), (.val (.string ({ data := (consO e.ob c.ob).sp.toArray }))), (.val (.string ({ data := (consO e.ob c.ob).sn.toArray }))), (.val (.string ({ data := (consO e.ob c.ob).text.toArray }))), (.row (List.map Ob.enc (consO e.ob c.ob).pair))]), IxAt (List.map Ob.enc (consO e.ob c.ob).pair) 1 7 ([(.val (.int IntKind.i64 c.ob.kind)), (.val (.string ({ data := c.ob.num.toArray }))), (.val (.string ({ data := c.ob.den.toArray }))), (.val (.string ({ data := c.ob.sp.toArray }))), (.val (.string ({ data := c.ob.sn.toArray }))), (.val (.string ({ data := c.ob.text.toArray }))), (.row (List.map Ob.enc c.ob.pair))]), IxAt (List.map Ob.enc ((e.cons c).cons r).ob.pair) 1 7 ([(.val (.int IntKind.i64 r.ob.kind)), (.val (.string ({ data := r.ob.num.toArray }))), (.val (.string ({ data := r.ob.den.toArray }))), (.val (.string ({ data := r.ob.sp.toArray }))), (.val (.string ({ data := r.ob.sn.toArray }))), (.val (.string ({ data := r.ob.text.toArray }))), (.row (List.map Ob.enc r.ob.pair))]), Puk 73 [(obA e.ob)] (boA true), Puk 60 [(obA e.ob)] (boA false), Puk 75 [(obA c.ob)] (boA true), Puk 60 [(obA c.ob)] (boA false), Puk 73 [(obA r.ob)] (boA false)]) Tryz.func73 (by kernel_rfl) (by kernel_rfl) ⟨p_rInf (.cons (.cons e c) r), ix_obj0, ix_obj0, ix_obj0, ix_obj1, ix_obj1, (ne).b hc1, (p_rZero e).b hc2, (p_rNat c).b hc3, (p_rZero c).b hc4, (nr).b hc5, trivial⟩) (by simp)
          | false => exact Puk.b (a := false) (pwalk (an := [some (boA true), some (.pin (encL (consO e.ob c.ob))), some (.pin (encL e.ob)), some (.pin (encL (consO e.ob c.ob))), some (.pin (encL c.ob)), some (.pin (encL r.ob)), some (boA true), some (boA false), some (boA false)]) (ls := []) (ps := [Puk 61 [(obA (((e.cons c).cons r).ob))] (boA true), IxAt (List.map Ob.enc ((e.cons c).cons r).ob.pair) 0 7 ([(.val (.int IntKind.i64 ((consO e.ob c.ob).kind))), (.val (.string ({ data := (consO e.ob c.ob).num.toArray }))), (.val (.string ({ data := (consO e.ob c.ob).den.toArray }))), (.val (.string ({ data := (consO e.ob c.ob).sp.toArray }))), (.val (.string ({ data := (consO e.ob c.ob).sn.toArray }))), (.val (.string ({ data := (consO e.ob c.ob).text.toArray }))), (.row (List.map Ob.enc (consO e.ob c.ob).pair))]), IxAt (List.map Ob.enc (consO e.ob c.ob).pair) 0 7 ([(.val (.int IntKind.i64 e.ob.kind)), (.val (.string ({ data := e.ob.num.toArray }))), (.val (.string ({ data := e.ob.den.toArray }))), (.val (.string ({ data := e.ob.sp.toArray }))), (.val (.string ({ data := e.ob.sn.toArray }))), (.val (.string ({ data := e.ob.text.toArray }))), (.row (List.map Ob.enc e.ob.pair))]), IxAt (List.map Ob.enc ((e.cons c).cons r).ob.pair) 0 7 ([(.val (.int IntKind.i64 ((consO e.ob c.ob).kind))), (.val (.string ({ data := (consO e.ob c.ob).num.toArray }))), (.val (.string ({ data := (consO e.ob c.ob).den.toArray }))), (.val (.string ({ data := (consO e.ob c.ob).sp.toArray }))), (.val (.string ({ data := (consO e.ob c.ob).sn.toArray }))), (.val (.string ({ data := (consO e.ob c.ob).text.toArray }))), (.row (List.map Ob.enc (consO e.ob c.ob).pair))]), IxAt (List.map Ob.enc (consO e.ob c.ob).pair) 1 7 ([(.val (.int IntKind.i64 c.ob.kind)), (.val (.string ({ data := c.ob.num.toArray }))), (.val (.string ({ data := c.ob.den.toArray }))), (.val (.string ({ data := c.ob.sp.toArray }))), (.val (.string ({ data := c.ob.sn.toArray }))), (.val (.string ({ data := c.ob.text.toArray }))), (.row (List.map Ob.enc c.ob.pair))]), IxAt (List.map Ob.enc ((e.cons c).cons r).ob.pair) 1 7 ([(.val (.int IntKind.i64 r.ob.kind)), (.val (.string ({ data := r.ob.num.toArray }))), (.val (.string ({ data := r.ob.den.toArray }))), (.val (.string ({ data := r.ob.sp.toArray }))), (.val (.string ({ data := r.ob.sn.toArray }))), (.val (.string ({ data := r.ob.text.toArray }))), (.row (List.map Ob.enc r.ob.pair))]), Puk 73 [(obA e.ob)] (boA true), Puk 60 [(obA e.ob)] (boA false), Puk 75 [(obA c.ob)] (boA false)]) Tryz.func73 (by kernel_rfl) (by kernel_rfl) ⟨p_rInf (.cons (.cons e c) r), ix_obj0, ix_obj0, ix_obj0, ix_obj1, ix_obj1, (ne).b hc1, (p_rZero e).b hc2, (p_rNat c).b hc3, trivial⟩) (by simp)
      | false => exact Puk.b (a := false) (pwalk (an := [some (boA true), some (.pin (encL (consO e.ob c.ob))), some (.pin (encL e.ob)), some (.pin (encL (consO e.ob c.ob))), some (.pin (encL c.ob)), some (.pin (encL r.ob)), some (boA false)]) (ls := []) (ps := [Puk 61 [(obA (((e.cons c).cons r).ob))] (boA true), IxAt (List.map Ob.enc ((e.cons c).cons r).ob.pair) 0 7 ([(.val (.int IntKind.i64 ((consO e.ob c.ob).kind))), (.val (.string ({ data := (consO e.ob c.ob).num.toArray }))), (.val (.string ({ data := (consO e.ob c.ob).den.toArray }))), (.val (.string ({ data := (consO e.ob c.ob).sp.toArray }))), (.val (.string ({ data := (consO e.ob c.ob).sn.toArray }))), (.val (.string ({ data := (consO e.ob c.ob).text.toArray }))), (.row (List.map Ob.enc (consO e.ob c.ob).pair))]), IxAt (List.map Ob.enc (consO e.ob c.ob).pair) 0 7 ([(.val (.int IntKind.i64 e.ob.kind)), (.val (.string ({ data := e.ob.num.toArray }))), (.val (.string ({ data := e.ob.den.toArray }))), (.val (.string ({ data := e.ob.sp.toArray }))), (.val (.string ({ data := e.ob.sn.toArray }))), (.val (.string ({ data := e.ob.text.toArray }))), (.row (List.map Ob.enc e.ob.pair))]), IxAt (List.map Ob.enc ((e.cons c).cons r).ob.pair) 0 7 ([(.val (.int IntKind.i64 ((consO e.ob c.ob).kind))), (.val (.string ({ data := (consO e.ob c.ob).num.toArray }))), (.val (.string ({ data := (consO e.ob c.ob).den.toArray }))), (.val (.string ({ data := (consO e.ob c.ob).sp.toArray }))), (.val (.string ({ data := (consO e.ob c.ob).sn.toArray }))), (.val (.string ({ data := (consO e.ob c.ob).text.toArray }))), (.row (List.map Ob.enc (consO e.ob c.ob).pair))]), IxAt (List.map Ob.enc (consO e.ob c.ob).pair) 1 7 ([(.val (.int IntKind.i64 c.ob.kind)), (.val (.string ({ data := c.ob.num.toArray }))), (.val (.string ({ data := c.ob.den.toArray }))), (.val (.string ({ data := c.ob.sp.toArray }))), (.val (.string ({ data := c.ob.sn.toArray }))), (.val (.string ({ data := c.ob.text.toArray }))), (.row (List.map Ob.enc c.ob.pair))]), IxAt (List.map Ob.enc ((e.cons c).cons r).ob.pair) 1 7 ([(.val (.int IntKind.i64 r.ob.kind)), (.val (.string ({ data := r.ob.num.toArray }))), (.val (.string ({ data := r.ob.den.toArray }))), (.val (.string ({ data := r.ob.sp.toArray }))), (.val (.string ({ data := r.ob.sn.toArray }))), (.val (.string ({ data := r.ob.text.toArray }))), (.row (List.map Ob.enc r.ob.pair))]), Puk 73 [(obA e.ob)] (boA false)]) Tryz.func73 (by kernel_rfl) (by kernel_rfl) ⟨p_rInf (.cons (.cons e c) r), ix_obj0, ix_obj0, ix_obj0, ix_obj1, ix_obj1, (ne).b hc1, trivial⟩) (by simp)
theorem p_oOv {m : Nat} {t : Tr} (h1 : 1 ≤ m) (hm : m ≤ 10000) (ht : t.Ok m) : Puk 31 [trA t] (boA t.ov) := by
  unfold Tr.ov
  cases hc1 : t.valid with
  | true =>
    exact Puk.b (a := t.nf) (pwalk (an := [some (boA true), some (boA (t.nf))]) (ls := []) (ps := [Puk 46 [(obA t.ob)] (boA true), Puk 71 [(obA t.ob)] (boA t.nf)]) Tryz.func31 (by kernel_rfl) (by kernel_rfl) ⟨(p_oValid ht (by omega)).b hc1, p_oNf h1 hm _ t (Nat.le_refl _) ht, trivial⟩) (by simp)
  | false => exact Puk.b (a := false) (pwalk (an := [some (boA false)]) (ls := []) (ps := [Puk 46 [(obA t.ob)] (boA false)]) Tryz.func31 (by kernel_rfl) (by kernel_rfl) ⟨(p_oValid ht (by omega)).b hc1, trivial⟩) (by simp)
theorem p_oFinite {m : Nat} {t : Tr} (h1 : 1 ≤ m) (hm : m ≤ 10000) (ht : t.Ok m) : Puk 33 [trA t] (boA (t.ov && t.isNat)) := by
  cases hc1 : t.ov with
  | true =>
    exact Puk.b (a := t.isNat) (pwalk (an := [some (boA true), some (boA (t.isNat))]) (ls := []) (ps := [Puk 31 [(obA t.ob)] (boA true), Puk 74 [(obA t.ob)] (boA t.isNat)]) Tryz.func33 (by kernel_rfl) (by kernel_rfl) ⟨(p_oOv h1 hm ht).b hc1, p_oNat t, trivial⟩) (by simp)
  | false => exact Puk.b (a := false) (pwalk (an := [some (boA false)]) (ls := []) (ps := [Puk 31 [(obA t.ob)] (boA false)]) Tryz.func33 (by kernel_rfl) (by kernel_rfl) ⟨(p_oOv h1 hm ht).b hc1, trivial⟩) (by simp)
theorem p_rOv {m : Nat} {t : Tr} (h1 : 1 ≤ m) (hm : m ≤ 10000) (ht : t.Ok m) : Puk 32 [trA t] (boA t.ov) := by
  unfold Tr.ov
  cases hc1 : t.valid with
  | true =>
    exact Puk.b (a := t.nf) (pwalk (an := [some (boA true), some (boA (t.nf))]) (ls := []) (ps := [Puk 72 [(obA t.ob)] (boA true), Puk 73 [(obA t.ob)] (boA t.nf)]) Tryz.func32 (by kernel_rfl) (by kernel_rfl) ⟨(p_rValid ht (by omega)).b hc1, p_rNf h1 hm _ t (Nat.le_refl _) ht, trivial⟩) (by simp)
  | false => exact Puk.b (a := false) (pwalk (an := [some (boA false)]) (ls := []) (ps := [Puk 72 [(obA t.ob)] (boA false)]) Tryz.func32 (by kernel_rfl) (by kernel_rfl) ⟨(p_rValid ht (by omega)).b hc1, trivial⟩) (by simp)
theorem p_rFinite {m : Nat} {t : Tr} (hm : m ≤ 10000) (ht : t.Ok m) : Puk 34 [trA t] (boA (t.valid && t.isNat)) := by
  cases hc1 : t.valid with
  | true =>
    exact Puk.b (a := t.isNat) (pwalk (an := [some (boA true), some (boA (t.isNat))]) (ls := []) (ps := [Puk 72 [(obA t.ob)] (boA true), Puk 75 [(obA t.ob)] (boA t.isNat)]) Tryz.func34 (by kernel_rfl) (by kernel_rfl) ⟨(p_rValid ht (by omega)).b hc1, p_rNat t, trivial⟩) (by simp)
  | false => exact Puk.b (a := false) (pwalk (an := [some (boA false)]) (ls := []) (ps := [Puk 72 [(obA t.ob)] (boA false)]) Tryz.func34 (by kernel_rfl) (by kernel_rfl) ⟨(p_rValid ht (by omega)).b hc1, trivial⟩) (by simp)
end Go.Proofs.YtgphkgmhcmffnaaGreatDoor
/- Ordinals: results that may be none; bounds. -/
namespace Go.Proofs.YtgphkgmhcmffnaaGreatDoor
open Go.RowKit

abbrev zeroO : Ob := ⟨0, [], [], [], [], [], []⟩
def resO : Option Tr → Ob
  | some t => t.ob
  | none => zeroO
abbrev resA (o : Option Tr) : AV := .tup [obA (resO o), boA o.isSome]
namespace Tr
theorem add_z {a b : Tr} (h : b.isZ = true) : add a b = a := by
  rcases fin_or a with f | ⟨e, k, r, rfl⟩
  · unfold add
    split
    · cases f
    · rw [if_pos h]
  · rw [add, if_pos h]
theorem add_finN {a b : Tr} (f : a.inf = false) (h : b.isZ = false) : add a b = if b.inf then b else .num (a.val + b.val) := by
  unfold add
  split
  · cases f
  · rw [if_neg (by rw [h]; simp)]
theorem add_infN {e k r b : Tr} (h : b.isZ = false) : add (.cons (.cons e k) r) b = if less e b.exp then b else if e = b.exp then .cons (.cons e (.num (k.val + b.coef.val))) b.rest else .cons (.cons e k) (add r b) := by
  rw [add, if_neg (by rw [h]; simp)]
theorem val_ok {m : Nat} {t : Tr} (h : t.Ok m) (h1 : 1 ≤ m) : Rb m t.val := h.val h1
theorem add_ok {m : Nat} (h1 : 1 ≤ m) : ∀ (a b : Tr), a.Ok m → b.Ok m → (add a b).Ok (2 * m + 1) := by
  intro a
  induction a using sizeInd with
  | step a ih =>
    intro b ha hb
    cases hz : b.isZ with
    | true => rw [add_z hz]; exact ha.mono (by omega)
    | false =>
      rcases fin_or a with f | ⟨e, k, r, rfl⟩
      · rw [add_finN f hz]
        split
        · exact hb.mono (by omega)
        · exact (show Rb (2 * m + 1) (a.val + b.val) from ((ha.val h1).add (hb.val h1)).mono (by omega))
      · have sz := size_e e k r
        rw [add_infN hz]
        split
        · exact hb.mono (by omega)
        · split
          · exact ⟨⟨ha.1.1.mono (by omega), show Rb (2 * m + 1) (k.val + b.coef.val) from ((ha.1.2.val h1).add ((coef_ok hb).val h1)).mono (by omega)⟩, (rest_ok hb h1).mono (by omega)⟩
          · exact ⟨⟨ha.1.1.mono (by omega), ha.1.2.mono (by omega)⟩, ih r sz.2.2 b ha.2 hb⟩
theorem mul_ok {m : Nat} (h1 : 1 ≤ m) (a : Tr) : ∀ (b : Tr), a.Ok m → b.Ok m → (mul a b).Ok (2 * m + 1) := by
  intro b
  induction b using sizeInd with
  | step b ih =>
    intro ha hb
    have hz : zero.Ok (2 * m + 1) := Rb.zero.mono (by omega)
    rcases fin_or b with f | ⟨e, k, r, rfl⟩
    · rw [mul_fin f]
      split
      · exact hz
      · split
        · exact ⟨⟨(exp_ok ha h1).mono (by omega), show Rb (2 * m + 1) (a.coef.val * b.val) from (((coef_ok ha).val h1).mul (hb.val h1)).mono (by omega)⟩, (rest_ok ha h1).mono (by omega)⟩
        · exact (show Rb (2 * m + 1) (a.val * b.val) from ((ha.val h1).mul (hb.val h1)).mono (by omega))
    · have sz := size_e e k r
      rw [mul_inf]
      split
      · exact hz
      · exact ⟨⟨add_ok h1 _ _ (exp_ok ha h1) hb.1.1, hb.1.2.mono (by omega)⟩, ih r sz.2.2 ha hb.2⟩
theorem zeroOk_ {m : Nat} (h : 1 ≤ m) : zero.Ok m := Rb.zero.mono h
theorem ov_ok {t : Tr} (h : t.ov = true) : t.Ok 101 := good_ok (valid_iff.1 (ov_valid h)).2
end Tr
end Go.Proofs.YtgphkgmhcmffnaaGreatDoor
/- Ordinals: Power, Less, Add, Multiply of both texts. -/
namespace Go.Proofs.YtgphkgmhcmffnaaGreatDoor
open Go.RowKit

theorem kept_t {t : Tr} (h : t.valid = true) : Tr.kept t = some t := by unfold Tr.kept; rw [if_pos h]
theorem kept_f {t : Tr} (h : t.valid = false) : Tr.kept t = none := by unfold Tr.kept; rw [if_neg (by rw [h]; simp)]
theorem Puk.r {f : FuncId} {args : List AV} {a b : Option Tr} (h : Puk f args (resA a)) (e : a = b) : Puk f args (resA b) := e ▸ h
theorem p_oKept {m : Nat} {t : Tr} (ht : t.Ok m) (hm : m ≤ 100000) : Puk 48 [trA t] (resA (Tr.kept t)) := by
  cases hv : t.valid with
  | true => rw [kept_t hv]; exact pwalk (an := [some (boA true)]) (ls := []) (ps := [Puk 46 [(obA t.ob)] (boA true)]) Tryz.func48 (by kernel_rfl) (by kernel_rfl) ⟨(p_oValid ht hm).b hv, trivial⟩
  | false => rw [kept_f hv]; exact pwalk (an := [some (boA false)]) (ls := []) (ps := [Puk 46 [(obA t.ob)] (boA false)]) Tryz.func48 (by kernel_rfl) (by kernel_rfl) ⟨(p_oValid ht hm).b hv, trivial⟩
theorem p_oOLess {a b : Tr} (ha : a.Ok 10000) (hb : b.Ok 10000) : Puk 22 [trA a, trA b] (boA (a.ov && b.ov && Tr.less a b)) := by
  cases h1 : a.ov with
  | false => exact pwalk (an := [some (boA false)]) (ls := []) (ps := [Puk 31 [(obA a.ob)] (boA false)]) Tryz.func22 (by kernel_rfl) (by kernel_rfl) ⟨(p_oOv (by decide) (by decide) ha).b h1, trivial⟩
  | true =>
    cases h2 : b.ov with
    | false => exact pwalk (an := [some (boA true), some (boA false)]) (ls := []) (ps := [Puk 31 [(obA a.ob)] (boA true), Puk 31 [(obA b.ob)] (boA false)]) Tryz.func22 (by kernel_rfl) (by kernel_rfl) ⟨(p_oOv (by decide) (by decide) ha).b h1, (p_oOv (by decide) (by decide) hb).b h2, trivial⟩
    | true => exact pwalk (an := [some (boA true), some (boA true), some (boA (Tr.less a b))]) (ls := []) (ps := [Puk 31 [(obA a.ob)] (boA true), Puk 31 [(obA b.ob)] (boA true), Puk 57 [(obA a.ob), (obA b.ob)] (boA (a.less b))]) Tryz.func22 (by kernel_rfl) (by kernel_rfl) ⟨(p_oOv (by decide) (by decide) ha).b h1, (p_oOv (by decide) (by decide) hb).b h2, p_oLess (by decide) (by decide) _ a b (Nat.le_refl _) ha hb, trivial⟩
theorem p_rKept {m : Nat} {t : Tr} (ht : t.Ok m) (hm : m ≤ 100000) : Puk 62 [trA t] (resA (Tr.kept t)) := by
  cases hv : t.valid with
  | true => rw [kept_t hv]; exact pwalk (an := [some (boA true)]) (ls := []) (ps := [Puk 72 [(obA t.ob)] (boA true)]) Tryz.func62 (by kernel_rfl) (by kernel_rfl) ⟨(p_rValid ht hm).b hv, trivial⟩
  | false => rw [kept_f hv]; exact pwalk (an := [some (boA false)]) (ls := []) (ps := [Puk 72 [(obA t.ob)] (boA false)]) Tryz.func62 (by kernel_rfl) (by kernel_rfl) ⟨(p_rValid ht hm).b hv, trivial⟩
theorem p_rOLess {a b : Tr} (ha : a.Ok 10000) (hb : b.Ok 10000) : Puk 23 [trA a, trA b] (boA (a.ov && b.ov && Tr.less a b)) := by
  cases h1 : a.ov with
  | false => exact pwalk (an := [some (boA false)]) (ls := []) (ps := [Puk 32 [(obA a.ob)] (boA false)]) Tryz.func23 (by kernel_rfl) (by kernel_rfl) ⟨(p_rOv (by decide) (by decide) ha).b h1, trivial⟩
  | true =>
    cases h2 : b.ov with
    | false => exact pwalk (an := [some (boA true), some (boA false)]) (ls := []) (ps := [Puk 32 [(obA a.ob)] (boA true), Puk 32 [(obA b.ob)] (boA false)]) Tryz.func23 (by kernel_rfl) (by kernel_rfl) ⟨(p_rOv (by decide) (by decide) ha).b h1, (p_rOv (by decide) (by decide) hb).b h2, trivial⟩
    | true => exact pwalk (an := [some (boA true), some (boA true), some (boA (Tr.less a b))]) (ls := []) (ps := [Puk 32 [(obA a.ob)] (boA true), Puk 32 [(obA b.ob)] (boA true), Puk 58 [(obA a.ob), (obA b.ob)] (boA (a.less b))]) Tryz.func23 (by kernel_rfl) (by kernel_rfl) ⟨(p_rOv (by decide) (by decide) ha).b h1, (p_rOv (by decide) (by decide) hb).b h2, p_rLess (by decide) (by decide) _ a b (Nat.le_refl _) ha hb, trivial⟩
theorem p_oPow {e c r : Tr} (he : e.Ok 10000) (hc : c.Ok 10000) (hr : r.Ok 10000) : Puk 17 [trA e, trA c, trA r] (resA (Tr.powO e c r)) := by
  rw [Tr.powO_eq]
  cases h1 : e.ov with
  | false => exact pwalk (an := [some (boA false)]) (ls := []) (ps := [Puk 31 [(obA e.ob)] (boA false)]) Tryz.func17 (by kernel_rfl) (by kernel_rfl) ⟨(p_oOv (by decide) (by decide) he).b h1, trivial⟩
  | true =>
  cases h2 : c.valid with
  | false => exact pwalk (an := [some (boA true), some (boA false)]) (ls := []) (ps := [Puk 31 [(obA e.ob)] (boA true), Puk 46 [(obA c.ob)] (boA false)]) Tryz.func17 (by kernel_rfl) (by kernel_rfl) ⟨(p_oOv (by decide) (by decide) he).b h1, (p_oValid hc (by decide)).b h2, trivial⟩
  | true =>
  cases h3 : r.ov with
  | false => exact pwalk (an := [some (boA true), some (boA true), some (boA false)]) (ls := []) (ps := [Puk 31 [(obA e.ob)] (boA true), Puk 46 [(obA c.ob)] (boA true), Puk 31 [(obA r.ob)] (boA false)]) Tryz.func17 (by kernel_rfl) (by kernel_rfl) ⟨(p_oOv (by decide) (by decide) he).b h1, (p_oValid hc (by decide)).b h2, (p_oOv (by decide) (by decide) hr).b h3, trivial⟩
  | true =>
  cases h4 : (e.nf && !e.isZ && c.isNat && !c.isZ && r.nf && Tr.less r.exp e) with
  | false => exact pwalk (an := [some (boA true), some (boA true), some (boA true), some (boA false)]) (ls := []) (ps := [Puk 31 [(obA e.ob)] (boA true), Puk 46 [(obA c.ob)] (boA true), Puk 31 [(obA r.ob)] (boA true), Puk 47 [(obA e.ob), (obA c.ob), (obA r.ob)] (boA false)]) Tryz.func17 (by kernel_rfl) (by kernel_rfl) ⟨(p_oOv (by decide) (by decide) he).b h1, (p_oValid hc (by decide)).b h2, (p_oOv (by decide) (by decide) hr).b h3, (p_oTerm (m := 10000) (by decide) (by decide) he hr (p_oNf (by decide) (by decide) _ e (Nat.le_refl _) he) (p_oNf (by decide) (by decide) _ r (Nat.le_refl _) hr)).b h4, trivial⟩
  | true => exact pwalk (an := [some (boA true), some (boA true), some (boA true), some (boA true), some (trA (.cons (.cons e c) r)), some (resA (Tr.kept (.cons (.cons e c) r)))]) (ls := []) (ps := [Puk 31 [(obA e.ob)] (boA true), Puk 46 [(obA c.ob)] (boA true), Puk 31 [(obA r.ob)] (boA true), Puk 47 [(obA e.ob), (obA c.ob), (obA r.ob)] (boA true), Puk 49 [(obA e.ob), (obA c.ob), (obA r.ob)] (obA (((e.cons c).cons r).ob)), Puk 48 [(obA (((e.cons c).cons r).ob))] (.tup [(obA (resO ((e.cons c).cons r).kept)), (boA (((e.cons c).cons r).kept.isSome))])]) Tryz.func17 (by kernel_rfl) (by kernel_rfl) ⟨(p_oOv (by decide) (by decide) he).b h1, (p_oValid hc (by decide)).b h2, (p_oOv (by decide) (by decide) hr).b h3, (p_oTerm (m := 10000) (by decide) (by decide) he hr (p_oNf (by decide) (by decide) _ e (Nat.le_refl _) he) (p_oNf (by decide) (by decide) _ r (Nat.le_refl _) hr)).b h4, p_oPower e.ob c.ob r.ob, p_oKept (m := 10000) (t := .cons (.cons e c) r) ⟨⟨he, hc⟩, hr⟩ (by decide), trivial⟩
theorem p_rPow {e c r : Tr} (he : e.Ok 10000) (hc : c.Ok 10000) (hr : r.Ok 10000) : Puk 18 [trA e, trA c, trA r] (resA (Tr.powO e c r)) := by
  have hk : (Tr.cons (.cons e c) r).Ok 10000 := ⟨⟨he, hc⟩, hr⟩
  cases h1 : (Tr.cons (.cons e c) r).ov with
  | true =>
    rw [show Tr.powO e c r = some (.cons (.cons e c) r) by unfold Tr.powO; rw [if_pos h1]]
    exact pwalk (an := [some (trA (.cons (.cons e c) r)), some (boA true)]) (ls := []) (ps := [Puk 50 [(obA e.ob), (obA c.ob), (obA r.ob)] (obA (((e.cons c).cons r).ob)), Puk 32 [(obA (((e.cons c).cons r).ob))] (boA true)]) Tryz.func18 (by kernel_rfl) (by kernel_rfl) ⟨p_rPower e.ob c.ob r.ob, (p_rOv (by decide) (by decide) hk).b h1, trivial⟩
  | false =>
    rw [show Tr.powO e c r = none by unfold Tr.powO; rw [if_neg (by rw [h1]; simp)]]
    exact pwalk (an := [some (trA (.cons (.cons e c) r)), some (boA false)]) (ls := []) (ps := [Puk 50 [(obA e.ob), (obA c.ob), (obA r.ob)] (obA (((e.cons c).cons r).ob)), Puk 32 [(obA (((e.cons c).cons r).ob))] (boA false)]) Tryz.func18 (by kernel_rfl) (by kernel_rfl) ⟨p_rPower e.ob c.ob r.ob, (p_rOv (by decide) (by decide) hk).b h1, trivial⟩
theorem p_oAdd : ∀ (N : Nat) (a b : Tr), a.size ≤ N → a.Ok 1000 → b.Ok 1000 → b.nf = true → Puk 59 [trA a, trA b] (trA (Tr.add a b)) := by
  intro N
  induction N with
  | zero => intro a b h; have := Tr.size_pos a; omega
  | succ N ih =>
    intro a b hN ha hb hn
    have L : ∀ {a b : Tr}, a.Ok 1000 → b.Ok 1000 → Puk 57 [trA a, trA b] (boA (Tr.less a b)) := fun ha hb => p_oLess (by decide) (by decide) _ _ _ (Nat.le_refl _) ha hb
    cases hz : b.isZ with
    | true =>
      rw [Tr.add_z hz]
      exact pwalk (an := [some (boA true)]) (ls := []) (ps := [Puk 85 [(obA b.ob)] (boA true)]) Tryz.func59 (by kernel_rfl) (by kernel_rfl) ⟨(p_oZero b).b hz, trivial⟩
    | false =>
      rcases Tr.fin_or a with fa | ⟨e, k, r, rfl⟩
      · rw [Tr.add_finN fa hz]
        rcases Tr.fin_or b with fb | ⟨e', k', r', rfl⟩
        · rw [if_neg (by rw [fb]; simp)]
          exact pwalk (an := [some (boA false), some (boA false), some (boA false), some (trA (.num (a.val + b.val)))]) (ls := []) (ps := [Puk 85 [(obA b.ob)] (boA false), Puk 90 [(obA a.ob)] (boA false), Puk 90 [(obA b.ob)] (boA false), Puk 94 [(obA a.ob), (obA b.ob)] (obA ((Tr.num (a.val + b.val)).ob))]) Tryz.func59 (by kernel_rfl) (by kernel_rfl) ⟨(p_oZero b).b hz, (p_oInf a).b fa, (p_oInf b).b fb, p_oSum ha hb (by decide) (by decide), trivial⟩
        · have hp := Tr.nf_parts hn
          rw [if_pos (show (Tr.cons (.cons e' k') r').inf = true from rfl)]
          exact pwalk (an := [some (boA false), some (boA false), some (boA true), some (trA Tr.zero), some (trA e'), some (boA true)]) (ls := []) (ps := [Puk 85 [(obA (((e'.cons k').cons r').ob))] (boA false), Puk 90 [(obA a.ob)] (boA false), Puk 90 [(obA (((e'.cons k').cons r').ob))] (boA true), Puk 77 [(obA a.ob)] (obA Tr.zero.ob), Puk 77 [(obA (((e'.cons k').cons r').ob))] (obA e'.ob), Puk 57 [(obA Tr.zero.ob), (obA e'.ob)] (boA true)]) Tryz.func59 (by kernel_rfl) (by kernel_rfl) ⟨(p_oZero _).b hz, (p_oInf a).b fa, p_oInf (.cons (.cons e' k') r'), (p_oExp a).val (by rw [Tr.exp_fin fa]), p_oExp (.cons (.cons e' k') r'), (L (a := Tr.zero) (Tr.zeroOk_ (by decide)) hb.1.1).b (Tr.zero_less hp.he hp.hez), trivial⟩
      · have sz := Tr.size_e e k r
        rw [Tr.add_infN hz]
        cases hl : Tr.less e b.exp with
        | true =>
          rw [if_pos rfl]
          exact pwalk (an := [some (boA false), some (boA true), some (trA e), some (trA b.exp), some (boA true)]) (ls := []) (ps := [Puk 85 [(obA b.ob)] (boA false), Puk 90 [(obA (((e.cons k).cons r).ob))] (boA true), Puk 77 [(obA (((e.cons k).cons r).ob))] (obA e.ob), Puk 77 [(obA b.ob)] (obA b.exp.ob), Puk 57 [(obA e.ob), (obA b.exp.ob)] (boA true)]) Tryz.func59 (by kernel_rfl) (by kernel_rfl) ⟨(p_oZero b).b hz, p_oInf (.cons (.cons e k) r), p_oExp (.cons (.cons e k) r), p_oExp b, (L ha.1.1 (exp_ok hb (by decide))).b hl, trivial⟩
        | false =>
          rw [if_neg (by simp)]
          by_cases he : e = b.exp
          · rw [if_pos he]
            exact pwalk (an := [some (boA false), some (boA true), some (trA e), some (trA b.exp), some (boA false), some (trA e), some (trA b.exp), some (boA true), some (trA e), some (trA k), some (trA b.coef), some (trA (.num (k.val + b.coef.val))), some (trA b.rest), some (trA (.cons (.cons e (.num (k.val + b.coef.val))) b.rest))]) (ls := []) (ps := [Puk 85 [(obA b.ob)] (boA false), Puk 90 [(obA (((e.cons k).cons r).ob))] (boA true), Puk 77 [(obA (((e.cons k).cons r).ob))] (obA e.ob), Puk 77 [(obA b.ob)] (obA b.exp.ob), Puk 57 [(obA e.ob), (obA b.exp.ob)] (boA false), Puk 77 [(obA (((e.cons k).cons r).ob))] (obA e.ob), Puk 77 [(obA b.ob)] (obA b.exp.ob), Puk 91 [(obA e.ob), (obA b.exp.ob)] (boA true), Puk 77 [(obA (((e.cons k).cons r).ob))] (obA e.ob), Puk 78 [(obA (((e.cons k).cons r).ob))] (obA k.ob), Puk 78 [(obA b.ob)] (obA b.coef.ob), Puk 94 [(obA k.ob), (obA b.coef.ob)] (obA ((Tr.num (k.val + b.coef.val)).ob)), Puk 79 [(obA b.ob)] (obA b.rest.ob), Puk 49 [(obA e.ob), (obA ((Tr.num (k.val + b.coef.val)).ob)), (obA b.rest.ob)] (obA (((e.cons (Tr.num (k.val + b.coef.val))).cons b.rest).ob))]) Tryz.func59 (by kernel_rfl) (by kernel_rfl) ⟨(p_oZero b).b hz, p_oInf (.cons (.cons e k) r), p_oExp (.cons (.cons e k) r), p_oExp b, (L ha.1.1 (exp_ok hb (by decide))).b hl, p_oExp (.cons (.cons e k) r), p_oExp b, (p_oEq b.exp ha.1.1 (by decide)).b (decide_eq_true he), p_oExp (.cons (.cons e k) r), p_oCoef (.cons (.cons e k) r), p_oCoef b, p_oSum ha.1.2 (coef_ok hb) (by decide) (by decide), p_oRest b, p_oPower _ _ _, trivial⟩
          · rw [if_neg he]
            exact pwalk (an := [some (boA false), some (boA true), some (trA e), some (trA b.exp), some (boA false), some (trA e), some (trA b.exp), some (boA false), some (trA e), some (trA k), some (trA r), some (trA (Tr.add r b)), some (trA (.cons (.cons e k) (Tr.add r b)))]) (ls := []) (ps := [Puk 85 [(obA b.ob)] (boA false), Puk 90 [(obA (((e.cons k).cons r).ob))] (boA true), Puk 77 [(obA (((e.cons k).cons r).ob))] (obA e.ob), Puk 77 [(obA b.ob)] (obA b.exp.ob), Puk 57 [(obA e.ob), (obA b.exp.ob)] (boA false), Puk 77 [(obA (((e.cons k).cons r).ob))] (obA e.ob), Puk 77 [(obA b.ob)] (obA b.exp.ob), Puk 91 [(obA e.ob), (obA b.exp.ob)] (boA false), Puk 77 [(obA (((e.cons k).cons r).ob))] (obA e.ob), Puk 78 [(obA (((e.cons k).cons r).ob))] (obA k.ob), Puk 79 [(obA (((e.cons k).cons r).ob))] (obA r.ob), Puk 59 [(obA r.ob), (obA b.ob)] (obA ((r.add b).ob)), Puk 49 [(obA e.ob), (obA k.ob), (obA ((r.add b).ob))] (obA (((e.cons k).cons (r.add b)).ob))]) Tryz.func59 (by kernel_rfl) (by kernel_rfl) ⟨(p_oZero b).b hz, p_oInf (.cons (.cons e k) r), p_oExp (.cons (.cons e k) r), p_oExp b, (L ha.1.1 (exp_ok hb (by decide))).b hl, p_oExp (.cons (.cons e k) r), p_oExp b, (p_oEq b.exp ha.1.1 (by decide)).b (decide_eq_false he), p_oExp (.cons (.cons e k) r), p_oCoef (.cons (.cons e k) r), p_oRest (.cons (.cons e k) r), ih r b (by omega) ha.2 hb hn, p_oPower _ _ _, trivial⟩
theorem p_oAddO {a b : Tr} (ha : a.Ok 10000) (hb : b.Ok 10000) : Puk 24 [trA a, trA b] (resA (Tr.addO a b)) := by
  unfold Tr.addO
  cases h1 : a.ov with
  | false => exact pwalk (an := [some (boA false)]) (ls := []) (ps := [Puk 31 [(obA a.ob)] (boA false)]) Tryz.func24 (by kernel_rfl) (by kernel_rfl) ⟨(p_oOv (by decide) (by decide) ha).b h1, trivial⟩
  | true =>
  cases h2 : b.ov with
  | false => exact pwalk (an := [some (boA true), some (boA false)]) (ls := []) (ps := [Puk 31 [(obA a.ob)] (boA true), Puk 31 [(obA b.ob)] (boA false)]) Tryz.func24 (by kernel_rfl) (by kernel_rfl) ⟨(p_oOv (by decide) (by decide) ha).b h1, (p_oOv (by decide) (by decide) hb).b h2, trivial⟩
  | true => exact pwalk (an := [some (boA true), some (boA true), some (trA (Tr.add a b)), some (resA (Tr.kept (Tr.add a b)))]) (ls := []) (ps := [Puk 31 [(obA a.ob)] (boA true), Puk 31 [(obA b.ob)] (boA true), Puk 59 [(obA a.ob), (obA b.ob)] (obA ((a.add b).ob)), Puk 48 [(obA ((a.add b).ob))] (.tup [(obA (resO (a.add b).kept)), (boA ((a.add b).kept.isSome))])]) Tryz.func24 (by kernel_rfl) (by kernel_rfl) ⟨(p_oOv (by decide) (by decide) ha).b h1, (p_oOv (by decide) (by decide) hb).b h2, p_oAdd _ a b (Nat.le_refl _) ((Tr.ov_ok h1).mono (by decide)) ((Tr.ov_ok h2).mono (by decide)) (Tr.ov_nf h2), p_oKept (Tr.add_ok (by decide) a b (Tr.ov_ok h1) (Tr.ov_ok h2)) (by decide), trivial⟩
theorem p_oMul : ∀ (N : Nat) (a b : Tr), b.size ≤ N → a.ov = true → b.ov = true → Puk 67 [trA a, trA b] (trA (Tr.mul a b)) := by
  intro N
  induction N with
  | zero => intro a b h; have := Tr.size_pos b; omega
  | succ N ih =>
    intro a b hN va vb
    have ha := Tr.ov_ok va
    have hb := Tr.ov_ok vb
    cases hz : a.isZ with
    | true =>
      have e : Tr.mul a b = Tr.zero := by
        rcases Tr.fin_or b with fb | ⟨e, k, r, rfl⟩
        · rw [Tr.mul_fin fb, hz]; rfl
        · rw [Tr.mul_inf, if_pos hz]
      rw [e]
      exact pwalk (an := [some (boA true), some (trA Tr.zero)]) (ls := []) (ps := [Puk 85 [(obA a.ob)] (boA true), Puk 80 [(inA 0)] (obA Tr.zero.ob)]) Tryz.func67 (by kernel_rfl) (by kernel_rfl) ⟨(p_oZero a).b hz, p_oInt0, trivial⟩
    | false =>
      rcases Tr.fin_or b with fb | ⟨e, k, r, rfl⟩
      · rw [Tr.mul_fin fb, hz]
        cases hzb : b.isZ with
        | true => exact pwalk (an := [some (boA false), some (boA true), some (trA Tr.zero)]) (ls := []) (ps := [Puk 85 [(obA a.ob)] (boA false), Puk 85 [(obA b.ob)] (boA true), Puk 80 [(inA 0)] (obA Tr.zero.ob)]) Tryz.func67 (by kernel_rfl) (by kernel_rfl) ⟨(p_oZero a).b hz, (p_oZero b).b hzb, p_oInt0, trivial⟩
        | false =>
          cases ia : a.inf with
          | true => exact pwalk (an := [some (boA false), some (boA false), some (boA false), some (boA true), some (trA a.exp), some (trA a.coef), some (trA (.num (a.coef.val * b.val))), some (trA a.rest), some (trA (.cons (.cons a.exp (.num (a.coef.val * b.val))) a.rest))]) (ls := []) (ps := [Puk 85 [(obA a.ob)] (boA false), Puk 85 [(obA b.ob)] (boA false), Puk 90 [(obA b.ob)] (boA false), Puk 90 [(obA a.ob)] (boA true), Puk 77 [(obA a.ob)] (obA a.exp.ob), Puk 78 [(obA a.ob)] (obA a.coef.ob), Puk 99 [(obA a.coef.ob), (obA b.ob)] (obA ((Tr.num (a.coef.val * b.val)).ob)), Puk 79 [(obA a.ob)] (obA a.rest.ob), Puk 49 [(obA a.exp.ob), (obA ((Tr.num (a.coef.val * b.val)).ob)), (obA a.rest.ob)] (obA (((a.exp.cons (Tr.num (a.coef.val * b.val))).cons a.rest).ob))]) Tryz.func67 (by kernel_rfl) (by kernel_rfl) ⟨(p_oZero a).b hz, (p_oZero b).b hzb, (p_oInf b).b fb, (p_oInf a).b ia, p_oExp a, p_oCoef a, p_oProd (coef_ok ha) hb (by decide) (by decide), p_oRest a, p_oPower _ _ _, trivial⟩
          | false => exact pwalk (an := [some (boA false), some (boA false), some (boA false), some (boA false), some (trA (.num (a.val * b.val)))]) (ls := []) (ps := [Puk 85 [(obA a.ob)] (boA false), Puk 85 [(obA b.ob)] (boA false), Puk 90 [(obA b.ob)] (boA false), Puk 90 [(obA a.ob)] (boA false), Puk 99 [(obA a.ob), (obA b.ob)] (obA ((Tr.num (a.val * b.val)).ob))]) Tryz.func67 (by kernel_rfl) (by kernel_rfl) ⟨(p_oZero a).b hz, (p_oZero b).b hzb, (p_oInf b).b fb, (p_oInf a).b ia, p_oProd ha hb (by decide) (by decide), trivial⟩
      · have sz := Tr.size_e e k r
        have hp := Tr.ov_parts vb
        rw [Tr.mul_inf, if_neg (by rw [hz]; simp)]
        exact pwalk (an := [some (boA false), some (boA false), some (boA true), some (trA a.exp), some (trA e), some (trA (Tr.add a.exp e)), some (trA k), some (trA r), some (trA (Tr.mul a r)), some (trA (.cons (.cons (Tr.add a.exp e) k) (Tr.mul a r)))]) (ls := []) (ps := [Puk 85 [(obA a.ob)] (boA false), Puk 85 [(obA (((e.cons k).cons r).ob))] (boA false), Puk 90 [(obA (((e.cons k).cons r).ob))] (boA true), Puk 77 [(obA a.ob)] (obA a.exp.ob), Puk 77 [(obA (((e.cons k).cons r).ob))] (obA e.ob), Puk 59 [(obA a.exp.ob), (obA e.ob)] (obA ((a.exp.add e).ob)), Puk 78 [(obA (((e.cons k).cons r).ob))] (obA k.ob), Puk 79 [(obA (((e.cons k).cons r).ob))] (obA r.ob), Puk 67 [(obA a.ob), (obA r.ob)] (obA ((a.mul r).ob)), Puk 49 [(obA ((a.exp.add e).ob)), (obA k.ob), (obA ((a.mul r).ob))] (obA ((((a.exp.add e).cons k).cons (a.mul r)).ob))]) Tryz.func67 (by kernel_rfl) (by kernel_rfl) ⟨(p_oZero a).b hz, p_oZero (.cons (.cons e k) r), p_oInf (.cons (.cons e k) r), p_oExp a, p_oExp (.cons (.cons e k) r), p_oAdd _ a.exp e (Nat.le_refl _) ((exp_ok ha (by decide)).mono (by decide)) (hb.1.1.mono (by decide)) (Tr.ov_nf hp.1), p_oCoef (.cons (.cons e k) r), p_oRest (.cons (.cons e k) r), ih a r (by omega) va hp.2.2, p_oPower _ _ _, trivial⟩
theorem p_oMulO {a b : Tr} (ha : a.Ok 10000) (hb : b.Ok 10000) : Puk 26 [trA a, trA b] (resA (Tr.mulO a b)) := by
  unfold Tr.mulO
  cases h1 : a.ov with
  | false => exact pwalk (an := [some (boA false)]) (ls := []) (ps := [Puk 31 [(obA a.ob)] (boA false)]) Tryz.func26 (by kernel_rfl) (by kernel_rfl) ⟨(p_oOv (by decide) (by decide) ha).b h1, trivial⟩
  | true =>
  cases h2 : b.ov with
  | false => exact pwalk (an := [some (boA true), some (boA false)]) (ls := []) (ps := [Puk 31 [(obA a.ob)] (boA true), Puk 31 [(obA b.ob)] (boA false)]) Tryz.func26 (by kernel_rfl) (by kernel_rfl) ⟨(p_oOv (by decide) (by decide) ha).b h1, (p_oOv (by decide) (by decide) hb).b h2, trivial⟩
  | true => exact pwalk (an := [some (boA true), some (boA true), some (trA (Tr.mul a b)), some (resA (Tr.kept (Tr.mul a b)))]) (ls := []) (ps := [Puk 31 [(obA a.ob)] (boA true), Puk 31 [(obA b.ob)] (boA true), Puk 67 [(obA a.ob), (obA b.ob)] (obA ((a.mul b).ob)), Puk 48 [(obA ((a.mul b).ob))] (.tup [(obA (resO (a.mul b).kept)), (boA ((a.mul b).kept.isSome))])]) Tryz.func26 (by kernel_rfl) (by kernel_rfl) ⟨(p_oOv (by decide) (by decide) ha).b h1, (p_oOv (by decide) (by decide) hb).b h2, p_oMul _ a b (Nat.le_refl _) h1 h2, p_oKept (Tr.mul_ok (by decide) a b (Tr.ov_ok h1) (Tr.ov_ok h2)) (by decide), trivial⟩
end Go.Proofs.YtgphkgmhcmffnaaGreatDoor
/- Ordinals: Add and Multiply of the reference; the parts; Natural. -/
namespace Go.Proofs.YtgphkgmhcmffnaaGreatDoor
open Go.RowKit

theorem p_rAddO : ∀ (N : Nat) (a b : Tr), a.size ≤ N → a.Ok 10000 → b.Ok 10000 → Puk 25 [trA a, trA b] (resA (Tr.addO a b)) := by
  intro N
  induction N with
  | zero => intro a b h; have := Tr.size_pos a; omega
  | succ N ih =>
  intro a b hN ha hb
  have oa := p_rOv (by decide) (by decide) ha
  have ob := p_rOv (by decide) (by decide) hb
  cases h1 : a.ov with
  | false => exact Puk.r (a := none) (pwalk (an := [some (boA false)]) (ls := []) (ps := [Puk 32 [(obA a.ob)] (boA false)]) Tryz.func25 (by kernel_rfl) (by kernel_rfl) ⟨oa.b h1, trivial⟩) (by unfold Tr.addO; rw [h1]; rfl)
  | true =>
  cases h2 : b.ov with
  | false => exact Puk.r (a := none) (pwalk (an := [some (boA true), some (boA false)]) (ls := []) (ps := [Puk 32 [(obA a.ob)] (boA true), Puk 32 [(obA b.ob)] (boA false)]) Tryz.func25 (by kernel_rfl) (by kernel_rfl) ⟨oa.b h1, ob.b h2, trivial⟩) (by unfold Tr.addO; rw [h1, h2]; rfl)
  | true =>
  have hO : Tr.addO a b = Tr.kept (Tr.add a b) := by unfold Tr.addO; rw [h1, h2]; rfl
  have va := Tr.ov_ok h1
  have vb := Tr.ov_ok h2
  have L : ∀ {a b : Tr}, a.Ok 10000 → b.Ok 10000 → Puk 58 [trA a, trA b] (boA (Tr.less a b)) := fun ha hb => p_rLess (by decide) (by decide) _ _ _ (Nat.le_refl _) ha hb
  cases hz : b.isZ with
  | true =>
    exact Puk.r (a := some a) (pwalk (an := [some (boA true), some (boA true), some (boA true)]) (ls := []) (ps := [Puk 32 [(obA a.ob)] (boA true), Puk 32 [(obA b.ob)] (boA true), Puk 60 [(obA b.ob)] (boA true)]) Tryz.func25 (by kernel_rfl) (by kernel_rfl) ⟨oa.b h1, ob.b h2, (p_rZero b).b hz, trivial⟩) (by rw [hO, Tr.add_z hz, kept_t (Tr.ov_valid h1)])
  | false =>
  rcases Tr.fin_or a with fa | ⟨e, k, r, rfl⟩
  · rcases Tr.fin_or b with fb | ⟨e', k', r', rfl⟩
    · exact Puk.r (a := Tr.kept (.num (a.val + b.val))) (pwalk (an := [some (boA true), some (boA true), some (boA false), some (boA false), some (boA false), some (trA (.num (a.val + b.val))), some (resA (Tr.kept (.num (a.val + b.val))))]) (ls := []) (ps := [Puk 32 [(obA a.ob)] (boA true), Puk 32 [(obA b.ob)] (boA true), Puk 60 [(obA b.ob)] (boA false), Puk 61 [(obA a.ob)] (boA false), Puk 61 [(obA b.ob)] (boA false), Puk 63 [(obA a.ob), (obA b.ob)] (obA ((Tr.num (a.val + b.val)).ob)), Puk 62 [(obA ((Tr.num (a.val + b.val)).ob))] (.tup [(obA (resO (Tr.num (a.val + b.val)).kept)), (boA ((Tr.num (a.val + b.val)).kept.isSome))])]) Tryz.func25 (by kernel_rfl) (by kernel_rfl) ⟨oa.b h1, ob.b h2, (p_rZero b).b hz, (p_rInf a).b fa, (p_rInf b).b fb, p_rSum ha hb (by decide) (by decide), p_rKept (m := 20001) (show Rb 20001 (a.val + b.val) from ((ha.val (by decide)).add (hb.val (by decide))).mono (by decide)) (by decide), trivial⟩) (by rw [hO, Tr.add_finN fa hz, fb]; rfl)
    · have hp := Tr.nf_parts (Tr.ov_nf h2)
      exact Puk.r (a := some (.cons (.cons e' k') r')) (pwalk (an := [some (boA true), some (boA true), some (boA false), some (boA false), some (boA true), some (trA Tr.zero), some (trA e'), some (boA true)]) (ls := []) (ps := [Puk 32 [(obA a.ob)] (boA true), Puk 32 [(obA (((e'.cons k').cons r').ob))] (boA true), Puk 60 [(obA (((e'.cons k').cons r').ob))] (boA false), Puk 61 [(obA a.ob)] (boA false), Puk 61 [(obA (((e'.cons k').cons r').ob))] (boA true), Puk 64 [(obA a.ob)] (obA Tr.zero.ob), Puk 64 [(obA (((e'.cons k').cons r').ob))] (obA e'.ob), Puk 58 [(obA Tr.zero.ob), (obA e'.ob)] (boA true)]) Tryz.func25 (by kernel_rfl) (by kernel_rfl) ⟨oa.b h1, ob.b h2, (p_rZero _).b hz, (p_rInf a).b fa, p_rInf (.cons (.cons e' k') r'), (p_rExp a).val (by rw [Tr.exp_fin fa]), p_rExp (.cons (.cons e' k') r'), (L (a := Tr.zero) (Tr.zeroOk_ (by decide)) hb.1.1).b (Tr.zero_less hp.he hp.hez), trivial⟩) (by rw [hO, Tr.add_finN fa hz, if_pos (show (Tr.cons (.cons e' k') r').inf = true from rfl), kept_t (Tr.ov_valid h2)])
  · have sz := Tr.size_e e k r
    have hp := Tr.ov_parts h1
    cases hl : Tr.less e b.exp with
    | true =>
      exact Puk.r (a := some b) (pwalk (an := [some (boA true), some (boA true), some (boA false), some (boA true), some (trA e), some (trA b.exp), some (boA true)]) (ls := []) (ps := [Puk 32 [(obA (((e.cons k).cons r).ob))] (boA true), Puk 32 [(obA b.ob)] (boA true), Puk 60 [(obA b.ob)] (boA false), Puk 61 [(obA (((e.cons k).cons r).ob))] (boA true), Puk 64 [(obA (((e.cons k).cons r).ob))] (obA e.ob), Puk 64 [(obA b.ob)] (obA b.exp.ob), Puk 58 [(obA e.ob), (obA b.exp.ob)] (boA true)]) Tryz.func25 (by kernel_rfl) (by kernel_rfl) ⟨oa.b h1, ob.b h2, (p_rZero b).b hz, p_rInf (.cons (.cons e k) r), p_rExp (.cons (.cons e k) r), p_rExp b, (L ha.1.1 (exp_ok hb (by decide))).b hl, trivial⟩) (by rw [hO, Tr.add_infN hz, hl, if_pos rfl, kept_t (Tr.ov_valid h2)])
    | false =>
      by_cases he : e = b.exp
      · exact Puk.r (a := Tr.kept (.cons (.cons e (.num (k.val + b.coef.val))) b.rest)) (pwalk (an := [some (boA true), some (boA true), some (boA false), some (boA true), some (trA e), some (trA b.exp), some (boA false), some (trA e), some (trA b.exp), some (boA true), some (trA e), some (trA k), some (trA b.coef), some (trA (.num (k.val + b.coef.val))), some (trA b.rest), some (trA (.cons (.cons e (.num (k.val + b.coef.val))) b.rest)), some (resA (Tr.kept (.cons (.cons e (.num (k.val + b.coef.val))) b.rest)))]) (ls := []) (ps := [Puk 32 [(obA (((e.cons k).cons r).ob))] (boA true), Puk 32 [(obA b.ob)] (boA true), Puk 60 [(obA b.ob)] (boA false), Puk 61 [(obA (((e.cons k).cons r).ob))] (boA true), Puk 64 [(obA (((e.cons k).cons r).ob))] (obA e.ob), Puk 64 [(obA b.ob)] (obA b.exp.ob), Puk 58 [(obA e.ob), (obA b.exp.ob)] (boA false), Puk 64 [(obA (((e.cons k).cons r).ob))] (obA e.ob), Puk 64 [(obA b.ob)] (obA b.exp.ob), Puk 19 [(obA e.ob), (obA b.exp.ob)] (boA true), Puk 64 [(obA (((e.cons k).cons r).ob))] (obA e.ob), Puk 65 [(obA (((e.cons k).cons r).ob))] (obA k.ob), Puk 65 [(obA b.ob)] (obA b.coef.ob), Puk 63 [(obA k.ob), (obA b.coef.ob)] (obA ((Tr.num (k.val + b.coef.val)).ob)), Puk 66 [(obA b.ob)] (obA b.rest.ob), Puk 50 [(obA e.ob), (obA ((Tr.num (k.val + b.coef.val)).ob)), (obA b.rest.ob)] (obA (((e.cons (Tr.num (k.val + b.coef.val))).cons b.rest).ob)), Puk 62 [(obA (((e.cons (Tr.num (k.val + b.coef.val))).cons b.rest).ob))] (.tup [(obA (resO ((e.cons (Tr.num (k.val + b.coef.val))).cons b.rest).kept)), (boA (((e.cons (Tr.num (k.val + b.coef.val))).cons b.rest).kept.isSome))])]) Tryz.func25 (by kernel_rfl) (by kernel_rfl) ⟨oa.b h1, ob.b h2, (p_rZero b).b hz, p_rInf (.cons (.cons e k) r), p_rExp (.cons (.cons e k) r), p_rExp b, (L ha.1.1 (exp_ok hb (by decide))).b hl, p_rExp (.cons (.cons e k) r), p_rExp b, (p_rEq b.exp ha.1.1 (by decide)).b (decide_eq_true he), p_rExp (.cons (.cons e k) r), p_rCoef (.cons (.cons e k) r), p_rCoef b, p_rSum ha.1.2 (coef_ok hb) (by decide) (by decide), p_rRest b, p_rPower _ _ _, p_rKept (m := 20001) ⟨⟨ha.1.1.mono (by decide), show Rb 20001 (k.val + b.coef.val) from ((ha.1.2.val (by decide)).add ((coef_ok hb).val (by decide))).mono (by decide)⟩, (rest_ok hb (by decide)).mono (by decide)⟩ (by decide), trivial⟩) (by rw [hO, Tr.add_infN hz, hl, if_neg (by simp), if_pos he])
      · have hlt : Tr.less b.exp e = true := by
          rcases Tr.less_tri e b.exp (Tr.ov_nf hp.1) (Tr.ov_nf (Tr.ov_exp h2)) with t | t | t
          · rw [hl] at t; cases t
          · exact absurd t he
          · exact t
        have hstep := Tr.addO_step h1 h2 hz hlt
        have hi := ih r b (by omega) ha.2 hb
        cases hr : Tr.addO r b with
        | none =>
          exact Puk.r (a := none) (pwalk (an := [some (boA true), some (boA true), some (boA false), some (boA true), some (trA e), some (trA b.exp), some (boA false), some (trA e), some (trA b.exp), some (boA false), some (trA r), some (resA none)]) (ls := []) (ps := [Puk 32 [(obA (((e.cons k).cons r).ob))] (boA true), Puk 32 [(obA b.ob)] (boA true), Puk 60 [(obA b.ob)] (boA false), Puk 61 [(obA (((e.cons k).cons r).ob))] (boA true), Puk 64 [(obA (((e.cons k).cons r).ob))] (obA e.ob), Puk 64 [(obA b.ob)] (obA b.exp.ob), Puk 58 [(obA e.ob), (obA b.exp.ob)] (boA false), Puk 64 [(obA (((e.cons k).cons r).ob))] (obA e.ob), Puk 64 [(obA b.ob)] (obA b.exp.ob), Puk 19 [(obA e.ob), (obA b.exp.ob)] (boA false), Puk 66 [(obA (((e.cons k).cons r).ob))] (obA r.ob), Puk 25 [(obA r.ob), (obA b.ob)] (.tup [(obA (resO none)), (boA false)])]) Tryz.func25 (by kernel_rfl) (by kernel_rfl) ⟨oa.b h1, ob.b h2, (p_rZero b).b hz, p_rInf (.cons (.cons e k) r), p_rExp (.cons (.cons e k) r), p_rExp b, (L ha.1.1 (exp_ok hb (by decide))).b hl, p_rExp (.cons (.cons e k) r), p_rExp b, (p_rEq b.exp ha.1.1 (by decide)).b (decide_eq_false he), p_rRest (.cons (.cons e k) r), hi.r hr, trivial⟩) (by rw [hstep, hr]; rfl)
        | some x =>
          have hx := (Tr.ov_ok (Tr.addO_ov hr)).mono (m := 10000) (by decide)
          exact Puk.r (a := Tr.kept (.cons (.cons e k) x)) (pwalk (an := [some (boA true), some (boA true), some (boA false), some (boA true), some (trA e), some (trA b.exp), some (boA false), some (trA e), some (trA b.exp), some (boA false), some (trA r), some (resA (some x)), some (trA e), some (trA k), some (trA (.cons (.cons e k) x)), some (resA (Tr.kept (.cons (.cons e k) x)))]) (ls := []) (ps := [Puk 32 [(obA (((e.cons k).cons r).ob))] (boA true), Puk 32 [(obA b.ob)] (boA true), Puk 60 [(obA b.ob)] (boA false), Puk 61 [(obA (((e.cons k).cons r).ob))] (boA true), Puk 64 [(obA (((e.cons k).cons r).ob))] (obA e.ob), Puk 64 [(obA b.ob)] (obA b.exp.ob), Puk 58 [(obA e.ob), (obA b.exp.ob)] (boA false), Puk 64 [(obA (((e.cons k).cons r).ob))] (obA e.ob), Puk 64 [(obA b.ob)] (obA b.exp.ob), Puk 19 [(obA e.ob), (obA b.exp.ob)] (boA false), Puk 66 [(obA (((e.cons k).cons r).ob))] (obA r.ob), Puk 25 [(obA r.ob), (obA b.ob)] (.tup [(obA (resO (some x))), (boA true)]), Puk 64 [(obA (((e.cons k).cons r).ob))] (obA e.ob), Puk 65 [(obA (((e.cons k).cons r).ob))] (obA k.ob), Puk 50 [(obA e.ob), (obA k.ob), (obA (resO (some x)))] (obA (((e.cons k).cons x).ob)), Puk 62 [(obA (((e.cons k).cons x).ob))] (.tup [(obA (resO ((e.cons k).cons x).kept)), (boA (((e.cons k).cons x).kept.isSome))])]) Tryz.func25 (by kernel_rfl) (by kernel_rfl) ⟨oa.b h1, ob.b h2, (p_rZero b).b hz, p_rInf (.cons (.cons e k) r), p_rExp (.cons (.cons e k) r), p_rExp b, (L ha.1.1 (exp_ok hb (by decide))).b hl, p_rExp (.cons (.cons e k) r), p_rExp b, (p_rEq b.exp ha.1.1 (by decide)).b (decide_eq_false he), p_rRest (.cons (.cons e k) r), hi.r hr, p_rExp (.cons (.cons e k) r), p_rCoef (.cons (.cons e k) r), p_rPower _ _ _, p_rKept (m := 10000) ⟨⟨ha.1.1, ha.1.2⟩, hx⟩ (by decide), trivial⟩) (by rw [hstep, hr]; rfl)
theorem p_rMulO : ∀ (N : Nat) (a b : Tr), b.size ≤ N → a.Ok 10000 → b.Ok 10000 → Puk 27 [trA a, trA b] (resA (Tr.mulO a b)) := by
  intro N
  induction N with
  | zero => intro a b h; have := Tr.size_pos b; omega
  | succ N ih =>
  intro a b hN ha hb
  have oa := p_rOv (by decide) (by decide) ha
  have ob := p_rOv (by decide) (by decide) hb
  cases h1 : a.ov with
  | false => exact Puk.r (a := none) (pwalk (an := [some (boA false)]) (ls := []) (ps := [Puk 32 [(obA a.ob)] (boA false)]) Tryz.func27 (by kernel_rfl) (by kernel_rfl) ⟨oa.b h1, trivial⟩) (by unfold Tr.mulO; rw [h1]; rfl)
  | true =>
  cases h2 : b.ov with
  | false => exact Puk.r (a := none) (pwalk (an := [some (boA true), some (boA false)]) (ls := []) (ps := [Puk 32 [(obA a.ob)] (boA true), Puk 32 [(obA b.ob)] (boA false)]) Tryz.func27 (by kernel_rfl) (by kernel_rfl) ⟨oa.b h1, ob.b h2, trivial⟩) (by unfold Tr.mulO; rw [h1, h2]; rfl)
  | true =>
  have hO : Tr.mulO a b = Tr.kept (Tr.mul a b) := by unfold Tr.mulO; rw [h1, h2]; rfl
  cases hz : a.isZ with
  | true =>
    have e : Tr.mul a b = Tr.zero := by
      rcases Tr.fin_or b with fb | ⟨e, k, r, rfl⟩
      · rw [Tr.mul_fin fb, hz]; rfl
      · rw [Tr.mul_inf, if_pos hz]
    exact Puk.r (a := some Tr.zero) (pwalk (an := [some (boA true), some (boA true), some (boA true), some (trA Tr.zero)]) (ls := []) (ps := [Puk 32 [(obA a.ob)] (boA true), Puk 32 [(obA b.ob)] (boA true), Puk 60 [(obA a.ob)] (boA true), Puk 15 [(inA 0)] (obA Tr.zero.ob)]) Tryz.func27 (by kernel_rfl) (by kernel_rfl) ⟨oa.b h1, ob.b h2, (p_rZero a).b hz, p_rInt0, trivial⟩) (by rw [hO, e, kept_t Tr.valid_zero])
  | false =>
  rcases Tr.fin_or b with fb | ⟨e, k, r, rfl⟩
  · cases hzb : b.isZ with
    | true => exact Puk.r (a := some Tr.zero) (pwalk (an := [some (boA true), some (boA true), some (boA false), some (boA true), some (trA Tr.zero)]) (ls := []) (ps := [Puk 32 [(obA a.ob)] (boA true), Puk 32 [(obA b.ob)] (boA true), Puk 60 [(obA a.ob)] (boA false), Puk 60 [(obA b.ob)] (boA true), Puk 15 [(inA 0)] (obA Tr.zero.ob)]) Tryz.func27 (by kernel_rfl) (by kernel_rfl) ⟨oa.b h1, ob.b h2, (p_rZero a).b hz, (p_rZero b).b hzb, p_rInt0, trivial⟩) (by rw [hO, Tr.mul_fin fb, hz, hzb, if_pos (show (false || true) = true from rfl), kept_t Tr.valid_zero])
    | false =>
      cases ia : a.inf with
      | false => exact Puk.r (a := Tr.kept (.num (a.val * b.val))) (pwalk (an := [some (boA true), some (boA true), some (boA false), some (boA false), some (boA false), some (boA false), some (trA (.num (a.val * b.val))), some (resA (Tr.kept (.num (a.val * b.val))))]) (ls := []) (ps := [Puk 32 [(obA a.ob)] (boA true), Puk 32 [(obA b.ob)] (boA true), Puk 60 [(obA a.ob)] (boA false), Puk 60 [(obA b.ob)] (boA false), Puk 61 [(obA a.ob)] (boA false), Puk 61 [(obA b.ob)] (boA false), Puk 68 [(obA a.ob), (obA b.ob)] (obA ((Tr.num (a.val * b.val)).ob)), Puk 62 [(obA ((Tr.num (a.val * b.val)).ob))] (.tup [(obA (resO (Tr.num (a.val * b.val)).kept)), (boA ((Tr.num (a.val * b.val)).kept.isSome))])]) Tryz.func27 (by kernel_rfl) (by kernel_rfl) ⟨oa.b h1, ob.b h2, (p_rZero a).b hz, (p_rZero b).b hzb, (p_rInf a).b ia, (p_rInf b).b fb, p_rProd ha hb (by decide) (by decide), p_rKept (m := 20001) (show Rb 20001 (a.val * b.val) from ((ha.val (by decide)).mul (hb.val (by decide))).mono (by decide)) (by decide), trivial⟩) (by rw [hO, Tr.mul_fin fb, hz, hzb, ia]; rfl)
      | true => exact Puk.r (a := Tr.kept (.cons (.cons a.exp (.num (a.coef.val * b.val))) a.rest)) (pwalk (an := [some (boA true), some (boA true), some (boA false), some (boA false), some (boA true), some (boA false), some (trA a.exp), some (trA a.coef), some (trA (.num (a.coef.val * b.val))), some (trA a.rest), some (trA (.cons (.cons a.exp (.num (a.coef.val * b.val))) a.rest)), some (resA (Tr.kept (.cons (.cons a.exp (.num (a.coef.val * b.val))) a.rest)))]) (ls := []) (ps := [Puk 32 [(obA a.ob)] (boA true), Puk 32 [(obA b.ob)] (boA true), Puk 60 [(obA a.ob)] (boA false), Puk 60 [(obA b.ob)] (boA false), Puk 61 [(obA a.ob)] (boA true), Puk 61 [(obA b.ob)] (boA false), Puk 64 [(obA a.ob)] (obA a.exp.ob), Puk 65 [(obA a.ob)] (obA a.coef.ob), Puk 68 [(obA a.coef.ob), (obA b.ob)] (obA ((Tr.num (a.coef.val * b.val)).ob)), Puk 66 [(obA a.ob)] (obA a.rest.ob), Puk 50 [(obA a.exp.ob), (obA ((Tr.num (a.coef.val * b.val)).ob)), (obA a.rest.ob)] (obA (((a.exp.cons (Tr.num (a.coef.val * b.val))).cons a.rest).ob)), Puk 62 [(obA (((a.exp.cons (Tr.num (a.coef.val * b.val))).cons a.rest).ob))] (.tup [(obA (resO ((a.exp.cons (Tr.num (a.coef.val * b.val))).cons a.rest).kept)), (boA (((a.exp.cons (Tr.num (a.coef.val * b.val))).cons a.rest).kept.isSome))])]) Tryz.func27 (by kernel_rfl) (by kernel_rfl) ⟨oa.b h1, ob.b h2, (p_rZero a).b hz, (p_rZero b).b hzb, (p_rInf a).b ia, (p_rInf b).b fb, p_rExp a, p_rCoef a, p_rProd (coef_ok ha) hb (by decide) (by decide), p_rRest a, p_rPower _ _ _, p_rKept (m := 20001) ⟨⟨(exp_ok ha (by decide)).mono (by decide), show Rb 20001 (a.coef.val * b.val) from (((coef_ok ha).val (by decide)).mul (hb.val (by decide))).mono (by decide)⟩, (rest_ok ha (by decide)).mono (by decide)⟩ (by decide), trivial⟩) (by rw [hO, Tr.mul_fin fb, hz, hzb, ia]; rfl)
  · have sz := Tr.size_e e k r
    have hp := Tr.ov_parts h2
    have hstep := Tr.mulO_step (a := a) h1 hz h2
    have hA := p_rAddO _ a.exp e (Nat.le_refl _) (exp_ok ha (by decide)) hb.1.1
    have hi := ih a r (by omega) ha hb.2
    -- not infinite(a) and not infinite(b): the first test tells
    have key : ∀ (x : Option Tr), (∀ (i : Bool), a.inf = i → Puk 27 [trA a, trA (.cons (.cons e k) r)] (resA x)) → Puk 27 [trA a, trA (.cons (.cons e k) r)] (resA x) := fun x h => h _ rfl
    cases hx : Tr.addO a.exp e with
    | none =>
      refine Puk.r (a := none) (key _ fun i hi' => ?_) (by rw [hstep, hx]; rfl)
      cases i with
      | true => exact pwalk (an := [some (boA true), some (boA true), some (boA false), some (boA false), some (boA true), some (boA true), some (trA a.exp), some (trA e), some (resA none)]) (ls := []) (ps := [Puk 32 [(obA a.ob)] (boA true), Puk 32 [(obA (((e.cons k).cons r).ob))] (boA true), Puk 60 [(obA a.ob)] (boA false), Puk 60 [(obA (((e.cons k).cons r).ob))] (boA false), Puk 61 [(obA a.ob)] (boA true), Puk 61 [(obA (((e.cons k).cons r).ob))] (boA true), Puk 64 [(obA a.ob)] (obA a.exp.ob), Puk 64 [(obA (((e.cons k).cons r).ob))] (obA e.ob), Puk 25 [(obA a.exp.ob), (obA e.ob)] (.tup [(obA (resO none)), (boA false)])]) Tryz.func27 (by kernel_rfl) (by kernel_rfl) ⟨oa.b h1, ob.b h2, (p_rZero a).b hz, p_rZero (.cons (.cons e k) r), (p_rInf a).b hi', p_rInf (.cons (.cons e k) r), p_rExp a, p_rExp (.cons (.cons e k) r), hA.r hx, trivial⟩
      | false => exact pwalk (an := [some (boA true), some (boA true), some (boA false), some (boA false), some (boA false), some (boA true), some (boA true), some (trA a.exp), some (trA e), some (resA none)]) (ls := []) (ps := [Puk 32 [(obA a.ob)] (boA true), Puk 32 [(obA (((e.cons k).cons r).ob))] (boA true), Puk 60 [(obA a.ob)] (boA false), Puk 60 [(obA (((e.cons k).cons r).ob))] (boA false), Puk 61 [(obA a.ob)] (boA false), Puk 61 [(obA (((e.cons k).cons r).ob))] (boA true), Puk 61 [(obA (((e.cons k).cons r).ob))] (boA true), Puk 64 [(obA a.ob)] (obA a.exp.ob), Puk 64 [(obA (((e.cons k).cons r).ob))] (obA e.ob), Puk 25 [(obA a.exp.ob), (obA e.ob)] (.tup [(obA (resO none)), (boA false)])]) Tryz.func27 (by kernel_rfl) (by kernel_rfl) ⟨oa.b h1, ob.b h2, (p_rZero a).b hz, p_rZero (.cons (.cons e k) r), (p_rInf a).b hi', p_rInf (.cons (.cons e k) r), p_rInf (.cons (.cons e k) r), p_rExp a, p_rExp (.cons (.cons e k) r), hA.r hx, trivial⟩
    | some x =>
      have okx := (Tr.ov_ok (Tr.addO_ov hx)).mono (m := 10000) (by decide)
      cases hy : Tr.mulO a r with
      | none =>
        refine Puk.r (a := none) (key _ fun i hi' => ?_) (by rw [hstep, hx, hy]; rfl)
        cases i with
        | true => exact pwalk (an := [some (boA true), some (boA true), some (boA false), some (boA false), some (boA true), some (boA true), some (trA a.exp), some (trA e), some (resA (some x)), some (trA r), some (resA none)]) (ls := []) (ps := [Puk 32 [(obA a.ob)] (boA true), Puk 32 [(obA (((e.cons k).cons r).ob))] (boA true), Puk 60 [(obA a.ob)] (boA false), Puk 60 [(obA (((e.cons k).cons r).ob))] (boA false), Puk 61 [(obA a.ob)] (boA true), Puk 61 [(obA (((e.cons k).cons r).ob))] (boA true), Puk 64 [(obA a.ob)] (obA a.exp.ob), Puk 64 [(obA (((e.cons k).cons r).ob))] (obA e.ob), Puk 25 [(obA a.exp.ob), (obA e.ob)] (.tup [(obA (resO (some x))), (boA true)]), Puk 66 [(obA (((e.cons k).cons r).ob))] (obA r.ob), Puk 27 [(obA a.ob), (obA r.ob)] (.tup [(obA (resO none)), (boA false)])]) Tryz.func27 (by kernel_rfl) (by kernel_rfl) ⟨oa.b h1, ob.b h2, (p_rZero a).b hz, p_rZero (.cons (.cons e k) r), (p_rInf a).b hi', p_rInf (.cons (.cons e k) r), p_rExp a, p_rExp (.cons (.cons e k) r), hA.r hx, p_rRest (.cons (.cons e k) r), hi.r hy, trivial⟩
        | false => exact pwalk (an := [some (boA true), some (boA true), some (boA false), some (boA false), some (boA false), some (boA true), some (boA true), some (trA a.exp), some (trA e), some (resA (some x)), some (trA r), some (resA none)]) (ls := []) (ps := [Puk 32 [(obA a.ob)] (boA true), Puk 32 [(obA (((e.cons k).cons r).ob))] (boA true), Puk 60 [(obA a.ob)] (boA false), Puk 60 [(obA (((e.cons k).cons r).ob))] (boA false), Puk 61 [(obA a.ob)] (boA false), Puk 61 [(obA (((e.cons k).cons r).ob))] (boA true), Puk 61 [(obA (((e.cons k).cons r).ob))] (boA true), Puk 64 [(obA a.ob)] (obA a.exp.ob), Puk 64 [(obA (((e.cons k).cons r).ob))] (obA e.ob), Puk 25 [(obA a.exp.ob), (obA e.ob)] (.tup [(obA (resO (some x))), (boA true)]), Puk 66 [(obA (((e.cons k).cons r).ob))] (obA r.ob), Puk 27 [(obA a.ob), (obA r.ob)] (.tup [(obA (resO none)), (boA false)])]) Tryz.func27 (by kernel_rfl) (by kernel_rfl) ⟨oa.b h1, ob.b h2, (p_rZero a).b hz, p_rZero (.cons (.cons e k) r), (p_rInf a).b hi', p_rInf (.cons (.cons e k) r), p_rInf (.cons (.cons e k) r), p_rExp a, p_rExp (.cons (.cons e k) r), hA.r hx, p_rRest (.cons (.cons e k) r), hi.r hy, trivial⟩
      | some y =>
        have oky := (Tr.ov_ok (Tr.mulO_ov hy)).mono (m := 10000) (by decide)
        refine Puk.r (a := Tr.kept (.cons (.cons x k) y)) (key _ fun i hi' => ?_) (by rw [hstep, hx, hy]; rfl)
        cases i with
        | true => exact pwalk (an := [some (boA true), some (boA true), some (boA false), some (boA false), some (boA true), some (boA true), some (trA a.exp), some (trA e), some (resA (some x)), some (trA r), some (resA (some y)), some (trA k), some (trA (.cons (.cons x k) y)), some (resA (Tr.kept (.cons (.cons x k) y)))]) (ls := []) (ps := [Puk 32 [(obA a.ob)] (boA true), Puk 32 [(obA (((e.cons k).cons r).ob))] (boA true), Puk 60 [(obA a.ob)] (boA false), Puk 60 [(obA (((e.cons k).cons r).ob))] (boA false), Puk 61 [(obA a.ob)] (boA true), Puk 61 [(obA (((e.cons k).cons r).ob))] (boA true), Puk 64 [(obA a.ob)] (obA a.exp.ob), Puk 64 [(obA (((e.cons k).cons r).ob))] (obA e.ob), Puk 25 [(obA a.exp.ob), (obA e.ob)] (.tup [(obA (resO (some x))), (boA true)]), Puk 66 [(obA (((e.cons k).cons r).ob))] (obA r.ob), Puk 27 [(obA a.ob), (obA r.ob)] (.tup [(obA (resO (some y))), (boA true)]), Puk 65 [(obA (((e.cons k).cons r).ob))] (obA k.ob), Puk 50 [(obA (resO (some x))), (obA k.ob), (obA (resO (some y)))] (obA (((x.cons k).cons y).ob)), Puk 62 [(obA (((x.cons k).cons y).ob))] (.tup [(obA (resO ((x.cons k).cons y).kept)), (boA (((x.cons k).cons y).kept.isSome))])]) Tryz.func27 (by kernel_rfl) (by kernel_rfl) ⟨oa.b h1, ob.b h2, (p_rZero a).b hz, p_rZero (.cons (.cons e k) r), (p_rInf a).b hi', p_rInf (.cons (.cons e k) r), p_rExp a, p_rExp (.cons (.cons e k) r), hA.r hx, p_rRest (.cons (.cons e k) r), hi.r hy, p_rCoef (.cons (.cons e k) r), p_rPower _ _ _, p_rKept (m := 10000) ⟨⟨okx, hb.1.2⟩, oky⟩ (by decide), trivial⟩
        | false => exact pwalk (an := [some (boA true), some (boA true), some (boA false), some (boA false), some (boA false), some (boA true), some (boA true), some (trA a.exp), some (trA e), some (resA (some x)), some (trA r), some (resA (some y)), some (trA k), some (trA (.cons (.cons x k) y)), some (resA (Tr.kept (.cons (.cons x k) y)))]) (ls := []) (ps := [Puk 32 [(obA a.ob)] (boA true), Puk 32 [(obA (((e.cons k).cons r).ob))] (boA true), Puk 60 [(obA a.ob)] (boA false), Puk 60 [(obA (((e.cons k).cons r).ob))] (boA false), Puk 61 [(obA a.ob)] (boA false), Puk 61 [(obA (((e.cons k).cons r).ob))] (boA true), Puk 61 [(obA (((e.cons k).cons r).ob))] (boA true), Puk 64 [(obA a.ob)] (obA a.exp.ob), Puk 64 [(obA (((e.cons k).cons r).ob))] (obA e.ob), Puk 25 [(obA a.exp.ob), (obA e.ob)] (.tup [(obA (resO (some x))), (boA true)]), Puk 66 [(obA (((e.cons k).cons r).ob))] (obA r.ob), Puk 27 [(obA a.ob), (obA r.ob)] (.tup [(obA (resO (some y))), (boA true)]), Puk 65 [(obA (((e.cons k).cons r).ob))] (obA k.ob), Puk 50 [(obA (resO (some x))), (obA k.ob), (obA (resO (some y)))] (obA (((x.cons k).cons y).ob)), Puk 62 [(obA (((x.cons k).cons y).ob))] (.tup [(obA (resO ((x.cons k).cons y).kept)), (boA (((x.cons k).cons y).kept.isSome))])]) Tryz.func27 (by kernel_rfl) (by kernel_rfl) ⟨oa.b h1, ob.b h2, (p_rZero a).b hz, p_rZero (.cons (.cons e k) r), (p_rInf a).b hi', p_rInf (.cons (.cons e k) r), p_rInf (.cons (.cons e k) r), p_rExp a, p_rExp (.cons (.cons e k) r), hA.r hx, p_rRest (.cons (.cons e k) r), hi.r hy, p_rCoef (.cons (.cons e k) r), p_rPower _ _ _, p_rKept (m := 10000) ⟨⟨okx, hb.1.2⟩, oky⟩ (by decide), trivial⟩
theorem p_oNatural {n : Int} (h0 : 0 ≤ n) (h1 : n ≤ 9223372036854775807) : Puk 41 [inA n] (trA (.num n)) :=
  pwalk (an := [some (inA n), some (trA (.num n))]) (ls := []) (ps := [(Value.int IntKind.i64 n) = (Value.int IntKind.i64 (if 0 > n then 0 else n)), Puk 80 [(inA n)] (obA ((Tr.num ↑n).ob))]) Tryz.func41 (by kernel_rfl) (by kernel_rfl) ⟨by rw [if_neg (by omega)], p_oInt n (by omega) h1, trivial⟩
theorem p_rNatural {n : Int} (h0 : 0 ≤ n) (h1 : n ≤ 9223372036854775807) : Puk 43 [inA n] (trA (.num n)) :=
  pwalk (an := [some (inA n), some (trA (.num n))]) (ls := []) (ps := [(Value.int IntKind.i64 n) = (Value.int IntKind.i64 (if 0 > n then 0 else n)), Puk 15 [(inA n)] (obA ((Tr.num ↑n).ob))]) Tryz.func43 (by kernel_rfl) (by kernel_rfl) ⟨by rw [if_neg (by omega)], p_rInt n (by omega) h1, trivial⟩
theorem p_oPart {f : FuncId} {t : Tr} {x : Ob} (ht : t.Ok 10000) (hv : t.ov = true) (hf : Puk f [trA t] (obA x)) : Puk 76 [trA t, .clo f []] (obA x) :=
  pwalk (an := [some (boA true), some (obA x)]) (ls := []) (ps := [Puk 31 [(obA t.ob)] (boA true), Puk f [(obA t.ob)] (obA x)]) Tryz.func76 (by kernel_rfl) (by kernel_rfl) ⟨(p_oOv (by decide) (by decide) ht).b hv, hf, trivial⟩
theorem p_oPart0 {f : FuncId} {t : Tr} (ht : t.Ok 10000) (hv : t.ov = false) : Puk 76 [trA t, .clo f []] (obA zeroO) :=
  pwalk (an := [some (boA false)]) (ls := []) (ps := [Puk 31 [(obA t.ob)] (boA false)]) Tryz.func76 (by kernel_rfl) (by kernel_rfl) ⟨(p_oOv (by decide) (by decide) ht).b hv, trivial⟩
theorem p_oPExp {t : Tr} (ht : t.Ok 10000) (hv : t.ov = true) : Puk 35 [trA t] (trA t.exp) :=
  pwalk (an := [some (trA t.exp)]) (ls := []) (ps := [Puk 76 [(obA t.ob), (.clo 77 [])] (obA t.exp.ob)]) Tryz.func35 (by kernel_rfl) (by kernel_rfl) ⟨p_oPart ht hv (p_oExp t), trivial⟩
theorem p_oPExp0 {t : Tr} (ht : t.Ok 10000) (hv : t.ov = false) : Puk 35 [trA t] (obA zeroO) :=
  pwalk (an := [some (obA zeroO)]) (ls := []) (ps := [Puk 76 [(obA t.ob), (.clo 77 [])] (obA zeroO)]) Tryz.func35 (by kernel_rfl) (by kernel_rfl) ⟨p_oPart0 ht hv, trivial⟩
theorem p_rPExp {t : Tr} (ht : t.Ok 10000) (hv : t.ov = true) : Puk 36 [trA t] (trA t.exp) :=
  pwalk (an := [some (boA true), some (trA t.exp)]) (ls := []) (ps := [Puk 32 [(obA t.ob)] (boA true), Puk 64 [(obA t.ob)] (obA t.exp.ob)]) Tryz.func36 (by kernel_rfl) (by kernel_rfl) ⟨(p_rOv (by decide) (by decide) ht).b hv, p_rExp t, trivial⟩
theorem p_rPExp0 {t : Tr} (ht : t.Ok 10000) (hv : t.ov = false) : Puk 36 [trA t] (obA zeroO) :=
  pwalk (an := [some (boA false)]) (ls := []) (ps := [Puk 32 [(obA t.ob)] (boA false)]) Tryz.func36 (by kernel_rfl) (by kernel_rfl) ⟨(p_rOv (by decide) (by decide) ht).b hv, trivial⟩
theorem p_oPCoef {t : Tr} (ht : t.Ok 10000) (hv : t.ov = true) : Puk 37 [trA t] (trA t.coef) :=
  pwalk (an := [some (trA t.coef)]) (ls := []) (ps := [Puk 76 [(obA t.ob), (.clo 78 [])] (obA t.coef.ob)]) Tryz.func37 (by kernel_rfl) (by kernel_rfl) ⟨p_oPart ht hv (p_oCoef t), trivial⟩
theorem p_oPCoef0 {t : Tr} (ht : t.Ok 10000) (hv : t.ov = false) : Puk 37 [trA t] (obA zeroO) :=
  pwalk (an := [some (obA zeroO)]) (ls := []) (ps := [Puk 76 [(obA t.ob), (.clo 78 [])] (obA zeroO)]) Tryz.func37 (by kernel_rfl) (by kernel_rfl) ⟨p_oPart0 ht hv, trivial⟩
theorem p_rPCoef {t : Tr} (ht : t.Ok 10000) (hv : t.ov = true) : Puk 38 [trA t] (trA t.coef) :=
  pwalk (an := [some (boA true), some (trA t.coef)]) (ls := []) (ps := [Puk 32 [(obA t.ob)] (boA true), Puk 65 [(obA t.ob)] (obA t.coef.ob)]) Tryz.func38 (by kernel_rfl) (by kernel_rfl) ⟨(p_rOv (by decide) (by decide) ht).b hv, p_rCoef t, trivial⟩
theorem p_rPCoef0 {t : Tr} (ht : t.Ok 10000) (hv : t.ov = false) : Puk 38 [trA t] (obA zeroO) :=
  pwalk (an := [some (boA false)]) (ls := []) (ps := [Puk 32 [(obA t.ob)] (boA false)]) Tryz.func38 (by kernel_rfl) (by kernel_rfl) ⟨(p_rOv (by decide) (by decide) ht).b hv, trivial⟩
theorem p_oPRest {t : Tr} (ht : t.Ok 10000) (hv : t.ov = true) : Puk 39 [trA t] (trA t.rest) :=
  pwalk (an := [some (trA t.rest)]) (ls := []) (ps := [Puk 76 [(obA t.ob), (.clo 79 [])] (obA t.rest.ob)]) Tryz.func39 (by kernel_rfl) (by kernel_rfl) ⟨p_oPart ht hv (p_oRest t), trivial⟩
theorem p_oPRest0 {t : Tr} (ht : t.Ok 10000) (hv : t.ov = false) : Puk 39 [trA t] (obA zeroO) :=
  pwalk (an := [some (obA zeroO)]) (ls := []) (ps := [Puk 76 [(obA t.ob), (.clo 79 [])] (obA zeroO)]) Tryz.func39 (by kernel_rfl) (by kernel_rfl) ⟨p_oPart0 ht hv, trivial⟩
theorem p_rPRest {t : Tr} (ht : t.Ok 10000) (hv : t.ov = true) : Puk 40 [trA t] (trA t.rest) :=
  pwalk (an := [some (boA true), some (trA t.rest)]) (ls := []) (ps := [Puk 32 [(obA t.ob)] (boA true), Puk 66 [(obA t.ob)] (obA t.rest.ob)]) Tryz.func40 (by kernel_rfl) (by kernel_rfl) ⟨(p_rOv (by decide) (by decide) ht).b hv, p_rRest t, trivial⟩
theorem p_rPRest0 {t : Tr} (ht : t.Ok 10000) (hv : t.ov = false) : Puk 40 [trA t] (obA zeroO) :=
  pwalk (an := [some (boA false)]) (ls := []) (ps := [Puk 32 [(obA t.ob)] (boA false)]) Tryz.func40 (by kernel_rfl) (by kernel_rfl) ⟨(p_rOv (by decide) (by decide) ht).b hv, trivial⟩
end Go.Proofs.YtgphkgmhcmffnaaGreatDoor
