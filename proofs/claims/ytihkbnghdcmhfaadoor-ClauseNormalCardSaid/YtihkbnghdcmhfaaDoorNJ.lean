/- Tautology of the code on small clauses. -/
import Derived.Test.YtihkbnghdcmhfaaDoorNI
import Derived.Test.YtihkbnghdcmhfaaDoorNF
import Derived.Test.YtihkbnghdcmhfaaDoorNB
namespace Go.Proofs.YtihkbnghdcmhfaaDoor
open Go.RowKit
open Te

/-- the closure of Tautology at a literal that is no constant, no equality, no negation -/
theorem w_tau1 {c : List Te} {l m : Te} {b : Bool} (h0 : l.kind ≠ 2) (h1 : Puk 32 [teA l, stA equalB, inA 2] (boA false)) (h2 : Puk 32 [teA l, stA notB, inA 1] (boA false)) (h3 : Puk 14 [teA l] (teA m)) (h4 : Puk contF [tesA c, teA m] (boA b)) : Puk 30 [teA l, .pin [tesA c]] (boA b) :=
  pwalk (an := [yF, yF, yF, .av (teA m), .av (boA b)]) (ls := []) (ps := [Bn .eql 3 (.tmp 5) (.const (vi 2)) (vi l.kind) (vi 2) bF, Puk 32 [(teA l), (stA [101, 113, 117, 97, 108]), (inA 2)] (boA false), Puk 32 [(teA l), (stA [110, 111, 116]), (inA 1)] (boA false), Puk 14 [(teA l)] (teA m), Puk 35 [(.dt (.row (List.map Te.enc c))), (teA m)] (boA b)]) Tryd.func30 (by kernel_rfl) (by kernel_rfl) ⟨bin_ieq (noD h0), h1, h2, h3, h4, trivial⟩
/-- at a negation -/
theorem w_tau2 {c : List Te} {l m y : Te} {b : Bool} (h0 : l.kind ≠ 2) (hx : l.args[0]? = some y) (h1 : Puk 32 [teA l, stA equalB, inA 2] (boA false)) (h2 : Puk 32 [teA l, stA notB, inA 1] (boA true)) (h5 : Puk 34 [boA false] (teA noT)) (h6 : Puk 33 [teA y, teA noT] (boA false)) (h3 : Puk 14 [teA l] (teA m)) (h4 : Puk contF [tesA c, teA m] (boA b)) : Puk 30 [teA l, .pin [tesA c]] (boA b) :=
  pwalk (an := [yF, yF, yT, .av (.pin ((encT y).map .dt)), .av (teA noT), yF, .av (teA m), .av (boA b)]) (ls := []) (ps := [Bn .eql 3 (.tmp 5) (.const (vi 2)) (vi l.kind) (vi 2) bF, Puk 32 [(teA l), (stA [101, 113, 117, 97, 108]), (inA 2)] (boA false), Puk 32 [(teA l), (stA [110, 111, 116]), (inA 1)] (boA true), IxAt (List.map Te.enc l.args) 0 11 (encT y), Puk 34 [(boA false)] (.agg [(inA 2), (stA noT.np), (stA noT.nn), (inA 2), (stA noT.val.num), (stA noT.val.den), (stA noT.val.sp), (stA noT.val.sn), (stA noT.val.text), (.dt (.row (List.map Ob.enc noT.val.pair))), (.dt (.row (List.map Te.enc noT.args)))]), Puk 33 [(teA y), (.agg [(inA 2), (stA noT.np), (stA noT.nn), (inA 2), (stA noT.val.num), (stA noT.val.den), (stA noT.val.sp), (stA noT.val.sn), (stA noT.val.text), (.dt (.row (List.map Ob.enc noT.val.pair))), (.dt (.row (List.map Te.enc noT.args)))])] (boA false), Puk 14 [(teA l)] (teA m), Puk 35 [(.dt (.row (List.map Te.enc c))), (teA m)] (boA b)]) Tryd.func30 (by kernel_rfl) (by kernel_rfl) ⟨bin_ieq (noD h0), h1, h2, ix_te hx, h5, h6, h3, h4, trivial⟩
theorem w_taut {c : List Te} {b : Bool} (h : Puk 29 [tesA c, .clf 30 [.pin [tesA c]]] (boA b)) : Puk 13 [tesA c] (boA b) :=
  pwalk (an := [.av (boA b)]) (ls := []) (ps := [Puk 29 [(.dt (.row (List.map Te.enc c))), (.clf 30 [(.pin [(.dt (.row (List.map Te.enc c)))])])] (boA b)]) Tryd.func13 (by kernel_rfl) (by kernel_rfl) ⟨h, trivial⟩
theorem p_taut {c : List Te} (hl : c.length ≤ 1000) {p : Te → Bool} (h : ∀ x ∈ c, Puk 30 [teA x, .pin [tesA c]] (boA (p x))) : Puk 13 [tesA c] (boA (c.any p)) :=
  w_taut (p_ctFunc (cs := [.pin [tesA c]]) (by omega) h)
/- matching a variable -/
abbrev asg (p y : Te) : List Dt := [.val (str p.np), .val (str p.nn)] ++ encT y
/-- the term of nothing, as it is built -/
abbrev zTn : AV := .agg [inA 0, stA [], stA [], inA 0, stA [], stA [], stA [], stA [], stA [], .nil, .nil]
theorem src_asg (p y : Te) : SrcOK 13 [asg p y] := by
  intro x hx
  rw [List.mem_singleton] at hx
  subst hx
  refine ⟨rfl, fun d hd => ?_⟩
  rcases List.mem_append.1 hd with hd | hd
  · simp only [List.mem_cons, List.not_mem_nil, or_false] at hd
    rcases hd with rfl | rfl <;> rfl
  · exact (src_te1 y _ (List.mem_singleton.2 rfl)).2 d hd
theorem p_lookup0 (a b : List UInt8) : Suk 85 [.own 0 0, syA a b] [some (.buf 102 13 [])] (.tup [zTn, boA false]) [some (.buf 102 13 [])] :=
  psw (n := 1) (ks := [0]) (an := [.no, .no]) (ls := [.run 1]) (ps := []) Tryd.func85 (by kernel_rfl) (by kernel_rfl) trivial
theorem p_match1 {p y : Te} (h : p.kind = 1) : Suk 79 [teA p, teA y, .own 0 0] [some (.buf 102 13 [])] (.tup [.own 0 1, boA true]) [some (.buf 102 13 [asg p y])] :=
  psw (n := 1) (ks := [0]) (an := [yT, .av (.un)]) (ls := [.scl 2 3 [0] (.tup [zTn, boA false]) [some (.buf 102 13 [])]]) (ps := [Bn .eql 3 (.tmp 15) (.const (vi 1)) (vi p.kind) (vi 1) bT, Suk 85 [AV.own 0 0, AV.agg [AV.dt (Dt.val (str p.np)), AV.dt (Dt.val (str p.nn))]] [some (Bx.buf 102 13 [])] (AV.tup [zTn, boA false]) [some (Bx.buf 102 13 [])], 0 = 0, FitB 208 1, SrcOK 13 [asg p y]]) Tryd.func79 (by kernel_rfl) (by kernel_rfl) ⟨bin_ieq (yesD h), p_lookup0 p.np p.nn, rfl, ⟨by decide, by decide⟩, src_asg p y, trivial⟩
theorem p_matchAll {p y : Te} (h : p.kind = 1) : Puk 71 [.dt (.row [encT p]), .dt (.row [encT y]), .dt (.row [])] (.tup [.dt (.row [asg p y]), boA true]) :=
  pwalk (an := [.no, .no, .no, .no, .no, .no, .no, .no, .no]) (ls := [.scl 3 1 [] (.own 0 0) [some (.buf 102 13 [])], .run 2, .scl 7 6 [0] (.tup [.own 0 1, boA true]) [some (.buf 102 13 [asg p y])]]) (ps := [Suk 78 [AV.dt (Dt.row [])] [] (AV.own 0 0) [some (Bx.buf 102 13 [])], Suk 79 [teA p, teA y, AV.own 0 0] [some (Bx.buf 102 13 [])] (AV.tup [AV.own 0 1, boA true]) [some (Bx.buf 102 13 [asg p y])], 1 = 1]) Tryd.func71 (by kernel_rfl) (by kernel_rfl) ⟨p_cloneA0, p_match1 h, rfl, trivial⟩
theorem p_matchV {p y : Te} (h : p.kind = 1) : Puk 62 [teA p, teA y, .dt (.row [])] (.tup [.dt (.row [asg p y]), boA true]) :=
  pwalk (an := [.av (.tup [.dt (.row [asg p y]), boA true])]) (ls := []) (ps := [Puk 71 [(.dt (.row [encT p])), (.dt (.row [encT y])), (.dt (.row []))] (.tup [(.dt (.row [[(.val (str p.np)), (.val (str p.nn)), (.val (vi y.kind)), (.val (str y.np)), (.val (str y.nn)), (.val (vi y.val.kind)), (.val (str y.val.num)), (.val (str y.val.den)), (.val (str y.val.sp)), (.val (str y.val.sn)), (.val (str y.val.text)), (.row (List.map Ob.enc y.val.pair)), (.row (List.map Te.enc y.args))]])), (boA true)])]) Tryd.func62 (by kernel_rfl) (by kernel_rfl) ⟨p_matchAll h, trivial⟩
theorem p_sub0 (b : List Te) (s : List (List Dt)) : Puk 38 [.dt (.row []), tesA b, .dt (.row s)] (boA true) :=
  pwalk (an := [.no, .no]) (ls := []) (ps := []) Tryd.func38 (by kernel_rfl) (by kernel_rfl) trivial
theorem p_subC {p y : Te} {b : List Te} (h : p.kind = 1) : Puk 61 [teA y, .pin [.dt (.row [encT p])], .pin [.dt (.row [])], .pin [tesA b]] (boA true) :=
  pwalk (an := [.no, .av (.tup [.dt (.row [asg p y]), boA true]), .no, yT]) (ls := []) (ps := [Puk 62 [(teA p), (teA y), (.dt (.row []))] (.tup [(.dt (.row [[(.val (str p.np)), (.val (str p.nn)), (.val (vi y.kind)), (.val (str y.np)), (.val (str y.nn)), (.val (vi y.val.kind)), (.val (str y.val.num)), (.val (str y.val.den)), (.val (str y.val.sp)), (.val (str y.val.sn)), (.val (str y.val.text)), (.row (List.map Ob.enc y.val.pair)), (.row (List.map Te.enc y.args))]])), (boA true)]), SlcOK [encT p] 11 ((some 1).getD 0) (none.getD ↑[encT p].length) [], (none : Option Int) = none ∨ (none : Option Int) = none, Puk 38 [(.dt (.row [])), (.dt (.row (List.map Te.enc b))), (.dt (.row [[(.val (str p.np)), (.val (str p.nn)), (.val (vi y.kind)), (.val (str y.np)), (.val (str y.nn)), (.val (vi y.val.kind)), (.val (str y.val.num)), (.val (str y.val.den)), (.val (str y.val.sp)), (.val (str y.val.sn)), (.val (str y.val.text)), (.row (List.map Ob.enc y.val.pair)), (.row (List.map Te.enc y.args))]]))] (boA true)]) Tryd.func61 (by kernel_rfl) (by kernel_rfl) ⟨p_matchV h, ⟨by show (0 : Int) ≤ 1; omega, by show (1 : Int) ≤ ((1 : Nat) : Int); omega, Int.le_refl _, rfl, .inr fun x hx => by rw [List.mem_singleton] at hx; subst hx; rfl⟩, .inl rfl, p_sub0 b _, trivial⟩
theorem p_sub1 {p : Te} {b : List Te} (hb : b.length ≤ 1000) (h : p.kind = 1) : Puk 38 [.dt (.row [encT p]), tesA b, .dt (.row [])] (boA (b.any fun _ => true)) :=
  pwalk (an := [.no, .no, .av (boA (b.any fun _ => true))]) (ls := []) (ps := [Puk 29 [(.dt (.row (List.map Te.enc b))), (.clf 61 [(.pin [(.dt (.row [encT p]))]), (.pin [(.dt (.row []))]), (.pin [(.dt (.row (List.map Te.enc b)))])])] (boA (b.any fun x => true))]) Tryd.func38 (by kernel_rfl) (by kernel_rfl) ⟨p_ctFunc (p := fun _ => true) (by omega) fun x _ => p_subC h, trivial⟩
theorem p_subs {p q r : Te} (h : p.kind = 1) : Puk 15 [.dt (.row [encT p]), .dt (.row [encT q, encT r])] (boA true) := by
  rw [row2]
  exact pwalk (an := [.no, .no, yT]) (ls := []) (ps := [Puk 38 [(.dt (.row [encT p])), (.dt (.row (List.map Te.enc [q, r]))), (.dt (.row []))] (boA true)]) Tryd.func15 (by kernel_rfl) (by kernel_rfl) ⟨(p_sub1 (b := [q, r]) (by show 2 ≤ 1000; omega) h).b rfl, trivial⟩
end Go.Proofs.YtihkbnghdcmhfaaDoor
/- The law ClauseNormal: its first check, and the whole. -/
namespace Go.Proofs.YtihkbnghdcmhfaaDoor
open Go.RowKit
open Te

abbrev cls2 (c d : List (List Dt)) : AV := .dt (.row [[.row c], [.row d]])
theorem w_first {p q r s x f m : Te} {c d : List (List Dt)} (h1 : Puk 11 [syA userB [120]] (teA p)) (h2 : Puk 11 [syA userB [121]] (teA q)) (h3 : Puk 11 [syA userB [122]] (teA r)) (h4 : Puk 11 [syA userB [117]] (teA s))
    (h5 : Puk 12 [stA ifB, .dt (.row [encT p, encT q, encT r])] (teA x)) (h6 : Puk 12 [stA impB, .dt (.row [encT x, encT s])] (teA f))
    (h7 : Puk 6 [teA f] (.tup [cls2 c d, inA 0])) (hc : c.length = 3) (hd : d.length = 3)
    (h8 : Puk 14 [teA p] (teA m)) (h9 : Puk 13 [.dt (.row [encT p, encT m])] (boA true)) (h10 : Puk 13 [.dt (.row [encT p])] (boA false))
    (h11 : Puk 15 [.dt (.row [encT p]), .dt (.row [encT q, encT r])] (boA true)) (h12 : Puk 16 [.dt (.row [[.row [encT p]], [.row [encT q, encT p]]])] (.dt (.row [encT p, encT q]))) : Puk 4 [] (boA true) :=
  pwalk (an := [.av (.dt (.row vars4)), .no, .av (teA p), .no, .av (teA q), .no, .av (teA r), .no, .av (teA s), .av (teA x), .av (teA f), .av (.tup [cls2 c d, inA 0]), .no, .no, .no, .no, .av (inA 3), .no, .no, .av (inA 3), .no, .av (teA m), yT, yF, yT, .av (.dt (.row [encT p, encT q])), .no, .no]) (ls := []) (ps := [Puk 10 [(inA 4)] (.dt (.row [[(.val (str userB)), (.val (str [120]))], [(.val (str userB)), (.val (str [121]))], [(.val (str userB)), (.val (str [122]))], [(.val (str userB)), (.val (str [117]))]])), Puk 11 [(syA userB [120])] (teA p), Puk 11 [(syA userB [121])] (teA q), Puk 11 [(syA userB [122])] (teA r), Puk 11 [(syA userB [117])] (teA s), Puk 12 [(stA [105, 102]), (.dt (.row [encT p, encT q, encT r]))] (teA x), Puk 12 [(stA [105, 109, 112, 108, 105, 101, 115]), (.dt (.row [encT x, encT s]))] (teA f), Puk 6 [(teA f)] (.tup [(.dt (.row [[(.row c)], [(.row d)]])), (inA 0)]), (vi 3) = (vi ↑c.length), (vi 3) = (vi ↑d.length), Puk 14 [(teA p)] (teA m), Puk 13 [(.dt (.row [encT p, encT m]))] (boA true), Puk 13 [(.dt (.row [encT p]))] (boA false), Puk 15 [(.dt (.row [encT p])), (.dt (.row [encT q, encT r]))] (boA true), Puk 16 [(.dt (.row [[(.row [encT p])], [(.row [encT q, encT p])]]))] (.dt (.row [encT p, encT q]))]) Tryd.func4 (by kernel_rfl) (by kernel_rfl)
    ⟨p_vars4, h1, h2, h3, h4, h5, h6, h7, by rw [hc]; rfl, by rw [hd]; rfl, h8, h9, h10, h11, h12, trivial⟩
abbrev pT : Te := varT [120]
abbrev qT : Te := varT [121]
abbrev rT : Te := varT [122]
abbrev sT : Te := varT [117]
abbrev fstT : Te := ap impB [ap ifB [pT, qT, rT], sT]
abbrev fst1 : List Te := [ap notB [pT], ap notB [qT], sT]
abbrev fst2 : List Te := [pT, ap notB [rT], sT]
theorem fst_exm : (exm id 20002 fstT [] ⟨[], 0, 0⟩).er = 0 ∧ (exm id 20002 fstT [] ⟨[], 0, 0⟩).out = [fst1, fst2] := by decide +kernel
theorem gd2 {a b : Te} (ha : a.Gd) (hb : b.Gd) : ∀ x ∈ [a, b], x.Gd := fun x hx => by
  simp only [List.mem_cons, List.not_mem_nil, or_false] at hx
  rcases hx with rfl | rfl
  · exact ha
  · exact hb
theorem fst_gd : fstT.Gd := .ap (by show 2 ≤ 1000; omega) (gd2 ((var_gd _).if_ (var_gd _) (var_gd _)) (var_gd _))
theorem p_fstN : Puk 6 [teA fstT] (.tup [cls2 (encTs fst1) (encTs fst2), inA 0]) := by
  have h := p_normalize fst_gd
  unfold nrmA at h
  rw [fst_exm.1, fst_exm.2] at h
  exact h
theorem neg_pT : neg pT = ap notB [pT] := by decide +kernel
theorem var_ne {n : List UInt8} : (varT n).kind ≠ 2 := by show (1 : Int) ≠ 2; decide
theorem var_is {n m : List UInt8} {k : Nat} : Puk 32 [teA (varT n), stA m, inA k] (boA false) := (p_is (varT n) m k).b (noD fun h => by cases h.1)
/-- Tautology of a variable and its negation, and of a variable -/
theorem p_tau1 : Puk 13 [.dt (.row [encT pT, encT (ap notB [pT])])] (boA true) := by
  rw [row2]
  refine (p_taut (c := [pT, ap notB [pT]]) (by show 2 ≤ 1000; omega) (p := fun _ => true) fun x hx => ?_).b rfl
  simp only [List.mem_cons, List.not_mem_nil, or_false] at hx
  have hc : ∀ t : Te, t ∈ [pT, ap notB [pT]] → Puk contF [tesA [pT, ap notB [pT]], teA t] (boA true) := fun t ht => by
    have := cont2 (p := pT) (q := ap notB [pT]) (var_gd _) (var_gd _).not (t := t) (yesD ht)
    rwa [row2] at this
  rcases hx with rfl | rfl
  · exact w_tau1 var_ne var_is var_is (p_neg pT) (by rw [neg_pT]; exact hc _ (by simp))
  · exact w_tau2 (y := pT) (by decide) rfl ((p_is (ap notB [pT]) equalB 2).b (by decide +kernel)) ((p_is (ap notB [pT]) notB 1).b (by decide +kernel)) (p_constant false) ((p_teq (var_gd _).wf noT).b (by decide +kernel)) (p_neg (ap notB [pT])) (by rw [neg_not]; exact hc _ (by simp))
theorem p_tau0 : Puk 13 [.dt (.row [encT pT])] (boA false) := by
  rw [row1]
  refine (p_taut (c := [pT]) (by show 1 ≤ 1000; omega) (p := fun _ => false) fun x hx => ?_).b rfl
  rw [List.mem_singleton] at hx
  subst hx
  have := cont1 (p := pT) (var_gd _) (t := ap notB [pT]) (b := false) (by decide +kernel)
  rw [row1] at this
  exact w_tau1 var_ne var_is var_is (p_neg pT) (by rw [neg_pT]; exact this)
/-- the first check -/
theorem p_first : Puk 4 [] (boA true) :=
  w_first (p_rVar _) (p_rVar _) (p_rVar _) (p_rVar _) (p_rLisp3 _ _ _ _) (p_rLisp2 _ _ _) p_fstN rfl rfl (by have := p_neg pT; rwa [neg_pT] at this) p_tau1 p_tau0 (p_subs rfl) (p_union (var_gd _) (var_gd _) (by decide +kernel))
/-- the law -/
theorem w_law {r : Raw} {t : Te} {cs : List (List Dt)} {e : Int} (hf : Puk 5 [rawA r, inA 12] (boA true)) (h1 : Puk 7 [rawA r] (teA t)) (h2 : Puk 6 [teA t] (.tup [.dt (.row cs), inA e])) (h3 : Puk 8 [teA t] (.tup [.dt (.row cs), inA e])) (h4 : Puk 9 [.dt (.row cs), .dt (.row cs)] (boA true)) : Puk 3 [rawA r] (boA true) :=
  pwalk (an := [yT, yT, .av (teA t), .av (.tup [.dt (.row cs), inA e]), .av (teA t), .av (.tup [.dt (.row cs), inA e]), yT, yT]) (ls := []) (ps := [Puk 4 [] (boA true), Puk 5 [(rawA r), (inA 12)] (boA true), Puk 7 [(rawA r)] (teA t), Puk 6 [(teA t)] (.tup [(.dt (.row cs)), (inA e)]), Puk 7 [(rawA r)] (teA t), Puk 8 [(teA t)] (.tup [(.dt (.row cs)), (inA e)]), Bn .eql 28 (.tmp 24) (.tmp 25) (vi e) (vi e) bT, Puk 9 [(.dt (.row cs)), (.dt (.row cs))] (boA true)]) Tryd.func3 (by kernel_rfl) (by kernel_rfl) ⟨p_first, hf, h1, h2, h1, h3, bin_ieq (yesD rfl), h4, trivial⟩
theorem normal19 (r : Raw) : Puk 3 [rawA r] (boA true) := by
  have hf := p_Few r 12
  cases h : fewR r 12 with
  | false =>
    rw [h] at hf
    exact pwalk (an := [yT, yF]) (ls := []) (ps := [Puk 4 [] (boA true), Puk 5 [(rawA r), (inA 12)] (boA false)]) Tryd.func3 (by kernel_rfl) (by kernel_rfl) ⟨p_first, hf, trivial⟩
  | true =>
    rw [h] at hf
    have hg := fmT_gd _ r (Nat.le_refl _)
    have h2 := p_normalize hg
    have h3 := p_rnormalize hg
    have hc := exm_cls 20002 (fmT r) [] ⟨[], 0, 0⟩ hg (fun q hq => by cases hq) (fun c hc => by cases hc)
    have hl := (exm_inv id 20002 (fmT r) [] ⟨[], 0, 0⟩ (by decide)).2.2
    generalize exm id 20002 (fmT r) [] ⟨[], 0, 0⟩ = s at *
    unfold nrmA at h2 h3
    by_cases he : s.er = 0
    · rw [if_pos he] at h2 h3
      exact w_law hf (p_formula r) h2 h3 (p_same (by omega) hc)
    · rw [if_neg he] at h2 h3
      exact w_law hf (p_formula r) h2 h3 (p_same (l := []) (by decide) fun c hc => by cases hc)
end Go.Proofs.YtihkbnghdcmhfaaDoor
/- A law that was walked, as a contract of the machine. -/
namespace Go.Proofs.YtihkbnghdcmhfaaDoor
open Go.RowKit

theorem Puk.law {f : FuncId} {args : List AV} (h : Puk f args (boA true)) {ok : Nat → Prop} {W : World} {vs : List Value} (hG : Gx W) (hv : RL (M0 ok) W args vs) : Calls Tryd.prog f vs.toArray W fun e W' => e = .returned (.bool true) ∧ Below W.heap.size W W' :=
  (h.2 ok W vs hG hv).mono fun e W' ⟨v, he, hb, hr⟩ => ⟨by rw [he, Rd.val_eq hr], hb⟩
abbrev Says (f : FuncId) (args : Array Value) (W : World) : Prop := Calls Tryd.prog f args W fun e W' => e = .returned (.bool true) ∧ Below W.heap.size W W'
end Go.Proofs.YtihkbnghdcmhfaaDoor
/- The law ClauseNormal as a contract of the machine. -/
namespace Go.Proofs.YtihkbnghdcmhfaaDoor
open Go.RowKit

theorem normal19_any (W : World) (hG : Gx W) (s : Raw) (_ : s.Wf) (A : Option Addr) (n c : Nat) (hr : Rd (fun _ => True) W (.slice A n c) (.row (s.l.map Raw.enc))) :
    Says 3 #[rawV s (.slice A n c)] W :=
  (normal19 s).law (ok := fun _ => True) hG ⟨_, [], rfl, RV.ofRaw hr, rfl⟩
end Go.Proofs.YtihkbnghdcmhfaaDoor
