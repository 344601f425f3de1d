/- Negations and the propositional functions, both texts. -/
import Derived.Test.YtendgffijciehaaGreatDoorFG
namespace Go.Proofs.YtendgffijciehaaGreatDoor
open Go.RowKit

namespace Te
theorem arg_at {t : Te} {n : List UInt8} {k i : Nat} (h : is t n k) (hi : i < k) : t.args[i]? = some (t.arg i) := by
  have hl : t.args.length = k := h.2.2.2
  unfold arg
  rw [List.getD_eq_getElem?_getD, List.getElem?_eq_getElem (by omega)]
  rfl
theorem row1 (a : Te) : [encT a] = [a].map Te.enc := by simp only [List.map_cons, List.map_nil, enc_T]
theorem row3 (a b c : Te) : [encT a, encT b, encT c] = [a, b, c].map Te.enc := by simp only [List.map_cons, List.map_nil, enc_T]
end Te
open Te
theorem p_tLisp1 (n : List UInt8) (a : Te) : Puk 61 [stA n, .dt (.row [encT a])] (teA (Te.ap n [a])) := p_tLisp n [a] (row1 a)
theorem p_rLisp1 (n : List UInt8) (a : Te) : Puk 15 [stA n, .dt (.row [encT a])] (teA (Te.ap n [a])) := p_rLisp n [a] (row1 a)
theorem p_tLisp3 (n : List UInt8) (a b c : Te) : Puk 61 [stA n, .dt (.row [encT a, encT b, encT c])] (teA (Te.ap n [a, b, c])) := p_tLisp n [a, b, c] (row3 a b c)
theorem p_rLisp3 (n : List UInt8) (a b c : Te) : Puk 15 [stA n, .dt (.row [encT a, encT b, encT c])] (teA (Te.ap n [a, b, c])) := p_rLisp n [a, b, c] (row3 a b c)
abbrev opA : Option Te → Te → AV
  | some t, _ => .tup [teA t, boA true]
  | none, t => .tup [teA t, boA false]
theorem yesD {p : Prop} [Decidable p] (h : p) : decide p = true := decide_eq_true h
theorem noD {p : Prop} [Decidable p] (h : ¬ p) : decide p = false := decide_eq_false h
theorem p_neg (t : Te) : Puk 23 [teA t] (teA (neg t)) := by
  unfold neg
  by_cases h : is t notB 1
  · rw [if_pos h]
    have h0 := arg_at h (show 0 < 1 by omega)
    generalize t.arg 0 = a at *
    exact pwalk (an := [yT, .av (.pin ((encT a).map .dt))]) (ls := []) (ps := [Puk 56 [(.agg [(inA t.kind), (stA t.np), (stA t.nn), (inA t.val.kind), (stA t.val.num), (stA t.val.den), (stA t.val.sp), (stA t.val.sn), (stA t.val.text), (.dt (.row (List.map Ob.enc t.val.pair))), (.dt (.row (List.map enc t.args)))]), (stA [110, 111, 116]), (inA 1)] (boA true), IxAt (List.map enc t.args) 0 11 ([(.val (vi a.kind)), (.val (str a.np)), (.val (str a.nn)), (.val (vi a.val.kind)), (.val (str a.val.num)), (.val (str a.val.den)), (.val (str a.val.sp)), (.val (str a.val.sn)), (.val (str a.val.text)), (.row (List.map Ob.enc a.val.pair)), (.row (List.map enc a.args))])]) Tryz.func23 (by kernel_rfl) (by kernel_rfl) ⟨(p_is t notB 1).b (yesD h), ix_te h0, trivial⟩
  · rw [if_neg h]
    exact pwalk (an := [yF, .av (teA (ap notB [t]))]) (ls := []) (ps := [Puk 56 [(.agg [(inA t.kind), (stA t.np), (stA t.nn), (inA t.val.kind), (stA t.val.num), (stA t.val.den), (stA t.val.sp), (stA t.val.sn), (stA t.val.text), (.dt (.row (List.map Ob.enc t.val.pair))), (.dt (.row (List.map enc t.args)))]), (stA [110, 111, 116]), (inA 1)] (boA false), Puk 61 [(stA [110, 111, 116]), (.dt (.row [[(.val (vi t.kind)), (.val (str t.np)), (.val (str t.nn)), (.val (vi t.val.kind)), (.val (str t.val.num)), (.val (str t.val.den)), (.val (str t.val.sp)), (.val (str t.val.sn)), (.val (str t.val.text)), (.row (List.map Ob.enc t.val.pair)), (.row (List.map enc t.args))]]))] (.agg [(inA ((ap notB [t]).kind)), (stA (ap notB [t]).np), (stA (ap notB [t]).nn), (inA ((ap notB [t]).val.kind)), (stA (ap notB [t]).val.num), (stA (ap notB [t]).val.den), (stA (ap notB [t]).val.sp), (stA (ap notB [t]).val.sn), (stA (ap notB [t]).val.text), (.dt (.row (List.map Ob.enc (ap notB [t]).val.pair))), (.dt (.row (List.map enc (ap notB [t]).args)))])]) Tryz.func23 (by kernel_rfl) (by kernel_rfl) ⟨(p_is t notB 1).b (noD h), p_tLisp notB [t] (row1 t), trivial⟩
theorem p_opened (t : Te) : Puk 93 [teA t] (opA (opened t) zTe) := by
  unfold opened
  by_cases h : is t notB 1
  · rw [if_pos h]
    have h0 := arg_at h (show 0 < 1 by omega)
    generalize t.arg 0 = a at *
    exact pwalk (an := [.av (teA yesT), .av (teA noT), yT, .av (.pin ((encT a).map .dt)), .av (teA (ap ifB [a, noT, yesT]))]) (ls := []) (ps := [Puk 58 [(boA true)] (.agg [(inA 2), (stA yesT.np), (stA yesT.nn), (inA 2), (stA yesT.val.num), (stA yesT.val.den), (stA yesT.val.sp), (stA yesT.val.sn), (stA yesT.val.text), (.dt (.row (List.map Ob.enc yesT.val.pair))), (.dt (.row (List.map enc yesT.args)))]), Puk 58 [(boA false)] (.agg [(inA 2), (stA noT.np), (stA noT.nn), (inA 2), (stA noT.val.num), (stA noT.val.den), (stA noT.val.sp), (stA noT.val.sn), (stA noT.val.text), (.dt (.row (List.map Ob.enc noT.val.pair))), (.dt (.row (List.map enc noT.args)))]), Puk 56 [(.agg [(inA t.kind), (stA t.np), (stA t.nn), (inA t.val.kind), (stA t.val.num), (stA t.val.den), (stA t.val.sp), (stA t.val.sn), (stA t.val.text), (.dt (.row (List.map Ob.enc t.val.pair))), (.dt (.row (List.map enc t.args)))]), (stA [110, 111, 116]), (inA 1)] (boA true), IxAt (List.map enc t.args) 0 11 ([(.val (vi a.kind)), (.val (str a.np)), (.val (str a.nn)), (.val (vi a.val.kind)), (.val (str a.val.num)), (.val (str a.val.den)), (.val (str a.val.sp)), (.val (str a.val.sn)), (.val (str a.val.text)), (.row (List.map Ob.enc a.val.pair)), (.row (List.map enc a.args))]), Puk 61 [(stA [105, 102]), (.dt (.row [[(.val (vi a.kind)), (.val (str a.np)), (.val (str a.nn)), (.val (vi a.val.kind)), (.val (str a.val.num)), (.val (str a.val.den)), (.val (str a.val.sp)), (.val (str a.val.sn)), (.val (str a.val.text)), (.row (List.map Ob.enc a.val.pair)), (.row (List.map enc a.args))], [(.val (vi 2)), (.val (str noT.np)), (.val (str noT.nn)), (.val (vi 2)), (.val (str noT.val.num)), (.val (str noT.val.den)), (.val (str noT.val.sp)), (.val (str noT.val.sn)), (.val (str noT.val.text)), (.row (List.map Ob.enc noT.val.pair)), (.row (List.map enc noT.args))], [(.val (vi 2)), (.val (str yesT.np)), (.val (str yesT.nn)), (.val (vi 2)), (.val (str yesT.val.num)), (.val (str yesT.val.den)), (.val (str yesT.val.sp)), (.val (str yesT.val.sn)), (.val (str yesT.val.text)), (.row (List.map Ob.enc yesT.val.pair)), (.row (List.map enc yesT.args))]]))] (.agg [(inA ((ap ifB [a, noT, yesT]).kind)), (stA (ap ifB [a, noT, yesT]).np), (stA (ap ifB [a, noT, yesT]).nn), (inA ((ap ifB [a, noT, yesT]).val.kind)), (stA (ap ifB [a, noT, yesT]).val.num), (stA (ap ifB [a, noT, yesT]).val.den), (stA (ap ifB [a, noT, yesT]).val.sp), (stA (ap ifB [a, noT, yesT]).val.sn), (stA (ap ifB [a, noT, yesT]).val.text), (.dt (.row (List.map Ob.enc (ap ifB [a, noT, yesT]).val.pair))), (.dt (.row (List.map enc (ap ifB [a, noT, yesT]).args)))])]) Tryz.func93 (by kernel_rfl) (by kernel_rfl) ⟨p_constant true, p_constant false, (p_is t notB 1).b (yesD h), ix_te h0, p_tLisp3 ifB a noT yesT, trivial⟩
  rw [if_neg h]
  by_cases h2 : is t impB 2
  · rw [if_pos h2]
    have h0 := arg_at h2 (show 0 < 2 by omega)
    have h1 := arg_at h2 (show 1 < 2 by omega)
    generalize t.arg 0 = a at *
    generalize t.arg 1 = b at *
    exact pwalk (an := [.av (teA yesT), .av (teA noT), yF, yT, .av (.pin ((encT a).map .dt)), .av (.pin ((encT b).map .dt)), .av (teA (ap ifB [b, yesT, noT])), .av (teA (ap ifB [a, ap ifB [b, yesT, noT], yesT]))]) (ls := []) (ps := [Puk 58 [(boA true)] (.agg [(inA 2), (stA yesT.np), (stA yesT.nn), (inA 2), (stA yesT.val.num), (stA yesT.val.den), (stA yesT.val.sp), (stA yesT.val.sn), (stA yesT.val.text), (.dt (.row (List.map Ob.enc yesT.val.pair))), (.dt (.row (List.map enc yesT.args)))]), Puk 58 [(boA false)] (.agg [(inA 2), (stA noT.np), (stA noT.nn), (inA 2), (stA noT.val.num), (stA noT.val.den), (stA noT.val.sp), (stA noT.val.sn), (stA noT.val.text), (.dt (.row (List.map Ob.enc noT.val.pair))), (.dt (.row (List.map enc noT.args)))]), Puk 56 [(.agg [(inA t.kind), (stA t.np), (stA t.nn), (inA t.val.kind), (stA t.val.num), (stA t.val.den), (stA t.val.sp), (stA t.val.sn), (stA t.val.text), (.dt (.row (List.map Ob.enc t.val.pair))), (.dt (.row (List.map enc t.args)))]), (stA [110, 111, 116]), (inA 1)] (boA false), Puk 56 [(.agg [(inA t.kind), (stA t.np), (stA t.nn), (inA t.val.kind), (stA t.val.num), (stA t.val.den), (stA t.val.sp), (stA t.val.sn), (stA t.val.text), (.dt (.row (List.map Ob.enc t.val.pair))), (.dt (.row (List.map enc t.args)))]), (stA [105, 109, 112, 108, 105, 101, 115]), (inA 2)] (boA true), IxAt (List.map enc t.args) 0 11 ([(.val (vi a.kind)), (.val (str a.np)), (.val (str a.nn)), (.val (vi a.val.kind)), (.val (str a.val.num)), (.val (str a.val.den)), (.val (str a.val.sp)), (.val (str a.val.sn)), (.val (str a.val.text)), (.row (List.map Ob.enc a.val.pair)), (.row (List.map enc a.args))]), IxAt (List.map enc t.args) 1 11 ([(.val (vi b.kind)), (.val (str b.np)), (.val (str b.nn)), (.val (vi b.val.kind)), (.val (str b.val.num)), (.val (str b.val.den)), (.val (str b.val.sp)), (.val (str b.val.sn)), (.val (str b.val.text)), (.row (List.map Ob.enc b.val.pair)), (.row (List.map enc b.args))]), Puk 61 [(stA [105, 102]), (.dt (.row [[(.val (vi b.kind)), (.val (str b.np)), (.val (str b.nn)), (.val (vi b.val.kind)), (.val (str b.val.num)), (.val (str b.val.den)), (.val (str b.val.sp)), (.val (str b.val.sn)), (.val (str b.val.text)), (.row (List.map Ob.enc b.val.pair)), (.row (List.map enc b.args))], [(.val (vi 2)), (.val (str yesT.np)), (.val (str yesT.nn)), (.val (vi 2)), (.val (str yesT.val.num)), (.val (str yesT.val.den)), (.val (str yesT.val.sp)), (.val (str yesT.val.sn)), (.val (str yesT.val.text)), (.row (List.map Ob.enc yesT.val.pair)), (.row (List.map enc yesT.args))], [(.val (vi 2)), (.val (str noT.np)), (.val (str noT.nn)), (.val (vi 2)), (.val (str noT.val.num)), (.val (str noT.val.den)), (.val (str noT.val.sp)), (.val (str noT.val.sn)), (.val (str noT.val.text)), (.row (List.map Ob.enc noT.val.pair)), (.row (List.map enc noT.args))]]))] (.agg [(inA ((ap ifB [b, yesT, noT]).kind)), (stA (ap ifB [b, yesT, noT]).np), (stA (ap ifB [b, yesT, noT]).nn), (inA ((ap ifB [b, yesT, noT]).val.kind)), (stA (ap ifB [b, yesT, noT]).val.num), (stA (ap ifB [b, yesT, noT]).val.den), (stA (ap ifB [b, yesT, noT]).val.sp), (stA (ap ifB [b, yesT, noT]).val.sn), (stA (ap ifB [b, yesT, noT]).val.text), (.dt (.row (List.map Ob.enc (ap ifB [b, yesT, noT]).val.pair))), (.dt (.row (List.map enc (ap ifB [b, yesT, noT]).args)))]), Puk 61 [(stA [105, 102]), (.dt (.row [[(.val (vi a.kind)), (.val (str a.np)), (.val (str a.nn)), (.val (vi a.val.kind)), (.val (str a.val.num)), (.val (str a.val.den)), (.val (str a.val.sp)), (.val (str a.val.sn)), (.val (str a.val.text)), (.row (List.map Ob.enc a.val.pair)), (.row (List.map enc a.args))], [(.val (vi ((ap ifB [b, yesT, noT]).kind))), (.val (str (ap ifB [b, yesT, noT]).np)), (.val (str (ap ifB [b, yesT, noT]).nn)), (.val (vi ((ap ifB [b, yesT, noT]).val.kind))), (.val (str (ap ifB [b, yesT, noT]).val.num)), (.val (str (ap ifB [b, yesT, noT]).val.den)), (.val (str (ap ifB [b, yesT, noT]).val.sp)), (.val (str (ap ifB [b, yesT, noT]).val.sn)), (.val (str (ap ifB [b, yesT, noT]).val.text)), (.row (List.map Ob.enc (ap ifB [b, yesT, noT]).val.pair)), (.row (List.map enc (ap ifB [b, yesT, noT]).args))], [(.val (vi 2)), (.val (str yesT.np)), (.val (str yesT.nn)), (.val (vi 2)), (.val (str yesT.val.num)), (.val (str yesT.val.den)), (.val (str yesT.val.sp)), (.val (str yesT.val.sn)), (.val (str yesT.val.text)), (.row (List.map Ob.enc yesT.val.pair)), (.row (List.map enc yesT.args))]]))] (.agg [(inA ((ap ifB [a, ap ifB [b, yesT, noT], yesT]).kind)), (stA (ap ifB [a, ap ifB [b, yesT, noT], yesT]).np), (stA (ap ifB [a, ap ifB [b, yesT, noT], yesT]).nn), (inA ((ap ifB [a, ap ifB [b, yesT, noT], yesT]).val.kind)), (stA (ap ifB [a, ap ifB [b, yesT, noT], yesT]).val.num), (stA (ap ifB [a, ap ifB [b, yesT, noT], yesT]).val.den), (stA (ap ifB [a, ap ifB [b, yesT, noT], yesT]).val.sp), (stA (ap ifB [a, ap ifB [b, yesT, noT], yesT]).val.sn), (stA (ap ifB [a, ap ifB [b, yesT, noT], yesT]).val.text), (.dt (.row (List.map Ob.enc (ap ifB [a, ap ifB [b, yesT, noT], yesT]).val.pair))), (.dt (.row (List.map enc (ap ifB [a, ap ifB [b, yesT, noT], yesT]).args)))])]) Tryz.func93 (by kernel_rfl) (by kernel_rfl) ⟨p_constant true, p_constant false, (p_is t notB 1).b (noD h), (p_is t impB 2).b (yesD h2), ix_te h0, ix_te h1, p_tLisp3 ifB b yesT noT, p_tLisp3 ifB a (ap ifB [b, yesT, noT]) yesT, trivial⟩
  rw [if_neg h2]
  by_cases h3 : is t iffB 2
  · rw [if_pos h3]
    have h0 := arg_at h3 (show 0 < 2 by omega)
    have h1 := arg_at h3 (show 1 < 2 by omega)
    generalize t.arg 0 = a at *
    generalize t.arg 1 = b at *
    exact pwalk (an := [.av (teA yesT), .av (teA noT), yF, yF, yT, .av (.pin ((encT a).map .dt)), .av (.pin ((encT b).map .dt)), .av (teA (ap ifB [b, yesT, noT])), .av (.pin ((encT b).map .dt)), .av (teA (ap ifB [b, noT, yesT])), .av (teA (ap ifB [a, ap ifB [b, yesT, noT], ap ifB [b, noT, yesT]]))]) (ls := []) (ps := [Puk 58 [(boA true)] (.agg [(inA 2), (stA yesT.np), (stA yesT.nn), (inA 2), (stA yesT.val.num), (stA yesT.val.den), (stA yesT.val.sp), (stA yesT.val.sn), (stA yesT.val.text), (.dt (.row (List.map Ob.enc yesT.val.pair))), (.dt (.row (List.map enc yesT.args)))]), Puk 58 [(boA false)] (.agg [(inA 2), (stA noT.np), (stA noT.nn), (inA 2), (stA noT.val.num), (stA noT.val.den), (stA noT.val.sp), (stA noT.val.sn), (stA noT.val.text), (.dt (.row (List.map Ob.enc noT.val.pair))), (.dt (.row (List.map enc noT.args)))]), Puk 56 [(.agg [(inA t.kind), (stA t.np), (stA t.nn), (inA t.val.kind), (stA t.val.num), (stA t.val.den), (stA t.val.sp), (stA t.val.sn), (stA t.val.text), (.dt (.row (List.map Ob.enc t.val.pair))), (.dt (.row (List.map enc t.args)))]), (stA [110, 111, 116]), (inA 1)] (boA false), Puk 56 [(.agg [(inA t.kind), (stA t.np), (stA t.nn), (inA t.val.kind), (stA t.val.num), (stA t.val.den), (stA t.val.sp), (stA t.val.sn), (stA t.val.text), (.dt (.row (List.map Ob.enc t.val.pair))), (.dt (.row (List.map enc t.args)))]), (stA [105, 109, 112, 108, 105, 101, 115]), (inA 2)] (boA false), Puk 56 [(.agg [(inA t.kind), (stA t.np), (stA t.nn), (inA t.val.kind), (stA t.val.num), (stA t.val.den), (stA t.val.sp), (stA t.val.sn), (stA t.val.text), (.dt (.row (List.map Ob.enc t.val.pair))), (.dt (.row (List.map enc t.args)))]), (stA [105, 102, 102]), (inA 2)] (boA true), IxAt (List.map enc t.args) 0 11 ([(.val (vi a.kind)), (.val (str a.np)), (.val (str a.nn)), (.val (vi a.val.kind)), (.val (str a.val.num)), (.val (str a.val.den)), (.val (str a.val.sp)), (.val (str a.val.sn)), (.val (str a.val.text)), (.row (List.map Ob.enc a.val.pair)), (.row (List.map enc a.args))]), IxAt (List.map enc t.args) 1 11 ([(.val (vi b.kind)), (.val (str b.np)), (.val (str b.nn)), (.val (vi b.val.kind)), (.val (str b.val.num)), (.val (str b.val.den)), (.val (str b.val.sp)), (.val (str b.val.sn)), (.val (str b.val.text)), (.row (List.map Ob.enc b.val.pair)), (.row (List.map enc b.args))]), Puk 61 [(stA [105, 102]), (.dt (.row [[(.val (vi b.kind)), (.val (str b.np)), (.val (str b.nn)), (.val (vi b.val.kind)), (.val (str b.val.num)), (.val (str b.val.den)), (.val (str b.val.sp)), (.val (str b.val.sn)), (.val (str b.val.text)), (.row (List.map Ob.enc b.val.pair)), (.row (List.map enc b.args))], [(.val (vi 2)), (.val (str yesT.np)), (.val (str yesT.nn)), (.val (vi 2)), (.val (str yesT.val.num)), (.val (str yesT.val.den)), (.val (str yesT.val.sp)), (.val (str yesT.val.sn)), (.val (str yesT.val.text)), (.row (List.map Ob.enc yesT.val.pair)), (.row (List.map enc yesT.args))], [(.val (vi 2)), (.val (str noT.np)), (.val (str noT.nn)), (.val (vi 2)), (.val (str noT.val.num)), (.val (str noT.val.den)), (.val (str noT.val.sp)), (.val (str noT.val.sn)), (.val (str noT.val.text)), (.row (List.map Ob.enc noT.val.pair)), (.row (List.map enc noT.args))]]))] (.agg [(inA ((ap ifB [b, yesT, noT]).kind)), (stA (ap ifB [b, yesT, noT]).np), (stA (ap ifB [b, yesT, noT]).nn), (inA ((ap ifB [b, yesT, noT]).val.kind)), (stA (ap ifB [b, yesT, noT]).val.num), (stA (ap ifB [b, yesT, noT]).val.den), (stA (ap ifB [b, yesT, noT]).val.sp), (stA (ap ifB [b, yesT, noT]).val.sn), (stA (ap ifB [b, yesT, noT]).val.text), (.dt (.row (List.map Ob.enc (ap ifB [b, yesT, noT]).val.pair))), (.dt (.row (List.map enc (ap ifB [b, yesT, noT]).args)))]), IxAt (List.map enc t.args) 1 11 ([(.val (vi b.kind)), (.val (str b.np)), (.val (str b.nn)), (.val (vi b.val.kind)), (.val (str b.val.num)), (.val (str b.val.den)), (.val (str b.val.sp)), (.val (str b.val.sn)), (.val (str b.val.text)), (.row (List.map Ob.enc b.val.pair)), (.row (List.map enc b.args))]), Puk 61 [(stA [105, 102]), (.dt (.row [[(.val (vi b.kind)), (.val (str b.np)), (.val (str b.nn)), (.val (vi b.val.kind)), (.val (str b.val.num)), (.val (str b.val.den)), (.val (str b.val.sp)), (.val (str b.val.sn)), (.val (str b.val.text)), (.row (List.map Ob.enc b.val.pair)), (.row (List.map enc b.args))], [(.val (vi 2)), (.val (str noT.np)), (.val (str noT.nn)), (.val (vi 2)), (.val (str noT.val.num)), (.val (str noT.val.den)), (.val (str noT.val.sp)), (.val (str noT.val.sn)), (.val (str noT.val.text)), (.row (List.map Ob.enc noT.val.pair)), (.row (List.map enc noT.args))], [(.val (vi 2)), (.val (str yesT.np)), (.val (str yesT.nn)), (.val (vi 2)), (.val (str yesT.val.num)), (.val (str yesT.val.den)), (.val (str yesT.val.sp)), (.val (str yesT.val.sn)), (.val (str yesT.val.text)), (.row (List.map Ob.enc yesT.val.pair)), (.row (List.map enc yesT.args))]]))] (.agg [(inA ((ap ifB [b, noT, yesT]).kind)), (stA (ap ifB [b, noT, yesT]).np), (stA (ap ifB [b, noT, yesT]).nn), (inA ((ap ifB [b, noT, yesT]).val.kind)), (stA (ap ifB [b, noT, yesT]).val.num), (stA (ap ifB [b, noT, yesT]).val.den), (stA (ap ifB [b, noT, yesT]).val.sp), (stA (ap ifB [b, noT, yesT]).val.sn), (stA (ap ifB [b, noT, yesT]).val.text), (.dt (.row (List.map Ob.enc (ap ifB [b, noT, yesT]).val.pair))), (.dt (.row (List.map enc (ap ifB [b, noT, yesT]).args)))]), Puk 61 [(stA [105, 102]), (.dt (.row [[(.val (vi a.kind)), (.val (str a.np)), (.val (str a.nn)), (.val (vi a.val.kind)), (.val (str a.val.num)), (.val (str a.val.den)), (.val (str a.val.sp)), (.val (str a.val.sn)), (.val (str a.val.text)), (.row (List.map Ob.enc a.val.pair)), (.row (List.map enc a.args))], [(.val (vi ((ap ifB [b, yesT, noT]).kind))), (.val (str (ap ifB [b, yesT, noT]).np)), (.val (str (ap ifB [b, yesT, noT]).nn)), (.val (vi ((ap ifB [b, yesT, noT]).val.kind))), (.val (str (ap ifB [b, yesT, noT]).val.num)), (.val (str (ap ifB [b, yesT, noT]).val.den)), (.val (str (ap ifB [b, yesT, noT]).val.sp)), (.val (str (ap ifB [b, yesT, noT]).val.sn)), (.val (str (ap ifB [b, yesT, noT]).val.text)), (.row (List.map Ob.enc (ap ifB [b, yesT, noT]).val.pair)), (.row (List.map enc (ap ifB [b, yesT, noT]).args))], [(.val (vi ((ap ifB [b, noT, yesT]).kind))), (.val (str (ap ifB [b, noT, yesT]).np)), (.val (str (ap ifB [b, noT, yesT]).nn)), (.val (vi ((ap ifB [b, noT, yesT]).val.kind))), (.val (str (ap ifB [b, noT, yesT]).val.num)), (.val (str (ap ifB [b, noT, yesT]).val.den)), (.val (str (ap ifB [b, noT, yesT]).val.sp)), (.val (str (ap ifB [b, noT, yesT]).val.sn)), (.val (str (ap ifB [b, noT, yesT]).val.text)), (.row (List.map Ob.enc (ap ifB [b, noT, yesT]).val.pair)), (.row (List.map enc (ap ifB [b, noT, yesT]).args))]]))] (.agg [(inA ((ap ifB [a, ap ifB [b, yesT, noT], ap ifB [b, noT, yesT]]).kind)), (stA (ap ifB [a, ap ifB [b, yesT, noT], ap ifB [b, noT, yesT]]).np), (stA (ap ifB [a, ap ifB [b, yesT, noT], ap ifB [b, noT, yesT]]).nn), (inA ((ap ifB [a, ap ifB [b, yesT, noT], ap ifB [b, noT, yesT]]).val.kind)), (stA (ap ifB [a, ap ifB [b, yesT, noT], ap ifB [b, noT, yesT]]).val.num), (stA (ap ifB [a, ap ifB [b, yesT, noT], ap ifB [b, noT, yesT]]).val.den), (stA (ap ifB [a, ap ifB [b, yesT, noT], ap ifB [b, noT, yesT]]).val.sp), (stA (ap ifB [a, ap ifB [b, yesT, noT], ap ifB [b, noT, yesT]]).val.sn), (stA (ap ifB [a, ap ifB [b, yesT, noT], ap ifB [b, noT, yesT]]).val.text), (.dt (.row (List.map Ob.enc (ap ifB [a, ap ifB [b, yesT, noT], ap ifB [b, noT, yesT]]).val.pair))), (.dt (.row (List.map enc (ap ifB [a, ap ifB [b, yesT, noT], ap ifB [b, noT, yesT]]).args)))])]) Tryz.func93 (by kernel_rfl) (by kernel_rfl) ⟨p_constant true, p_constant false, (p_is t notB 1).b (noD h), (p_is t impB 2).b (noD h2), (p_is t iffB 2).b (yesD h3), ix_te h0, ix_te h1, p_tLisp3 ifB b yesT noT, ix_te h1, p_tLisp3 ifB b noT yesT, p_tLisp3 ifB a (ap ifB [b, yesT, noT]) (ap ifB [b, noT, yesT]), trivial⟩
  rw [if_neg h3]
  exact pwalk (an := [.av (teA yesT), .av (teA noT), yF, yF, yF]) (ls := []) (ps := [Puk 58 [(boA true)] (.agg [(inA 2), (stA yesT.np), (stA yesT.nn), (inA 2), (stA yesT.val.num), (stA yesT.val.den), (stA yesT.val.sp), (stA yesT.val.sn), (stA yesT.val.text), (.dt (.row (List.map Ob.enc yesT.val.pair))), (.dt (.row (List.map enc yesT.args)))]), Puk 58 [(boA false)] (.agg [(inA 2), (stA noT.np), (stA noT.nn), (inA 2), (stA noT.val.num), (stA noT.val.den), (stA noT.val.sp), (stA noT.val.sn), (stA noT.val.text), (.dt (.row (List.map Ob.enc noT.val.pair))), (.dt (.row (List.map enc noT.args)))]), Puk 56 [(.agg [(inA t.kind), (stA t.np), (stA t.nn), (inA t.val.kind), (stA t.val.num), (stA t.val.den), (stA t.val.sp), (stA t.val.sn), (stA t.val.text), (.dt (.row (List.map Ob.enc t.val.pair))), (.dt (.row (List.map enc t.args)))]), (stA [110, 111, 116]), (inA 1)] (boA false), Puk 56 [(.agg [(inA t.kind), (stA t.np), (stA t.nn), (inA t.val.kind), (stA t.val.num), (stA t.val.den), (stA t.val.sp), (stA t.val.sn), (stA t.val.text), (.dt (.row (List.map Ob.enc t.val.pair))), (.dt (.row (List.map enc t.args)))]), (stA [105, 109, 112, 108, 105, 101, 115]), (inA 2)] (boA false), Puk 56 [(.agg [(inA t.kind), (stA t.np), (stA t.nn), (inA t.val.kind), (stA t.val.num), (stA t.val.den), (stA t.val.sp), (stA t.val.sn), (stA t.val.text), (.dt (.row (List.map Ob.enc t.val.pair))), (.dt (.row (List.map enc t.args)))]), (stA [105, 102, 102]), (inA 2)] (boA false)]) Tryz.func93 (by kernel_rfl) (by kernel_rfl) ⟨p_constant true, p_constant false, (p_is t notB 1).b (noD h), (p_is t impB 2).b (noD h2), (p_is t iffB 2).b (noD h3), trivial⟩
end Go.Proofs.YtendgffijciehaaGreatDoor
/- Plain walks: an empty slice seen as a row that grows. -/
namespace Go.Proofs.YtendgffijciehaaGreatDoor
open Go.RowKit

section
variable {X : Nat → Prop} {n0 : Nat} {w0 : World × Mm} {ok0 : Nat → Prop} {M : Mm} {nt : Nat} {tm : Nat → AV} {bx : Nat → Option Bx} {a : Act} {w : World}
def Mm.own0 (M : Mm) (k : Nat) : Mm := ⟨M.m, M.F, fun b => if b = k then some (none, 0, 0) else M.o b⟩
theorem Mm.own0_at (M : Mm) (k : Nat) : (M.own0 k).o k = some (none, 0, 0) := if_pos rfl
theorem go_own0 {X' : Nat → Prop} {m0 : Nat} {k : Nat} (hS : Sto X n0 M bx w) (hk : bx k = none) : Go1 X' m0 M w (M.own0 k) w :=
  ⟨Bel.refl _ _ _, fun _ _ _ => rfl, fun _ h _ => h, fun _ _ h => h, fun b A n c h => by
    by_cases e : b = k
    · subst e; rw [hS.fresh_o hk] at h; cases h
    · exact ⟨A, n, c, (if_neg e).trans h, Nat.le_refl _, fun _ => ⟨rfl, rfl⟩⟩⟩
theorem sto_own0 {k : Nat} (hS : Sto X n0 M bx w) (le : n0 ≤ w.heap.size) (hk : bx k = none) (e : TypeId) (kk : Nat) : Sto X n0 (M.own0 k) (updX1 bx k (.buf e kk [])) w :=
  hS.upd (go_own0 hS hk) le (fun _ hb => ⟨rfl, if_neg hb⟩) (fun _ _ _ => rfl) (fun q hq => ⟨hS.fz q hq, .inl hq⟩) ⟨none, 0, 0, M.own0_at k, OwnD.nil _ _ _ _ _⟩
    (fun q ⟨n, c, hq⟩ => by rw [M.own0_at k] at hq; cases hq) (fun q hq => by rw [show (M.own0 k).m k = M.m k from rfl, hS.fresh_m hk] at hq; cases hq)
theorem rv_own0 {k : Nat} {v : Value} (h : RV M w .nil v) : RV (M.own0 k) w (.own k 0) v := ⟨none, 0, none, 0, 0, h, M.own0_at k, Nat.le_refl _, fun _ => ⟨rfl, rfl⟩⟩
theorem Inv.own0 (h : Inv X n0 w0 ok0 M nt tm bx a w) {t k : Nat} (ht : tm t = .nil) (hk : bx k = none) (e : TypeId) (kk : Nat) :
    Inv X n0 w0 ok0 (M.own0 k) nt (fun i => if i = t then .own k 0 else tm i) (updX1 bx k (.buf e kk [])) a w := by
  have g : Go1 X n0 M w (M.own0 k) w := go_own0 h.sto hk
  refine ⟨h.below, h.le, h.defers, h.size, fun i => ?_, sto_own0 h.sto h.le hk e kk, h.src, h.anc.trans g⟩
  by_cases hi : i = t
  · subst hi
    have hv := h.tmps i
    rw [ht] at hv
    show RV _ _ (if i = i then _ else _) _
    rw [if_pos rfl]
    exact rv_own0 hv
  · show RV _ _ (if i = t then _ else _) _
    rw [if_neg hi]
    exact RV.go g _ _ (h.tmps i)
end
/-- a function that returns a slice without room -/
def afunF (E : En) (fn : Func) (args : List AV) (an : List An) (ls : List LA) : Option (List (List Dt) × List Prop) := match fn.body with
  | none => none
  | some c => match acode E c ⟨args ++ List.replicate (fn.ntmps - args.length) (.dt (.val undef)), []⟩ an ls with
    | some (.out _, _) => none
    | none => none
    | some (_, s, ps, _, _) => match ares E.P s fn.results.toList with
      | some [.ful es] => some (es, ps)
      | _ => none
theorem walkF {E : En} (hG : ∀ w w', E.G w → Below w.heap.size w w' → E.G w') {f : FuncId} {fn : Func} (hf : E.P.funcs[f]? = some fn) (hn : (fn.name == "runtime.NumGoroutine") = false)
    {args : List AV} {an : List An} {ls : List LA} {es : List (List Dt)} {ps : List Prop} (h : afunF E fn args an ls = some (es, ps)) (hp : AllP ps) : PureOK E.P E.G f args (.ful es) := by
  unfold afunF at h
  have key : ∃ c e s an' ls', fn.body = some c ∧ acode E c ⟨args ++ List.replicate (fn.ntmps - args.length) (.dt (.val undef)), []⟩ an ls = some (e, s, ps, an', ls') ∧ (∀ i, e ≠ .out i) ∧ ares E.P s fn.results.toList = some [.ful es] := by
    split at h
    · cases h
    · rename_i c hb
      split at h
      · cases h
      · cases h
      · rename_i e s ps' an' ls' hne hc
        split at h
        · rename_i es' hcs
          cases h
          exact ⟨c, e, s, an', ls', hb, hc, fun i he => by subst he; exact hne _ rfl, hcs⟩
        · cases h
  obtain ⟨c, e, s, an', ls', hb, hc, hne, hcs⟩ := key
  refine ⟨⟨fn, hf, by rw [hb]; rfl, hn⟩, fun ok w vs hw hargs => ?_⟩
  obtain ⟨hlen, htri⟩ := acode_sound hc hp
  have hal := hargs.len
  refine calls_of_wp hf hb (wp_mono (htri (fun _ => False) w.heap.size (w, M0 fun b => ok b ∧ b < w.heap.size) ok _ w ⟨fun w' hb => hG w w' hw hb.below, fun _ _ => ⟨rfl, rfl⟩⟩ ⟨M0 fun b => ok b ∧ b < w.heap.size, ?_⟩) ?_)
  · have nobx : ∀ b x, (AS.mk (args ++ List.replicate (fn.ntmps - args.length) (.dt (.val undef))) []).bxf b ≠ some x := fun b x h => by simp [AS.bxf] at h
    refine ⟨Bel.refl _ _ _, Nat.le_refl _, rfl, ?_, ?_, ⟨fun b x h => absurd h (nobx b x), fun b x _ h => absurd h (nobx b x), fun b _ x _ _ h => absurd h (nobx b x), (fun b g h => by cases h), (fun b v h => by cases h), fun b hb => hb.2⟩, fun b hb _ => .inl hb.1, Go1.refl _ _ _ _⟩
    · simp [hal]
    · intro t
      have hargs' : RL (M0 fun b => ok b ∧ b < w.heap.size) w args vs := RL.flatter (fun b hb hl => ⟨hb, hl⟩) hargs
      by_cases ht : t < args.length
      · obtain ⟨u, hu1, hu2⟩ := hargs'.get (i := t) (c := args[t]) (List.getElem?_eq_getElem ht)
        have e1 : (AS.mk (args ++ List.replicate (fn.ntmps - args.length) (.dt (.val undef))) []).tmf t = args[t] := by
          unfold AS.tmf
          simp [List.getElem?_append_left ht, ht]
        have e2 : (vs.toArray ++ Array.replicate (fn.ntmps - vs.toArray.size) undef).getD t undef = u := by
          have ht' : t < vs.length := by omega
          simp only [Array.getD_eq_getD_getElem?]
          rw [Array.getElem?_append_left (by simpa using ht')]
          simp [hu1]
        rw [e1, e2]
        exact hu2
      · have e1 : (AS.mk (args ++ List.replicate (fn.ntmps - args.length) (.dt (.val undef))) []).tmf t = .dt (.val undef) := by
          unfold AS.tmf
          rw [List.getD_eq_getElem?_getD, List.getElem?_append_right (by omega), List.getElem?_replicate]
          split <;> rfl
        have e2 : (vs.toArray ++ Array.replicate (fn.ntmps - vs.toArray.size) undef).getD t undef = undef := by
          simp only [Array.getD_eq_getD_getElem?]
          rw [Array.getElem?_append_right (by simp; omega), Array.getElem?_replicate]
          split <;> rfl
        rw [e1, e2]
        exact rv_undef
  · rintro x a' w' ⟨rfl, M, hI⟩
    obtain ⟨us, h1, u, us', rfl, ⟨A, hA, hr⟩, hu2⟩ := ares_run hI hcs
    obtain rfl : us' = [] := hu2
    have hR : ∃ v, (results fn a'.tmps).run E.P w' = .ok v w' ∧ (fun e w' => ∃ v, e = Ending.returned v ∧ Below w.heap.size w w' ∧ RV (M0 fun b => ok b ∨ w.heap.size ≤ b) w' (.ful es) v) (.returned v) w' := by
      refine ⟨_, results_run h1, _, rfl, hI.below.below, A, hA, ?_⟩
      subst hA
      refine hr.mono fun b hb _ => ?_
      by_cases e : b < w.heap.size
      · rcases hI.src b hb e with h | h
        · exact .inl h
        · exact h.elim
      · exact .inr (by omega)
    cases e with
    | nxt => exact ⟨hI.defers, hR⟩
    | ret => exact ⟨hI.defers, hR⟩
    | out i => exact absurd rfl (hne i)
/-- a piece of code that begins with an empty slice in slot t -/
theorem Tri.own0 {E : En} {c : Code} {s s' : AS} {e : AE} (t : Nat) (T : TypeId) (kk : Nat) (hl : t < s.tm.length) (ht : s.tmf t = .nil) (h : Tri E c ⟨s.tm.set t (.own s.bx.length 0), s.bx ++ [some (.buf T kk [])]⟩ e s') : Tri E c s e s' := by
  obtain ⟨h1, h2⟩ := h
  have hlen : (s.tm.set t (.own s.bx.length 0)).length = s.tm.length := List.length_set ..
  refine ⟨h1.trans hlen, fun X n0 w0 ok0 a w hG ⟨M, hI⟩ => ?_⟩
  have hb : s.bxf s.bx.length = none := by unfold AS.bxf; rw [List.getElem?_eq_none (Nat.le_refl _)]
  have hI2 := hI.own0 ht hb T kk
  have e1 : (AS.mk (s.tm.set t (.own s.bx.length 0)) (s.bx ++ [some (.buf T kk [])])).tmf = fun i => if i = t then .own s.bx.length 0 else s.tmf i := by
    funext i
    unfold AS.tmf
    by_cases hi : i = t
    · subst hi
      simp [List.getD_eq_getElem?_getD, hl]
    · simp [List.getD_eq_getElem?_getD, Ne.symm hi, hi]
  have e2 : (AS.mk (s.tm.set t (.own s.bx.length 0)) (s.bx ++ [some (.buf T kk [])])).bxf = updX1 s.bxf s.bx.length (.buf T kk []) := by
    funext k
    unfold AS.bxf
    by_cases hk : k = s.bx.length
    · subst hk
      simp
    · simp only [if_neg hk]
      rcases Nat.lt_or_ge k s.bx.length with hlt | hge
      · rw [List.getElem?_append_left hlt]
      · rw [List.getElem?_eq_none (by simp; omega), List.getElem?_eq_none hge]
  have hL : Left X n0 w0 ok0 (AS.mk (s.tm.set t (.own s.bx.length 0)) (s.bx ++ [some (.buf T kk [])])).tm.length (AS.mk (s.tm.set t (.own s.bx.length 0)) (s.bx ++ [some (.buf T kk [])])).tmf (AS.mk (s.tm.set t (.own s.bx.length 0)) (s.bx ++ [some (.buf T kk [])])).bxf a w := by
    rw [e1, e2, show (AS.mk (s.tm.set t (.own s.bx.length 0)) (s.bx ++ [some (.buf T kk [])])).tm.length = s.tm.length from hlen]
    exact ⟨_, hI2⟩
  have := h2 X n0 w0 ok0 a w hG hL
  rw [show (AS.mk (s.tm.set t (.own s.bx.length 0)) (s.bx ++ [some (.buf T kk [])])).tm.length = s.tm.length from hlen] at this
  exact this
/-- a row that grows no more, behind a piece of code -/
theorem Tri.frz {E : En} {c : Code} {s s' : AS} {e : AE} (t b : Nat) {T : TypeId} {kk : Nat} {es : List (List Dt)} (htl : t < s'.tm.length) (hb : s'.bx[b]? = some (some (.buf T kk es))) (ht : s'.tmf t = .own b es.length) (h : Tri E c s e s') : Tri E c s e ⟨s'.tm.set t (.dt (.row es)), s'.bx.set b (some (.fzn es))⟩ := by
  obtain ⟨h1, h2⟩ := h
  refine ⟨(List.length_set ..).trans h1, fun X n0 w0 ok0 a w hG hL => wp_mono (h2 X n0 w0 ok0 a w hG hL) ?_⟩
  rintro x a' w' ⟨rfl, M, hI⟩
  refine ⟨rfl, ?_⟩
  have hbl : b < s'.bx.length := (List.getElem?_eq_some_iff.1 hb).1
  have hbf : s'.bxf b = some (.buf T kk es) := by unfold AS.bxf; rw [hb]
  obtain ⟨M', g, hS, hm, ho, hF⟩ := hI.sto.frz hbf
  have e1 : (AS.mk (s'.tm.set t (.dt (.row es))) (s'.bx.set b (some (.fzn es)))).tmf = fun i => if i = t then .dt (.row es) else s'.tmf i := by
    funext i
    unfold AS.tmf
    by_cases hi : i = t
    · subst hi
      simp [List.getD_eq_getElem?_getD, htl]
    · simp [List.getD_eq_getElem?_getD, Ne.symm hi, hi]
  have e2 : (AS.mk (s'.tm.set t (.dt (.row es))) (s'.bx.set b (some (.fzn es)))).bxf = updX1 s'.bxf b (.fzn es) := by
    funext k
    unfold AS.bxf
    by_cases hk : k = b
    · subst hk
      simp [hbl]
    · simp only [if_neg hk]
      rw [List.getElem?_set_ne (Ne.symm hk)]
  rw [e1, e2]
  refine ⟨M', hI.below, hI.le, hI.defers, hI.size, fun i => ?_, hS, fun q hq hl => ?_, hI.anc.trans g⟩
  · by_cases hi : i = t
    · subst hi
      have hv := hI.tmps i
      rw [ht] at hv
      obtain ⟨A, c1, A', n', c', hv1, hv2, hv3, hv4⟩ := hv
      obtain ⟨A2, n2, c2, k1, k2⟩ := hS.box b (.fzn es) (if_pos rfl)
      rw [ho, hv2] at k1
      cases k1
      have hn := k2.len
      obtain ⟨rfl, rfl⟩ := hv4 hn
      show RV _ _ (if i = i then _ else _) _
      rw [if_pos rfl, hv1, hn]
      exact k2
    · show RV _ _ (if i = t then _ else _) _
      rw [if_neg hi]
      exact RV.go g _ _ (hI.tmps i)
  · rcases hF q hq with e | e | e
    · exact hI.src q e hl
    · omega
    · exact .inr e
/-- a function that is handed a struct whose first field is an empty slice -/
theorem SOK.own0 {P : Program} {G : World → Prop} {f : FuncId} {args : List AV} {cs : List AV} {T : TypeId} {kk : Nat} {r : AV} {xs' : List (Option Bx)} (h : SOK P G f args [some (.cells (.own 1 0 :: cs)), some (.buf T kk [])] r xs') : SOK P G f args [some (.cells (.nil :: cs))] r xs' := by
  refine ⟨h.1, fun X M w vs hG hS hargs => ?_⟩
  have hk : lk [some (.cells (.nil :: cs))] 1 = none := rfl
  have g : Go1 X w.heap.size M w (M.own0 1) w := go_own0 hS hk
  have hS2 := sto_own0 hS (Nat.le_refl _) hk T kk
  have hb0 : updX1 (lk [some (.cells (.nil :: cs))]) 1 (.buf T kk []) 0 = some (.cells (.nil :: cs)) := rfl
  have far : ∀ b, updX1 (lk [some (.cells (.nil :: cs))]) 1 (.buf T kk []) (b + 2) = none := fun b => by
    show (if b + 2 = 1 then _ else _) = _
    rw [if_neg (by omega)]
    rfl
  have e0 : ∀ b x, b ≠ 0 → lk [some (.cells (.own 1 0 :: cs)), some (.buf T kk [])] b = some x → updX1 (lk [some (.cells (.nil :: cs))]) 1 (.buf T kk []) b = some x := by
    intro b x hb hx
    match b, hb with
    | 1, _ => exact hx
    | b + 2, _ => simp [lk] at hx
  have old : ∀ b x q, lk [some (.cells (.own 1 0 :: cs)), some (.buf T kk [])] b = some x → Hx (M.own0 1) b x q → ∃ y, updX1 (lk [some (.cells (.nil :: cs))]) 1 (.buf T kk []) b = some y ∧ Hx (M.own0 1) b y q := by
    intro b x q hx hq
    by_cases hb : b = 0
    · subst hb
      cases hx
      exact ⟨_, hb0, hq⟩
    · exact ⟨x, e0 b x hb hx, hq⟩
  have hS3 : Sto X w.heap.size (M.own0 1) (lk [some (.cells (.own 1 0 :: cs)), some (.buf T kk [])]) w := by
    refine ⟨fun b x hx => ?_, fun b x q hx hq => ?_, fun b b' x x' q h1 h2 h3 h4 => ?_, fun b q hq => ?_, fun b v hv => ?_, hS2.fz⟩
    · by_cases hb : b = 0
      · subst hb
        cases hx
        obtain ⟨gg, T', us, k1, k2, u, us', rfl, k3, k4⟩ := hS2.box 0 _ hb0
        exact ⟨gg, T', _, k1, k2, u, us', rfl, ⟨none, 0, none, 0, 0, k3, M.own0_at 1, Nat.le_refl _, fun _ => ⟨rfl, rfl⟩⟩, k4⟩
      · exact hS2.box b x (e0 b x hb hx)
    · obtain ⟨y, h1, h2⟩ := old b x q hx hq
      exact hS2.dom b y q h1 h2
    · obtain ⟨y, k1, k2⟩ := old b x q h1 h3
      obtain ⟨y', k1', k2'⟩ := old b' x' q h2 h4
      exact hS2.inj b b' y y' q k1 k1' k2 k2'
    · obtain ⟨x, h1, h2⟩ := hS2.hm b q hq
      match b, h1 with
      | 0, _ => exact ⟨_, rfl, rfl⟩
      | 1, h1 => exact ⟨x, h1, h2⟩
      | b + 2, h1 => rw [far b] at h1; cases h1
    · have h1 := hS2.ho b v hv
      match b, h1 with
      | 0, _ => rfl
      | 1, _ => rfl
      | b + 2, h1 => rw [far b] at h1; cases h1
  refine (h.2 X (M.own0 1) w vs hG hS3 (RL.go g _ _ hargs)).mono fun e w' ⟨v, M', h1, h2, h3, h4, h5⟩ => ⟨v, M', h1, g.trans h2, h3, fun b hb => h4 b hb, h5⟩
end Go.Proofs.YtendgffijciehaaGreatDoor
/- The code's normalizer: 'fail'. -/
namespace Go.Proofs.YtendgffijciehaaGreatDoor
open Go.RowKit
open Te

abbrev encTs (l : List Te) : List (List Dt) := l.map Te.enc
abbrev bxN (cs : List (List Dt)) (ex er : Int) : List (Option Bx) := [some (.cells [.own 1 cs.length, inA ex, inA er]), some (.buf 29 1 cs)]
/-- a normalizer -/
abbrev bxS (s : NS) : List (Option Bx) := bxN (s.out.map encC) s.ex s.er
theorem src_te (l : List Te) : SrcOK 11 (encTs l) := by
  intro x hx
  obtain ⟨t, _, rfl⟩ := List.mem_map.1 hx
  rw [enc_T]
  refine ⟨rfl, fun d hd => ?_⟩
  simp only [List.mem_cons, List.not_mem_nil, or_false] at hd
  rcases hd with rfl | rfl | rfl | rfl | rfl | rfl | rfl | rfl | rfl | rfl | rfl <;> rfl
theorem src_te1 (t : Te) : SrcOK 11 [encT t] := row1 t ▸ src_te [t]
theorem src_c (d : List (List Dt)) : SrcOK 1 [[.row d]] := by
  intro x hx
  rw [List.mem_singleton] at hx
  subst hx
  exact ⟨rfl, fun d hd => by rw [List.mem_singleton] at hd; subst hd; rfl⟩
theorem fit_of {b n : Nat} (hb : b ≤ 200) (h : n ≤ 1000000) : FitB b n := ⟨by show n ≤ 2 ^ 63 - 1; omega, by
  have := Nat.mul_le_mul h hb
  omega⟩
abbrev flS (qs ms : List Te) (cs : List (List Dt)) (ex er : Int) (es : List (List Dt)) (i : Int) : AS := ⟨stt 48 [(0, .ptr 0 0), (2, tesA ms), (6, .own 2 es.length), (9, tesA qs), (10, inA qs.length), (11, inA i)], bxN cs ex er ++ [some (.buf 37 11 es)]⟩
noncomputable abbrev flB : Code := subC (bodyOf Tryz.f92) [1, 0, 1, 0, 0]
theorem flB1 {qs ms : List Te} {x y : Te} {i : Nat} {es cs : List (List Dt)} {ex er : Int} (hx : qs[i]? = some x) (hl : qs.length ≤ 100000) (he : es.length ≤ 100000) (h : Puk 23 [teA x] (teA y)) : Tri (EXn 2) flB (flS qs ms cs ex er es i) .nxt (flS qs ms cs ex er (es ++ [encT y]) ((i + 1 : Nat) : Int)) :=
  tw (E := EXn 2) (c := subC (bodyOf Tryz.f92) [1,0,1,0,0]) (s := flS qs ms cs ex er es i) (an := [yT, .av (.pin ((encT x).map .dt)), .av (teA y), .av (.un), .av (inA ((i+1 : Nat) : Int))]) (ls := []) (ft := [0,2,6,9,10,11]) (nb := 3) (e := .nxt) (s' := flS qs ms cs ex er (es ++ [encT y]) ((i + 1 : Nat) : Int)) (ps := [Bn .lss 3 (.tmp 11) (.tmp 10) (vi ↑i) (vi ↑qs.length) bT, IxAt (List.map Te.enc qs) ↑i 11 (encT x), Puk 23 [(teA x)] (teA y), (es.length) = (es.length), FitB 176 ((es ++ [encT y]).length), SrcOK 11 [encT y], Bn .add 3 (.tmp 11) (.const (vi 1)) (vi ↑i) (vi 1) (vi (↑(i + 1)))]) (by kernel_rfl)
    ⟨bin_ilt (decide_eq_true (by have := (List.getElem?_eq_some_iff.1 hx).1; omega)), ix_te hx, h, rfl, fit_of (by omega) (by simp; omega), src_te1 y, bin_iadd (by omega) (by omega) (by have := (List.getElem?_eq_some_iff.1 hx).1; omega), trivial⟩
theorem flB2 {qs ms : List Te} {i : Nat} {es cs : List (List Dt)} {ex er : Int} (hi : i = qs.length) : Tri (EXn 2) flB (flS qs ms cs ex er es i) (.out 0) (flS qs ms cs ex er es i) :=
  tw (E := EXn 2) (c := subC (bodyOf Tryz.f92) [1,0,1,0,0]) (s := flS qs ms cs ex er es i) (an := [yF]) (ls := []) (ft := [0,2,6,9,10,11]) (nb := 3) (e := .out 0) (s' := flS qs ms cs ex er es i) (ps := [Bn .lss 3 (.tmp 11) (.tmp 10) (vi ↑i) (vi ↑qs.length) bF]) (by kernel_rfl)
    ⟨bin_ilt (decide_eq_false (by omega)), trivial⟩
theorem fl_loop {qs ms : List Te} {cs : List (List Dt)} {ex er : Int} (hl : qs.length ≤ 100000) : ∀ (s : List Te) (i : Nat) (es : List (List Dt)), qs.drop i = s → i ≤ qs.length → es.length = i → Lps (EXn 2) flB (flS qs ms cs ex er es i) (.out 0) (flS qs ms cs ex er (es ++ encTs (s.map neg)) qs.length) := by
  intro s
  induction s with
  | nil =>
    intro i es hd hi he
    have e1 := congrArg List.length hd
    rw [List.length_drop, List.length_nil] at e1
    obtain rfl : i = qs.length := by omega
    rw [List.map_nil, show encTs [] = [] from rfl, List.append_nil]
    exact .stop (flB2 rfl) (fun h => by cases h)
  | cons x s ih =>
    intro i es hd hi he
    have hx : qs[i]? = some x := by rw [← List.head?_drop, hd]; rfl
    have hlt := (List.getElem?_eq_some_iff.1 hx).1
    have := ih (i + 1) (es ++ [encT (neg x)]) (by rw [← List.drop_drop, hd]; rfl) (by omega) (by simp [he])
    rw [List.append_assoc] at this
    have e : [encT (neg x)] ++ encTs (s.map neg) = encTs ((x :: s).map neg) := by rw [row1]; rfl
    rw [e] at this
    exact .more (flB1 hx hl (by omega) (p_neg x)) this
/-- the loop of 'fail', from an empty clause -/
theorem fl_tri {qs ms : List Te} {cs : List (List Dt)} {ex er : Int} (hl : qs.length ≤ 100000) : Tri (EXn 2) (.loop flB) ⟨stt 48 [(0, .ptr 0 0), (2, tesA ms), (6, .nil), (9, tesA qs), (10, inA qs.length), (11, inA 0)], bxN cs ex er⟩ (.out 0) (flS qs ms cs ex er (encTs (qs.map neg)) qs.length) := by
  have h := (fl_loop (ms := ms) (cs := cs) (ex := ex) (er := er) hl qs 0 [] rfl (Nat.zero_le _) rfl).tri
  exact Tri.own0 6 37 11 (by show 6 < 48; omega) rfl h
theorem neg_len (qs : List Te) : (encTs (qs.map neg)).length = qs.length := by simp [encTs]
/-- a clause is added -/
theorem p_fail (s : NS) (qs ms : List Te) (hl : qs.length ≤ 100000) (hm : ms.length ≤ 1000) (ho : s.out.length ≤ 400) : Suk 92 [.ptr 0 0, tesA qs, tesA ms] (bxS s) (.tup []) (bxS (s.fail id (qs.map neg ++ ms))) := by
  obtain ⟨out, ex, er⟩ := s
  dsimp only at ho
  have ht := fl_tri (ms := ms) (cs := out.map encC) (ex := ex) (er := er) hl
  have hlen := neg_len qs
  have hc : (qs.map neg ++ ms).length = (encTs (qs.map neg)).length + ms.length := by rw [hlen]; simp
  have happ : encTs (qs.map neg) ++ encTs ms = encTs (qs.map neg ++ ms) := List.map_append.symm
  unfold NS.fail
  rw [id, hc]
  generalize encTs (qs.map neg) = es at *
  have hsz : ((es.length + ms.length : Nat) : Int) = ((es ++ List.map Te.enc ms).length : Int) := by rw [List.length_append, List.length_map]
  by_cases h1 : 60 < es.length + ms.length
  · rw [if_pos (.inl h1)]
    generalize out.map encC = cs at *
    exact psw (n := 2) (ks := [0, 1]) (an := [.av (inA qs.length), .av (.un), .av (inA (es.length + ms.length : Nat)), yT]) (ls := [.inv [0,2,6,9,10,11] 2 (.out 0) (flS qs ms cs ex er es qs.length)]) (ps := [(vi ↑qs.length) = (vi (↑(List.map Te.enc qs).length)), Tri (EXn 2) (.loop (subC (bodyOf Tryz.f92) [1,0,1,0,0])) (⟨stt 48 [(0, .ptr 0 0), (2, tesA ms), (6, .nil), (9, tesA qs), (10, inA qs.length), (11, inA 0)], bxN cs ex er⟩) (.out 0) (flS qs ms cs ex er es qs.length), (es.length) = (es.length), FitB 176 ((es ++ List.map Te.enc ms).length), SrcOK 11 (List.map Te.enc ms), (vi (↑(es.length + ms.length))) = (vi (↑(es ++ List.map Te.enc ms).length)), Bn .gtr 3 (.tmp 25) (.const (vi 60)) (vi (↑(es.length + ms.length))) (vi 60) bT]) Tryz.func92 (by kernel_rfl) (by kernel_rfl) ⟨lenEncT _, ht, rfl, fit_of (by omega) (by rw [← Int.natCast_inj.1 hsz]; omega), src_te ms, congrArg _ hsz, bin_igt (decide_eq_true (by omega)), trivial⟩
  have hout : (out.map encC).length = out.length := List.length_map ..
  have hadd : (out ++ [qs.map neg ++ ms]).map encC = out.map encC ++ [[.row (encTs (qs.map neg ++ ms))]] := by rw [List.map_append]; rfl
  rw [← happ] at hadd
  by_cases h2 : 400 ≤ out.length
  · rw [if_pos (.inr h2)]
    generalize out.map encC = cs at *
    exact psw (n := 2) (ks := [0, 1]) (an := [.av (inA qs.length), .av (.un), .av (inA (es.length + ms.length : Nat)), yF, .no, yT]) (ls := [.inv [0,2,6,9,10,11] 2 (.out 0) (flS qs ms cs ex er es qs.length)]) (ps := [(vi ↑qs.length) = (vi (↑(List.map Te.enc qs).length)), Tri (EXn 2) (.loop (subC (bodyOf Tryz.f92) [1,0,1,0,0])) (⟨stt 48 [(0, .ptr 0 0), (2, tesA ms), (6, .nil), (9, tesA qs), (10, inA qs.length), (11, inA 0)], bxN cs ex er⟩) (.out 0) (flS qs ms cs ex er es qs.length), (es.length) = (es.length), FitB 176 ((es ++ List.map Te.enc ms).length), SrcOK 11 (List.map Te.enc ms), (vi (↑(es.length + ms.length))) = (vi (↑(es ++ List.map Te.enc ms).length)), Bn .gtr 3 (.tmp 25) (.const (vi 60)) (vi (↑(es.length + ms.length))) (vi 60) bF, Bn .geq 3 (.tmp 32) (.const (vi 400)) (vi ↑cs.length) (vi 400) bT]) Tryz.func92 (by kernel_rfl) (by kernel_rfl) ⟨lenEncT _, ht, rfl, fit_of (by omega) (by rw [← Int.natCast_inj.1 hsz]; omega), src_te ms, congrArg _ hsz, bin_igt (decide_eq_false (by omega)), bin_ige (decide_eq_true (by omega)), trivial⟩
  · rw [if_neg (fun h => h.elim h1 h2)]
    show Suk _ _ _ _ (bxN ((out ++ [qs.map neg ++ ms]).map encC) ex er)
    rw [hadd]
    generalize out.map encC = cs at *
    exact psw (n := 2) (ks := [0, 1]) (an := [.av (inA qs.length), .av (.un), .av (inA (es.length + ms.length : Nat)), yF, .no, yF, .av (.un)]) (ls := [.inv [0,2,6,9,10,11] 2 (.out 0) (flS qs ms cs ex er es qs.length)]) (ps := [(vi ↑qs.length) = (vi (↑(List.map Te.enc qs).length)), Tri (EXn 2) (.loop (subC (bodyOf Tryz.f92) [1,0,1,0,0])) (⟨stt 48 [(0, .ptr 0 0), (2, tesA ms), (6, .nil), (9, tesA qs), (10, inA qs.length), (11, inA 0)], bxN cs ex er⟩) (.out 0) (flS qs ms cs ex er es qs.length), (es.length) = (es.length), FitB 176 ((es ++ List.map Te.enc ms).length), SrcOK 11 (List.map Te.enc ms), (vi (↑(es.length + ms.length))) = (vi (↑(es ++ List.map Te.enc ms).length)), Bn .gtr 3 (.tmp 25) (.const (vi 60)) (vi (↑(es.length + ms.length))) (vi 60) bF, Bn .geq 3 (.tmp 32) (.const (vi 400)) (vi ↑cs.length) (vi 400) bF, ((es ++ List.map Te.enc ms).length) = ((es ++ List.map Te.enc ms).length), (cs.length) = (cs.length), FitB 24 ((cs ++ [[Dt.row (es ++ List.map Te.enc ms)]]).length), SrcOK 1 [[(.row (es ++ List.map Te.enc ms))]]]) Tryz.func92 (by kernel_rfl) (by kernel_rfl) ⟨lenEncT _, ht, rfl, fit_of (by omega) (by rw [← Int.natCast_inj.1 hsz]; omega), src_te ms, congrArg _ hsz, bin_igt (decide_eq_false (by omega)), bin_ige (decide_eq_false (by omega)), rfl, rfl, fit_of (by omega) (by simp; omega), src_c _, trivial⟩
end Go.Proofs.YtendgffijciehaaGreatDoor
/- The code's normalizer: 'examine' and 'choose', walked. -/
namespace Go.Proofs.YtendgffijciehaaGreatDoor
open Go.RowKit
open Te

theorem p_clip (qs : List Te) (hl : qs.length ≤ 9223372036854775807) : Puk 114 [tesA qs] (.ful (encTs qs)) :=
  walkF (E := EX) (fun _ _ h hb => h.below hb) Tryz.func114 (by kernel_rfl) (an := [.av (inA qs.length), .av (inA qs.length), .av (.dt (.row (qs.map Te.enc)))]) (ls := []) (ps := [(vi ↑qs.length) = (vi (↑(List.map Te.enc qs).length)), (vi ↑qs.length) = (vi (↑(List.map Te.enc qs).length)), SlcOK (List.map Te.enc qs) 11 ((none : Option Int).getD 0) ((some (qs.length : Int)).getD ((List.map Te.enc qs).length : Int)) (List.map Te.enc qs), (some (qs.length : Int)) = (none : Option Int) ∨ (some (qs.length : Int)) = (some (qs.length : Int))]) (by kernel_rfl)
    ⟨lenEncT _, lenEncT _, ⟨Int.le_refl _, by show (0 : Int) ≤ (qs.length : Int); omega, by show (qs.length : Int) ≤ _; rw [List.length_map]; omega, by
      show _ = List.drop 0 (List.take ((qs.length : Int)).toNat _)
      rw [Int.toNat_natCast, List.drop_zero, List.take_of_length_le (by rw [List.length_map]; omega)], .inl rfl⟩, .inr rfl, trivial⟩
theorem enc_snoc (qs : List Te) (a : Te) : encTs qs ++ [encT a] = encTs (qs ++ [a]) := by rw [row1]; exact List.map_append.symm
theorem ex_fail {P : Program} {G : World → Prop} {f : FuncId} {qs : List Te} {t : Te} {xs xs' : List (Option Bx)} {r : AV} (h : SOK P G f [.ptr 0 0, tesA qs, tesA [t]] xs r xs') : SOK P G f [.ptr 0 0, tesA qs, .dt (.row [encT t])] xs r xs' := by
  rw [row1]; exact h
theorem w_ex1 {t : Te} {qs : List Te} {cs : List (List Dt)} {ex er : Int} (hx0 : 0 ≤ ex) (hx1 : ex ≤ 100000) (hx : 20000 ≤ ex) : Suk 71 [.ptr 0 0, teA t, tesA qs] (bxN cs ex er) (.tup []) (bxN cs (ex + 1) 2) :=
  psw (n := 2) (ks := [0, 1]) (an := [.av (inA (ex + 1)), yT, yT]) (ls := []) (ps := [Bn .add 3 (.tmp 11) (.const (vi 1)) (vi ex) (vi 1) (vi (ex + 1)), Bn .gtr 3 (.tmp 18) (.const (vi 20000)) (vi (ex + 1)) (vi 20000) bT, Bn .neq 65 (.tmp 26) (.const (vi 0)) (vi 2) (vi 0) bT]) Tryz.func71 (by kernel_rfl) (by kernel_rfl) ⟨bin_iadd rfl (by omega) (by omega), bin_igt (decide_eq_true (by omega)), bin_ine rfl, trivial⟩
theorem w_ex2 {t : Te} {qs : List Te} {cs : List (List Dt)} {ex er : Int} (hx0 : 0 ≤ ex) (hx1 : ex ≤ 100000) (hx : ex < 20000) (he : er ≠ 0) : Suk 71 [.ptr 0 0, teA t, tesA qs] (bxN cs ex er) (.tup []) (bxN cs (ex + 1) er) :=
  psw (n := 2) (ks := [0, 1]) (an := [.av (inA (ex + 1)), yF, yT]) (ls := []) (ps := [Bn .add 3 (.tmp 11) (.const (vi 1)) (vi ex) (vi 1) (vi (ex + 1)), Bn .gtr 3 (.tmp 18) (.const (vi 20000)) (vi (ex + 1)) (vi 20000) bF, Bn .neq 65 (.tmp 26) (.const (vi 0)) (vi er) (vi 0) bT]) Tryz.func71 (by kernel_rfl) (by kernel_rfl) ⟨bin_iadd rfl (by omega) (by omega), bin_igt (decide_eq_false (by omega)), bin_ine (by simp [he]), trivial⟩
theorem w_ex3 {t : Te} {qs : List Te} {cs : List (List Dt)} {ex er : Int} {cs' : List (List Dt)} {ex' er' : Int} (hx0 : 0 ≤ ex) (hx1 : ex ≤ 100000) (hx : ex < 20000) (he : er = 0) (hk : t.kind = 2) (hn : Puk 55 [obA t.val] (boA true)) (hc : Suk 92 [.ptr 0 0, tesA qs, tesA []] (bxN cs (ex + 1) er) (.tup []) (bxN cs' ex' er'))  : Suk 71 [.ptr 0 0, teA t, tesA qs] (bxN cs ex er) (.tup []) (bxN cs' ex' er') :=
  psw (n := 2) (ks := [0, 1]) (an := [.av (inA (ex + 1)), yF, yF, yT, yT]) (ls := [.scl 7 2 [0, 1] (.tup []) [some (.cells [.own 1 cs'.length, inA ex', inA er']), some (.buf 29 1 cs')]]) (ps := [Bn .add 3 (.tmp 11) (.const (vi 1)) (vi ex) (vi 1) (vi (ex + 1)), Bn .gtr 3 (.tmp 18) (.const (vi 20000)) (vi (ex + 1)) (vi 20000) bF, Bn .neq 65 (.tmp 26) (.const (vi 0)) (vi er) (vi 0) bF, Bn .eql 3 (.tmp 29) (.const (vi 2)) (vi t.kind) (vi 2) bT, Puk 55 [(obA t.val)] (boA true), Suk 92 [AV.ptr 0 0, AV.dt (Dt.row (List.map Te.enc qs)), AV.dt (Dt.row [])] [some (Bx.cells [AV.own 1 cs.length, AV.dt (Dt.val (vi (ex + 1))), AV.dt (Dt.val (vi er))]), some (Bx.buf 29 1 cs)] (AV.tup []) [some (Bx.cells [AV.own 1 cs'.length, inA ex', inA er']), some (Bx.buf 29 1 cs')]]) Tryz.func71 (by kernel_rfl) (by kernel_rfl) ⟨bin_iadd rfl (by omega) (by omega), bin_igt (decide_eq_false (by omega)), bin_ine (by simp [he]), bin_ieq (by simp [hk]), hn, hc, trivial⟩
theorem w_ex4 {t : Te} {qs : List Te} {cs : List (List Dt)} {ex er : Int} (hx0 : 0 ≤ ex) (hx1 : ex ≤ 100000) (hx : ex < 20000) (he : er = 0) (hk : t.kind = 2) (hn : Puk 55 [obA t.val] (boA false)) : Suk 71 [.ptr 0 0, teA t, tesA qs] (bxN cs ex er) (.tup []) (bxN cs (ex + 1) er) :=
  psw (n := 2) (ks := [0, 1]) (an := [.av (inA (ex + 1)), yF, yF, yT, yF]) (ls := []) (ps := [Bn .add 3 (.tmp 11) (.const (vi 1)) (vi ex) (vi 1) (vi (ex + 1)), Bn .gtr 3 (.tmp 18) (.const (vi 20000)) (vi (ex + 1)) (vi 20000) bF, Bn .neq 65 (.tmp 26) (.const (vi 0)) (vi er) (vi 0) bF, Bn .eql 3 (.tmp 29) (.const (vi 2)) (vi t.kind) (vi 2) bT, Puk 55 [(obA t.val)] (boA false)]) Tryz.func71 (by kernel_rfl) (by kernel_rfl) ⟨bin_iadd rfl (by omega) (by omega), bin_igt (decide_eq_false (by omega)), bin_ine (by simp [he]), bin_ieq (by simp [hk]), hn, trivial⟩
theorem w_ex5 {t : Te} {qs : List Te} {cs : List (List Dt)} {ex er : Int} {cs' : List (List Dt)} {ex' er' : Int} {a : Te} (hx0 : 0 ≤ ex) (hx1 : ex ≤ 100000) (hx : ex < 20000) (he : er = 0) (hk : t.kind ≠ 2) (hn : opened t = some a) (hc : Suk 71 [.ptr 0 0, teA a, tesA qs] (bxN cs (ex + 1) er) (.tup []) (bxN cs' ex' er'))  : Suk 71 [.ptr 0 0, teA t, tesA qs] (bxN cs ex er) (.tup []) (bxN cs' ex' er') :=
  psw (n := 2) (ks := [0, 1]) (an := [.av (inA (ex + 1)), yF, yF, yF, .av (.tup [teA a, boA true])]) (ls := [.scl 10 3 [0, 1] (.tup []) [some (.cells [.own 1 cs'.length, inA ex', inA er']), some (.buf 29 1 cs')]]) (ps := [Bn .add 3 (.tmp 11) (.const (vi 1)) (vi ex) (vi 1) (vi (ex + 1)), Bn .gtr 3 (.tmp 18) (.const (vi 20000)) (vi (ex + 1)) (vi 20000) bF, Bn .neq 65 (.tmp 26) (.const (vi 0)) (vi er) (vi 0) bF, Bn .eql 3 (.tmp 29) (.const (vi 2)) (vi t.kind) (vi 2) bF, Puk 93 [(teA t)] (.tup [(teA a), (boA true)]), Suk 71 [AV.ptr 0 0, teA a, AV.dt (Dt.row (List.map Te.enc qs))] [some (Bx.cells [AV.own 1 cs.length, AV.dt (Dt.val (vi (ex + 1))), AV.dt (Dt.val (vi er))]), some (Bx.buf 29 1 cs)] (AV.tup []) [some (Bx.cells [AV.own 1 cs'.length, inA ex', inA er']), some (Bx.buf 29 1 cs')]]) Tryz.func71 (by kernel_rfl) (by kernel_rfl) ⟨bin_iadd rfl (by omega) (by omega), bin_igt (decide_eq_false (by omega)), bin_ine (by simp [he]), bin_ieq (by simp [hk]), (p_opened t).val (by rw [hn]), hc, trivial⟩
theorem w_ex6 {t : Te} {qs : List Te} {cs : List (List Dt)} {ex er : Int} {cs' : List (List Dt)} {ex' er' : Int} {a d e : Te} (hx0 : 0 ≤ ex) (hx1 : ex ≤ 100000) (hx : ex < 20000) (he : er = 0) (hk : t.kind ≠ 2) (hn : opened t = none) (hi : is t ifB 3) (h0 : t.args[0]? = some a) (h1 : t.args[1]? = some d) (h2 : t.args[2]? = some e) (hc : Suk 94 [.ptr 0 0, teA a, teA d, teA e, tesA qs] (bxN cs (ex + 1) er) (.tup []) (bxN cs' ex' er'))  : Suk 71 [.ptr 0 0, teA t, tesA qs] (bxN cs ex er) (.tup []) (bxN cs' ex' er') :=
  psw (n := 2) (ks := [0, 1]) (an := [.av (inA (ex + 1)), yF, yF, yF, .av (.tup [teA zTe, boA false]), yT, .av (.pin ((encT a).map .dt)), .av (.pin ((encT d).map .dt)), .av (.pin ((encT e).map .dt))]) (ls := [.scl 12 14 [0, 1] (.tup []) [some (.cells [.own 1 cs'.length, inA ex', inA er']), some (.buf 29 1 cs')]]) (ps := [Bn .add 3 (.tmp 11) (.const (vi 1)) (vi ex) (vi 1) (vi (ex + 1)), Bn .gtr 3 (.tmp 18) (.const (vi 20000)) (vi (ex + 1)) (vi 20000) bF, Bn .neq 65 (.tmp 26) (.const (vi 0)) (vi er) (vi 0) bF, Bn .eql 3 (.tmp 29) (.const (vi 2)) (vi t.kind) (vi 2) bF, Puk 93 [(teA t)] (.tup [(.agg [(inA 0), (stA zTe.np), (stA zTe.nn), (inA 0), (stA zTe.val.num), (stA zTe.val.den), (stA zTe.val.sp), (stA zTe.val.sn), (stA zTe.val.text), (.dt (.row (List.map Ob.enc zTe.val.pair))), (.dt (.row (List.map Te.enc zTe.args)))]), (boA false)]), Puk 56 [(teA t), (stA [105, 102]), (inA 3)] (boA true), IxAt (List.map Te.enc t.args) 0 11 (encT a), IxAt (List.map Te.enc t.args) 1 11 (encT d), IxAt (List.map Te.enc t.args) 2 11 (encT e), Suk 94 [AV.ptr 0 0, teA a, teA d, teA e, AV.dt (Dt.row (List.map Te.enc qs))] [some (Bx.cells [AV.own 1 cs.length, AV.dt (Dt.val (vi (ex + 1))), AV.dt (Dt.val (vi er))]), some (Bx.buf 29 1 cs)] (AV.tup []) [some (Bx.cells [AV.own 1 cs'.length, inA ex', inA er']), some (Bx.buf 29 1 cs')]]) Tryz.func71 (by kernel_rfl) (by kernel_rfl) ⟨bin_iadd rfl (by omega) (by omega), bin_igt (decide_eq_false (by omega)), bin_ine (by simp [he]), bin_ieq (by simp [hk]), (p_opened t).val (by rw [hn]), (p_is t ifB 3).b (yesD hi), ix_te h0, ix_te h1, ix_te h2, hc, trivial⟩
theorem w_ex7 {t : Te} {qs : List Te} {cs : List (List Dt)} {ex er : Int} (hx0 : 0 ≤ ex) (hx1 : ex ≤ 100000) (hx : ex < 20000) (he : er = 0) (hk : t.kind ≠ 2) (hn : opened t = none) (hi : ¬ is t ifB 3) (hl : qs.length ≤ 9223372036854775807) (hq : ∀ q ∈ qs, q.Wf) (hm : t ∈ qs) : Suk 71 [.ptr 0 0, teA t, tesA qs] (bxN cs ex er) (.tup []) (bxN cs (ex + 1) er) :=
  psw (n := 2) (ks := [0, 1]) (an := [.av (inA (ex + 1)), yF, yF, yF, .av (.tup [teA zTe, boA false]), yF, yT]) (ls := []) (ps := [Bn .add 3 (.tmp 11) (.const (vi 1)) (vi ex) (vi 1) (vi (ex + 1)), Bn .gtr 3 (.tmp 18) (.const (vi 20000)) (vi (ex + 1)) (vi 20000) bF, Bn .neq 65 (.tmp 26) (.const (vi 0)) (vi er) (vi 0) bF, Bn .eql 3 (.tmp 29) (.const (vi 2)) (vi t.kind) (vi 2) bF, Puk 93 [(teA t)] (.tup [(.agg [(inA 0), (stA zTe.np), (stA zTe.nn), (inA 0), (stA zTe.val.num), (stA zTe.val.den), (stA zTe.val.sp), (stA zTe.val.sn), (stA zTe.val.text), (.dt (.row (List.map Ob.enc zTe.val.pair))), (.dt (.row (List.map Te.enc zTe.args)))]), (boA false)]), Puk 56 [(teA t), (stA [105, 102]), (inA 3)] (boA false), Puk 24 [(.dt (.row (List.map Te.enc qs))), (teA t)] (boA true)]) Tryz.func71 (by kernel_rfl) (by kernel_rfl) ⟨bin_iadd rfl (by omega) (by omega), bin_igt (decide_eq_false (by omega)), bin_ine (by simp [he]), bin_ieq (by simp [hk]), (p_opened t).val (by rw [hn]), (p_is t ifB 3).b (noD hi), (p_cont hl hq t).b (yesD hm), trivial⟩
theorem w_ex8 {t : Te} {qs : List Te} {cs : List (List Dt)} {ex er : Int} {cs' : List (List Dt)} {ex' er' : Int} (hx0 : 0 ≤ ex) (hx1 : ex ≤ 100000) (hx : ex < 20000) (he : er = 0) (hk : t.kind ≠ 2) (hn : opened t = none) (hi : ¬ is t ifB 3) (hl : qs.length ≤ 9223372036854775807) (hq : ∀ q ∈ qs, q.Wf) (hm : t ∉ qs) (hm2 : ap notB [t] ∈ qs) (hc : Suk 92 [.ptr 0 0, tesA qs, tesA []] (bxN cs (ex + 1) er) (.tup []) (bxN cs' ex' er'))  : Suk 71 [.ptr 0 0, teA t, tesA qs] (bxN cs ex er) (.tup []) (bxN cs' ex' er') :=
  psw (n := 2) (ks := [0, 1]) (an := [.av (inA (ex + 1)), yF, yF, yF, .av (.tup [teA zTe, boA false]), yF, yF, .av (teA (ap notB [t])), yT]) (ls := [.scl 16 2 [0, 1] (.tup []) [some (.cells [.own 1 cs'.length, inA ex', inA er']), some (.buf 29 1 cs')]]) (ps := [Bn .add 3 (.tmp 11) (.const (vi 1)) (vi ex) (vi 1) (vi (ex + 1)), Bn .gtr 3 (.tmp 18) (.const (vi 20000)) (vi (ex + 1)) (vi 20000) bF, Bn .neq 65 (.tmp 26) (.const (vi 0)) (vi er) (vi 0) bF, Bn .eql 3 (.tmp 29) (.const (vi 2)) (vi t.kind) (vi 2) bF, Puk 93 [(teA t)] (.tup [(.agg [(inA 0), (stA zTe.np), (stA zTe.nn), (inA 0), (stA zTe.val.num), (stA zTe.val.den), (stA zTe.val.sp), (stA zTe.val.sn), (stA zTe.val.text), (.dt (.row (List.map Ob.enc zTe.val.pair))), (.dt (.row (List.map Te.enc zTe.args)))]), (boA false)]), Puk 56 [(teA t), (stA [105, 102]), (inA 3)] (boA false), Puk 24 [(.dt (.row (List.map Te.enc qs))), (teA t)] (boA false), Puk 61 [(stA [110, 111, 116]), (.dt (.row [encT t]))] (teA (ap notB [t])), Puk 24 [(.dt (.row (List.map Te.enc qs))), (teA (ap notB [t]))] (boA true), Suk 92 [AV.ptr 0 0, AV.dt (Dt.row (List.map Te.enc qs)), AV.dt (Dt.row [])] [some (Bx.cells [AV.own 1 cs.length, AV.dt (Dt.val (vi (ex + 1))), AV.dt (Dt.val (vi er))]), some (Bx.buf 29 1 cs)] (AV.tup []) [some (Bx.cells [AV.own 1 cs'.length, inA ex', inA er']), some (Bx.buf 29 1 cs')]]) Tryz.func71 (by kernel_rfl) (by kernel_rfl) ⟨bin_iadd rfl (by omega) (by omega), bin_igt (decide_eq_false (by omega)), bin_ine (by simp [he]), bin_ieq (by simp [hk]), (p_opened t).val (by rw [hn]), (p_is t ifB 3).b (noD hi), (p_cont hl hq t).b (noD hm), p_tLisp1 notB t, (p_cont hl hq (ap notB [t])).b (yesD hm2), hc, trivial⟩
theorem w_ex9 {t : Te} {qs : List Te} {cs : List (List Dt)} {ex er : Int} {cs' : List (List Dt)} {ex' er' : Int} (hx0 : 0 ≤ ex) (hx1 : ex ≤ 100000) (hx : ex < 20000) (he : er = 0) (hk : t.kind ≠ 2) (hn : opened t = none) (hi : ¬ is t ifB 3) (hl : qs.length ≤ 9223372036854775807) (hq : ∀ q ∈ qs, q.Wf) (hm : t ∉ qs) (hm2 : ap notB [t] ∉ qs) (hc : Suk 92 [.ptr 0 0, tesA qs, tesA [t]] (bxN cs (ex + 1) er) (.tup []) (bxN cs' ex' er'))  : Suk 71 [.ptr 0 0, teA t, tesA qs] (bxN cs ex er) (.tup []) (bxN cs' ex' er') :=
  psw (n := 2) (ks := [0, 1]) (an := [.av (inA (ex + 1)), yF, yF, yF, .av (.tup [teA zTe, boA false]), yF, yF, .av (teA (ap notB [t])), yF]) (ls := [.scl 13 4 [0, 1] (.tup []) [some (.cells [.own 1 cs'.length, inA ex', inA er']), some (.buf 29 1 cs')]]) (ps := [Bn .add 3 (.tmp 11) (.const (vi 1)) (vi ex) (vi 1) (vi (ex + 1)), Bn .gtr 3 (.tmp 18) (.const (vi 20000)) (vi (ex + 1)) (vi 20000) bF, Bn .neq 65 (.tmp 26) (.const (vi 0)) (vi er) (vi 0) bF, Bn .eql 3 (.tmp 29) (.const (vi 2)) (vi t.kind) (vi 2) bF, Puk 93 [(teA t)] (.tup [(.agg [(inA 0), (stA zTe.np), (stA zTe.nn), (inA 0), (stA zTe.val.num), (stA zTe.val.den), (stA zTe.val.sp), (stA zTe.val.sn), (stA zTe.val.text), (.dt (.row (List.map Ob.enc zTe.val.pair))), (.dt (.row (List.map Te.enc zTe.args)))]), (boA false)]), Puk 56 [(teA t), (stA [105, 102]), (inA 3)] (boA false), Puk 24 [(.dt (.row (List.map Te.enc qs))), (teA t)] (boA false), Puk 61 [(stA [110, 111, 116]), (.dt (.row [encT t]))] (teA (ap notB [t])), Puk 24 [(.dt (.row (List.map Te.enc qs))), (teA (ap notB [t]))] (boA false), Suk 92 [AV.ptr 0 0, AV.dt (Dt.row (List.map Te.enc qs)), AV.dt (Dt.row ([encT t]))] [some (Bx.cells [AV.own 1 cs.length, AV.dt (Dt.val (vi (ex + 1))), AV.dt (Dt.val (vi er))]), some (Bx.buf 29 1 cs)] (AV.tup []) [some (Bx.cells [AV.own 1 cs'.length, inA ex', inA er']), some (Bx.buf 29 1 cs')]]) Tryz.func71 (by kernel_rfl) (by kernel_rfl) ⟨bin_iadd rfl (by omega) (by omega), bin_igt (decide_eq_false (by omega)), bin_ine (by simp [he]), bin_ieq (by simp [hk]), (p_opened t).val (by rw [hn]), (p_is t ifB 3).b (noD hi), (p_cont hl hq t).b (noD hm), p_tLisp1 notB t, (p_cont hl hq (ap notB [t])).b (noD hm2), ex_fail hc, trivial⟩
theorem w_c1 {a d e : Te} {qs : List Te} {cs : List (List Dt)} {ex er : Int} {cs' : List (List Dt)} {ex' er' : Int} (hk : a.kind = 2) (hn : Puk 55 [obA a.val] (boA true)) (hc : Suk 71 [.ptr 0 0, teA e, tesA qs] (bxN cs ex er) (.tup []) (bxN cs' ex' er'))  : Suk 94 [.ptr 0 0, teA a, teA d, teA e, tesA qs] (bxN cs ex er) (.tup []) (bxN cs' ex' er') :=
  psw (n := 2) (ks := [0, 1]) (an := [.av (teA (ap notB [a])), yT, yT]) (ls := [.scl 3 3 [0, 1] (.tup []) [some (.cells [.own 1 cs'.length, inA ex', inA er']), some (.buf 29 1 cs')]]) (ps := [Puk 61 [(stA [110, 111, 116]), (.dt (.row [encT a]))] (teA (ap notB [a])), Bn .eql 3 (.tmp 18) (.const (vi 2)) (vi a.kind) (vi 2) bT, Puk 55 [(obA a.val)] (boA true), Suk 71 [AV.ptr 0 0, teA e, AV.dt (Dt.row (List.map Te.enc qs))] [some (Bx.cells [AV.own 1 cs.length, AV.dt (Dt.val (vi ex)), AV.dt (Dt.val (vi er))]), some (Bx.buf 29 1 cs)] (AV.tup []) [some (Bx.cells [AV.own 1 cs'.length, inA ex', inA er']), some (Bx.buf 29 1 cs')]]) Tryz.func94 (by kernel_rfl) (by kernel_rfl) ⟨p_tLisp1 notB a, bin_ieq (by simp [hk]), hn, hc, trivial⟩
theorem w_c2 {a d e : Te} {qs : List Te} {cs : List (List Dt)} {ex er : Int} {cs' : List (List Dt)} {ex' er' : Int} (hk : a.kind = 2) (hn : Puk 55 [obA a.val] (boA false)) (hc : Suk 71 [.ptr 0 0, teA d, tesA qs] (bxN cs ex er) (.tup []) (bxN cs' ex' er'))  : Suk 94 [.ptr 0 0, teA a, teA d, teA e, tesA qs] (bxN cs ex er) (.tup []) (bxN cs' ex' er') :=
  psw (n := 2) (ks := [0, 1]) (an := [.av (teA (ap notB [a])), yT, yF, yT]) (ls := [.scl 5 3 [0, 1] (.tup []) [some (.cells [.own 1 cs'.length, inA ex', inA er']), some (.buf 29 1 cs')]]) (ps := [Puk 61 [(stA [110, 111, 116]), (.dt (.row [encT a]))] (teA (ap notB [a])), Bn .eql 3 (.tmp 18) (.const (vi 2)) (vi a.kind) (vi 2) bT, Puk 55 [(obA a.val)] (boA false), Bn .eql 3 (.tmp 31) (.const (vi 2)) (vi a.kind) (vi 2) bT, Suk 71 [AV.ptr 0 0, teA d, AV.dt (Dt.row (List.map Te.enc qs))] [some (Bx.cells [AV.own 1 cs.length, AV.dt (Dt.val (vi ex)), AV.dt (Dt.val (vi er))]), some (Bx.buf 29 1 cs)] (AV.tup []) [some (Bx.cells [AV.own 1 cs'.length, inA ex', inA er']), some (Bx.buf 29 1 cs')]]) Tryz.func94 (by kernel_rfl) (by kernel_rfl) ⟨p_tLisp1 notB a, bin_ieq (by simp [hk]), hn, bin_ieq (by simp [hk]), hc, trivial⟩
theorem w_c3 {a d e : Te} {qs : List Te} {cs : List (List Dt)} {ex er : Int} {cs' : List (List Dt)} {ex' er' : Int} {a0 : Te} (hk : a.kind ≠ 2) (hi : is a notB 1) (h0 : a.args[0]? = some a0) (hc : Suk 71 [.ptr 0 0, teA (ap ifB [a0, e, d]), tesA qs] (bxN cs ex er) (.tup []) (bxN cs' ex' er'))  : Suk 94 [.ptr 0 0, teA a, teA d, teA e, tesA qs] (bxN cs ex er) (.tup []) (bxN cs' ex' er') :=
  psw (n := 2) (ks := [0, 1]) (an := [.av (teA (ap notB [a])), yF, yF, yT, .av (.pin ((encT a0).map .dt)), .av (teA (ap ifB [a0, e, d]))]) (ls := [.scl 7 10 [0, 1] (.tup []) [some (.cells [.own 1 cs'.length, inA ex', inA er']), some (.buf 29 1 cs')]]) (ps := [Puk 61 [(stA [110, 111, 116]), (.dt (.row [encT a]))] (teA (ap notB [a])), Bn .eql 3 (.tmp 18) (.const (vi 2)) (vi a.kind) (vi 2) bF, Bn .eql 3 (.tmp 31) (.const (vi 2)) (vi a.kind) (vi 2) bF, Puk 56 [(teA a), (stA [110, 111, 116]), (inA 1)] (boA true), IxAt (List.map Te.enc a.args) 0 11 (encT a0), Puk 61 [(stA [105, 102]), (.dt (.row [encT a0, encT e, encT d]))] (teA (ap ifB [a0, e, d])), Suk 71 [AV.ptr 0 0, teA (ap ifB [a0, e, d]), AV.dt (Dt.row (List.map Te.enc qs))] [some (Bx.cells [AV.own 1 cs.length, AV.dt (Dt.val (vi ex)), AV.dt (Dt.val (vi er))]), some (Bx.buf 29 1 cs)] (AV.tup []) [some (Bx.cells [AV.own 1 cs'.length, inA ex', inA er']), some (Bx.buf 29 1 cs')]]) Tryz.func94 (by kernel_rfl) (by kernel_rfl) ⟨p_tLisp1 notB a, bin_ieq (by simp [hk]), bin_ieq (by simp [hk]), (p_is a notB 1).b (yesD hi), ix_te h0, p_tLisp3 ifB a0 e d, hc, trivial⟩
theorem w_c4 {a d e : Te} {qs : List Te} {cs : List (List Dt)} {ex er : Int} {cs' : List (List Dt)} {ex' er' : Int} {a0 a1 a2 : Te} (hk : a.kind ≠ 2) (hi : ¬ is a notB 1) (hj : is a ifB 3) (h0 : a.args[0]? = some a0) (h1 : a.args[1]? = some a1) (h2 : a.args[2]? = some a2) (hc : Suk 71 [.ptr 0 0, teA (ap ifB [a0, ap ifB [a1, d, e], ap ifB [a2, d, e]]), tesA qs] (bxN cs ex er) (.tup []) (bxN cs' ex' er'))  : Suk 94 [.ptr 0 0, teA a, teA d, teA e, tesA qs] (bxN cs ex er) (.tup []) (bxN cs' ex' er') :=
  psw (n := 2) (ks := [0, 1]) (an := [.av (teA (ap notB [a])), yF, yF, yF, yT, .av (.pin ((encT a0).map .dt)), .av (.pin ((encT a1).map .dt)), .av (teA (ap ifB [a1, d, e])), .av (.pin ((encT a2).map .dt)), .av (teA (ap ifB [a2, d, e])), .av (teA (ap ifB [a0, ap ifB [a1, d, e], ap ifB [a2, d, e]]))]) (ls := [.scl 9 24 [0, 1] (.tup []) [some (.cells [.own 1 cs'.length, inA ex', inA er']), some (.buf 29 1 cs')]]) (ps := [Puk 61 [(stA [110, 111, 116]), (.dt (.row [encT a]))] (teA (ap notB [a])), Bn .eql 3 (.tmp 18) (.const (vi 2)) (vi a.kind) (vi 2) bF, Bn .eql 3 (.tmp 31) (.const (vi 2)) (vi a.kind) (vi 2) bF, Puk 56 [(teA a), (stA [110, 111, 116]), (inA 1)] (boA false), Puk 56 [(teA a), (stA [105, 102]), (inA 3)] (boA true), IxAt (List.map Te.enc a.args) 0 11 (encT a0), IxAt (List.map Te.enc a.args) 1 11 (encT a1), Puk 61 [(stA [105, 102]), (.dt (.row [encT a1, encT d, encT e]))] (teA (ap ifB [a1, d, e])), IxAt (List.map Te.enc a.args) 2 11 (encT a2), Puk 61 [(stA [105, 102]), (.dt (.row [encT a2, encT d, encT e]))] (teA (ap ifB [a2, d, e])), Puk 61 [(stA [105, 102]), (.dt (.row [encT a0, encT (ap ifB [a1, d, e]), encT (ap ifB [a2, d, e])]))] (teA (ap ifB [a0, ap ifB [a1, d, e], ap ifB [a2, d, e]])), Suk 71 [AV.ptr 0 0, teA (ap ifB [a0, ap ifB [a1, d, e], ap ifB [a2, d, e]]), AV.dt (Dt.row (List.map Te.enc qs))] [some (Bx.cells [AV.own 1 cs.length, AV.dt (Dt.val (vi ex)), AV.dt (Dt.val (vi er))]), some (Bx.buf 29 1 cs)] (AV.tup []) [some (Bx.cells [AV.own 1 cs'.length, inA ex', inA er']), some (Bx.buf 29 1 cs')]]) Tryz.func94 (by kernel_rfl) (by kernel_rfl) ⟨p_tLisp1 notB a, bin_ieq (by simp [hk]), bin_ieq (by simp [hk]), (p_is a notB 1).b (noD hi), (p_is a ifB 3).b (yesD hj), ix_te h0, ix_te h1, p_tLisp3 ifB a1 d e, ix_te h2, p_tLisp3 ifB a2 d e, p_tLisp3 ifB a0 (ap ifB [a1, d, e]) (ap ifB [a2, d, e]), hc, trivial⟩
theorem w_c5 {a d e : Te} {qs : List Te} {cs : List (List Dt)} {ex er : Int} {cs' : List (List Dt)} {ex' er' : Int} {b : Te} (hk : a.kind ≠ 2) (hi : ¬ is a notB 1) (hj : ¬ is a ifB 3) (hn : opened a = some b) (hc : Suk 71 [.ptr 0 0, teA (ap ifB [b, d, e]), tesA qs] (bxN cs ex er) (.tup []) (bxN cs' ex' er'))  : Suk 94 [.ptr 0 0, teA a, teA d, teA e, tesA qs] (bxN cs ex er) (.tup []) (bxN cs' ex' er') :=
  psw (n := 2) (ks := [0, 1]) (an := [.av (teA (ap notB [a])), yF, yF, yF, yF, .av (.tup [teA b, boA true]), .av (teA (ap ifB [b, d, e]))]) (ls := [.scl 12 7 [0, 1] (.tup []) [some (.cells [.own 1 cs'.length, inA ex', inA er']), some (.buf 29 1 cs')]]) (ps := [Puk 61 [(stA [110, 111, 116]), (.dt (.row [encT a]))] (teA (ap notB [a])), Bn .eql 3 (.tmp 18) (.const (vi 2)) (vi a.kind) (vi 2) bF, Bn .eql 3 (.tmp 31) (.const (vi 2)) (vi a.kind) (vi 2) bF, Puk 56 [(teA a), (stA [110, 111, 116]), (inA 1)] (boA false), Puk 56 [(teA a), (stA [105, 102]), (inA 3)] (boA false), Puk 93 [(teA a)] (.tup [(teA b), (boA true)]), Puk 61 [(stA [105, 102]), (.dt (.row [encT b, encT d, encT e]))] (teA (ap ifB [b, d, e])), Suk 71 [AV.ptr 0 0, teA (ap ifB [b, d, e]), AV.dt (Dt.row (List.map Te.enc qs))] [some (Bx.cells [AV.own 1 cs.length, AV.dt (Dt.val (vi ex)), AV.dt (Dt.val (vi er))]), some (Bx.buf 29 1 cs)] (AV.tup []) [some (Bx.cells [AV.own 1 cs'.length, inA ex', inA er']), some (Bx.buf 29 1 cs')]]) Tryz.func94 (by kernel_rfl) (by kernel_rfl) ⟨p_tLisp1 notB a, bin_ieq (by simp [hk]), bin_ieq (by simp [hk]), (p_is a notB 1).b (noD hi), (p_is a ifB 3).b (noD hj), (p_opened a).val (by rw [hn]), p_tLisp3 ifB b d e, hc, trivial⟩
theorem w_c6 {a d e : Te} {qs : List Te} {cs : List (List Dt)} {ex er : Int} {cs' : List (List Dt)} {ex' er' : Int} (hk : a.kind ≠ 2) (hi : ¬ is a notB 1) (hj : ¬ is a ifB 3) (hn : opened a = none) (hl : qs.length ≤ 100000) (hq : ∀ q ∈ qs, q.Wf) (hm : a ∈ qs) (hc : Suk 71 [.ptr 0 0, teA d, tesA qs] (bxN cs ex er) (.tup []) (bxN cs' ex' er'))  : Suk 94 [.ptr 0 0, teA a, teA d, teA e, tesA qs] (bxN cs ex er) (.tup []) (bxN cs' ex' er') :=
  psw (n := 2) (ks := [0, 1]) (an := [.av (teA (ap notB [a])), yF, yF, yF, yF, .av (.tup [teA zTe, boA false]), yT]) (ls := [.scl 16 3 [0, 1] (.tup []) [some (.cells [.own 1 cs'.length, inA ex', inA er']), some (.buf 29 1 cs')]]) (ps := [Puk 61 [(stA [110, 111, 116]), (.dt (.row [encT a]))] (teA (ap notB [a])), Bn .eql 3 (.tmp 18) (.const (vi 2)) (vi a.kind) (vi 2) bF, Bn .eql 3 (.tmp 31) (.const (vi 2)) (vi a.kind) (vi 2) bF, Puk 56 [(teA a), (stA [110, 111, 116]), (inA 1)] (boA false), Puk 56 [(teA a), (stA [105, 102]), (inA 3)] (boA false), Puk 93 [(teA a)] (.tup [(.agg [(inA 0), (stA zTe.np), (stA zTe.nn), (inA 0), (stA zTe.val.num), (stA zTe.val.den), (stA zTe.val.sp), (stA zTe.val.sn), (stA zTe.val.text), (.dt (.row (List.map Ob.enc zTe.val.pair))), (.dt (.row (List.map Te.enc zTe.args)))]), (boA false)]), Puk 24 [(.dt (.row (List.map Te.enc qs))), (teA a)] (boA true), Suk 71 [AV.ptr 0 0, teA d, AV.dt (Dt.row (List.map Te.enc qs))] [some (Bx.cells [AV.own 1 cs.length, AV.dt (Dt.val (vi ex)), AV.dt (Dt.val (vi er))]), some (Bx.buf 29 1 cs)] (AV.tup []) [some (Bx.cells [AV.own 1 cs'.length, inA ex', inA er']), some (Bx.buf 29 1 cs')]]) Tryz.func94 (by kernel_rfl) (by kernel_rfl) ⟨p_tLisp1 notB a, bin_ieq (by simp [hk]), bin_ieq (by simp [hk]), (p_is a notB 1).b (noD hi), (p_is a ifB 3).b (noD hj), (p_opened a).val (by rw [hn]), (p_cont (by omega) hq a).b (yesD hm), hc, trivial⟩
theorem w_c7 {a d e : Te} {qs : List Te} {cs : List (List Dt)} {ex er : Int} {cs' : List (List Dt)} {ex' er' : Int} (hk : a.kind ≠ 2) (hi : ¬ is a notB 1) (hj : ¬ is a ifB 3) (hn : opened a = none) (hl : qs.length ≤ 100000) (hq : ∀ q ∈ qs, q.Wf) (hm : a ∉ qs) (hm2 : ap notB [a] ∈ qs) (hc : Suk 71 [.ptr 0 0, teA e, tesA qs] (bxN cs ex er) (.tup []) (bxN cs' ex' er'))  : Suk 94 [.ptr 0 0, teA a, teA d, teA e, tesA qs] (bxN cs ex er) (.tup []) (bxN cs' ex' er') :=
  psw (n := 2) (ks := [0, 1]) (an := [.av (teA (ap notB [a])), yF, yF, yF, yF, .av (.tup [teA zTe, boA false]), yF, yT]) (ls := [.scl 18 3 [0, 1] (.tup []) [some (.cells [.own 1 cs'.length, inA ex', inA er']), some (.buf 29 1 cs')]]) (ps := [Puk 61 [(stA [110, 111, 116]), (.dt (.row [encT a]))] (teA (ap notB [a])), Bn .eql 3 (.tmp 18) (.const (vi 2)) (vi a.kind) (vi 2) bF, Bn .eql 3 (.tmp 31) (.const (vi 2)) (vi a.kind) (vi 2) bF, Puk 56 [(teA a), (stA [110, 111, 116]), (inA 1)] (boA false), Puk 56 [(teA a), (stA [105, 102]), (inA 3)] (boA false), Puk 93 [(teA a)] (.tup [(.agg [(inA 0), (stA zTe.np), (stA zTe.nn), (inA 0), (stA zTe.val.num), (stA zTe.val.den), (stA zTe.val.sp), (stA zTe.val.sn), (stA zTe.val.text), (.dt (.row (List.map Ob.enc zTe.val.pair))), (.dt (.row (List.map Te.enc zTe.args)))]), (boA false)]), Puk 24 [(.dt (.row (List.map Te.enc qs))), (teA a)] (boA false), Puk 24 [(.dt (.row (List.map Te.enc qs))), (teA (ap notB [a]))] (boA true), Suk 71 [AV.ptr 0 0, teA e, AV.dt (Dt.row (List.map Te.enc qs))] [some (Bx.cells [AV.own 1 cs.length, AV.dt (Dt.val (vi ex)), AV.dt (Dt.val (vi er))]), some (Bx.buf 29 1 cs)] (AV.tup []) [some (Bx.cells [AV.own 1 cs'.length, inA ex', inA er']), some (Bx.buf 29 1 cs')]]) Tryz.func94 (by kernel_rfl) (by kernel_rfl) ⟨p_tLisp1 notB a, bin_ieq (by simp [hk]), bin_ieq (by simp [hk]), (p_is a notB 1).b (noD hi), (p_is a ifB 3).b (noD hj), (p_opened a).val (by rw [hn]), (p_cont (by omega) hq a).b (noD hm), (p_cont (by omega) hq (ap notB [a])).b (yesD hm2), hc, trivial⟩
theorem w_c8 {a d e : Te} {qs : List Te} {cs : List (List Dt)} {ex er : Int} {cs1 : List (List Dt)} {ex1 er1 : Int} {cs' : List (List Dt)} {ex' er' : Int} (hk : a.kind ≠ 2) (hi : ¬ is a notB 1) (hj : ¬ is a ifB 3) (hn : opened a = none) (hl : qs.length ≤ 100000) (hq : ∀ q ∈ qs, q.Wf) (hm : a ∉ qs) (hm2 : ap notB [a] ∉ qs) (hc1 : Suk 71 [.ptr 0 0, teA d, tesA (qs ++ [a])] (bxN cs ex er) (.tup []) (bxN cs1 ex1 er1)) (hc2 : Suk 71 [.ptr 0 0, teA e, tesA (qs ++ [ap notB [a]])] (bxN cs1 ex1 er1) (.tup []) (bxN cs' ex' er'))  : Suk 94 [.ptr 0 0, teA a, teA d, teA e, tesA qs] (bxN cs ex er) (.tup []) (bxN cs' ex' er') :=
  psw (n := 2) (ks := [0, 1]) (an := [.av (teA (ap notB [a])), yF, yF, yF, yF, .av (.tup [teA zTe, boA false]), yF, yF, .av (.ful (encTs qs)), .av (.un), .av (.ful (encTs qs)), .av (.un)]) (ls := [.scl 13 7 [0, 1] (.tup []) [some (.cells [.own 1 cs1.length, inA ex1, inA er1]), some (.buf 29 1 cs1)], .scl 14 7 [0, 1] (.tup []) [some (.cells [.own 1 cs'.length, inA ex', inA er']), some (.buf 29 1 cs')]]) (ps := [Puk 61 [(stA [110, 111, 116]), (.dt (.row [encT a]))] (teA (ap notB [a])), Bn .eql 3 (.tmp 18) (.const (vi 2)) (vi a.kind) (vi 2) bF, Bn .eql 3 (.tmp 31) (.const (vi 2)) (vi a.kind) (vi 2) bF, Puk 56 [(teA a), (stA [110, 111, 116]), (inA 1)] (boA false), Puk 56 [(teA a), (stA [105, 102]), (inA 3)] (boA false), Puk 93 [(teA a)] (.tup [(.agg [(inA 0), (stA zTe.np), (stA zTe.nn), (inA 0), (stA zTe.val.num), (stA zTe.val.den), (stA zTe.val.sp), (stA zTe.val.sn), (stA zTe.val.text), (.dt (.row (List.map Ob.enc zTe.val.pair))), (.dt (.row (List.map Te.enc zTe.args)))]), (boA false)]), Puk 24 [(.dt (.row (List.map Te.enc qs))), (teA a)] (boA false), Puk 24 [(.dt (.row (List.map Te.enc qs))), (teA (ap notB [a]))] (boA false), Puk 114 [(.dt (.row (List.map Te.enc qs)))] (.ful (encTs qs)), 1 ≤ (([encT a]).length), FitB 176 ((encTs qs ++ [encT a]).length), SrcOK 11 (encTs qs ++ [encT a]), Suk 71 [AV.ptr 0 0, teA d, AV.dt (Dt.row (encTs qs ++ [encT a]))] [some (Bx.cells [AV.own 1 cs.length, AV.dt (Dt.val (vi ex)), AV.dt (Dt.val (vi er))]), some (Bx.buf 29 1 cs)] (AV.tup []) [some (Bx.cells [AV.own 1 cs1.length, inA ex1, inA er1]), some (Bx.buf 29 1 cs1)], ((encTs qs ++ [encT a]).length) = ((encTs qs ++ [encT a]).length), Puk 114 [(.dt (.row (List.map Te.enc qs)))] (.ful (encTs qs)), 1 ≤ (([encT (ap notB [a])]).length), FitB 176 ((encTs qs ++ [encT (ap notB [a])]).length), SrcOK 11 (encTs qs ++ [encT (ap notB [a])]), Suk 71 [AV.ptr 0 0, teA e, AV.dt (Dt.row (encTs qs ++ [encT (ap notB [a])]))] [some (Bx.cells [AV.own 1 cs1.length, AV.dt (Dt.val (vi ex1)), AV.dt (Dt.val (vi er1))]), some (Bx.buf 29 1 cs1)] (AV.tup []) [some (Bx.cells [AV.own 1 cs'.length, inA ex', inA er']), some (Bx.buf 29 1 cs')], ((encTs qs ++ [encT (ap notB [a])]).length) = ((encTs qs ++ [encT (ap notB [a])]).length)]) Tryz.func94 (by kernel_rfl) (by kernel_rfl) ⟨p_tLisp1 notB a, bin_ieq (by simp [hk]), bin_ieq (by simp [hk]), (p_is a notB 1).b (noD hi), (p_is a ifB 3).b (noD hj), (p_opened a).val (by rw [hn]), (p_cont (by omega) hq a).b (noD hm), (p_cont (by omega) hq (ap notB [a])).b (noD hm2), p_clip qs (by omega), Nat.le_refl 1, fit_of (by omega) (by simp; omega), enc_snoc qs a ▸ src_te _, enc_snoc qs a ▸ hc1, rfl, p_clip qs (by omega), Nat.le_refl 1, fit_of (by omega) (by simp; omega), enc_snoc qs (ap notB [a]) ▸ src_te _, enc_snoc qs (ap notB [a]) ▸ hc2, rfl, trivial⟩
end Go.Proofs.YtendgffijciehaaGreatDoor
/- The code's normalizer: what it leaves. -/
namespace Go.Proofs.YtendgffijciehaaGreatDoor
open Go.RowKit
open Te

namespace Te
/-- nothing but the symbol nil looks like nil, all the way down -/
inductive Gd : Te → Prop
  | mk (t : Te) (hv : t.val.Wf) (hn : t.val.kind = 2 ∧ t.val.sp = lispB ∧ t.val.sn = nilB → t.val = nilO) (hl : t.args.length ≤ 9223372036854775807) (h : ∀ x ∈ t.args, Gd x) : Gd t
theorem Gd.nil {t : Te} (h : t.Gd) : t.val.kind = 2 ∧ t.val.sp = lispB ∧ t.val.sn = nilB ↔ t.val = nilO := by
  cases h with | mk _ hv hn hl hh => exact ⟨hn, fun e => by rw [e]; exact ⟨rfl, rfl, rfl⟩⟩
theorem Gd.kids {t x : Te} (h : t.Gd) (hx : x ∈ t.args) : x.Gd := by cases h with | mk _ hv hn hl hh => exact hh x hx
theorem Gd.wf {t : Te} (h : t.Gd) : t.Wf := by
  induction h with
  | mk t hv hn hl hh ih => exact .mk t hv hl ih
theorem zOb_wf : zOb.Wf := .mk _ (by decide) (by decide) (by decide) (by decide) (by decide) (by decide) (by decide) (by decide) (fun x hx => by cases hx)
theorem symO_wf {p n : List UInt8} (hp : p.length ≤ 1000) (hn : n.length ≤ 1000) : (symO p n).Wf := .mk _ (by show (-9223372036854775808 : Int) ≤ 2; omega) (by show (2 : Int) ≤ 9223372036854775807; omega) (Nat.zero_le _) (Nat.zero_le _) (by show p.length ≤ _; omega) (by show n.length ≤ _; omega) (Nat.zero_le _) (Nat.zero_le _) (fun x hx => by cases hx)
theorem Gd.ap {n : List UInt8} {l : List Te} (hl : l.length ≤ 1000) (h : ∀ x ∈ l, x.Gd) : (Te.ap n l).Gd := .mk _ zOb_wf (fun e => by cases e.1) (by show l.length ≤ _; omega) h
theorem Gd.con {o : Ob} (hv : o.Wf) (hn : o.kind = 2 ∧ o.sp = lispB ∧ o.sn = nilB → o = nilO) : (Te.con o).Gd := .mk _ hv hn (Nat.zero_le _) (fun x hx => by cases hx)
theorem yes_gd : yesT.Gd := .con (symO_wf (by decide) (by decide)) (fun e => by cases e.2.2)
theorem no_gd : noT.Gd := .con (symO_wf (by decide) (by decide)) (fun _ => rfl)
theorem Gd.arg {t : Te} {n : List UInt8} {k i : Nat} (h : t.Gd) (hi : is t n k) (hk : i < k) : (t.arg i).Gd := h.kids (List.mem_of_getElem? (arg_at hi hk))
theorem gd1 {a : Te} (ha : a.Gd) : ∀ x ∈ [a], x.Gd := fun x hx => by rw [List.mem_singleton] at hx; subst hx; exact ha
theorem gd3 {a b c : Te} (ha : a.Gd) (hb : b.Gd) (hc : c.Gd) : ∀ x ∈ [a, b, c], x.Gd := fun x hx => by
  simp only [List.mem_cons, List.not_mem_nil, or_false] at hx
  rcases hx with rfl | rfl | rfl
  · exact ha
  · exact hb
  · exact hc
theorem Gd.not {a : Te} (h : a.Gd) : (Te.ap notB [a]).Gd := .ap (by show 1 ≤ 1000; omega) (gd1 h)
theorem Gd.if_ {a b c : Te} (ha : a.Gd) (hb : b.Gd) (hc : c.Gd) : (Te.ap ifB [a, b, c]).Gd := .ap (by show 3 ≤ 1000; omega) (gd3 ha hb hc)
theorem Gd.opened {t a : Te} (h : t.Gd) (e : Te.opened t = some a) : a.Gd := by
  unfold Te.opened at e
  split at e
  · rename_i hi; cases e; exact (h.arg hi (by omega)).if_ no_gd yes_gd
  split at e
  · rename_i hi; cases e; exact (h.arg hi (show 0 < 2 by omega)).if_ ((h.arg hi (show 1 < 2 by omega)).if_ yes_gd no_gd) yes_gd
  split at e
  · rename_i hi; cases e; exact (h.arg hi (show 0 < 2 by omega)).if_ ((h.arg hi (show 1 < 2 by omega)).if_ yes_gd no_gd) ((h.arg hi (show 1 < 2 by omega)).if_ no_gd yes_gd)
  · cases e
end Te
theorem fail_ex (D : List Te → List Te) (s : NS) (c : List Te) : (s.fail D c).ex = s.ex := by unfold NS.fail; split <;> rfl
theorem fail_out (D : List Te → List Te) (s : NS) (c : List Te) (h : s.out.length ≤ 400) : (s.fail D c).out.length ≤ 400 := by
  unfold NS.fail
  split
  · exact h
  · rename_i hn
    show (s.out ++ [D c]).length ≤ 400
    rw [List.length_append, List.length_singleton]
    omega
theorem tick_ex (s : NS) : s.tick.ex = s.ex + 1 := rfl
theorem tick_er {s : NS} (h : ¬ s.tick.er ≠ 0) : s.ex < 20000 ∧ s.er = 0 ∧ s.tick = ⟨s.out, s.ex + 1, s.er⟩ := by
  unfold NS.tick at h ⊢
  split at h
  · exact absurd (show (2 : Int) ≠ 0 by decide) h
  · rename_i h1
    rw [if_neg h1]
    exact ⟨by omega, by simpa using h, rfl⟩
/-- examinations are counted; clauses are at most 400 -/
theorem exm_inv (D : List Te → List Te) : ∀ (f : Nat) (t : Te) (qs : List Te) (s : NS), s.out.length ≤ 400 → s.ex ≤ (exm D f t qs s).ex ∧ (exm D f t qs s).ex ≤ max (s.ex + 1) (20000 + f) ∧ (exm D f t qs s).out.length ≤ 400
  | 0, _, _, s, h => by rw [exm]; exact ⟨Int.le_refl _, by omega, h⟩
  | f + 1, t, qs, s, h => by
    rw [exm]
    split
    · rw [tick_ex]; exact ⟨by omega, by omega, h⟩
    rename_i he
    obtain ⟨h1, h2, h3⟩ := tick_er he
    have hto : s.tick.out.length ≤ 400 := h
    have hte := tick_ex s
    have step : ∀ t' qs', s.ex ≤ (exm D f t' qs' s.tick).ex ∧ (exm D f t' qs' s.tick).ex ≤ max (s.ex + 1) (20000 + (f + 1 : Nat)) ∧ (exm D f t' qs' s.tick).out.length ≤ 400 := fun t' qs' => by
      obtain ⟨k1, k2, k3⟩ := exm_inv D f t' qs' s.tick hto
      exact ⟨by omega, by omega, k3⟩
    have fl : ∀ c, s.ex ≤ (s.tick.fail D c).ex ∧ (s.tick.fail D c).ex ≤ max (s.ex + 1) (20000 + (f + 1 : Nat)) ∧ (s.tick.fail D c).out.length ≤ 400 := fun c => by
      rw [fail_ex]
      exact ⟨by omega, by omega, fail_out D _ c hto⟩
    have st : s.ex ≤ s.tick.ex ∧ s.tick.ex ≤ max (s.ex + 1) (20000 + (f + 1 : Nat)) ∧ s.tick.out.length ≤ 400 := ⟨by omega, by omega, hto⟩
    split
    · split
      · exact fl _
      · exact st
    split
    · exact step _ _
    split
    · split
      · exact step _ _
      split
      · exact step _ _
      split
      · exact step _ _
      split
      · exact step _ _
      split
      · exact step _ _
      split
      · exact step _ _
      split
      · exact step _ _
      · obtain ⟨k1, k2, k3⟩ := exm_inv D f (t.arg 1) (qs ++ [t.arg 0]) s.tick hto
        obtain ⟨m1, m2, m3⟩ := exm_inv D f (t.arg 2) (qs ++ [ap notB [t.arg 0]]) _ k3
        exact ⟨by omega, by
          rcases Nat.eq_zero_or_pos f with h0 | h0
          · subst h0
            rw [exm, exm]
            omega
          · omega, m3⟩
    · split
      · exact st
      split
      · exact fl _
      · exact fl _
/-- what 'choose' leaves -/
def chs (D : List Te → List Te) (f : Nat) (a d e : Te) (qs : List Te) (s : NS) : NS :=
  if a.kind = 2 ∧ a.val = nilO then exm D f e qs s
  else if a.kind = 2 then exm D f d qs s
  else if is a notB 1 then exm D f (ap ifB [a.arg 0, e, d]) qs s
  else if is a ifB 3 then exm D f (ap ifB [a.arg 0, ap ifB [a.arg 1, d, e], ap ifB [a.arg 2, d, e]]) qs s
  else match opened a with
    | some a' => exm D f (ap ifB [a', d, e]) qs s
    | none =>
      if a ∈ qs then exm D f d qs s
      else if ap notB [a] ∈ qs then exm D f e qs s
      else exm D f e (qs ++ [ap notB [a]]) (exm D f d (qs ++ [a]) s)
theorem exm_succ (D : List Te → List Te) (f : Nat) (t : Te) (qs : List Te) (s : NS) : exm D (f + 1) t qs s =
    if s.tick.er ≠ 0 then s.tick else
    if t.kind = 2 then (if t.val = nilO then s.tick.fail D (qs.map neg) else s.tick) else
    match opened t with
    | some t' => exm D f t' qs s.tick
    | none =>
      if is t ifB 3 then chs D f (t.arg 0) (t.arg 1) (t.arg 2) qs s.tick
      else if t ∈ qs then s.tick
      else if ap notB [t] ∈ qs then s.tick.fail D (qs.map neg)
      else s.tick.fail D (qs.map neg ++ [t]) := by rw [exm]; rfl
/-- the contract of 'examine' -/
def Exm (f : Nat) : Prop := ∀ (t : Te) (qs : List Te) (s : NS), t.Gd → (∀ q ∈ qs, q.Gd) → (qs.length : Int) ≤ s.ex → s.ex ≤ 45000 → 20001 ≤ s.ex + f → 1 ≤ f → s.out.length ≤ 400 → Suk 71 [.ptr 0 0, teA t, tesA qs] (bxS s) (.tup []) (bxS (exm id f t qs s))
theorem p_isNilY {t : Te} (h : t.Gd) (e : t.val = nilO) : Puk 55 [obA t.val] (boA true) := (p_oIsNil t.val).b (decide_eq_true (h.nil.2 e))
theorem p_isNilN {t : Te} (h : t.Gd) (e : t.val ≠ nilO) : Puk 55 [obA t.val] (boA false) := (p_oIsNil t.val).b (decide_eq_false fun h' => e (h.nil.1 h'))
theorem gd_snoc {qs : List Te} {a : Te} (h : ∀ q ∈ qs, q.Gd) (ha : a.Gd) : ∀ q ∈ qs ++ [a], q.Gd := fun q hq => by
  rcases List.mem_append.1 hq with hq | hq
  · exact h q hq
  · exact gd1 ha q hq
theorem p_choose {f : Nat} (hE : Exm f) (hf2 : f ≤ 20002) (a d e : Te) (qs : List Te) (s : NS) (ha : a.Gd) (hd : d.Gd) (he : e.Gd) (hq : ∀ q ∈ qs, q.Gd) (hl : (qs.length : Int) + 1 ≤ s.ex) (hx : s.ex ≤ 20000) (hf : 20001 ≤ s.ex + f) (ho : s.out.length ≤ 400) : Suk 94 [.ptr 0 0, teA a, teA d, teA e, tesA qs] (bxS s) (.tup []) (bxS (chs id f a d e qs s)) := by
  have ex : ∀ t, t.Gd → Suk 71 [.ptr 0 0, teA t, tesA qs] (bxS s) (.tup []) (bxS (exm id f t qs s)) := fun t ht => hE t qs s ht hq (by omega) (by omega) hf (by omega) ho
  have hqw : ∀ q ∈ qs, q.Wf := fun q h => (hq q h).wf
  have hl2 : qs.length ≤ 100000 := by omega
  unfold chs
  split
  · rename_i hk
    exact w_c1 hk.1 (p_isNilY ha hk.2) (ex e he)
  rename_i hnk
  split
  · rename_i hk
    exact w_c2 hk (p_isNilN ha fun h => hnk ⟨hk, h⟩) (ex d hd)
  rename_i hk
  split
  · rename_i hi
    exact w_c3 hk hi (arg_at hi (by omega)) (ex _ ((ha.arg hi (by omega)).if_ he hd))
  rename_i hi
  split
  · rename_i hj
    exact w_c4 hk hi hj (arg_at hj (show 0 < 3 by omega)) (arg_at hj (show 1 < 3 by omega)) (arg_at hj (show 2 < 3 by omega)) (ex _ ((ha.arg hj (show 0 < 3 by omega)).if_ ((ha.arg hj (show 1 < 3 by omega)).if_ hd he) ((ha.arg hj (show 2 < 3 by omega)).if_ hd he)))
  rename_i hj
  split
  · rename_i b hn
    exact w_c5 hk hi hj hn (ex _ ((ha.opened hn).if_ hd he))
  rename_i hn
  split
  · rename_i hm
    exact w_c6 hk hi hj hn hl2 hqw hm (ex d hd)
  rename_i hm
  split
  · rename_i hm2
    exact w_c7 hk hi hj hn hl2 hqw hm hm2 (ex e he)
  rename_i hm2
  obtain ⟨k1, k2, k3⟩ := exm_inv id f d (qs ++ [a]) s ho
  exact w_c8 hk hi hj hn hl2 hqw hm hm2 (hE d (qs ++ [a]) s hd (gd_snoc hq ha) (by simp; omega) (by omega) hf (by omega) ho) (hE e (qs ++ [ap notB [a]]) _ he (gd_snoc hq ha.not) (by simp; omega) (by omega) (by omega) (by omega) k3)
theorem p_exam : ∀ f : Nat, f ≤ 20002 → Exm f
  | 0, _ => fun t qs s _ _ _ _ _ h => by omega
  | f + 1, hf2 => fun t qs s ht hq hl hx hf _ ho => by
    have hqw : ∀ q ∈ qs, q.Wf := fun q h => (hq q h).wf
    have hl0 : (0 : Int) ≤ s.ex := by omega
    rw [exm_succ]
    split
    · rename_i he
      by_cases h1 : 20000 < s.ex + 1
      · have e : s.tick = ⟨s.out, s.ex + 1, 2⟩ := by unfold NS.tick; rw [if_pos h1]
        rw [e]
        exact w_ex1 hl0 (by omega) (by omega)
      · have e : s.tick = ⟨s.out, s.ex + 1, s.er⟩ := by unfold NS.tick; rw [if_neg h1]
        rw [e] at he ⊢
        exact w_ex2 hl0 (by omega) (by omega) he
    rename_i he
    obtain ⟨h1, h2, h3⟩ := tick_er he
    rw [h3]
    have hl2 : qs.length ≤ 100000 := by omega
    have pf : ∀ ms, ms.length ≤ 1000 → Suk 92 [.ptr 0 0, tesA qs, tesA ms] (bxS ⟨s.out, s.ex + 1, s.er⟩) (.tup []) (bxS (NS.fail id ⟨s.out, s.ex + 1, s.er⟩ (qs.map neg ++ ms))) := fun ms hm => p_fail _ qs ms hl2 hm ho
    have pf0 := pf [] (by decide)
    rw [List.append_nil] at pf0
    split
    · rename_i hk
      split
      · rename_i hn
        exact w_ex3 hl0 (by omega) h1 h2 hk (p_isNilY ht hn) pf0
      · rename_i hn
        exact w_ex4 hl0 (by omega) h1 h2 hk (p_isNilN ht hn)
    rename_i hk
    split
    · rename_i a hn
      exact w_ex5 hl0 (by omega) h1 h2 hk hn (p_exam f (by omega) a qs ⟨s.out, s.ex + 1, s.er⟩ (ht.opened hn) hq (by show (qs.length : Int) ≤ s.ex + 1; omega) (by show s.ex + 1 ≤ 45000; omega) (by show 20001 ≤ s.ex + 1 + f; omega) (by omega) ho)
    rename_i hn
    split
    · rename_i hi
      exact w_ex6 hl0 (by omega) h1 h2 hk hn hi (arg_at hi (show 0 < 3 by omega)) (arg_at hi (show 1 < 3 by omega)) (arg_at hi (show 2 < 3 by omega)) (p_choose (p_exam f (by omega)) (by omega) _ _ _ qs ⟨s.out, s.ex + 1, s.er⟩ (ht.arg hi (show 0 < 3 by omega)) (ht.arg hi (show 1 < 3 by omega)) (ht.arg hi (show 2 < 3 by omega)) hq (by show (qs.length : Int) + 1 ≤ s.ex + 1; omega) (by show s.ex + 1 ≤ 20000; omega) (by show 20001 ≤ s.ex + 1 + f; omega) ho)
    rename_i hi
    split
    · rename_i hm
      exact w_ex7 hl0 (by omega) h1 h2 hk hn hi (by omega) hqw hm
    rename_i hm
    split
    · rename_i hm2
      exact w_ex8 hl0 (by omega) h1 h2 hk hn hi (by omega) hqw hm hm2 pf0
    · rename_i hm2
      exact w_ex9 hl0 (by omega) h1 h2 hk hn hi (by omega) hqw hm hm2 (pf [t] (by show 1 ≤ 1000; omega))
end Go.Proofs.YtendgffijciehaaGreatDoor
/- Normalize of the code; the reference's Negated, Add and put. -/
namespace Go.Proofs.YtendgffijciehaaGreatDoor
open Go.RowKit
open Te

/-- what Normalize returns -/
abbrev nrmA (s : NS) : AV := if s.er = 0 then .tup [clsA s.out, inA 0] else .tup [.dt (.row []), inA s.er]
theorem w_nrm {t : Te} {cs : List (List Dt)} {ex er : Int} (hc : Suk 71 [.ptr 0 0, teA t, .dt (.row [])] [some (.cells [.nil, inA 0, inA 0])] (.tup []) (bxN cs ex er)) : Puk 41 [teA t] (if er = 0 then .tup [.dt (.row cs), inA 0] else .tup [.dt (.row []), inA er]) := by
  by_cases h : er = 0
  · rw [if_pos h]
    exact pwalk (an := [yF]) (ls := [.scl 2 2 [1] (.tup []) [some (.cells [.own 1 cs.length, inA ex, inA er]), some (.buf 29 1 cs)]]) (ps := [Suk 71 [AV.ptr 0 0, teA t, AV.dt (Dt.row [])] [some (Bx.cells [AV.nil, AV.dt (Dt.val (vi 0)), AV.dt (Dt.val (vi 0))])] (AV.tup []) [some (Bx.cells [AV.own 1 cs.length, inA ex, inA er]), some (Bx.buf 29 1 cs)], Bn .neq 65 (.tmp 13) (.const (vi 0)) (vi er) (vi 0) bF, (cs.length) = (cs.length)]) Tryz.func41 (by kernel_rfl) (by kernel_rfl) ⟨hc, bin_ine (by simp [h]), rfl, trivial⟩
  · rw [if_neg h]
    exact pwalk (an := [yT]) (ls := [.scl 2 2 [1] (.tup []) [some (.cells [.own 1 cs.length, inA ex, inA er]), some (.buf 29 1 cs)]]) (ps := [Suk 71 [AV.ptr 0 0, teA t, AV.dt (Dt.row [])] [some (Bx.cells [AV.nil, AV.dt (Dt.val (vi 0)), AV.dt (Dt.val (vi 0))])] (AV.tup []) [some (Bx.cells [AV.own 1 cs.length, inA ex, inA er]), some (Bx.buf 29 1 cs)], Bn .neq 65 (.tmp 13) (.const (vi 0)) (vi er) (vi 0) bT]) Tryz.func41 (by kernel_rfl) (by kernel_rfl) ⟨hc, bin_ine (by simp [h]), trivial⟩
theorem p_normalize {t : Te} (ht : t.Gd) : Puk 41 [teA t] (nrmA (exm id 20002 t [] ⟨[], 0, 0⟩)) :=
  w_nrm (SOK.own0 (p_exam 20002 (Nat.le_refl _) t [] ⟨[], 0, 0⟩ ht (fun q hq => by cases hq) (by decide) (by decide) (by decide) (by decide) (by decide)))
/- the reference -/
abbrev adS (l out : List Te) (i : Int) : AS := ⟨stt 36 [(1, tesA l), (5, .own 0 (encTs out).length), (6, inA i)], [some (.buf 37 11 (encTs out))]⟩
noncomputable abbrev adB : Code := subC (bodyOf Tryz.f18) [1, 1, 0, 1, 0, 0]
theorem adB1 {l out : List Te} {x : Te} {i : Nat} (hx : l[i]? = some x) (hl : l.length ≤ 100000) (hw : ∀ y ∈ out, y.Wf) (ho : out.length ≤ 200000) (hm : x ∈ out) : Tri EX adB (adS l out i) .nxt (adS l out ((i + 1 : Nat) : Int)) :=
  twalk (c := subC (bodyOf Tryz.f18) [1,1,0,1,0,0]) (s := adS l out i) (an := [.av (inA l.length), yT, .av (.pin ((encT x).map .dt)), yT, .av (inA ((i+1 : Nat) : Int))]) (ls := []) (ft := [1,5,6]) (nb := 1) (e := .nxt) (s' := adS l out ((i + 1 : Nat) : Int)) (ps := [(vi ↑l.length) = (vi (↑(List.map Te.enc l).length)), Bn .lss 3 (.tmp 15) (.tmp 17) (vi ↑i) (vi ↑l.length) bT, IxAt (List.map Te.enc l) ↑i 11 (encT x), Puk 25 [(.dt (.row (encTs out))), (teA x)] (boA true), ((encTs out).length) = ((encTs out).length), Bn .add 3 (.tmp 19) (.const (vi 1)) (vi ↑i) (vi 1) (vi (↑(i + 1)))]) (by kernel_rfl)
    ⟨lenEncT _, bin_ilt (decide_eq_true (by have := (List.getElem?_eq_some_iff.1 hx).1; omega)), ix_te hx, (p_rcont (by omega) hw x).b (yesD hm), rfl, bin_iadd (by omega) (by omega) (by have := (List.getElem?_eq_some_iff.1 hx).1; omega), trivial⟩
theorem adB3 {l out : List Te} {x : Te} {i : Nat} (hx : l[i]? = some x) (hl : l.length ≤ 100000) (hw : ∀ y ∈ out, y.Wf) (ho : out.length ≤ 200000) (hm : x ∉ out) : Tri EX adB (adS l out i) .nxt (adS l (out ++ [x]) ((i + 1 : Nat) : Int)) := by
  rw [show adS l (out ++ [x]) ((i + 1 : Nat) : Int) = ⟨stt 36 [(1, tesA l), (5, .own 0 (encTs out ++ [encT x]).length), (6, inA ((i + 1 : Nat) : Int))], [some (.buf 37 11 (encTs out ++ [encT x]))]⟩ by rw [enc_snoc]]
  exact twalk (c := subC (bodyOf Tryz.f18) [1,1,0,1,0,0]) (s := adS l out i) (an := [.av (inA l.length), yT, .av (.pin ((encT x).map .dt)), yF, .av (.pin ((encT x).map .dt)), .av (.un), .av (inA ((i+1 : Nat) : Int))]) (ls := []) (ft := [1,5,6]) (nb := 1) (e := .nxt) (s' := ⟨stt 36 [(1, tesA l), (5, .own 0 (encTs out ++ [encT x]).length), (6, inA ((i + 1 : Nat) : Int))], [some (.buf 37 11 (encTs out ++ [encT x]))]⟩) (ps := [(vi ↑l.length) = (vi (↑(List.map Te.enc l).length)), Bn .lss 3 (.tmp 15) (.tmp 17) (vi ↑i) (vi ↑l.length) bT, IxAt (List.map Te.enc l) ↑i 11 (encT x), Puk 25 [(.dt (.row (encTs out))), (teA x)] (boA false), ((encTs out).length) = ((encTs out).length), IxAt (List.map Te.enc l) ↑i 11 (encT x), ((encTs out).length) = ((encTs out).length), FitB 176 ((encTs out ++ [encT x]).length), SrcOK 11 [encT x], Bn .add 3 (.tmp 19) (.const (vi 1)) (vi ↑i) (vi 1) (vi (↑(i + 1)))]) (by kernel_rfl)
    ⟨lenEncT _, bin_ilt (decide_eq_true (by have := (List.getElem?_eq_some_iff.1 hx).1; omega)), ix_te hx, (p_rcont (by omega) hw x).b (noD hm), rfl, ix_te hx, rfl, fit_of (by omega) (by simp; omega), src_te1 x, bin_iadd (by omega) (by omega) (by have := (List.getElem?_eq_some_iff.1 hx).1; omega), trivial⟩
theorem adB2 {l out : List Te} {i : Nat} (hi : i = l.length) : Tri EX adB (adS l out i) (.out 0) (adS l out i) :=
  twalk (c := subC (bodyOf Tryz.f18) [1,1,0,1,0,0]) (s := adS l out i) (an := [.av (inA l.length), yF]) (ls := []) (ft := [1,5,6]) (nb := 1) (e := .out 0) (s' := adS l out i) (ps := [(vi ↑l.length) = (vi (↑(List.map Te.enc l).length)), Bn .lss 3 (.tmp 15) (.tmp 17) (vi ↑i) (vi ↑l.length) bF]) (by kernel_rfl)
    ⟨lenEncT _, bin_ilt (decide_eq_false (by omega)), trivial⟩
theorem ad_loop {l : List Te} (hl : l.length ≤ 100000) (hw : ∀ y ∈ l, y.Wf) : ∀ (s : List Te) (i : Nat) (out : List Te), l.drop i = s → i ≤ l.length → (∀ y ∈ out, y.Wf) → out.length + s.length ≤ 200000 → Lps EX adB (adS l out i) (.out 0) (adS l (addN out s) l.length) := by
  intro s
  induction s with
  | nil =>
    intro i out hd hi he _
    have e1 := congrArg List.length hd
    rw [List.length_drop, List.length_nil] at e1
    obtain rfl : i = l.length := by omega
    rw [addN]
    exact .stop (adB2 rfl) (fun h => by cases h)
  | cons x s ih =>
    intro i out hd hi he ho
    have hx : l[i]? = some x := by rw [← List.head?_drop, hd]; rfl
    have hlt := (List.getElem?_eq_some_iff.1 hx).1
    rw [List.length_cons] at ho
    rw [addN]
    by_cases hm : x ∈ out
    · rw [if_pos hm]
      exact .more (adB1 hx hl he (by omega) hm) (ih (i + 1) out (by rw [← List.drop_drop, hd]; rfl) (by omega) he (by omega))
    · rw [if_neg hm]
      refine .more (adB3 hx hl he (by omega) hm) (ih (i + 1) (out ++ [x]) (by rw [← List.drop_drop, hd]; rfl) (by omega) (fun y hy => ?_) (by rw [List.length_append, List.length_singleton]; omega))
      rcases List.mem_append.1 hy with hy | hy
      · exact he y hy
      · rw [List.mem_singleton] at hy; subst hy; exact hw _ (List.mem_of_getElem? hx)
theorem p_rAdd {c l : List Te} (hc : c.length ≤ 100000) (hl : l.length ≤ 100000) (hcw : ∀ y ∈ c, y.Wf) (hw : ∀ y ∈ l, y.Wf) : Puk 18 [tesA c, tesA l] (tesA (addN c l)) := by
  have ht := (ad_loop hl hw l 0 c rfl (Nat.zero_le _) hcw (by omega)).tri
  generalize addN c l = r at *
  exact pwalk (an := [.av (inA c.length), .av (inA l.length), .av (inA (c.length + l.length : Nat)), .no, .av (.un)]) (ls := [.inv [1,5,6] 1 (.out 0) (adS l r l.length)]) (ps := [(vi ↑c.length) = (vi (↑(List.map Te.enc c).length)), (vi ↑l.length) = (vi (↑(List.map Te.enc l).length)), Bn .add 3 (.tmp 8) (.tmp 10) (vi ↑c.length) (vi ↑l.length) (vi (↑(c.length + l.length))), FitM 176 (↑(c.length + l.length)), 0 = 0, FitB 176 (([] ++ List.map Te.enc c).length), SrcOK 11 (List.map Te.enc c), Tri EX (.loop (subC (bodyOf Tryz.f18) [1,1,0,1,0,0])) (adS l c 0) (.out 0) (adS l r l.length), ((encTs r).length) = ((encTs r).length)]) Tryz.func18 (by kernel_rfl) (by kernel_rfl) ⟨lenEncT _, lenEncT _, bin_iadd (by omega) (by omega) (by omega), ⟨by omega, by omega, by show ((c.length + l.length : Nat) : Int) ≤ ((2 ^ 63 - 1 : Nat) : Int); omega⟩, rfl, fit_of (by omega) (by simp; omega), src_te c, ht, rfl, trivial⟩
theorem addN_len : ∀ (l out : List Te), (addN out l).length ≤ out.length + l.length
  | [], out => by rw [addN]; exact Nat.le_refl _
  | x :: l, out => by
    rw [addN, List.length_cons]
    refine Nat.le_trans (addN_len l _) ?_
    split
    · omega
    · rw [List.length_append, List.length_singleton]; omega
end Go.Proofs.YtendgffijciehaaGreatDoor
