/- Tautology of both texts on clauses that the maker makes. -/
import Derived.Test.YtendgffijciehaaGreatDoorZM
import Derived.Test.YtendgffijciehaaGreatDoorZI
import Derived.Test.YtendgffijciehaaGreatDoorZJ
namespace Go.Proofs.YtendgffijciehaaGreatDoor
open Go.RowKit
open Te

abbrev rtS (c : List Te) (i : Int) : AS := ⟨stt 51 [(0, tesA c), (3, inA i)], []⟩
abbrev rtR : AS := ⟨stt 51 [(2, boA true)], []⟩
noncomputable abbrev rtB : Code := subC (bodyOf Tryz.f21) [1,0,1,0,0]
theorem rt1 {c : List Te} {x m : Te} {i : Nat} (hx : c[i]? = some x) (hn : Puk 14 [teA x] (teA m)) (hc : Puk 25 [tesA c, teA m] (boA true)) : Tri EX rtB (rtS c i) .ret (rtR) :=
  twalk (c := subC (bodyOf Tryz.f21) [1,0,1,0,0]) (s := rtS c i) (an := [.av (inA c.length), yT, .av (.pin ((encT x).map .dt)), .av (teA m), yT]) (ls := []) (ft := [2]) (nb := 0) (e := .ret) (s' := rtR) (ps := [(vi ↑c.length) = (vi (↑(List.map Te.enc c).length)), Bn .lss 3 (.tmp 5) (.tmp 7) (vi ↑i) (vi ↑c.length) bT, IxAt (List.map Te.enc c) ↑i 11 (encT x), Puk 14 [(teA x)] (teA m), Puk 25 [(.dt (.row (List.map Te.enc c))), (teA m)] (boA true)]) (by kernel_rfl) ⟨lenEncT _, bin_ilt (decide_eq_true (by have := (List.getElem?_eq_some_iff.1 hx).1; omega)), ix_te hx, hn, hc, trivial⟩
theorem rt2 {c : List Te} {x m : Te} {i : Nat} (hx : c[i]? = some x) (hn : Puk 14 [teA x] (teA m)) (hc : Puk 25 [tesA c, teA m] (boA false)) (hk : x.kind = 2) (hz : Puk 59 [obA x.val] (boA false)) : Tri EX rtB (rtS c i) .ret (rtR) :=
  twalk (c := subC (bodyOf Tryz.f21) [1,0,1,0,0]) (s := rtS c i) (an := [.av (inA c.length), yT, .av (.pin ((encT x).map .dt)), .av (teA m), yF, yT, yF]) (ls := []) (ft := [2]) (nb := 0) (e := .ret) (s' := rtR) (ps := [(vi ↑c.length) = (vi (↑(List.map Te.enc c).length)), Bn .lss 3 (.tmp 5) (.tmp 7) (vi ↑i) (vi ↑c.length) bT, IxAt (List.map Te.enc c) ↑i 11 (encT x), Puk 14 [(teA x)] (teA m), Puk 25 [(.dt (.row (List.map Te.enc c))), (teA m)] (boA false), Bn .eql 3 (.tmp 22) (.const (vi 2)) (vi x.kind) (vi 2) bT, Puk 59 [(obA x.val)] (boA false)]) (by kernel_rfl) ⟨lenEncT _, bin_ilt (decide_eq_true (by have := (List.getElem?_eq_some_iff.1 hx).1; omega)), ix_te hx, hn, hc, bin_ieq (yesD hk), hz, trivial⟩
theorem rt3 {c : List Te} {x m a b : Te} {i : Nat} (hx : c[i]? = some x) (hn : Puk 14 [teA x] (teA m)) (hc : Puk 25 [tesA c, teA m] (boA false)) (hk : x.kind ≠ 2) (hi : Puk 49 [teA x, stA equalB, inA 2] (boA true)) (ha : x.args[0]? = some a) (hb : x.args[1]? = some b) (he : Puk 22 [teA a, teA b] (boA true)) : Tri EX rtB (rtS c i) .ret (rtR) :=
  twalk (c := subC (bodyOf Tryz.f21) [1,0,1,0,0]) (s := rtS c i) (an := [.av (inA c.length), yT, .av (.pin ((encT x).map .dt)), .av (teA m), yF, yF, yT, .av (.pin ((encT a).map .dt)), .av (.pin ((encT b).map .dt)), yT]) (ls := []) (ft := [2]) (nb := 0) (e := .ret) (s' := rtR) (ps := [(vi ↑c.length) = (vi (↑(List.map Te.enc c).length)), Bn .lss 3 (.tmp 5) (.tmp 7) (vi ↑i) (vi ↑c.length) bT, IxAt (List.map Te.enc c) ↑i 11 (encT x), Puk 14 [(teA x)] (teA m), Puk 25 [(.dt (.row (List.map Te.enc c))), (teA m)] (boA false), Bn .eql 3 (.tmp 22) (.const (vi 2)) (vi x.kind) (vi 2) bF, Puk 49 [(teA x), (stA [101, 113, 117, 97, 108]), (inA 2)] (boA true), IxAt (List.map Te.enc x.args) 0 11 (encT a), IxAt (List.map Te.enc x.args) 1 11 (encT b), Puk 22 [(teA a), (teA b)] (boA true)]) (by kernel_rfl) ⟨lenEncT _, bin_ilt (decide_eq_true (by have := (List.getElem?_eq_some_iff.1 hx).1; omega)), ix_te hx, hn, hc, bin_ieq (noD (by omega)), hi, ix_te ha, ix_te hb, he, trivial⟩
theorem rt4t {c : List Te} {x m : Te} {i : Nat} (hx : c[i]? = some x) (hn : Puk 14 [teA x] (teA m)) (hc : Puk 25 [tesA c, teA m] (boA false)) (hk : x.kind ≠ 2) (hi : Puk 49 [teA x, stA equalB, inA 2] (boA false)) (hf : Puk 22 [teA x, teA (Te.ap notB [noT])] (boA true)) : Tri EX rtB (rtS c i) .ret (rtR) :=
  twalk (c := subC (bodyOf Tryz.f21) [1,0,1,0,0]) (s := rtS c i) (an := [.av (inA c.length), yT, .av (.pin ((encT x).map .dt)), .av (teA m), yF, yF, yF, .av (obA nilO), .av (teA noT), .av (teA (Te.ap notB [noT])), yT]) (ls := []) (ft := [2]) (nb := 0) (e := .ret) (s' := rtR) (ps := [(vi ↑c.length) = (vi (↑(List.map Te.enc c).length)), Bn .lss 3 (.tmp 5) (.tmp 7) (vi ↑i) (vi ↑c.length) bT, IxAt (List.map Te.enc c) ↑i 11 (encT x), Puk 14 [(teA x)] (teA m), Puk 25 [(.dt (.row (List.map Te.enc c))), (teA m)] (boA false), Bn .eql 3 (.tmp 22) (.const (vi 2)) (vi x.kind) (vi 2) bF, Puk 49 [(teA x), (stA [101, 113, 117, 97, 108]), (inA 2)] (boA false), Puk 17 [] (obA nilO), Puk 16 [(obA nilO)] (.agg [(inA 2), (stA noT.np), (stA noT.nn), (inA 2), (stA noT.val.num), (stA noT.val.den), (stA noT.val.sp), (stA noT.val.sn), (stA noT.val.text), (.dt (.row (List.map Ob.enc noT.val.pair))), (.dt (.row (List.map Te.enc noT.args)))]), Puk 15 [(stA [110, 111, 116]), (.dt (.row [[(.val (vi 2)), (.val (str noT.np)), (.val (str noT.nn)), (.val (vi 2)), (.val (str noT.val.num)), (.val (str noT.val.den)), (.val (str noT.val.sp)), (.val (str noT.val.sn)), (.val (str noT.val.text)), (.row (List.map Ob.enc noT.val.pair)), (.row (List.map Te.enc noT.args))]]))] (.agg [(inA 3), (stA (ap notB [noT]).np), (stA (ap notB [noT]).nn), (inA 0), (stA (ap notB [noT]).val.num), (stA (ap notB [noT]).val.den), (stA (ap notB [noT]).val.sp), (stA (ap notB [noT]).val.sn), (stA (ap notB [noT]).val.text), (.dt (.row (List.map Ob.enc (ap notB [noT]).val.pair))), (.dt (.row (List.map Te.enc (ap notB [noT]).args)))]), Puk 22 [(teA x), (.agg [(inA 3), (stA (ap notB [noT]).np), (stA (ap notB [noT]).nn), (inA 0), (stA (ap notB [noT]).val.num), (stA (ap notB [noT]).val.den), (stA (ap notB [noT]).val.sp), (stA (ap notB [noT]).val.sn), (stA (ap notB [noT]).val.text), (.dt (.row (List.map Ob.enc (ap notB [noT]).val.pair))), (.dt (.row (List.map Te.enc (ap notB [noT]).args)))])] (boA true)]) (by kernel_rfl) ⟨lenEncT _, bin_ilt (decide_eq_true (by have := (List.getElem?_eq_some_iff.1 hx).1; omega)), ix_te hx, hn, hc, bin_ieq (noD (by omega)), hi, p_rNil, p_rConst _, p_rLisp1 notB noT, hf, trivial⟩
theorem rt5t {c : List Te} {x m a b : Te} {i : Nat} (hx : c[i]? = some x) (hn : Puk 14 [teA x] (teA m)) (hc : Puk 25 [tesA c, teA m] (boA false)) (hk : x.kind ≠ 2) (hi : Puk 49 [teA x, stA equalB, inA 2] (boA true)) (ha : x.args[0]? = some a) (hb : x.args[1]? = some b) (he : Puk 22 [teA a, teA b] (boA false)) (hf : Puk 22 [teA x, teA (Te.ap notB [noT])] (boA true)) : Tri EX rtB (rtS c i) .ret (rtR) :=
  twalk (c := subC (bodyOf Tryz.f21) [1,0,1,0,0]) (s := rtS c i) (an := [.av (inA c.length), yT, .av (.pin ((encT x).map .dt)), .av (teA m), yF, yF, yT, .av (.pin ((encT a).map .dt)), .av (.pin ((encT b).map .dt)), yF, .av (obA nilO), .av (teA noT), .av (teA (Te.ap notB [noT])), yT]) (ls := []) (ft := [2]) (nb := 0) (e := .ret) (s' := rtR) (ps := [(vi ↑c.length) = (vi (↑(List.map Te.enc c).length)), Bn .lss 3 (.tmp 5) (.tmp 7) (vi ↑i) (vi ↑c.length) bT, IxAt (List.map Te.enc c) ↑i 11 (encT x), Puk 14 [(teA x)] (teA m), Puk 25 [(.dt (.row (List.map Te.enc c))), (teA m)] (boA false), Bn .eql 3 (.tmp 22) (.const (vi 2)) (vi x.kind) (vi 2) bF, Puk 49 [(teA x), (stA [101, 113, 117, 97, 108]), (inA 2)] (boA true), IxAt (List.map Te.enc x.args) 0 11 (encT a), IxAt (List.map Te.enc x.args) 1 11 (encT b), Puk 22 [(teA a), (teA b)] (boA false), Puk 17 [] (obA nilO), Puk 16 [(obA nilO)] (.agg [(inA 2), (stA noT.np), (stA noT.nn), (inA 2), (stA noT.val.num), (stA noT.val.den), (stA noT.val.sp), (stA noT.val.sn), (stA noT.val.text), (.dt (.row (List.map Ob.enc noT.val.pair))), (.dt (.row (List.map Te.enc noT.args)))]), Puk 15 [(stA [110, 111, 116]), (.dt (.row [[(.val (vi 2)), (.val (str noT.np)), (.val (str noT.nn)), (.val (vi 2)), (.val (str noT.val.num)), (.val (str noT.val.den)), (.val (str noT.val.sp)), (.val (str noT.val.sn)), (.val (str noT.val.text)), (.row (List.map Ob.enc noT.val.pair)), (.row (List.map Te.enc noT.args))]]))] (.agg [(inA 3), (stA (ap notB [noT]).np), (stA (ap notB [noT]).nn), (inA 0), (stA (ap notB [noT]).val.num), (stA (ap notB [noT]).val.den), (stA (ap notB [noT]).val.sp), (stA (ap notB [noT]).val.sn), (stA (ap notB [noT]).val.text), (.dt (.row (List.map Ob.enc (ap notB [noT]).val.pair))), (.dt (.row (List.map Te.enc (ap notB [noT]).args)))]), Puk 22 [(teA x), (.agg [(inA 3), (stA (ap notB [noT]).np), (stA (ap notB [noT]).nn), (inA 0), (stA (ap notB [noT]).val.num), (stA (ap notB [noT]).val.den), (stA (ap notB [noT]).val.sp), (stA (ap notB [noT]).val.sn), (stA (ap notB [noT]).val.text), (.dt (.row (List.map Ob.enc (ap notB [noT]).val.pair))), (.dt (.row (List.map Te.enc (ap notB [noT]).args)))])] (boA true)]) (by kernel_rfl) ⟨lenEncT _, bin_ilt (decide_eq_true (by have := (List.getElem?_eq_some_iff.1 hx).1; omega)), ix_te hx, hn, hc, bin_ieq (noD (by omega)), hi, ix_te ha, ix_te hb, he, p_rNil, p_rConst _, p_rLisp1 notB noT, hf, trivial⟩
theorem rt6t {c : List Te} {x m : Te} {i : Nat} (hx : c[i]? = some x) (hn : Puk 14 [teA x] (teA m)) (hc : Puk 25 [tesA c, teA m] (boA false)) (hk : x.kind = 2) (hz : Puk 59 [obA x.val] (boA true)) (hi : Puk 49 [teA x, stA equalB, inA 2] (boA false)) (hf : Puk 22 [teA x, teA (Te.ap notB [noT])] (boA true)) : Tri EX rtB (rtS c i) .ret (rtR) :=
  twalk (c := subC (bodyOf Tryz.f21) [1,0,1,0,0]) (s := rtS c i) (an := [.av (inA c.length), yT, .av (.pin ((encT x).map .dt)), .av (teA m), yF, yT, yT, yF, .av (obA nilO), .av (teA noT), .av (teA (Te.ap notB [noT])), yT]) (ls := []) (ft := [2]) (nb := 0) (e := .ret) (s' := rtR) (ps := [(vi ↑c.length) = (vi (↑(List.map Te.enc c).length)), Bn .lss 3 (.tmp 5) (.tmp 7) (vi ↑i) (vi ↑c.length) bT, IxAt (List.map Te.enc c) ↑i 11 (encT x), Puk 14 [(teA x)] (teA m), Puk 25 [(.dt (.row (List.map Te.enc c))), (teA m)] (boA false), Bn .eql 3 (.tmp 22) (.const (vi 2)) (vi x.kind) (vi 2) bT, Puk 59 [(obA x.val)] (boA true), Puk 49 [(teA x), (stA [101, 113, 117, 97, 108]), (inA 2)] (boA false), Puk 17 [] (obA nilO), Puk 16 [(obA nilO)] (.agg [(inA 2), (stA noT.np), (stA noT.nn), (inA 2), (stA noT.val.num), (stA noT.val.den), (stA noT.val.sp), (stA noT.val.sn), (stA noT.val.text), (.dt (.row (List.map Ob.enc noT.val.pair))), (.dt (.row (List.map Te.enc noT.args)))]), Puk 15 [(stA [110, 111, 116]), (.dt (.row [[(.val (vi 2)), (.val (str noT.np)), (.val (str noT.nn)), (.val (vi 2)), (.val (str noT.val.num)), (.val (str noT.val.den)), (.val (str noT.val.sp)), (.val (str noT.val.sn)), (.val (str noT.val.text)), (.row (List.map Ob.enc noT.val.pair)), (.row (List.map Te.enc noT.args))]]))] (.agg [(inA 3), (stA (ap notB [noT]).np), (stA (ap notB [noT]).nn), (inA 0), (stA (ap notB [noT]).val.num), (stA (ap notB [noT]).val.den), (stA (ap notB [noT]).val.sp), (stA (ap notB [noT]).val.sn), (stA (ap notB [noT]).val.text), (.dt (.row (List.map Ob.enc (ap notB [noT]).val.pair))), (.dt (.row (List.map Te.enc (ap notB [noT]).args)))]), Puk 22 [(teA x), (.agg [(inA 3), (stA (ap notB [noT]).np), (stA (ap notB [noT]).nn), (inA 0), (stA (ap notB [noT]).val.num), (stA (ap notB [noT]).val.den), (stA (ap notB [noT]).val.sp), (stA (ap notB [noT]).val.sn), (stA (ap notB [noT]).val.text), (.dt (.row (List.map Ob.enc (ap notB [noT]).val.pair))), (.dt (.row (List.map Te.enc (ap notB [noT]).args)))])] (boA true)]) (by kernel_rfl) ⟨lenEncT _, bin_ilt (decide_eq_true (by have := (List.getElem?_eq_some_iff.1 hx).1; omega)), ix_te hx, hn, hc, bin_ieq (yesD hk), hz, hi, p_rNil, p_rConst _, p_rLisp1 notB noT, hf, trivial⟩
theorem rt4f {c : List Te} {x m : Te} {i : Nat} (hx : c[i]? = some x) (hl : c.length ≤ 1000) (hn : Puk 14 [teA x] (teA m)) (hc : Puk 25 [tesA c, teA m] (boA false)) (hk : x.kind ≠ 2) (hi : Puk 49 [teA x, stA equalB, inA 2] (boA false)) (hf : Puk 22 [teA x, teA (Te.ap notB [noT])] (boA false)) : Tri EX rtB (rtS c i) .nxt (rtS c ((i + 1 : Nat) : Int)) :=
  twalk (c := subC (bodyOf Tryz.f21) [1,0,1,0,0]) (s := rtS c i) (an := [.av (inA c.length), yT, .av (.pin ((encT x).map .dt)), .av (teA m), yF, yF, yF, .av (obA nilO), .av (teA noT), .av (teA (Te.ap notB [noT])), yF, .av (inA ((i + 1 : Nat) : Int))]) (ls := []) (ft := [0,3]) (nb := 0) (e := .nxt) (s' := rtS c ((i + 1 : Nat) : Int)) (ps := [(vi ↑c.length) = (vi (↑(List.map Te.enc c).length)), Bn .lss 3 (.tmp 5) (.tmp 7) (vi ↑i) (vi ↑c.length) bT, IxAt (List.map Te.enc c) ↑i 11 (encT x), Puk 14 [(teA x)] (teA m), Puk 25 [(.dt (.row (List.map Te.enc c))), (teA m)] (boA false), Bn .eql 3 (.tmp 22) (.const (vi 2)) (vi x.kind) (vi 2) bF, Puk 49 [(teA x), (stA [101, 113, 117, 97, 108]), (inA 2)] (boA false), Puk 17 [] (obA nilO), Puk 16 [(obA nilO)] (.agg [(inA 2), (stA noT.np), (stA noT.nn), (inA 2), (stA noT.val.num), (stA noT.val.den), (stA noT.val.sp), (stA noT.val.sn), (stA noT.val.text), (.dt (.row (List.map Ob.enc noT.val.pair))), (.dt (.row (List.map Te.enc noT.args)))]), Puk 15 [(stA [110, 111, 116]), (.dt (.row [[(.val (vi 2)), (.val (str noT.np)), (.val (str noT.nn)), (.val (vi 2)), (.val (str noT.val.num)), (.val (str noT.val.den)), (.val (str noT.val.sp)), (.val (str noT.val.sn)), (.val (str noT.val.text)), (.row (List.map Ob.enc noT.val.pair)), (.row (List.map Te.enc noT.args))]]))] (.agg [(inA 3), (stA (ap notB [noT]).np), (stA (ap notB [noT]).nn), (inA 0), (stA (ap notB [noT]).val.num), (stA (ap notB [noT]).val.den), (stA (ap notB [noT]).val.sp), (stA (ap notB [noT]).val.sn), (stA (ap notB [noT]).val.text), (.dt (.row (List.map Ob.enc (ap notB [noT]).val.pair))), (.dt (.row (List.map Te.enc (ap notB [noT]).args)))]), Puk 22 [(teA x), (.agg [(inA 3), (stA (ap notB [noT]).np), (stA (ap notB [noT]).nn), (inA 0), (stA (ap notB [noT]).val.num), (stA (ap notB [noT]).val.den), (stA (ap notB [noT]).val.sp), (stA (ap notB [noT]).val.sn), (stA (ap notB [noT]).val.text), (.dt (.row (List.map Ob.enc (ap notB [noT]).val.pair))), (.dt (.row (List.map Te.enc (ap notB [noT]).args)))])] (boA false), Bn .add 3 (.tmp 9) (.const (vi 1)) (vi ↑i) (vi 1) (vi (↑(i + 1)))]) (by kernel_rfl) ⟨lenEncT _, bin_ilt (decide_eq_true (by have := (List.getElem?_eq_some_iff.1 hx).1; omega)), ix_te hx, hn, hc, bin_ieq (noD (by omega)), hi, p_rNil, p_rConst _, p_rLisp1 notB noT, hf, bin_iadd (by omega) (by omega) (by have := (List.getElem?_eq_some_iff.1 hx).1; omega), trivial⟩
theorem rt5f {c : List Te} {x m a b : Te} {i : Nat} (hx : c[i]? = some x) (hl : c.length ≤ 1000) (hn : Puk 14 [teA x] (teA m)) (hc : Puk 25 [tesA c, teA m] (boA false)) (hk : x.kind ≠ 2) (hi : Puk 49 [teA x, stA equalB, inA 2] (boA true)) (ha : x.args[0]? = some a) (hb : x.args[1]? = some b) (he : Puk 22 [teA a, teA b] (boA false)) (hf : Puk 22 [teA x, teA (Te.ap notB [noT])] (boA false)) : Tri EX rtB (rtS c i) .nxt (rtS c ((i + 1 : Nat) : Int)) :=
  twalk (c := subC (bodyOf Tryz.f21) [1,0,1,0,0]) (s := rtS c i) (an := [.av (inA c.length), yT, .av (.pin ((encT x).map .dt)), .av (teA m), yF, yF, yT, .av (.pin ((encT a).map .dt)), .av (.pin ((encT b).map .dt)), yF, .av (obA nilO), .av (teA noT), .av (teA (Te.ap notB [noT])), yF, .av (inA ((i + 1 : Nat) : Int))]) (ls := []) (ft := [0,3]) (nb := 0) (e := .nxt) (s' := rtS c ((i + 1 : Nat) : Int)) (ps := [(vi ↑c.length) = (vi (↑(List.map Te.enc c).length)), Bn .lss 3 (.tmp 5) (.tmp 7) (vi ↑i) (vi ↑c.length) bT, IxAt (List.map Te.enc c) ↑i 11 (encT x), Puk 14 [(teA x)] (teA m), Puk 25 [(.dt (.row (List.map Te.enc c))), (teA m)] (boA false), Bn .eql 3 (.tmp 22) (.const (vi 2)) (vi x.kind) (vi 2) bF, Puk 49 [(teA x), (stA [101, 113, 117, 97, 108]), (inA 2)] (boA true), IxAt (List.map Te.enc x.args) 0 11 (encT a), IxAt (List.map Te.enc x.args) 1 11 (encT b), Puk 22 [(teA a), (teA b)] (boA false), Puk 17 [] (obA nilO), Puk 16 [(obA nilO)] (.agg [(inA 2), (stA noT.np), (stA noT.nn), (inA 2), (stA noT.val.num), (stA noT.val.den), (stA noT.val.sp), (stA noT.val.sn), (stA noT.val.text), (.dt (.row (List.map Ob.enc noT.val.pair))), (.dt (.row (List.map Te.enc noT.args)))]), Puk 15 [(stA [110, 111, 116]), (.dt (.row [[(.val (vi 2)), (.val (str noT.np)), (.val (str noT.nn)), (.val (vi 2)), (.val (str noT.val.num)), (.val (str noT.val.den)), (.val (str noT.val.sp)), (.val (str noT.val.sn)), (.val (str noT.val.text)), (.row (List.map Ob.enc noT.val.pair)), (.row (List.map Te.enc noT.args))]]))] (.agg [(inA 3), (stA (ap notB [noT]).np), (stA (ap notB [noT]).nn), (inA 0), (stA (ap notB [noT]).val.num), (stA (ap notB [noT]).val.den), (stA (ap notB [noT]).val.sp), (stA (ap notB [noT]).val.sn), (stA (ap notB [noT]).val.text), (.dt (.row (List.map Ob.enc (ap notB [noT]).val.pair))), (.dt (.row (List.map Te.enc (ap notB [noT]).args)))]), Puk 22 [(teA x), (.agg [(inA 3), (stA (ap notB [noT]).np), (stA (ap notB [noT]).nn), (inA 0), (stA (ap notB [noT]).val.num), (stA (ap notB [noT]).val.den), (stA (ap notB [noT]).val.sp), (stA (ap notB [noT]).val.sn), (stA (ap notB [noT]).val.text), (.dt (.row (List.map Ob.enc (ap notB [noT]).val.pair))), (.dt (.row (List.map Te.enc (ap notB [noT]).args)))])] (boA false), Bn .add 3 (.tmp 9) (.const (vi 1)) (vi ↑i) (vi 1) (vi (↑(i + 1)))]) (by kernel_rfl) ⟨lenEncT _, bin_ilt (decide_eq_true (by have := (List.getElem?_eq_some_iff.1 hx).1; omega)), ix_te hx, hn, hc, bin_ieq (noD (by omega)), hi, ix_te ha, ix_te hb, he, p_rNil, p_rConst _, p_rLisp1 notB noT, hf, bin_iadd (by omega) (by omega) (by have := (List.getElem?_eq_some_iff.1 hx).1; omega), trivial⟩
theorem rt6f {c : List Te} {x m : Te} {i : Nat} (hx : c[i]? = some x) (hl : c.length ≤ 1000) (hn : Puk 14 [teA x] (teA m)) (hc : Puk 25 [tesA c, teA m] (boA false)) (hk : x.kind = 2) (hz : Puk 59 [obA x.val] (boA true)) (hi : Puk 49 [teA x, stA equalB, inA 2] (boA false)) (hf : Puk 22 [teA x, teA (Te.ap notB [noT])] (boA false)) : Tri EX rtB (rtS c i) .nxt (rtS c ((i + 1 : Nat) : Int)) :=
  twalk (c := subC (bodyOf Tryz.f21) [1,0,1,0,0]) (s := rtS c i) (an := [.av (inA c.length), yT, .av (.pin ((encT x).map .dt)), .av (teA m), yF, yT, yT, yF, .av (obA nilO), .av (teA noT), .av (teA (Te.ap notB [noT])), yF, .av (inA ((i + 1 : Nat) : Int))]) (ls := []) (ft := [0,3]) (nb := 0) (e := .nxt) (s' := rtS c ((i + 1 : Nat) : Int)) (ps := [(vi ↑c.length) = (vi (↑(List.map Te.enc c).length)), Bn .lss 3 (.tmp 5) (.tmp 7) (vi ↑i) (vi ↑c.length) bT, IxAt (List.map Te.enc c) ↑i 11 (encT x), Puk 14 [(teA x)] (teA m), Puk 25 [(.dt (.row (List.map Te.enc c))), (teA m)] (boA false), Bn .eql 3 (.tmp 22) (.const (vi 2)) (vi x.kind) (vi 2) bT, Puk 59 [(obA x.val)] (boA true), Puk 49 [(teA x), (stA [101, 113, 117, 97, 108]), (inA 2)] (boA false), Puk 17 [] (obA nilO), Puk 16 [(obA nilO)] (.agg [(inA 2), (stA noT.np), (stA noT.nn), (inA 2), (stA noT.val.num), (stA noT.val.den), (stA noT.val.sp), (stA noT.val.sn), (stA noT.val.text), (.dt (.row (List.map Ob.enc noT.val.pair))), (.dt (.row (List.map Te.enc noT.args)))]), Puk 15 [(stA [110, 111, 116]), (.dt (.row [[(.val (vi 2)), (.val (str noT.np)), (.val (str noT.nn)), (.val (vi 2)), (.val (str noT.val.num)), (.val (str noT.val.den)), (.val (str noT.val.sp)), (.val (str noT.val.sn)), (.val (str noT.val.text)), (.row (List.map Ob.enc noT.val.pair)), (.row (List.map Te.enc noT.args))]]))] (.agg [(inA 3), (stA (ap notB [noT]).np), (stA (ap notB [noT]).nn), (inA 0), (stA (ap notB [noT]).val.num), (stA (ap notB [noT]).val.den), (stA (ap notB [noT]).val.sp), (stA (ap notB [noT]).val.sn), (stA (ap notB [noT]).val.text), (.dt (.row (List.map Ob.enc (ap notB [noT]).val.pair))), (.dt (.row (List.map Te.enc (ap notB [noT]).args)))]), Puk 22 [(teA x), (.agg [(inA 3), (stA (ap notB [noT]).np), (stA (ap notB [noT]).nn), (inA 0), (stA (ap notB [noT]).val.num), (stA (ap notB [noT]).val.den), (stA (ap notB [noT]).val.sp), (stA (ap notB [noT]).val.sn), (stA (ap notB [noT]).val.text), (.dt (.row (List.map Ob.enc (ap notB [noT]).val.pair))), (.dt (.row (List.map Te.enc (ap notB [noT]).args)))])] (boA false), Bn .add 3 (.tmp 9) (.const (vi 1)) (vi ↑i) (vi 1) (vi (↑(i + 1)))]) (by kernel_rfl) ⟨lenEncT _, bin_ilt (decide_eq_true (by have := (List.getElem?_eq_some_iff.1 hx).1; omega)), ix_te hx, hn, hc, bin_ieq (yesD hk), hz, hi, p_rNil, p_rConst _, p_rLisp1 notB noT, hf, bin_iadd (by omega) (by omega) (by have := (List.getElem?_eq_some_iff.1 hx).1; omega), trivial⟩
theorem rt7 {c : List Te} {i : Nat} (hi : i = c.length) : Tri EX rtB (rtS c i) (.out 0) (rtS c i) :=
  twalk (c := subC (bodyOf Tryz.f21) [1,0,1,0,0]) (s := rtS c i) (an := [.av (inA c.length), yF]) (ls := []) (ft := [0,3]) (nb := 0) (e := .out 0) (s' := rtS c i) (ps := [(vi ↑c.length) = (vi (↑(List.map Te.enc c).length)), Bn .lss 3 (.tmp 5) (.tmp 7) (vi ↑i) (vi ↑c.length) bF]) (by kernel_rfl) ⟨lenEncT _, bin_ilt (decide_eq_false (by omega)), trivial⟩
theorem not_is2 {t : Te} {n : List UInt8} {k : Nat} (h : t.kind = 2) : decide (is t n k) = false := noD fun hi => by have := hi.1; omega
theorem tau_eq {c : List Te} {t : Te} : tau c t = (decide (neg t ∈ c) || (decide (t.kind = 2) && !decide (t.val = nilO)) || (decide (is t equalB 2) && decide (t.arg 0 = t.arg 1)) || decide (t = Te.ap notB [noT])) := rfl
/-- one round of the reference -/
theorem rt_step {c : List Te} (hl : c.length ≤ 1000) (hm : ∀ x ∈ c, x.Mkd) {x : Te} {i : Nat} (hx : c[i]? = some x) : (tau c x = true → Tri EX rtB (rtS c i) .ret rtR) ∧ (tau c x = false → Tri EX rtB (rtS c i) .nxt (rtS c ((i + 1 : Nat) : Int))) := by
  have hxm := hm x (List.mem_of_getElem? hx)
  have hn := p_rneg x
  have hc := p_rcont (c := c) (by omega) (fun y hy => (hm y hy).wf) (neg x)
  have hf := p_req hxm.wf (Te.ap notB [noT])
  have hi := p_rIs x equalB 2
  rw [tau_eq]
  cases b1 : decide (neg x ∈ c) with
  | true =>
    rw [b1] at hc
    exact ⟨fun _ => rt1 hx hn hc, fun h => by simp at h⟩
  | false =>
    rw [b1] at hc
    have hf' : Puk 22 [teA x, teA (Te.ap notB [noT])] (boA (decide (x = Te.ap notB [noT]))) := hf
    by_cases hk : x.kind = 2
    · have hz : Puk 59 [obA x.val] (boA (decide (x.val = nilO))) := p_rIsNil hxm.wf.val
      have h2 := not_is2 (n := equalB) (k := 2) hk
      rw [h2] at hi ⊢
      rw [yesD hk]
      cases b2 : decide (x.val = nilO) with
      | false =>
        rw [b2] at hz
        exact ⟨fun _ => rt2 hx hn hc hk hz, fun h => by simp at h⟩
      | true =>
        rw [b2] at hz
        cases b3 : decide (x = Te.ap notB [noT]) with
        | true => rw [b3] at hf'; exact ⟨fun _ => rt6t hx hn hc hk hz hi hf', fun h => by simp at h⟩
        | false => rw [b3] at hf'; exact ⟨fun h => by simp at h, fun _ => rt6f hx hl hn hc hk hz hi hf'⟩
    · rw [noD hk]
      cases b4 : decide (is x equalB 2) with
      | false =>
        rw [b4] at hi
        cases b3 : decide (x = Te.ap notB [noT]) with
        | true => rw [b3] at hf'; exact ⟨fun _ => rt4t hx hn hc hk hi hf', fun h => by simp at h⟩
        | false => rw [b3] at hf'; exact ⟨fun h => by simp at h, fun _ => rt4f hx hl hn hc hk hi hf'⟩
      | true =>
        rw [b4] at hi
        have his := of_decide_eq_true b4
        have ha := arg_at (i := 0) his (by omega)
        have hb := arg_at (i := 1) his (by omega)
        have he : Puk 22 [teA (x.arg 0), teA (x.arg 1)] (boA (decide (x.arg 0 = x.arg 1))) := p_req (hxm.arg his (by omega)).wf (x.arg 1)
        cases b5 : decide (x.arg 0 = x.arg 1) with
        | true => rw [b5] at he; exact ⟨fun _ => rt3 hx hn hc hk hi ha hb he, fun h => by simp at h⟩
        | false =>
          rw [b5] at he
          cases b3 : decide (x = Te.ap notB [noT]) with
          | true => rw [b3] at hf'; exact ⟨fun _ => rt5t hx hn hc hk hi ha hb he hf', fun h => by simp at h⟩
          | false => rw [b3] at hf'; exact ⟨fun h => by simp at h, fun _ => rt5f hx hl hn hc hk hi ha hb he hf'⟩
theorem rt_loop {c : List Te} (hl : c.length ≤ 1000) (hm : ∀ x ∈ c, x.Mkd) : ∀ (s : List Te) (i : Nat), c.drop i = s → i ≤ c.length → (s.any (tau c) = true → Lps EX rtB (rtS c i) .ret rtR) ∧ (s.any (tau c) = false → Lps EX rtB (rtS c i) (.out 0) (rtS c c.length)) := by
  intro s
  induction s with
  | nil =>
    intro i hd hi
    have e1 := congrArg List.length hd
    rw [List.length_drop, List.length_nil] at e1
    obtain rfl : i = c.length := by omega
    exact ⟨fun h => by simp at h, fun _ => .stop (rt7 rfl) (fun h => by cases h)⟩
  | cons x s ih =>
    intro i hd hi
    have hx : c[i]? = some x := by rw [← List.head?_drop, hd]; rfl
    have hlt := (List.getElem?_eq_some_iff.1 hx).1
    obtain ⟨k1, k2⟩ := ih (i + 1) (by rw [← List.drop_drop, hd]; rfl) hlt
    obtain ⟨r1, r2⟩ := rt_step hl hm hx
    rw [List.any_cons]
    cases b : tau c x with
    | true => exact ⟨fun _ => .stop (r1 b) (fun h => by cases h), fun h => by simp at h⟩
    | false =>
      rw [Bool.false_or]
      exact ⟨fun h => .more (r2 b) (k1 h), fun h => .more (r2 b) (k2 h)⟩
theorem w_rTau1 {c : List Te} (ht : Tri EX (.loop rtB) (rtS c 0) .ret rtR) : Puk 21 [tesA c] (boA true) :=
  pwalk (an := []) (ls := [.inv [0,3] 0 (.ret) (rtR)]) (ps := [Tri EX (.loop (subC (bodyOf Tryz.f21) [1,0,1,0,0])) (rtS c 0) (.ret) (rtR)]) Tryz.func21 (by kernel_rfl) (by kernel_rfl) ⟨ht, trivial⟩
theorem w_rTau0 {c : List Te} {k : Int} (ht : Tri EX (.loop rtB) (rtS c 0) (.out 0) (rtS c k)) : Puk 21 [tesA c] (boA false) :=
  pwalk (an := []) (ls := [.inv [0,3] 0 (.out 0) (rtS c k)]) (ps := [Tri EX (.loop (subC (bodyOf Tryz.f21) [1,0,1,0,0])) (rtS c 0) (.out 0) (rtS c k)]) Tryz.func21 (by kernel_rfl) (by kernel_rfl) ⟨ht, trivial⟩
theorem p_rTau {c : List Te} (hl : c.length ≤ 1000) (hm : ∀ x ∈ c, x.Mkd) : Puk 21 [tesA c] (boA (c.any (tau c))) := by
  obtain ⟨k1, k2⟩ := rt_loop hl hm c 0 rfl (Nat.zero_le _)
  cases b : c.any (tau c) with
  | true => exact w_rTau1 (k1 b).tri
  | false => exact w_rTau0 (k2 b).tri
/- the code -/
theorem ct1 {c : List Te} {x : Te} (hk : x.kind = 2) (hz : Puk 55 [obA x.val] (boA false)) : Puk 54 [teA x, .pin [tesA c]] (boA true) :=
  pwalk (an := [yT, yF]) (ls := []) (ps := [Bn .eql 3 (.tmp 5) (.const (vi 2)) (vi x.kind) (vi 2) bT, Puk 55 [(obA x.val)] (boA false)]) Tryz.func54 (by kernel_rfl) (by kernel_rfl) ⟨bin_ieq (yesD hk), hz, trivial⟩
theorem ct2 {c : List Te} {x m : Te} {r : Bool} (hk : x.kind = 2) (hz : Puk 55 [obA x.val] (boA true)) (hi : Puk 56 [teA x, stA equalB, inA 2] (boA false)) (hj : Puk 56 [teA x, stA notB, inA 1] (boA false)) (hn : Puk 23 [teA x] (teA m)) (hc : Puk 24 [tesA c, teA m] (boA r)) : Puk 54 [teA x, .pin [tesA c]] (boA r) :=
  pwalk (an := [yT, yT, yF, yF, .av (teA m), .av (boA r)]) (ls := []) (ps := [Bn .eql 3 (.tmp 5) (.const (vi 2)) (vi x.kind) (vi 2) bT, Puk 55 [(obA x.val)] (boA true), Puk 56 [(teA x), (stA [101, 113, 117, 97, 108]), (inA 2)] (boA false), Puk 56 [(teA x), (stA [110, 111, 116]), (inA 1)] (boA false), Puk 23 [(teA x)] (teA m), Puk 24 [(.dt (.row (List.map Te.enc c))), (teA m)] (boA r)]) Tryz.func54 (by kernel_rfl) (by kernel_rfl) ⟨bin_ieq (yesD hk), hz, hi, hj, hn, hc, trivial⟩
theorem ct3 {c : List Te} {x a b : Te} (hk : x.kind ≠ 2) (hi : Puk 56 [teA x, stA equalB, inA 2] (boA true)) (ha : x.args[0]? = some a) (hb : x.args[1]? = some b) (he : Puk 57 [teA a, teA b] (boA true)) : Puk 54 [teA x, .pin [tesA c]] (boA true) :=
  pwalk (an := [yF, yT, .av (.pin ((encT a).map .dt)), .av (.pin ((encT b).map .dt)), yT]) (ls := []) (ps := [Bn .eql 3 (.tmp 5) (.const (vi 2)) (vi x.kind) (vi 2) bF, Puk 56 [(teA x), (stA [101, 113, 117, 97, 108]), (inA 2)] (boA true), IxAt (List.map Te.enc x.args) 0 11 (encT a), IxAt (List.map Te.enc x.args) 1 11 (encT b), Puk 57 [(teA a), (teA b)] (boA true)]) Tryz.func54 (by kernel_rfl) (by kernel_rfl) ⟨bin_ieq (noD (by omega)), hi, ix_te ha, ix_te hb, he, trivial⟩
theorem ct4 {c : List Te} {x a b m : Te} {r : Bool} (hk : x.kind ≠ 2) (hi : Puk 56 [teA x, stA equalB, inA 2] (boA true)) (ha : x.args[0]? = some a) (hb : x.args[1]? = some b) (he : Puk 57 [teA a, teA b] (boA false)) (hj : Puk 56 [teA x, stA notB, inA 1] (boA false)) (hn : Puk 23 [teA x] (teA m)) (hc : Puk 24 [tesA c, teA m] (boA r)) : Puk 54 [teA x, .pin [tesA c]] (boA r) :=
  pwalk (an := [yF, yT, .av (.pin ((encT a).map .dt)), .av (.pin ((encT b).map .dt)), yF, yF, .av (teA m), .av (boA r)]) (ls := []) (ps := [Bn .eql 3 (.tmp 5) (.const (vi 2)) (vi x.kind) (vi 2) bF, Puk 56 [(teA x), (stA [101, 113, 117, 97, 108]), (inA 2)] (boA true), IxAt (List.map Te.enc x.args) 0 11 (encT a), IxAt (List.map Te.enc x.args) 1 11 (encT b), Puk 57 [(teA a), (teA b)] (boA false), Puk 56 [(teA x), (stA [110, 111, 116]), (inA 1)] (boA false), Puk 23 [(teA x)] (teA m), Puk 24 [(.dt (.row (List.map Te.enc c))), (teA m)] (boA r)]) Tryz.func54 (by kernel_rfl) (by kernel_rfl) ⟨bin_ieq (noD (by omega)), hi, ix_te ha, ix_te hb, he, hj, hn, hc, trivial⟩
theorem ct5 {c : List Te} {x a : Te} (hk : x.kind ≠ 2) (hi : Puk 56 [teA x, stA equalB, inA 2] (boA false)) (hj : Puk 56 [teA x, stA notB, inA 1] (boA true)) (ha : x.args[0]? = some a) (he : Puk 57 [teA a, teA noT] (boA true)) : Puk 54 [teA x, .pin [tesA c]] (boA true) :=
  pwalk (an := [yF, yF, yT, .av (.pin ((encT a).map .dt)), .av (teA noT), yT]) (ls := []) (ps := [Bn .eql 3 (.tmp 5) (.const (vi 2)) (vi x.kind) (vi 2) bF, Puk 56 [(teA x), (stA [101, 113, 117, 97, 108]), (inA 2)] (boA false), Puk 56 [(teA x), (stA [110, 111, 116]), (inA 1)] (boA true), IxAt (List.map Te.enc x.args) 0 11 (encT a), Puk 58 [(boA false)] (.agg [(inA 2), (stA noT.np), (stA noT.nn), (inA 2), (stA noT.val.num), (stA noT.val.den), (stA noT.val.sp), (stA noT.val.sn), (stA noT.val.text), (.dt (.row (List.map Ob.enc noT.val.pair))), (.dt (.row (List.map Te.enc noT.args)))]), Puk 57 [(teA a), (.agg [(inA 2), (stA noT.np), (stA noT.nn), (inA 2), (stA noT.val.num), (stA noT.val.den), (stA noT.val.sp), (stA noT.val.sn), (stA noT.val.text), (.dt (.row (List.map Ob.enc noT.val.pair))), (.dt (.row (List.map Te.enc noT.args)))])] (boA true)]) Tryz.func54 (by kernel_rfl) (by kernel_rfl) ⟨bin_ieq (noD (by omega)), hi, hj, ix_te ha, p_constant false, he, trivial⟩
theorem ct6 {c : List Te} {x a m : Te} {r : Bool} (hk : x.kind ≠ 2) (hi : Puk 56 [teA x, stA equalB, inA 2] (boA false)) (hj : Puk 56 [teA x, stA notB, inA 1] (boA true)) (ha : x.args[0]? = some a) (he : Puk 57 [teA a, teA noT] (boA false)) (hn : Puk 23 [teA x] (teA m)) (hc : Puk 24 [tesA c, teA m] (boA r)) : Puk 54 [teA x, .pin [tesA c]] (boA r) :=
  pwalk (an := [yF, yF, yT, .av (.pin ((encT a).map .dt)), .av (teA noT), yF, .av (teA m), .av (boA r)]) (ls := []) (ps := [Bn .eql 3 (.tmp 5) (.const (vi 2)) (vi x.kind) (vi 2) bF, Puk 56 [(teA x), (stA [101, 113, 117, 97, 108]), (inA 2)] (boA false), Puk 56 [(teA x), (stA [110, 111, 116]), (inA 1)] (boA true), IxAt (List.map Te.enc x.args) 0 11 (encT a), Puk 58 [(boA false)] (.agg [(inA 2), (stA noT.np), (stA noT.nn), (inA 2), (stA noT.val.num), (stA noT.val.den), (stA noT.val.sp), (stA noT.val.sn), (stA noT.val.text), (.dt (.row (List.map Ob.enc noT.val.pair))), (.dt (.row (List.map Te.enc noT.args)))]), Puk 57 [(teA a), (.agg [(inA 2), (stA noT.np), (stA noT.nn), (inA 2), (stA noT.val.num), (stA noT.val.den), (stA noT.val.sp), (stA noT.val.sn), (stA noT.val.text), (.dt (.row (List.map Ob.enc noT.val.pair))), (.dt (.row (List.map Te.enc noT.args)))])] (boA false), Puk 23 [(teA x)] (teA m), Puk 24 [(.dt (.row (List.map Te.enc c))), (teA m)] (boA r)]) Tryz.func54 (by kernel_rfl) (by kernel_rfl) ⟨bin_ieq (noD (by omega)), hi, hj, ix_te ha, p_constant false, he, hn, hc, trivial⟩
theorem ct7 {c : List Te} {x m : Te} {r : Bool} (hk : x.kind ≠ 2) (hi : Puk 56 [teA x, stA equalB, inA 2] (boA false)) (hj : Puk 56 [teA x, stA notB, inA 1] (boA false)) (hn : Puk 23 [teA x] (teA m)) (hc : Puk 24 [tesA c, teA m] (boA r)) : Puk 54 [teA x, .pin [tesA c]] (boA r) :=
  pwalk (an := [yF, yF, yF, .av (teA m), .av (boA r)]) (ls := []) (ps := [Bn .eql 3 (.tmp 5) (.const (vi 2)) (vi x.kind) (vi 2) bF, Puk 56 [(teA x), (stA [101, 113, 117, 97, 108]), (inA 2)] (boA false), Puk 56 [(teA x), (stA [110, 111, 116]), (inA 1)] (boA false), Puk 23 [(teA x)] (teA m), Puk 24 [(.dt (.row (List.map Te.enc c))), (teA m)] (boA r)]) Tryz.func54 (by kernel_rfl) (by kernel_rfl) ⟨bin_ieq (noD (by omega)), hi, hj, hn, hc, trivial⟩
theorem nil_dec {t : Te} (h : t.Mkd) (hk : t.kind = 2) : decide (t.val.kind = 2 ∧ t.val.sp = lispB ∧ t.val.sn = nilB) = decide (t.val = nilO) := by
  cases h with
  | var n h => cases hk
  | ap n l hn hl h => cases hk
  | con t h =>
    show decide (t.ob.kind = 2 ∧ t.ob.sp = lispB ∧ t.ob.sn = nilB) = decide (t.ob = nilO)
    by_cases c : t.ob.kind = 2 ∧ t.ob.sp = lispB ∧ t.ob.sn = nilB
    · rw [yesD c, yesD (tr_nil c)]
    · rw [noD c, noD fun e => c (by rw [e]; exact ⟨rfl, rfl, rfl⟩)]
theorem not_both {t : Te} (h : is t equalB 2) : decide (is t notB 1) = false := noD fun h2 => by
  have := h.2.2.1.symm.trans h2.2.2.1
  exact absurd this (by decide)
theorem ne_ap {t : Te} (h : ¬ is t notB 1) : decide (t = Te.ap notB [noT]) = false := noD fun e => h (by subst e; exact ⟨rfl, rfl, rfl, rfl⟩)
theorem p_cTau1 {c : List Te} (hl : c.length ≤ 1000) (hm : ∀ x ∈ c, x.Mkd) {x : Te} (hxm : x.Mkd) : Puk 54 [teA x, .pin [tesA c]] (boA (tau c x)) := by
  have hn := p_neg x
  have hc := p_cont (c := c) (by omega) (fun y hy => (hm y hy).wf) (neg x)
  have hi := p_is x equalB 2
  have hj := p_is x notB 1
  rw [tau_eq]
  by_cases hk : x.kind = 2
  · have hz := p_oIsNil x.val
    rw [nil_dec hxm hk] at hz
    have h2 := not_is2 (n := equalB) (k := 2) hk
    have h3 := not_is2 (n := notB) (k := 1) hk
    rw [ne_ap (of_decide_eq_false h3), h2, yesD hk]
    rw [h2] at hi
    rw [h3] at hj
    cases b : decide (x.val = nilO) with
    | false => rw [b] at hz; simpa using ct1 (c := c) hk hz
    | true => rw [b] at hz; simpa using ct2 hk hz hi hj hn hc
  · rw [noD hk]
    cases b4 : decide (is x equalB 2) with
    | true =>
      rw [b4] at hi
      have his := of_decide_eq_true b4
      have h3 := not_both his
      rw [ne_ap (of_decide_eq_false h3)]
      rw [h3] at hj
      have ha := arg_at (i := 0) his (by omega)
      have hb := arg_at (i := 1) his (by omega)
      have he : Puk 57 [teA (x.arg 0), teA (x.arg 1)] (boA (decide (x.arg 0 = x.arg 1))) := p_teq (hxm.arg his (by omega)).wf (x.arg 1)
      cases b5 : decide (x.arg 0 = x.arg 1) with
      | true => rw [b5] at he; simpa using ct3 (c := c) hk hi ha hb he
      | false => rw [b5] at he; simpa using ct4 hk hi ha hb he hj hn hc
    | false =>
      rw [b4] at hi
      cases b6 : decide (is x notB 1) with
      | false => rw [b6] at hj; rw [ne_ap (of_decide_eq_false b6)]; simpa using ct7 hk hi hj hn hc
      | true =>
        rw [b6] at hj
        have his := of_decide_eq_true b6
        have ha := arg_at (i := 0) his (by omega)
        have he : Puk 57 [teA (x.arg 0), teA noT] (boA (decide (x.arg 0 = noT))) := p_teq (hxm.arg his (by omega)).wf noT
        have hxe : decide (x = Te.ap notB [noT]) = decide (x.arg 0 = noT) := by
          have e := hxm.call his
          have hl1 : x.args.length = 1 := his.2.2.2
          have ea : x.args = [x.arg 0] := by
            cases hargs : x.args with
            | nil => rw [hargs] at hl1; simp at hl1
            | cons y r =>
              rw [hargs] at hl1 ha
              simp only [List.length_cons] at hl1
              obtain rfl := List.eq_nil_of_length_eq_zero (by omega : r.length = 0)
              simp only [List.getElem?_cons_zero, Option.some.injEq] at ha
              rw [← ha]
          by_cases h0 : x.arg 0 = noT
          · rw [yesD h0, yesD]
            rw [e, ea, h0]
          · rw [noD h0, noD]
            intro h1
            exact h0 (by rw [h1]; rfl)
        rw [hxe]
        cases b7 : decide (x.arg 0 = noT) with
        | true => rw [b7] at he; simpa using ct5 (c := c) hk hi hj ha he
        | false => rw [b7] at he; simpa using ct6 hk hi hj ha he hn hc
theorem p_cTau {c : List Te} (hl : c.length ≤ 1000) (hm : ∀ x ∈ c, x.Mkd) : Puk 20 [tesA c] (boA (c.any (tau c))) := p_taut hl fun _ hx => p_cTau1 hl hm (hm _ hx)
end Go.Proofs.YtendgffijciehaaGreatDoor
/- ClauseTautology. -/
namespace Go.Proofs.YtendgffijciehaaGreatDoor
open Go.RowKit
open Te

abbrev fewV (l : List Raw) : Bool := decide (l.length ≤ 6) && fewAllR l 10
theorem p_fewV (l : List Raw) (hl : l.length ≤ 9223372036854775807) : Puk 9 [.dt (.row [[.row (l.map Raw.enc)]])] (boA (fewV l)) := by
  have hf := p_FewAll l 10
  unfold fewV
  cases b1 : decide (l.length ≤ 6) with
  | false =>
    have e := of_decide_eq_false b1
    exact pwalk (an := [.no, .no, .no, .av (inA l.length), yT]) (ls := [.run 1]) (ps := [(vi ↑l.length) = (vi (↑(List.map Raw.enc l).length)), Bn .gtr 3 (.tmp 14) (.const (vi 6)) (vi ↑l.length) (vi 6) bT]) Tryz.func9 (by kernel_rfl) (by kernel_rfl) ⟨lenEncR _, bin_igt (decide_eq_true (by omega)), trivial⟩
  | true =>
    have e := of_decide_eq_true b1
    cases b2 : fewAllR l 10 with
    | false =>
      rw [b2] at hf
      exact pwalk (an := [.no, .no, .no, .av (inA l.length), yF, .no, yF]) (ls := [.run 1]) (ps := [(vi ↑l.length) = (vi (↑(List.map Raw.enc l).length)), Bn .gtr 3 (.tmp 14) (.const (vi 6)) (vi ↑l.length) (vi 6) bF, Puk 42 [(.dt (.row (List.map Raw.enc l))), (inA 10)] (boA false)]) Tryz.func9 (by kernel_rfl) (by kernel_rfl) ⟨lenEncR _, bin_igt (decide_eq_false (by omega)), hf, trivial⟩
    | true =>
      rw [b2] at hf
      exact pwalk (an := [.no, .no, .no, .av (inA l.length), yF, .no, yT, .no, .no, .no]) (ls := [.run 2]) (ps := [(vi ↑l.length) = (vi (↑(List.map Raw.enc l).length)), Bn .gtr 3 (.tmp 14) (.const (vi 6)) (vi ↑l.length) (vi 6) bF, Puk 42 [(.dt (.row (List.map Raw.enc l))), (inA 10)] (boA true)]) Tryz.func9 (by kernel_rfl) (by kernel_rfl) ⟨lenEncR _, bin_igt (decide_eq_false (by omega)), hf, trivial⟩
theorem fewV_fit {l : List Raw} (h : fewV l = true) : l.length ≤ 6 ∧ ∀ r ∈ l, Fit r := by
  unfold fewV fewAllR at h
  simp only [Bool.and_eq_true, decide_eq_true_eq, List.all_eq_true] at h
  exact ⟨h.1, fun r hr => fewR_fit (m := 10) (by decide) (by decide) (h.2.2 r hr)⟩
theorem row5 (a b c d e : Te) : [encT a, encT b, encT c, encT d, encT e] = [a, b, c, d, e].map Te.enc := by simp only [List.map_cons, List.map_nil, enc_T]
abbrev LspF : FuncId := 15
set_option maxRecDepth 100000 in
theorem w_taut19 {l : List Raw} {r : Raw} {n : Int} {c d : List Te} {t m e q u v y : Te} {a b : Bool} (hf : Puk 9 [.dt (.row [[.row (l.map Raw.enc)]])] (boA true)) (hr : Puk 10 [rawA r, inA 8] (boA true)) (h1 : Puk 11 [rawsA l] (tesA c)) (h2 : Puk 12 [.dt (.row []), .dt (.row vars3), rawA r] (teA t)) (h3 : Puk 14 [teA t] (teA m)) (h4 : Puk LspF [stA equalB, .dt (.row [encT t, encT t])] (teA e)) (h5 : Puk LspF [stA notB, .dt (.row [encT noT])] (teA q)) (h6 : Puk LspF [stA notB, .dt (.row [encT t])] (teA u)) (h7 : Puk LspF [stA notB, .dt (.row [encT u])] (teA v))
    (h8 : Puk 19 [inA n, inA 5] (inA (n % 5))) (hx : IxAt [encT t, encT m, encT e, encT q, encT v] (n % 5) 11 (encT y)) (h9 : Puk 18 [tesA c, .dt (.row [encT t, encT y])] (tesA d)) (k1 : Puk 20 [tesA c] (boA a)) (k2 : Puk 21 [tesA c] (boA a)) (k3 : Puk 20 [tesA d] (boA b)) (k4 : Puk 21 [tesA d] (boA b)) : Puk 3 [rawsA l, rawA r, inA n] (boA true) :=
  pwalk (an := [yT, yT, yT, .av (tesA c), .av (.dt (.row vars3)), .av (teA t), .av (teA m), .av (teA e), .av (obA nilO), .av (teA noT), .av (teA q), .av (teA u), .av (teA v), .no, .av (inA (n % 5)), .av (.pin ((encT y).map .dt)), .av (tesA d), .av (boA a), .av (boA a), yT, .av (boA b), .av (boA b), yT]) (ls := []) (ps := [Puk 8 [] (boA true), Puk 9 [(.dt (.row [[(.row (List.map Raw.enc l))]]))] (boA true), Puk 10 [(rawA r), (inA 8)] (boA true), Puk 11 [(.dt (.row (List.map Raw.enc l)))] (.dt (.row (List.map Te.enc c))), Puk 13 [(inA 3)] (.dt (.row [[(.val (str userB)), (.val (str [120]))], [(.val (str userB)), (.val (str [121]))], [(.val (str userB)), (.val (str [122]))]])), Puk 12 [(.dt (.row [])), (.dt (.row [[(.val (str userB)), (.val (str [120]))], [(.val (str userB)), (.val (str [121]))], [(.val (str userB)), (.val (str [122]))]])), (rawA r)] (teA t), Puk 14 [(teA t)] (teA m), Puk 15 [(stA [101, 113, 117, 97, 108]), (.dt (.row [encT t, encT t]))] (teA e), Puk 17 [] (obA nilO), Puk 16 [(obA nilO)] (.agg [(inA 2), (stA noT.np), (stA noT.nn), (inA 2), (stA noT.val.num), (stA noT.val.den), (stA noT.val.sp), (stA noT.val.sn), (stA noT.val.text), (.dt (.row (List.map Ob.enc noT.val.pair))), (.dt (.row (List.map Te.enc noT.args)))]), Puk 15 [(stA [110, 111, 116]), (.dt (.row [[(.val (vi 2)), (.val (str noT.np)), (.val (str noT.nn)), (.val (vi 2)), (.val (str noT.val.num)), (.val (str noT.val.den)), (.val (str noT.val.sp)), (.val (str noT.val.sn)), (.val (str noT.val.text)), (.row (List.map Ob.enc noT.val.pair)), (.row (List.map Te.enc noT.args))]]))] (teA q), Puk 15 [(stA [110, 111, 116]), (.dt (.row [encT t]))] (teA u), Puk 15 [(stA [110, 111, 116]), (.dt (.row [encT u]))] (teA v), Puk 19 [(inA n), (inA (↑(chunks (Dt.val (vi t.kind) :: Dt.val (str t.np) :: Dt.val (str t.nn) :: Dt.val (vi t.val.kind) :: Dt.val (str t.val.num) :: Dt.val (str t.val.den) :: Dt.val (str t.val.sp) :: Dt.val (str t.val.sn) :: Dt.val (str t.val.text) :: Dt.row (List.map Ob.enc t.val.pair) :: Dt.row (List.map Te.enc t.args) :: Dt.val (vi m.kind) :: Dt.val (str m.np) :: Dt.val (str m.nn) :: Dt.val (vi m.val.kind) :: Dt.val (str m.val.num) :: Dt.val (str m.val.den) :: Dt.val (str m.val.sp) :: Dt.val (str m.val.sn) :: Dt.val (str m.val.text) :: Dt.row (List.map Ob.enc m.val.pair) :: Dt.row (List.map Te.enc m.args) :: Dt.val (vi e.kind) :: Dt.val (str e.np) :: Dt.val (str e.nn) :: Dt.val (vi e.val.kind) :: Dt.val (str e.val.num) :: Dt.val (str e.val.den) :: Dt.val (str e.val.sp) :: Dt.val (str e.val.sn) :: Dt.val (str e.val.text) :: Dt.row (List.map Ob.enc e.val.pair) :: Dt.row (List.map Te.enc e.args) :: Dt.val (vi q.kind) :: Dt.val (str q.np) :: Dt.val (str q.nn) :: Dt.val (vi q.val.kind) :: Dt.val (str q.val.num) :: Dt.val (str q.val.den) :: Dt.val (str q.val.sp) :: Dt.val (str q.val.sn) :: Dt.val (str q.val.text) :: Dt.row (List.map Ob.enc q.val.pair) :: Dt.row (List.map Te.enc q.args) :: Dt.val (vi v.kind) :: Dt.val (str v.np) :: Dt.val (str v.nn) :: Dt.val (vi v.val.kind) :: Dt.val (str v.val.num) :: Dt.val (str v.val.den) :: Dt.val (str v.val.sp) :: Dt.val (str v.val.sn) :: Dt.val (str v.val.text) :: Dt.row (List.map Ob.enc v.val.pair) :: Dt.row (List.map Te.enc v.args) :: []) Tryz.prog.types[37].size 5).length))] (inA (n % 5)), IxAt (chunks (Dt.val (vi t.kind) :: Dt.val (str t.np) :: Dt.val (str t.nn) :: Dt.val (vi t.val.kind) :: Dt.val (str t.val.num) :: Dt.val (str t.val.den) :: Dt.val (str t.val.sp) :: Dt.val (str t.val.sn) :: Dt.val (str t.val.text) :: Dt.row (List.map Ob.enc t.val.pair) :: Dt.row (List.map Te.enc t.args) :: Dt.val (vi m.kind) :: Dt.val (str m.np) :: Dt.val (str m.nn) :: Dt.val (vi m.val.kind) :: Dt.val (str m.val.num) :: Dt.val (str m.val.den) :: Dt.val (str m.val.sp) :: Dt.val (str m.val.sn) :: Dt.val (str m.val.text) :: Dt.row (List.map Ob.enc m.val.pair) :: Dt.row (List.map Te.enc m.args) :: Dt.val (vi e.kind) :: Dt.val (str e.np) :: Dt.val (str e.nn) :: Dt.val (vi e.val.kind) :: Dt.val (str e.val.num) :: Dt.val (str e.val.den) :: Dt.val (str e.val.sp) :: Dt.val (str e.val.sn) :: Dt.val (str e.val.text) :: Dt.row (List.map Ob.enc e.val.pair) :: Dt.row (List.map Te.enc e.args) :: Dt.val (vi q.kind) :: Dt.val (str q.np) :: Dt.val (str q.nn) :: Dt.val (vi q.val.kind) :: Dt.val (str q.val.num) :: Dt.val (str q.val.den) :: Dt.val (str q.val.sp) :: Dt.val (str q.val.sn) :: Dt.val (str q.val.text) :: Dt.row (List.map Ob.enc q.val.pair) :: Dt.row (List.map Te.enc q.args) :: Dt.val (vi v.kind) :: Dt.val (str v.np) :: Dt.val (str v.nn) :: Dt.val (vi v.val.kind) :: Dt.val (str v.val.num) :: Dt.val (str v.val.den) :: Dt.val (str v.val.sp) :: Dt.val (str v.val.sn) :: Dt.val (str v.val.text) :: Dt.row (List.map Ob.enc v.val.pair) :: Dt.row (List.map Te.enc v.args) :: []) Tryz.prog.types[37].size 5) (n % 5) 11 (encT y), Puk 18 [(.dt (.row (List.map Te.enc c))), (.dt (.row [encT t, encT y]))] (.dt (.row (List.map Te.enc d))), Puk 20 [(.dt (.row (List.map Te.enc c)))] (boA a), Puk 21 [(.dt (.row (List.map Te.enc c)))] (boA a), Bn .eql 4 (.tmp 56) (.tmp 58) (Value.bool a) (Value.bool a) bT, Puk 20 [(.dt (.row (List.map Te.enc d)))] (boA b), Puk 21 [(.dt (.row (List.map Te.enc d)))] (boA b), Bn .eql 4 (.tmp 62) (.tmp 64) (Value.bool b) (Value.bool b) bT]) Tryz.func3 (by kernel_rfl) (by kernel_rfl) ⟨p_first, hf, hr, h1, p_vars3, h2, h3, h4, p_rNil, p_rConst _, h5, h6, h7, h8, hx, h9, k1, k2, bin_beq (by kernel_rfl) (by simp), k3, k4, bin_beq (by kernel_rfl) (by simp), trivial⟩
theorem taut19 {l : List Raw} (hl : l.length ≤ 9223372036854775807) (r : Raw) (n : Int) : Puk 3 [rawsA l, rawA r, inA n] (boA true) := by
  have hf := p_fewV l hl
  cases b1 : fewV l with
  | false =>
    rw [b1] at hf
    exact pwalk (an := [yT, yF]) (ls := []) (ps := [Puk 8 [] (boA true), Puk 9 [(.dt (.row [[(.row (List.map Raw.enc l))]]))] (boA false)]) Tryz.func3 (by kernel_rfl) (by kernel_rfl) ⟨p_first, hf, trivial⟩
  | true =>
    rw [b1] at hf
    have hr := p_Few r 8
    cases b2 : fewR r 8 with
    | false =>
      rw [b2] at hr
      exact pwalk (an := [yT, yT, yF]) (ls := []) (ps := [Puk 8 [] (boA true), Puk 9 [(.dt (.row [[(.row (List.map Raw.enc l))]]))] (boA true), Puk 10 [(rawA r), (inA 8)] (boA false)]) Tryz.func3 (by kernel_rfl) (by kernel_rfl) ⟨p_first, hf, hr, trivial⟩
    | true =>
      rw [b2] at hr
      obtain ⟨g1, g2⟩ := fewV_fit b1
      obtain ⟨c, c1, c2, c3⟩ := p_made (by omega) g2
      obtain ⟨t, t1, t2⟩ := p_lit0 (fewR_fit (m := 8) (by decide) (by decide) b2)
      have hno : (Te.ap notB [t]).Mkd := t1.ap1 (by decide)
      have hxs : ∀ y ∈ [t, neg t, Te.ap equalB [t, t], Te.ap notB [noT], Te.ap notB [Te.ap notB [t]]], Te.Mkd y := by
        intro y hy
        simp only [List.mem_cons, List.not_mem_nil, or_false] at hy
        rcases hy with rfl | rfl | rfl | rfl | rfl
        · exact t1
        · exact t1.neg
        · exact .ap2 (by decide) t1 t1
        · exact Mkd.no.ap1 (by decide)
        · exact hno.ap1 (by decide)
      have hlt : (n % 5).toNat < 5 := by omega
      have hy : [t, neg t, Te.ap equalB [t, t], Te.ap notB [noT], Te.ap notB [Te.ap notB [t]]][(n % 5).toNat]? = some ([t, neg t, Te.ap equalB [t, t], Te.ap notB [noT], Te.ap notB [Te.ap notB [t]]][(n % 5).toNat]'hlt) := List.getElem?_eq_getElem hlt
      generalize hye : ([t, neg t, Te.ap equalB [t, t], Te.ap notB [noT], Te.ap notB [Te.ap notB [t]]][(n % 5).toNat]'hlt) = y at hy
      have hym := hxs y (List.mem_of_getElem? hy)
      have hix := ix_te hy
      rw [← row5, show (((n % 5).toNat : Nat) : Int) = n % 5 by omega] at hix
      have hty : ∀ z ∈ [t, y], Te.Mkd z := fun z hz => by
        simp only [List.mem_cons, List.not_mem_nil, or_false] at hz
        rcases hz with rfl | rfl
        · exact t1
        · exact hym
      have ha := p_rAdd (c := c) (l := [t, y]) (by omega) (by show 2 ≤ 100000; decide) (fun z hz => (c1 z hz).wf) (fun z hz => (hty z hz).wf)
      rw [show tesA [t, y] = .dt (.row [encT t, encT y]) by unfold tesA; rw [row2]] at ha
      have hdm := addN_mkd [t, y] c c1 hty
      have hdl : (addN c [t, y]).length ≤ 1000 := by
        have := addN_len [t, y] c
        simp only [List.length_cons, List.length_nil] at this
        omega
      exact w_taut19 hf hr c3 t2 (p_rneg t) (p_rLisp2 _ _ _) (p_rLisp1 _ _) (p_rLisp1 _ _) (p_rLisp1 _ _) (p_mod _ _ (by omega) (by omega)) hix ha (p_cTau (by omega) c1) (p_rTau (by omega) c1) (p_cTau hdl hdm) (p_rTau hdl hdm)
end Go.Proofs.YtendgffijciehaaGreatDoor
/- ClauseTautology as a contract of the machine. -/
namespace Go.Proofs.YtendgffijciehaaGreatDoor
open Go.RowKit

theorem taut19_any (W : World) (hG : Gx W) (l : List Raw) (_ : ∀ s ∈ l, s.Wf) (A : Option Addr) (n c : Nat) (_ : n ≤ 9223372036854775807) (hr : Rd (fun _ => True) W (.slice A n c) (.row (l.map Raw.enc)))
    (s : Raw) (_ : s.Wf) (B : Option Addr) (m e : Nat) (ht : Rd (fun _ => True) W (.slice B m e) (.row (s.l.map Raw.enc))) (k : Int) (_ : -9223372036854775808 ≤ k) (_ : k ≤ 9223372036854775807) : Says 3 #[.slice A n c, rawV s (.slice B m e), .int .i64 k] W :=
  (taut19 (by have := hr.len; rw [List.length_map] at this; omega) s k).law (ok := fun _ => True) hG ⟨_, _, rfl, hr, _, _, rfl, RV.ofRaw ht, _, [], rfl, .val _, rfl⟩
end Go.Proofs.YtendgffijciehaaGreatDoor
