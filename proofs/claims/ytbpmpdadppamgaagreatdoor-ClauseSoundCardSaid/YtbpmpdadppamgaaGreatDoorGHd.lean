/- Matching in the reference; Subsumes of both texts. -/
import Derived.Test.YtbpmpdadppamgaaGreatDoorGHc
import Derived.Test.YtbpmpdadppamgaaGreatDoorGX
import Derived.Test.YtbpmpdadppamgaaGreatDoorGO
namespace Go.Proofs.YtbpmpdadppamgaaGreatDoor
open Go.Proofs.Tryz
open Go.RowKit
open Te
theorem LM{s:As}{i:Nat}{x:Te×Te}(h:s[i]?=some x):z8 (N9 s) (i:Int) 13 (di x.1 x.2):=⟨Int.natCast_nonneg _,by
 rw[Int.toNat_natCast,bi,h];rfl,rfl⟩
theorem LP(s:As):Value.int .i64 (s.length:Int)=Value.int .i64 ((N9 s).length:Int):=by rw[lN]
abbrev jR(s:As)(a b:lw)(i:Int):AS:=⟨stt 26 [(0,.dt (.row (N9 s))),(3,.ptr 0 0),(4,.ptr 1 0),(6,j4 i)],[some (.cells [stA a,stA b]),FQ]⟩
abbrev FU(x:Te)(a b:lw):AS:=⟨stt 26 [(4,.ptr 1 0),(5,l5 true)],[some (.cells [stA a,stA b]),some (.cells ((o8 x).map .dt))]⟩
noncomputable abbrev uk:Code:=M6 (O4 f116) [1,0,1,0,0]
theorem YE{s:As}{a b:lw}{x:Te×Te}{i:Nat}(hx:s[i]?=some x)(hl:s.length≤1000)(h:¬(x.1.np=a∧x.1.nn=b)):y7 EX uk (jR s a b i) .F6 (jR s a b ((i+1:Nat):Int)) :=
 have hi:=(UV.1 hx).1
 tW [.av (j4 s.length),yT,.av (.pin ((di x.1 x.2).map .dt)),yF,.av (j4 ((i+1:Nat):Int))] [] [0,3,4,6] 2 [(vi (↑(List.length s)))=(vi (↑(N9 s).length)),Bt .lss 3 7 9 ↑i (↑(List.length s)) bT,z8 (N9 s) ↑i 13 ([(.val (str x.fst.np)),(.val (str x.fst.nn)),(.val (vi x.snd.kind)),(.val (str x.snd.np)),(.val (str x.snd.nn)),(.val (vi x.snd.val.kind)),(.val (str x.snd.val.num)),(.val (str x.snd.val.den)),(.val (str x.snd.val.sp)),(.val (str x.snd.val.sn)),(.val (str x.snd.val.text)),(.row (List.map Ob.enc x.snd.val.pair)),(.row (List.map Te.enc x.snd.args))]),Bn .eql 42 (.tmp 17) (.tmp 18) (Value.agg #[str x.fst.np,str x.fst.nn]) (Value.agg #[str a,str b]) bF,Bk .add 3 11 1 ↑i (vi (↑(i+1)))] ⟨LP _,D8 (Pi J),LM hx,ae (zy h),H6 J J J,Z⟩
theorem b43{s:As}{a b:lw}{x:Te×Te}{i:Nat}(hx:s[i]?=some x)(h:x.1.np=a∧x.1.nn=b):y7 EX uk (jR s a b i) .ret (FU x.2 a b) :=
 have hi:=(UV.1 hx).1
 tW [.av (j4 s.length),yT,.av (.pin ((di x.1 x.2).map .dt)),yT,.av (.pin ((di x.1 x.2).map .dt))] [] [4,5] 2 [(vi (↑(List.length s)))=(vi (↑(N9 s).length)),Bt .lss 3 7 9 ↑i (↑(List.length s)) bT,z8 (N9 s) ↑i 13 ([(.val (str x.fst.np)),(.val (str x.fst.nn)),(.val (vi x.snd.kind)),(.val (str x.snd.np)),(.val (str x.snd.nn)),(.val (vi x.snd.val.kind)),(.val (str x.snd.val.num)),(.val (str x.snd.val.den)),(.val (str x.snd.val.sp)),(.val (str x.snd.val.sn)),(.val (str x.snd.val.text)),(.row (List.map Ob.enc x.snd.val.pair)),(.row (List.map Te.enc x.snd.args))]),Bn .eql 42 (.tmp 17) (.tmp 18) (Value.agg #[str x.fst.np,str x.fst.nn]) (Value.agg #[str a,str b]) bT,z8 (N9 s) ↑i 13 ([(.val (str x.fst.np)),(.val (str x.fst.nn)),(.val (vi x.snd.kind)),(.val (str x.snd.np)),(.val (str x.snd.nn)),(.val (vi x.snd.val.kind)),(.val (str x.snd.val.num)),(.val (str x.snd.val.den)),(.val (str x.snd.val.sp)),(.val (str x.snd.val.sn)),(.val (str x.snd.val.text)),(.row (List.map Ob.enc x.snd.val.pair)),(.row (List.map Te.enc x.snd.args))])] ⟨LP _,D8 (Pi J),LM hx,ae (sD h),LM hx,Z⟩
theorem b44{s:As}{a b:lw}{i:Nat}(hi:i=s.length):y7 EX uk (jR s a b i) (.out 0) (jR s a b i) :=
 tW [.av (j4 s.length),yF] [] [0,3,4,6] 2 [(vi (↑(List.length s)))=(vi (↑(N9 s).length)),Bt .lss 3 7 9 ↑i (↑(List.length s)) bF] ⟨LP _,D8 (WF J),Z⟩
theorem b1W{s:As}{a b:lw}{x:Te}(h:y7 EX (.loop uk) (jR s a b 0) .ret (FU x a b)):j5 116 [.dt (.row (N9 s)),p8 a b] (.l7 [o6 x,l5 true]) :=
 pW [] [.inv [0,3,4,6] 2 (.ret) (FU x a b)] [_] func116 ⟨h,Z⟩
theorem b1X{s:As}{a b:lw}{k:Int}(h:y7 EX (.loop uk) (jR s a b 0) (.out 0) (jR s a b k)):j5 116 [.dt (.row (N9 s)),p8 a b] (.l7 [o6 F4,l5 false]) :=
 pW [] [.inv [0,3,4,6] 2 (.out 0) (jR s a b k)] [_] func116 ⟨h,Z⟩
theorem a6R{L:As}{a b:lw}(hl:L.length≤1000):∀(s:As) (i:Nat),L.drop i=s→i≤L.length →
  (aF s a b=none→I7 EX uk (jR L a b i) (.out 0) (jR L a b L.length))∧(∀t,aF s a b=some t→I7 EX uk (jR L a b i) .ret (FU t a b)):=by
 intro s
 induction s with
 |nil =>
  intro i hd hi;have e1:=congrArg List.length hd;rw[ut,List.length_nil]at e1;obtain rfl:i=L.length:=J;exact⟨fun _=>.stop (b44 rfl) (fun h=>by cases h),fun t h=>by cases h⟩
 |cons x s ih =>
  intro i hd hi;have hx:L[i]?=some x:=by rw[←Za1,hd];rfl
  have hlt:=(UV.1 hx).1;obtain⟨h1,h2⟩:=ih (i+1) (by rw[←Za0,hd];rfl) hlt;rw[aF];by_cases hc:x.1.np=a∧x.1.nn=b
  ·rw[Ch hc];exact⟨fun h=>(by cases h),fun t h=>by cases h;exact .stop (b43 hx hc) (fun h=>by cases h)⟩
  ·rw[EQ hc];exact⟨fun h=>.more (YE hx hl hc) (h1 h),fun t h=>.more (YE hx hl hc) (h2 t h)⟩
theorem a6S{s:As}{a b:lw}(hl:s.length≤1000):(aF s a b=none→j5 116 [.dt (.row (N9 s)),p8 a b] (.l7 [o6 F4,l5 false]))∧(∀t,aF s a b=some t→j5 116 [.dt (.row (N9 s)),p8 a b] (.l7 [o6 t,l5 true])):=by
 obtain⟨h1,h2⟩:=a6R (a:=a) (b:=b) hl s 0 rfl (Ci _);exact⟨fun h=>b1X (h1 h).I8,fun t h=>b1W (h2 t h).I8⟩
end Go.Proofs.YtbpmpdadppamgaaGreatDoor
