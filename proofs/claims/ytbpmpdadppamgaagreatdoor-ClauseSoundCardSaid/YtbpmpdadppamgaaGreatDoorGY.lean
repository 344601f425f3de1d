/- Formula of both texts; ClauseFormula. -/
import Derived.Test.YtbpmpdadppamgaaGreatDoorGX
set_option maxRecDepth 100000
set_option maxHeartbeats 4000000
namespace Go.Proofs.YtbpmpdadppamgaaGreatDoor
open Go.Proofs.Tryz
open Go.RowKit
open Te
abbrev Ga:Tr:=Tr.sym o9 [116]
def bB:List Te→Te
 |[]=>noT
 |[x]=>x
 |x::y::r=>Te.ap x8 [x,r9,bB (y::r)]
theorem Yd(p:Te)(r:List Te):C8 (p::r)=.dt (.row (o8 p::r.map Te.enc)):=by
 show AV.dt (.row (p.enc::r.map Te.enc))=_;rw[mf]
theorem b7e(p:Te)(rs:aa0)(h:∀x∈rs,x.length=11):bV (o8 p::rs) 11 ((some (1:Int)).getD 0) ((none:Option Int).getD ((o8 p::rs).length:Int)) rs :=
 ⟨by show (0:Int)≤1;omega,by show (1:Int)≤((rs.length+1:Nat):Int);omega,Int.le_refl _,by
  show rs=List.drop 1 (List.take (((rs.length+1:Nat):Int)).toNat (o8 p::rs));rw[Int.toNat_natCast,Za2 I];rfl,.inr fun x hx=>by
  rcases Za3.1 hx with rfl | hx
  ·rfl
  ·exact h x hx⟩
theorem b7f(r:List Te):∀x∈r.map Te.enc,x.length=11:=fun x hx=>by
 obtain⟨y,_,rfl⟩:=Zaw.1 hx;rw[mf];rfl
theorem b4E:j5 20 [C8 []] (o6 noT) :=
 pV [.no,.no,.av (o7 K8),.av (o6 noT)] [_,j5 51 [(o7 K8)] (.agg [(j4 2),(stA noT.np),(stA noT.nn),(j4 2),(stA noT.val.num),(stA noT.val.den),(stA noT.val.sp),(stA noT.val.sn),(stA noT.val.text),(.dt (.row (List.map Ob.enc noT.val.pair))),(.dt (.row (List.map Te.enc noT.args)))])] func20 ⟨lY,ku K8,Z⟩
theorem b4F{x:Te}:j5 20 [.dt (.row [o8 x])] (o6 x) :=
 pV (nK 5 []) [] func20 trivial
theorem b4G{x y t:Te}{rs:aa0}(hr:∀x∈rs,x.length=11)(hl:rs.length≤1000)(h:j5 20 [.dt (.row (o8 y::rs))] (o6 t)):j5 20 [.dt (.row (o8 x::o8 y::rs))] (o6 (Te.ap x8 [x,r9,t])) :=
 pV [.av (j4 (rs.length+2:Nat)),yF,.av (j4 (rs.length+2:Nat)),yF,.no,.av (o7 tO),.av (o6 r9),.av (.dt (.row (o8 y::rs))),.av (o6 t),.av (o6 (Te.ap x8 [x,r9,t]))] [(vi (↑(rs.length+2)))=(vi (↑(o8 x::o8 y::rs).length)),Bk .eql 3 4 0 (↑(rs.length+2)) bF,(vi (↑(rs.length+2)))=(vi (↑(o8 x::o8 y::rs).length)),Bk .eql 3 9 1 (↑(rs.length+2)) bF,_,j5 51 [(o7 tO)] (.agg [(j4 2),(stA r9.np),(stA r9.nn),(j4 2),(stA r9.val.num),(stA r9.val.den),(stA r9.val.sp),(stA r9.val.sn),(stA r9.val.text),(.dt (.row (List.map Ob.enc r9.val.pair))),(.dt (.row (List.map Te.enc r9.args)))]),bV (o8 x::o8 y::rs) 11 ((some 1).getD 0) (none.getD ↑(o8 x::o8 y::rs).length) (o8 y::rs),(none:Option Int)=none∨(none:Option Int)=none,_,j5 27 [(stA [105,102]),(.dt (.row [o8 x,[(.val (vi 2)),(.val (str r9.np)),(.val (str r9.nn)),(.val (vi 2)),(.val (str r9.val.num)),(.val (str r9.val.den)),(.val (str r9.val.sp)),(.val (str r9.val.sn)),(.val (str r9.val.text)),(.row (List.map Ob.enc r9.val.pair)),(.row (List.map Te.enc r9.args))],o8 t]))] (o6 (ap x8 [x,r9,t]))] func20 ⟨rfl,C9 (WF J),rfl,C9 (WF J),tH,ku tO,b7e x (o8 y::rs) (fun z hz=>by
  rcases Za3.1 hz with rfl | hz
  ·rfl
  ·exact hr z hz),.inl rfl,h,Di x8 x r9 t,Z⟩
theorem TH:∀(c:List Te),c.length≤1000→j5 20 [C8 c] (o6 (bB c))
 |[],_=>b4E
 |[x],_=>by rw[show C8 [x]=.dt (.row [o8 x]) by unfold C8;rw[gp]];exact b4F
 |x::y::r,h=>by
  have ih:=TH (y::r) (by simp only[yM]at h ⊢;omega);rw[Yd]at ih;rw[Yd,Zaq,mf,bB];exact b4G (b7f r) (by simp only[yM]at h;rw[Cc];omega) ih
abbrev om(c:List Te)(t:Te)(i:Int):AS:=⟨stt 31 [(0,C8 c),(2,.ptr 0 0),(3,.ptr 1 0),(4,j4 i)],[FQ,some (.cells ((o8 t).map .dt))]⟩
noncomputable abbrev Fw:Code:=M6 (O4 f17) [1,1,1,0,1,0,0]
theorem b4H{c:List Te}{x t:Te}{i:Nat}(hx:c[i]?=some x)(hl:c.length≤1000):y7 EX Fw (om c t i) .F6 (om c (Te.ap x8 [x,r9,t]) ((i:Int) - 1)) :=
 have hi:=(UV.1 hx).1
 tW [yT,.av (.pin ((o8 x).map .dt)),.av (o6 r9),.av (o6 (Te.ap x8 [x,r9,t])),.av (j4 ((i:Int) - 1))] [] [0,2,3,4] 2 [Bk .geq 3 18 0 ↑i bT,z8 (List.map Te.enc c) ↑i 11 (o8 x),j5 46 [(l5 true)] (.agg [(j4 2),(stA r9.np),(stA r9.nn),(j4 2),(stA r9.val.num),(stA r9.val.den),(stA r9.val.sp),(stA r9.val.sn),(stA r9.val.text),(.dt (.row (List.map Ob.enc r9.val.pair))),(.dt (.row (List.map Te.enc r9.args)))]),j5 47 [(stA [105,102]),(.dt (.row [o8 x,[(.val (vi 2)),(.val (str r9.np)),(.val (str r9.nn)),(.val (vi 2)),(.val (str r9.val.num)),(.val (str r9.val.den)),(.val (str r9.val.sp)),(.val (str r9.val.sn)),(.val (str r9.val.text)),(.row (List.map Ob.enc r9.val.pair)),(.row (List.map Te.enc r9.args))],o8 t]))] (o6 (ap x8 [x,r9,t])),Bk .sub 3 20 1 ↑i (vi (↑i - 1))] ⟨U0 (Pi J),M5 hx,ko true,jF x8 x r9 t,bL rfl J J,Z⟩
theorem b4I{c:List Te}{t:Te}:y7 EX Fw (om c t (-1)) (.out 0) (om c t (-1)) :=
 tW [yF] [] [0,2,3,4] 2 [Bk .geq 3 18 0 (-1) bF] ⟨U0 (WF J),Z⟩
theorem a6y{x:Te}{l:List Te}(h:l≠[]):bB (x::l)=Te.ap x8 [x,r9,bB l]:=by
 cases l with
 |nil=>exact absurd rfl h
 |cons y r=>rfl
theorem a6z{c:List Te}(hl:c.length≤1000):∀k:Nat,k < c.length→I7 EX Fw (om c (bB (c.drop k)) ((k:Int) - 1)) (.out 0) (om c (bB c) (-1)):=by
 intro k
 induction k with
 |zero =>
  intro h;exact .stop b4I (fun h=>by cases h)
 |succ k ih =>
  intro h;have hx:c[k]?=some c[k]:=ww J;have hd:c.drop k=c[k]::c.drop (k+1):=ZaC J;have hne:c.drop (k+1)≠[]:=fun e=>by
   have:=congrArg List.length e;rw[ut,List.length_nil]at this;omega
  have hs:=b4H (t:=bB (c.drop (k+1))) hx hl;rw[←a6y hne,←hd]at hs;have e:(((k+1:Nat):Int)) - 1=(k:Int):=J;rw[e];exact .more hs (ih J)
theorem b4J:j5 17 [C8 []] (o6 noT) :=
 pV [.no,.no,.av (o6 noT)] [j5 46 [(l5 false)] (.agg [(j4 2),(stA noT.np),(stA noT.nn),(j4 2),(stA noT.val.num),(stA noT.val.den),(stA noT.val.sp),(stA noT.val.sn),(stA noT.val.text),(.dt (.row (List.map Ob.enc noT.val.pair))),(.dt (.row (List.map Te.enc noT.args)))])] func17 ⟨ko false,Z⟩
theorem b4K{c:List Te}{x t:Te}(h0:1≤c.length)(hl:c.length≤1000)(hx:z8 (c.map Te.enc) ((c.length:Int) - 1) 11 (o8 x))(h:y7 EX (.loop Fw) (om c x ((c.length:Int) - 2)) (.out 0) (om c t (-1))):j5 17 [C8 c] (o6 t) :=
 pW [.av (j4 c.length),yF,.av (j4 c.length),.av (j4 ((c.length:Int) - 1)),.av (.pin ((o8 x).map .dt)),.av (j4 c.length),.av (j4 ((c.length:Int) - 2))] [.inv [0,2,3,4] 2 (.out 0) (om c t (-1))] [(vi ↑c.length)=(vi (↑(List.map Te.enc c).length)),Bk .eql 3 6 0 ↑c.length bF,(vi ↑c.length)=(vi (↑(List.map Te.enc c).length)),Bk .sub 3 11 1 ↑c.length (vi (↑c.length - 1)),_,(vi ↑c.length)=(vi (↑(List.map Te.enc c).length)),Bk .sub 3 16 2 ↑c.length (vi (↑c.length - 2)),_] func17 ⟨F9 _,C9 (WF J),F9 _,bL rfl J J,hx,F9 _,bL rfl J J,h,Z⟩
theorem a7a{c:List Te}(hl:c.length≤1000):j5 17 [C8 c] (o6 (bB c)):=by
 by_cases h0:c.length=0
 ·obtain rfl:c=[]:=q9 h0;exact b4J
 ·have hlt:c.length - 1 < c.length:=J;have hx:c[c.length - 1]?=some c[c.length - 1]:=ww hlt;have hi:=M5 hx;rw[show ((c.length - 1:Nat):Int)=(c.length:Int) - 1 by omega]at hi
  have k:=(a6z hl (c.length - 1) hlt).I8;have hd:c.drop (c.length - 1)=[c[c.length - 1]]:=by
   rw[ZaC hlt,Zah J]
  rw[hd,show ((c.length - 1:Nat):Int) - 1=(c.length:Int) - 2 by omega]at k
  exact b4K J hl hi k
theorem Td{env:D7}{t:Te}{s:Nat}{y:Tr}(h:bP env t s=.ok y){f l:Nat}(h1:s≤l)(h2:l≤f):∃l',ev G5 f env t l=(.ok y,l')∧l - s≤l':=by
 unfold bP at h;cases hv:ev G5 s env t s with
 |mk r l1 =>
  rw[hv]at h;dsimp only at h;subst h;have:=a9l G5 s env t s y l1 (l - s) f (PP _) J hv;rw[show s+(l - s)=l by omega]at this
  exact⟨_,this,J⟩
theorem Du{env:D7}{t:Te}{s:Nat}{e:Int}(ht:Wd t)(he:dE env)(h:bP env t s=.error e):e≠0:=by
 unfold bP at h;cases hv:ev G5 s env t s with
 |mk r l1 =>
  rw[hv]at h;dsimp only at h;subst h;exact (kP s env t s ht he).2 e l1 hv
theorem Rz{env:D7}(he:dE env):∀(c:List Te) (f l:Nat) (a:Bool) (x:Tr) (l':Nat),(∀t∈c,Wd t)→l≤f→300+301 * c.length≤l→V5 env 300 c=(a,0)→ev G5 f env (bB c) l=(.ok x,l')→a=!decide (x=l6)
 |[],f,l,a,x,l',_,_,_,hc,hx=>by
  rw[V5]at hc;cases hc;rw[bB,show noT=Te.H9 l6.ob from rfl,qg]at hx
  cases hx;rfl
 |[t],f,l,a,x,l',hw,hf,hl,hc,hx=>by
  rw[V5]at hc;rw[bB]at hx;cases hv:bP env t 300 with
  |error e =>
   rw[hv]at hc;have:=Du (hw t (NE ..)) he hv;simp only[Zaz]at hc;exact absurd hc.2 this
  |ok y =>
   rw[hv]at hc;obtain⟨l2,h1,_⟩:=Td hv (f:=f) (l:=l) J hf;rw[h1]at hx;cases hx;dsimp only at hc;by_cases hy:x=l6
   ·rw[Ch hy,V5]at hc;cases hc;rw[Pi hy];rfl
   ·rw[EQ hy]at hc;cases hc;rw[WF hy];rfl
 |t::u::r,f,l,a,x,l',hw,hf,hl,hc,hx=>by
  rw[V5]at hc;rw[bB]at hx;simp only[yM]at hl;cases l with
  |zero=>omega
  |succ l =>
   cases f with
   |zero=>omega
   |succ f =>
    have q1:300≤l:=J;have q2:l≤f:=J;have q4:300+301 * (r.length+1)≤l - 300:=J;rw[zB]at hx;unfold jS at hx;rw[Ch ⟨rfl,rfl,rfl,rfl⟩]at hx;have a0:(Te.ap x8 [t,r9,bB (u::r)]).arg 0=t:=rfl;have a1:(Te.ap x8 [t,r9,bB (u::r)]).arg 1=Te.H9 Ga.ob:=rfl;have a2:(Te.ap x8 [t,r9,bB (u::r)]).arg 2=bB (u::r):=rfl;rw[a0,a1,a2]at hx;cases hv:bP env t 300 with
    |error e =>
     rw[hv]at hc;have:=Du (hw t (NE ..)) he hv;simp only[Zaz]at hc;exact absurd hc.2 this
    |ok y =>
     rw[hv]at hc;obtain⟨l2,h1,h2⟩:=Td hv (f:=f) (l:=l) q1 q2;have hle:=mq G5 f env t l;rw[h1]at hx hle;have hle:l2≤l:=hle;dsimp only at hc hx;by_cases hy:y=l6
     ·rw[Ch hy]at hc hx;exact Rz he (u::r) f l2 a x l' (fun z hz=>hw z (Cg _ hz)) (pu hle q2) (pu q4 h2) hc hx
     ·rw[EQ hy]at hc hx;rw[qg]at hx;cases hx;cases hc;rfl
end Go.Proofs.YtbpmpdadppamgaaGreatDoor
