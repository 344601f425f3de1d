/- Matching in the code: lookup. -/
import Derived.Test.YtbpmpdadppamgaaGreatDoorGV
import Derived.Test.YtbpmpdadppamgaaGreatDoorGP
namespace Go.Proofs.YtbpmpdadppamgaaGreatDoor
open Go.Proofs.Tryz
open Go.RowKit
open Te
abbrev N9(s:As):aa0:=s.map fun x=>di x.1 x.2
theorem Rv(s:As)(p t:Te):N9 s++[di p t]=N9 (s++[(p,t)]):=by unfold N9;rw[Zam];rfl
structure V6 where
 q:Te
 t:Te
 A:Option Addr
 n:Nat
 c:Nat
 B:Option Addr
 m:Nat
 d:Nat
abbrev V6.row(x:V6):List Dt:=[.val (str x.q.np),.val (str x.q.nn),.val (.int .i64 x.t.kind),.val (str x.t.np),.val (str x.t.nn),.val (.int .i64 x.t.val.kind),.val (str x.t.val.num),.val (str x.t.val.den),.val (str x.t.val.sp),.val (str x.t.val.sn),.val (str x.t.val.text),.val (.slice x.A x.n x.c),.val (.slice x.B x.m x.d)]
abbrev V6.te(x:V6):AV:=.agg [j4 x.t.kind,stA x.t.np,stA x.t.nn,j4 x.t.val.kind,stA x.t.val.num,stA x.t.val.den,stA x.t.val.sp,stA x.t.val.sn,stA x.t.val.text,.dt (.val (.slice x.A x.n x.c)),.dt (.val (.slice x.B x.m x.d))]
def V6.ok(F:Nat→Prop)(w:World)(x:V6):Prop:=Rd F w (.slice x.A x.n x.c) (.row (x.t.val.pair.map Ob.enc))∧Rd F w (.slice x.B x.m x.d) (.row (x.t.args.map Te.enc))
abbrev V6.pr(x:V6):Te×Te:=(x.q,x.t)
theorem cO{M M':Mm}{w w':World}{x v:Value}(h:RV M w (.dt (.val x)) v):RV M' w' (.dt (.val x)) v:=by
 obtain rfl:v=x:=Rd.Q7 h;exact Rd.val _
theorem V6.rv{F:Nat→Prop}{M:Mm}{w:World}{x:V6}{v:Value}(hx:x.ok M.F w)(h:RV (M0 F) w x.te v):RV M w (o6 x.t) v:=by
 obtain⟨_,rfl,u0,_,rfl,h0,u1,_,rfl,h1,u2,_,rfl,h2,u3,_,rfl,h3,u4,_,rfl,h4,u5,_,rfl,h5,u6,_,rfl,h6,u7,_,rfl,h7,u8,_,rfl,h8,u9,_,rfl,h9,ua,_,rfl,ha,rfl⟩:=h;obtain rfl:u9=.slice x.A x.n x.c:=Rd.Q7 h9;obtain rfl:ua=.slice x.B x.m x.d:=Rd.Q7 ha;exact⟨_,rfl,_,_,rfl,cO h0,_,_,rfl,cO h1,_,_,rfl,cO h2,_,_,rfl,cO h3,_,_,rfl,cO h4,_,_,rfl,cO h5,_,_,rfl,cO h6,_,_,rfl,cO h7,_,_,rfl,cO h8,_,_,rfl,hx.1,_,_,rfl,hx.2,rfl⟩
theorem exL{α β:Type}:∀(s:List α) (R:Nat→α→β→Prop),(∀i (hi:i < s.length),∃b,R i s[i] b)→∃L:List β,L.length=s.length∧∀i (hi:i < s.length) (hj:i < L.length),R i s[i] L[i]
 |[],_,_=>⟨[],rfl,fun i hi=>absurd hi I⟩
 |x::s,R,h=>by
  obtain⟨b,hb⟩:=h 0 I;obtain⟨L,h1,h2⟩:=exL s (fun i=>R (i+1)) fun i hi=>h (i+1) (by simp;omega)
  refine⟨b::L,by simp[h1],fun i hi hj=>?_⟩;cases i with
  |zero=>exact hb
  |succ i=>exact h2 i (by simpa using hi) (by simpa using hj)
section
variable {F:Nat→Prop} {w:World} {base:Nat} {E:TypeId} {A:Option Addr} {n c:Nat}
theorem ah.F5{s:As}(h:ah F w base E 13 A n c (N9 s)):∃L:List V6,L.map V6.pr=s∧(∀x∈L,x.ok F w)∧Rd (fun b=>A=some ⟨b,0,none⟩) w (.slice A n c) (.row (L.map V6.row)):=by
 obtain⟨xs,⟨hx,ho⟩,he⟩:=h.own;have hlen:=h.len;have hl2:(N9 s).length=s.length:=by unfold N9;rw[Cc]
 obtain⟨L,h1,h2⟩:=exL s (fun i a (b:V6)=>b.pr=a∧b.ok F w∧∀j d,b.row[j]?=some d→∃u,xs[i * 13+j]?=some u∧d=.val u) fun i hi=>by
  have hi2:i < (N9 s).length:=by rw[hl2];exact hi
  have key:∀j d,(di s[i].1 s[i].2)[j]?=some d→∃u,xs[i * 13+j]?=some u∧Rd F w u d:=fun j d hd=>by
   have e:(N9 s)[i]=di s[i].1 s[i].2:=List.getElem_map ..;rw[←e]at hd;obtain⟨hj,rfl⟩:=UV.1 hd;obtain⟨u,k1,k2⟩:=(he i hi2).2 j hj;exact⟨u,k1,k2.mono fun b hb _=>hb.1⟩
  have kv:∀j x,(di s[i].1 s[i].2)[j]?=some (.val x)→xs[i * 13+j]?=some x:=fun j x hd=>by
   obtain⟨u,k1,k2⟩:=key j _ hd;rw[k1,k2.Q7]
  obtain⟨u,k1,k2⟩:=key 11 _ rfl;obtain⟨A1,n1,c1,rfl,_⟩:=k2.slice;obtain⟨v,k3,k4⟩:=key 12 _ rfl;obtain⟨B1,m1,d1,rfl,_⟩:=k4.slice;refine⟨⟨s[i].1,s[i].2,A1,n1,c1,B1,m1,d1⟩,rfl,⟨k2,k4⟩,fun j d hd=>?_⟩
  match j,hd with
  |0,hd=>exact⟨_,kv 0 _ rfl,(Zao hd).symm⟩
  |1,hd=>exact⟨_,kv 1 _ rfl,(Zao hd).symm⟩
  |2,hd=>exact⟨_,kv 2 _ rfl,(Zao hd).symm⟩
  |3,hd=>exact⟨_,kv 3 _ rfl,(Zao hd).symm⟩
  |4,hd=>exact⟨_,kv 4 _ rfl,(Zao hd).symm⟩
  |5,hd=>exact⟨_,kv 5 _ rfl,(Zao hd).symm⟩
  |6,hd=>exact⟨_,kv 6 _ rfl,(Zao hd).symm⟩
  |7,hd=>exact⟨_,kv 7 _ rfl,(Zao hd).symm⟩
  |8,hd=>exact⟨_,kv 8 _ rfl,(Zao hd).symm⟩
  |9,hd=>exact⟨_,kv 9 _ rfl,(Zao hd).symm⟩
  |10,hd=>exact⟨_,kv 10 _ rfl,(Zao hd).symm⟩
  |11,hd=>exact⟨_,k1,(Zao hd).symm⟩
  |12,hd=>exact⟨_,k3,(Zao hd).symm⟩
  |j+13,hd=>cases hd
 refine⟨L,List.ext_getElem (by rw[Cc,h1]) fun i hi hj=>?_,fun x hx=>?_,?_⟩
 ·rw[List.getElem_map];exact (h2 i hj (by rw[h1];exact hj)).1
 ·obtain⟨i,hi,rfl⟩:=List.getElem_of_mem hx;exact (h2 i (by rw[←h1];exact hi) hi).2.1
 ·rcases Zaa n with h0 | h0
  ·subst h0;obtain rfl:L=[]:=q9 J;exact .nil _ _
  ·rcases ho with⟨_,h3⟩ | ⟨g,cap,cur,hv,hbg,hg,hnc,hcm,hcs,ht⟩
   ·omega
   ·simp only[Za6]at hv;obtain⟨rfl,_,rfl⟩:=hv;refine Rd.mk (k:=13) (by rw[Cc];omega) hnc ?_ rfl (fun i hi=>by rw[List.getElem_map];rfl) (fun i j hi hj=>?_)
    ·rcases Za5 g w.heap.size with hlt | hge
     ·exact hlt
     ·rw[Zax hge]at hg;cases hg
    ·rw[Cc]at hi;have e:(L.map V6.row)[i]=(L[i]).row:=List.getElem_map ..;have hd:(L[i]).row[j]?=some ((L.map V6.row)[i])[j]:=by rw[←e];exact ww hj
     obtain⟨u,k1,k2⟩:=(h2 i J hi).2.2 j _ hd;refine⟨u,?_,?_⟩
     ·have hj':j < 13:=by have:=(UV.1 hd).1;exact this
      have hlt:i * 13+j < n * 13:=J;have e:cur[i * 13+j]?=some u:=by
       rw[←k1,←ht,List.getElem?_take_of_lt hlt];simp
      simp[World.cell?,hg,Nat.zero_add,e]
     ·rw[k2];exact .val _
end
theorem aV.Tx{f:FuncId}{p n:lw}{s:As}{T:TypeId}{r:AV}(h:∀L:List V6,L.map V6.pr=s→∃z,j5 f [.dt (.row (L.map V6.row)),p8 p n] z∧∀(M:Mm) (F:Nat→Prop) (w:World) (v:Value),(∀x∈L,x.ok M.F w)→RV (M0 F) w z v→RV M w r v):D6 f [.own 0 s.length,p8 p n] [some (.buf T 13 (N9 s))] r [some (.buf T 13 (N9 s))]:=by
 refine⟨(h (s.map fun x=>⟨x.1,x.2,none,0,0,none,0,0⟩) (by rw[List.map_map];exact List.map_id _)).choose_spec.1.1,fun X M w vs hG hS hargs=>?_⟩;obtain⟨A,n1,c1,ho,hd⟩:=hS.box 0 _ rfl;obtain⟨L,h1,h2,h3⟩:=hd.F5;obtain⟨z,hz,hr⟩:=h L h1;obtain⟨u,us,rfl,⟨A',c',A2,n2,c2,rfl,e2,e3,e4⟩,u2,us2,rfl,⟨_,rfl,x0,_,rfl,k0,x1,_,rfl,k1,rfl⟩,rfl⟩:=hargs;rw[ho]at e2;cases e2;have hn:s.length=n1:=by have:=hd.len;rw[Cc]at this;exact this
 obtain⟨rfl,rfl⟩:=e4 hn;subst hn;have hz2:=hz.2 (fun b=>A'=some ⟨b,0,none⟩) w [.slice A' s.length c',.agg #[x0,x1]] (hG w (W9.refl _ _ _)) ⟨_,_,rfl,h3,_,_,rfl,⟨[x0,x1],rfl,_,_,rfl,cO k0,_,_,rfl,cO k1,rfl⟩,rfl⟩;refine hz2.mono fun e w' ⟨v,e1,hb,hv⟩=>?_
 have hg:P5 X w.heap.size M w M w':=⟨W9.of hb,fun b _ hl=>hb.block b hl,fun _ h _=>h,fun _ _ h=>h,fun _=>nI rfl⟩;refine⟨v,M,e1,hg,hS.grow hg rfl rfl (fun q k x hk hq=>hb.block q (hS.dom k x q hk hq).2.1) (fun q hq=>⟨kw (hS.fz q hq) hb.size,.inl hq⟩),fun b hb=>.inl hb,hr M _ w' v (fun x hx=>?_) hv⟩;exact⟨Rd.go hg (h2 x hx).1,Rd.go hg (h2 x hx).2⟩
abbrev nP(L:List V6):aa0:=L.map V6.row
theorem Ty{L:List V6}{i:Nat}{x:V6}(h:L[i]?=some x):z8 (nP L) (i:Int) 13 x.row:=⟨Int.natCast_nonneg _,by
 rw[Int.toNat_natCast,bi,h];rfl,rfl⟩
theorem Xk(L:List V6):Value.int .i64 (L.length:Int)=Value.int .i64 ((nP L).length:Int):=by rw[Cc]
abbrev jP(L:List V6)(a b:lw)(i:Int):AS:=⟨stt 22 [(3,.ptr 0 0),(4,.ptr 1 0),(5,l5 false),(8,.dt (.row (nP L))),(9,j4 L.length),(10,j4 i)],[some (.cells [stA a,stA b]),FQ]⟩
abbrev FR(x:V6)(a b:lw):AS:=⟨stt 22 [(4,.ptr 1 0),(5,l5 true)],[some (.cells [stA a,stA b]),some (.cells [j4 x.t.kind,stA x.t.np,stA x.t.nn,j4 x.t.val.kind,stA x.t.val.num,stA x.t.val.den,stA x.t.val.sp,stA x.t.val.sn,stA x.t.val.text,.dt (.val (.slice x.A x.n x.c)),.dt (.val (.slice x.B x.m x.d))])]⟩
noncomputable abbrev ui:Code:=M6 (O4 f189) [1,0,1,0,0]
theorem YA{L:List V6}{a b:lw}{x:V6}{i:Nat}(hx:L[i]?=some x)(hl:L.length≤1000)(h:¬(x.q.np=a∧x.q.nn=b)):y7 EX ui (jP L a b i) .F6 (jP L a b ((i+1:Nat):Int)) :=
 have hi:=(UV.1 hx).1
 tW [yT,.av (.pin (x.row.map .dt)),yF,.av (j4 ((i+1:Nat):Int))] [] [3,4,5,8,9,10] 2 [Bt .lss 3 10 9 ↑i ↑L.length bT,z8 (nP L) ↑i 13 ([(.val (str x.q.np)),(.val (str x.q.nn)),(.val (vi x.t.kind)),(.val (str x.t.np)),(.val (str x.t.nn)),(.val (vi x.t.val.kind)),(.val (str x.t.val.num)),(.val (str x.t.val.den)),(.val (str x.t.val.sp)),(.val (str x.t.val.sn)),(.val (str x.t.val.text)),(.val (Value.slice x.A x.n x.c)),(.val (Value.slice x.B x.m x.d))]),Bn .eql 42 (.tmp 15) (.tmp 16) (Value.agg #[str x.q.np,str x.q.nn]) (Value.agg #[str a,str b]) bF,Bk .add 3 10 1 ↑i (vi (↑(i+1)))] ⟨D8 (Pi J),Ty hx,ae (zy h),H6 J J J,Z⟩
theorem b4Y{L:List V6}{a b:lw}{x:V6}{i:Nat}(hx:L[i]?=some x)(h:x.q.np=a∧x.q.nn=b):y7 EX ui (jP L a b i) .ret (FR x a b) :=
 have hi:=(UV.1 hx).1
 tW [yT,.av (.pin (x.row.map .dt)),yT] [] [4,5] 2 [Bt .lss 3 10 9 ↑i ↑L.length bT,z8 (nP L) ↑i 13 ([(.val (str x.q.np)),(.val (str x.q.nn)),(.val (vi x.t.kind)),(.val (str x.t.np)),(.val (str x.t.nn)),(.val (vi x.t.val.kind)),(.val (str x.t.val.num)),(.val (str x.t.val.den)),(.val (str x.t.val.sp)),(.val (str x.t.val.sn)),(.val (str x.t.val.text)),(.val (Value.slice x.A x.n x.c)),(.val (Value.slice x.B x.m x.d))]),Bn .eql 42 (.tmp 15) (.tmp 16) (Value.agg #[str x.q.np,str x.q.nn]) (Value.agg #[str a,str b]) bT] ⟨D8 (Pi J),Ty hx,ae (sD h),Z⟩
theorem b4Z{L:List V6}{a b:lw}{i:Nat}(hi:i=L.length):y7 EX ui (jP L a b i) (.out 0) (jP L a b i) :=
 tW [yF] [] [3,4,5,8,9,10] 2 [Bt .lss 3 10 9 ↑i ↑L.length bF] ⟨D8 (WF J),Z⟩
theorem b1O{L:List V6}{a b:lw}{x:V6}(h:y7 EX (.loop ui) (jP L a b 0) .ret (FR x a b)):j5 189 [.dt (.row (nP L)),p8 a b] (.l7 [x.te,l5 true]) :=
 pW [.av (j4 L.length)] [.inv [3,4,5,8,9,10] 2 (.ret) (FR x a b)] [(vi ↑L.length)=(vi (↑(nP L).length)),_] func189 ⟨Xk _,h,Z⟩
theorem b1P{L:List V6}{a b:lw}(h:y7 EX (.loop ui) (jP L a b 0) (.out 0) (jP L a b L.length)):j5 189 [.dt (.row (nP L)),p8 a b] (.l7 [o6 F4,l5 false]) :=
 pW [.av (j4 L.length)] [.inv [3,4,5,8,9,10] 2 (.out 0) (jP L a b L.length)] [(vi ↑L.length)=(vi (↑(nP L).length)),_] func189 ⟨Xk _,h,Z⟩
theorem Tz{L:List V6}{a b:lw}(hl:L.length≤1000):∀(s:List V6) (i:Nat),L.drop i=s→i≤L.length →
  (aF (s.map V6.pr) a b=none→I7 EX ui (jP L a b i) (.out 0) (jP L a b L.length))∧(∀t,aF (s.map V6.pr) a b=some t→∃x∈L,x.t=t∧I7 EX ui (jP L a b i) .ret (FR x a b)):=by
 intro s
 induction s with
 |nil =>
  intro i hd hi;have e1:=congrArg List.length hd;rw[ut,List.length_nil]at e1;obtain rfl:i=L.length:=J;exact⟨fun _=>.stop (b4Z rfl) (fun h=>by cases h),fun t h=>by cases h⟩
 |cons x s ih =>
  intro i hd hi;have hx:L[i]?=some x:=by rw[←Za1,hd];rfl
  have hlt:=(UV.1 hx).1;obtain⟨h1,h2⟩:=ih (i+1) (by rw[←Za0,hd];rfl) hlt;rw[Zaq,aF];by_cases hc:x.q.np=a∧x.q.nn=b
  ·rw[Ch hc];exact⟨fun h=>(by cases h),fun t h=>⟨x,q8 hx,Zao h,.stop (b4Y hx hc) (fun h=>by cases h)⟩⟩
  ·rw[EQ hc];exact⟨fun h=>.more (YA hx hl hc) (h1 h),fun t h=>by
    obtain⟨y,k1,k2,k3⟩:=h2 t h;exact⟨y,k1,k2,.more (YA hx hl hc) k3⟩⟩
theorem Vo{F F':Nat→Prop}{w w':World}{v:Value}(h:Rd F w v (.row [])):Rd F' w' v (.row []):=by
 obtain⟨A,n,c,rfl,h1,_⟩:=h.slice;obtain rfl:n=0:=h1.symm;exact .nil _ _
theorem a9K{F:Nat→Prop}{M:Mm}{w:World}{v:Value}(h:RV (M0 F) w (.l7 [o6 F4,l5 false]) v):RV M w (.l7 [o6 F4,l5 false]) v:=by
 obtain⟨_,rfl,u,_,rfl,⟨_,rfl,u0,_,rfl,h0,u1,_,rfl,h1,u2,_,rfl,h2,u3,_,rfl,h3,u4,_,rfl,h4,u5,_,rfl,h5,u6,_,rfl,h6,u7,_,rfl,h7,u8,_,rfl,h8,u9,_,rfl,h9,ua,_,rfl,ha,rfl⟩,ub,_,rfl,hb,rfl⟩:=h;exact⟨_,rfl,_,_,rfl,⟨_,rfl,_,_,rfl,cO h0,_,_,rfl,cO h1,_,_,rfl,cO h2,_,_,rfl,cO h3,_,_,rfl,cO h4,_,_,rfl,cO h5,_,_,rfl,cO h6,_,_,rfl,cO h7,_,_,rfl,cO h8,_,_,rfl,Vo h9,_,_,rfl,Vo ha,rfl⟩,_,_,rfl,cO hb,rfl⟩
theorem a6M{s:As}{a b:lw}(hl:s.length≤1000)(h:aF s a b=none)(T:TypeId):D6 189 [.own 0 s.length,p8 a b] [some (.buf T 13 (N9 s))] (.l7 [o6 F4,l5 false]) [some (.buf T 13 (N9 s))] :=
 .Tx fun L hL=>by
  subst hL;have hl':L.length≤1000:=by rw[Cc]at hl;exact hl
  exact⟨_,b1P ((Tz (a:=a) (b:=b) hl' L 0 rfl (Ci _)).1 h).I8,fun M F w v _ hv=>a9K hv⟩
theorem a6N{s:As}{a b:lw}{t:Te}(hl:s.length≤1000)(h:aF s a b=some t)(T:TypeId):D6 189 [.own 0 s.length,p8 a b] [some (.buf T 13 (N9 s))] (.l7 [o6 t,l5 true]) [some (.buf T 13 (N9 s))] :=
 .Tx fun L hL=>by
  subst hL;have hl':L.length≤1000:=by rw[Cc]at hl;exact hl
  obtain⟨x,k1,rfl,k3⟩:=(Tz (a:=a) (b:=b) hl' L 0 rfl (Ci _)).2 t h;refine⟨_,b1O k3.I8,fun M F w v hx hv=>?_⟩;obtain⟨_,rfl,u,_,rfl,h1,u2,_,rfl,h2,rfl⟩:=hv;exact⟨_,rfl,_,_,rfl,V6.rv (hx x k1) h1,_,_,rfl,cO h2,rfl⟩
end Go.Proofs.YtbpmpdadppamgaaGreatDoor
