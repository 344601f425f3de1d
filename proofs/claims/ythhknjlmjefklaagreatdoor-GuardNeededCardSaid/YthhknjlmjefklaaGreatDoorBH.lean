/- Plain walks, second form: values handed to a call: what has grown in the call's own boxes becomes data. -/
import Derived.Test.YthhknjlmjefklaaGreatDoorBG
import Derived.Great.BuildSlice
import Derived.ArgAppend
import Derived.Laws.Slices
import Derived.Laws.BytesString
namespace Go.Proofs.YthhknjlmjefklaaGreatDoor
open Go.RowKit
def I5:List Prop→Prop
 |[]=>True
 |p::ps=>p∧I5 ps
theorem jl:∀{ps qs:List Prop},I5 (ps++qs)→I5 ps∧I5 qs
 |[],_,h=>⟨trivial,h⟩
 |_::_,_,h=>⟨⟨h.1,(jl h.2).1⟩,(jl h.2).2⟩
def bf(b:Nat):List Nat→Nat→Option Nat
 |[],_=>none
 |j::js,i=>match Nat.beq b j with
  |true=>some i
  |false=>bf b js (i+1)
theorem um{b:Nat}:∀{js:List Nat} {k i:Nat},bf b js k=some i→k≤i∧js[i - k]?=some b
 |[],_,_,h=>by cases h
 |j::js,k,i,h=>by
  unfold bf at h;cases e:Nat.beq b j with
  |true =>
   rw[e]at h;cases h;exact⟨NE _,by simp[Zau e]⟩
  |false =>
   rw[e]at h;obtain⟨h1,h2⟩:=um h;refine⟨J,?_⟩;rw[show i - k=(i - (k+1))+1 by omega]
   simpa using h2
mutual
def bK(js:List Nat)(kn:Bool)(bx:Nat→Option Bx)(rec:List AV→Option (List AV×List Prop)):AV→Option (AV×List Prop)
 |.dt d=>some (.dt d,[])
 |.nil=>match kn with
  |true=>some (.nil,[])
  |false=>some (.dt (.row []),[])
 |.aW es=>some (.dt (.row es),[])
 |.own b n=>match bf b js 0 with
  |some i=>some (.own i n,[])
  |none=>match bx b with
   |some (.buf _ _ es)=>some (.dt (.row es),[es.length=n])
   |some (.ay es)=>some (.dt (.row es),[es.length=n])
   |_=>none
 |.sl b n=>match bf b js 0 with
  |some i=>some (.sl i n,[])
  |none=>match bx b with
   |some (.rws _ _ es)=>some (.dt (.row es),[es.length=n])
   |some (.sG es)=>some (.dt (.row es),[es.length=n])
   |_=>none
 |.V4 b=>match bf b js 0 with
  |some i=>some (.V4 i,[])
  |none=>none
 |.ptr b off=>match bf b js 0 with
  |some i=>some (.ptr i off,[])
  |none=>match bx b with
   |some (.cells cs)=>match rec cs with
    |some (cs',ps)=>some (.pin (cs'.drop off),ps)
    |none=>none
   |some (.cst cs)=>some (.pin (cs.drop off),[])
   |_=>none
 |.eX b i k=>match bf b js 0 with
  |some j=>some (.eX j i k,[])
  |none=>none
 |.gl g o=>some (.gl g o,[])
 |.pin cs=>some (.pin cs,[])
 |.agg cs=>match jE js kn bx rec cs with
  |some (cs',ps)=>some (.agg cs',ps)
  |none=>none
 |.o7 cs=>match jE js kn bx rec cs with
  |some (cs',ps)=>some (.o7 cs',ps)
  |none=>none
 |.clo f cs=>match js with
  |[]=>match jE [] false bx rec cs with
   |some (cs',ps)=>some (.ak f cs',ps)
   |none=>none
  |j::js=>match jE (j::js) kn bx rec cs with
   |some (cs',ps)=>some (.clo f cs',ps)
   |none=>none
 |.ak f cs=>some (.ak f cs,[])
 |.un=>none
def jE(js:List Nat)(kn:Bool)(bx:Nat→Option Bx)(rec:List AV→Option (List AV×List Prop)):List AV→Option (List AV×List Prop)
 |[]=>some ([],[])
 |c::cs=>match bK js kn bx rec c,jE js kn bx rec cs with
  |some (c',ps),some (cs',qs)=>some (c'::cs',ps++qs)
  |_,_=>none
end
mutual
def bV(js:List Nat)(bx:Nat→Option Bx)(rec:List AV→List Nat):AV→List Nat
 |.own b _=>match bf b js 0 with
  |some _=>[]
  |none=>[b]
 |.sl b _=>match bf b js 0 with
  |some _=>[]
  |none=>[b]
 |.ptr b _=>match bf b js 0 with
  |some _=>[]
  |none=>match bx b with
   |some (.cells cs)=>b::rec cs
   |_=>[b]
 |.agg cs=>iq js bx rec cs
 |.o7 cs=>iq js bx rec cs
 |.clo _ cs=>iq js bx rec cs
 |_=>[]
def iq(js:List Nat)(bx:Nat→Option Bx)(rec:List AV→List Nat):List AV→List Nat
 |[]=>[]
 |c::cs=>bV js bx rec c++iq js bx rec cs
end
def gQ(bx:Nat→Option Bx):Nat→List AV→Option (List AV×List Prop)
 |0,_=>none
 |n+1,cs=>jE [] false bx (gQ bx n) cs
def kE(bx:Nat→Option Bx):Nat→List AV→List Nat
 |0,_=>[]
 |n+1,cs=>iq [] bx (kE bx n) cs
theorem U1.same{M M':Mm}{w:World}(hF:∀b,M.F b→b < w.heap.size→M'.F b)(hm:∀k g,M.m k=some g→M'.m k=some g)(ho:∀k v,M.o k=some v→M'.o k=some v):U1 (fun _=>False) 0 M w M' w :=
 ⟨aN.refl _ _ _,fun _ _ _=>rfl,hF,hm,fun b A n c h=>⟨A,n,c,ho b _ h,NE _,fun _=>⟨rfl,rfl⟩⟩⟩
theorem RL.zx{F F':Nat→Prop}{w:World}(h:∀q,F q→q < w.heap.size→F' q){cs:List AV}{vs:List Value}(hr:RL (M0 F) w cs vs):RL (M0 F') w cs vs :=
 RL.go (U1.same (M:=M0 F) (M':=M0 F') h (fun _ _ h=>h) (fun _ _ h=>h)) cs vs hr
theorem vz.rd{F F':Nat→Prop}{w:World}{k:Nat}{es:aa1}{vs:List Value}{g:Nat}{T:TypeId}(hB:F5 w g T vs.toArray)(h:vz F w k es vs)(hF:∀q,F q→q < w.heap.size→F' q)(hg:F' g):Rd F' w (.slice (some ⟨g,0,none⟩) es.length es.length) (.row es):=by
 rcases Zas es.length with h0 | h0
 ·obtain rfl:es=[]:=Za9 h0;exact .nil _ _
 ·refine Rd.mk (k:=k) rfl (NE _) hB.lt hg (fun i hi=>(h.2 i hi).1) (fun i j hi hj=>?_);obtain⟨u,h1,_,h2⟩:=(h.2 i hi).2 j hj;refine⟨u,?_,h2.mono hF⟩;rw[ZaH,hB.cell];simpa using h1
section
variable {X:Nat→Prop} {n0:Nat} {M:Mm} {w:World} {bx:Nat→Option Bx} {F1:Nat→Prop}
def Fz(M:Mm)(bx:Nat→Option Bx)(F1:Nat→Prop)(b:Nat):Prop:=∀x,bx b=some x→∀q,Hx M b x q→F1 q
mutual
theorem a99(hS:aG X n0 M bx w)(hF:∀q,M.F q→q < w.heap.size→F1 q){rec:List AV→Option (List AV×List Prop)}{dw:List AV→List Nat}
  (hrec:∀cs cs' ps vs,rec cs=some (cs',ps)→I5 ps→(∀b∈dw cs,Fz M bx F1 b)→RL M w cs vs→RL (M0 F1) w cs' vs):∀(a:AV) (js:List Nat) (kn:Bool) (a':AV) (ps:List Prop) (v:Value) (Mc:Mm),Mc.F=F1→(∀b i,bf b js 0=some i→Mc.m i=M.m b∧Mc.o i=M.o b) →
  bK js kn bx rec a=some (a',ps)→I5 ps→(∀b∈bV js bx dw a,Fz M bx F1 b)→RV M w a v→RV Mc w a' v
 |.dt d,js,kn,a',ps,v,Mc,hc,hj,h,hp,ho,hr=>by
  cases h;show Rd Mc.F w v d;rw[hc];exact Rd.mono hr hF
 |.nil,js,kn,a',ps,v,Mc,hc,hj,h,hp,ho,hr=>by
  simp only[bK]at h;cases kn with
  |true=>cases h;exact hr
  |false =>
   cases h;rw[show v=_ from hr]
   exact Rd.nil _ _
 |.aW es,js,kn,a',ps,v,Mc,hc,hj,h,hp,ho,⟨A,h1,h2⟩=>by
  cases h;show Rd Mc.F w v (.row es);rw[hc];exact h2.mono hF
 |.own b n,js,kn,a',ps,v,Mc,hc,hj,h,hp,ho,⟨A,c,A',n',c',h1,h2,h3,h4⟩=>by
  simp only[bK]at h;simp only[bV]at ho;cases hi:bf b js 0 with
  |some i =>
   rw[hi]at h;cases h;exact⟨A,c,A',n',c',h1,(hj b i hi).2.trans h2,h3,h4⟩
  |none =>
   rw[hi]at h ho;simp only at h;split at h
   ·rename_i e k es hb;cases h;obtain⟨A2,n2,c2,e1,e2⟩:=hS.box b _ hb;rw[h2]at e1;cases e1;have hn:n=n':=hp.1.symm.trans e2.len;obtain⟨rfl,rfl⟩:=h4 hn;subst hn;show Rd Mc.F w v (.row es);rw[hc,h1];refine e2.Ue.mono fun q hq hl=>?_
    rcases hq with hq | hq
    ·exact hF q hq hl
    ·exact ho b (ut.2 rfl) _ hb q ⟨n,c,by rw[←hq];exact h2⟩
   ·rename_i es hb;cases h;obtain⟨A2,n2,c2,e1,e2⟩:=hS.box b _ hb;rw[h2]at e1;cases e1;have hn:n=n':=hp.1.symm.trans e2.len;obtain⟨rfl,rfl⟩:=h4 hn;subst hn;show Rd Mc.F w v (.row es);rw[hc,h1];exact e2.mono hF
   ·cases h
 |.sl b n,js,kn,a',ps,v,Mc,hc,hj,h,hp,ho,⟨g,h1,h2⟩=>by
  simp only[bK]at h;simp only[bV]at ho;cases hi:bf b js 0 with
  |some i =>
   rw[hi]at h;cases h;exact⟨g,(hj b i hi).1.trans h1,h2⟩
  |none =>
   rw[hi]at h ho;simp only at h;split at h
   ·rename_i e k es hb;cases h;obtain⟨g',vs,e1,e2,e3⟩:=hS.box b _ hb;rw[h1]at e1;cases e1;have hn:es.length=n:=hp.1;subst hn;show Rd Mc.F w v (.row es);rw[hc,h2];exact e3.rd e2 hF (ho b (ut.2 rfl) _ hb g h1)
   ·rename_i es hb;cases h;obtain⟨g',e1,e2⟩:=hS.box b _ hb;rw[h1]at e1;cases e1;have hn:es.length=n:=hp.1;subst hn;show Rd Mc.F w v (.row es);rw[hc,h2];exact e2.mono hF
   ·cases h
 |.V4 b,js,kn,a',ps,v,Mc,hc,hj,h,hp,ho,⟨g,h1,h2⟩=>by
  simp only[bK]at h;cases hi:bf b js 0 with
  |some i=>rw[hi]at h;cases h;exact⟨g,(hj b i hi).1.trans h1,h2⟩
  |none=>rw[hi]at h;cases h
 |.ptr b off,js,kn,a',ps,v,Mc,hc,hj,h,hp,ho,⟨g,h1,h2⟩=>by
  simp only[bK]at h;simp only[bV]at ho;cases hi:bf b js 0 with
  |some i=>rw[hi]at h;cases h;exact⟨g,(hj b i hi).1.trans h1,h2⟩
  |none =>
   rw[hi]at h ho;simp only at h;split at h
   ·rename_i cs hb;rw[hb]at ho;split at h
    ·rename_i cs' qs hcs;cases h;obtain⟨g',T,vs,e1,e2,e3⟩:=hS.box b _ hb;rw[h1]at e1;cases e1;have e4:=hrec cs cs' _ vs hcs hp (fun q hq=>ho q (lm _ hq)) e3;refine⟨g,off,vs.drop off,h2,?_,e2.lt,fun j u hj=>?_,?_⟩
     ·rw[hc];exact ho b (PP ..) _ hb g h1
     ·rw[e2.cell];rw[List.getElem?_drop]at hj;simpa using hj
     ·rw[hc];exact e4.drop off
    ·cases h
   ·rename_i cs hb;cases h;obtain⟨g',vs,e1,e2,e3,e4,e5⟩:=hS.box b _ hb;rw[h1]at e1;cases e1;refine⟨g,off,vs.drop off,h2,?_,e3,fun j u hj=>?_,?_⟩
    ·rw[hc];exact hF g e2 e3
    ·rw[List.getElem?_drop]at hj;exact e4 _ u hj
    ·rw[hc];exact (e5.zx hF).drop off
   ·cases h
 |.eX b i k,js,kn,a',ps,v,Mc,hc,hj,h,hp,ho,⟨g,h1,h2⟩=>by
  simp only[bK]at h;cases hi:bf b js 0 with
  |some i=>rw[hi]at h;cases h;exact⟨g,(hj b i hi).1.trans h1,h2⟩
  |none=>rw[hi]at h;cases h
 |.gl g o,js,kn,a',ps,v,Mc,hc,hj,h,hp,ho,hr=>by cases h;exact hr
 |.pin cs,js,kn,a',ps,v,Mc,hc,hj,h,hp,ho,⟨g,o,vs,h1,h2,h3,h4,h5⟩=>by
  cases h;refine⟨g,o,vs,h1,?_,h3,h4,?_⟩
  ·rw[hc];exact hF g h2 h3
  ·rw[hc];exact h5.zx hF
 |.agg cs,js,kn,a',ps,v,Mc,hc,hj,h,hp,ho,⟨vs,h1,h2⟩=>by
  simp only[bK]at h;split at h
  ·rename_i cs' qs hcs;cases h;exact⟨vs,h1,nM hS hF hrec cs js kn cs' _ vs Mc hc hj hcs hp ho h2⟩
  ·cases h
 |.o7 cs,js,kn,a',ps,v,Mc,hc,hj,h,hp,ho,⟨vs,h1,h2⟩=>by
  simp only[bK]at h;split at h
  ·rename_i cs' qs hcs;cases h;exact⟨vs,h1,nM hS hF hrec cs js kn cs' _ vs Mc hc hj hcs hp ho h2⟩
  ·cases h
 |.clo f cs,[],kn,a',ps,v,Mc,hc,hj,h,hp,ho,⟨vs,h1,h2⟩=>by
  simp only[bK]at h;split at h
  ·rename_i cs' qs hcs;cases h;refine⟨vs,h1,?_⟩;rw[hc];exact nM hS hF hrec cs [] false cs' _ vs (M0 F1) rfl (fun b i h=>by cases h) hcs hp ho h2
  ·cases h
 |.clo f cs,j::js,kn,a',ps,v,Mc,hc,hj,h,hp,ho,⟨vs,h1,h2⟩=>by
  simp only[bK]at h;split at h
  ·rename_i cs' qs hcs;cases h;exact⟨vs,h1,nM hS hF hrec cs (j::js) kn cs' _ vs Mc hc hj hcs hp ho h2⟩
  ·cases h
 |.ak f cs,js,kn,a',ps,v,Mc,hc,hj,h,hp,ho,⟨vs,h1,h2⟩=>by
  cases h;refine⟨vs,h1,?_⟩;rw[hc];exact h2.zx hF
 |.un,js,kn,a',ps,v,Mc,hc,hj,h,hp,ho,hr=>by cases h
theorem nM(hS:aG X n0 M bx w)(hF:∀q,M.F q→q < w.heap.size→F1 q){rec:List AV→Option (List AV×List Prop)}{dw:List AV→List Nat}
  (hrec:∀cs cs' ps vs,rec cs=some (cs',ps)→I5 ps→(∀b∈dw cs,Fz M bx F1 b)→RL M w cs vs→RL (M0 F1) w cs' vs):∀(cs:List AV) (js:List Nat) (kn:Bool) (cs':List AV) (ps:List Prop) (vs:List Value) (Mc:Mm),Mc.F=F1→(∀b i,bf b js 0=some i→Mc.m i=M.m b∧Mc.o i=M.o b) →
  jE js kn bx rec cs=some (cs',ps)→I5 ps→(∀b∈iq js bx dw cs,Fz M bx F1 b)→RL M w cs vs→RL Mc w cs' vs
 |[],js,kn,cs',ps,vs,Mc,hc,hj,h,hp,ho,hr=>by cases h;exact hr
 |c::cs,js,kn,cs',ps,vs,Mc,hc,hj,h,hp,ho,⟨u,us,h1,h2,h3⟩=>by
  simp only[jE]at h;split at h
  ·rename_i c1 ps1 cs1 qs1 e1 e2;cases h;obtain⟨hp1,hp2⟩:=jl hp;simp only[iq]at ho;exact⟨u,us,h1,a99 hS hF hrec c js kn c1 _ u Mc hc hj e1 hp1 (fun b hb=>ho b (ZaB _ hb)) h2,nM hS hF hrec cs js kn cs1 _ us Mc hc hj e2 hp2 (fun b hb=>ho b (ZaS _ hb)) h3⟩
  ·cases h
end
theorem wO(hS:aG X n0 M bx w)(hF:∀q,M.F q→q < w.heap.size→F1 q):∀(n:Nat) (cs cs':List AV) (ps:List Prop) (vs:List Value),gQ bx n cs=some (cs',ps)→I5 ps→(∀b∈kE bx n cs,Fz M bx F1 b)→RL M w cs vs→RL (M0 F1) w cs' vs
 |0,_,_,_,_,h,_,_,_=>by cases h
 |n+1,cs,cs',ps,vs,h,hp,ho,hr=>nM hS hF (wO hS hF n) cs [] false cs' ps vs (M0 F1) rfl (fun b i h=>by cases h) h hp ho hr
end
abbrev rH:Nat:=1
abbrev bM(js:List Nat)(kn:Bool)(bx:Nat→Option Bx)(cs:List AV):Option (List AV×List Prop):=jE js kn bx (gQ bx rH) cs
abbrev O4(js:List Nat)(bx:Nat→Option Bx)(cs:List AV):List Nat:=iq js bx (kE bx rH) cs
abbrev KT(bx:Nat→Option Bx)(cs:List AV):Option (List AV×List Prop):=jE [] false bx (gQ bx 4) cs
abbrev Ug(bx:Nat→Option Bx)(cs:List AV):List Nat:=iq [] bx (kE bx 4) cs
def oC(bx:Nat→Option Bx):Bx→Option Bx
 |.buf _ _ es=>some (.ay es)
 |.rws _ _ es=>some (.sG es)
 |.cells cs=>match gQ bx rH cs with
  |some (cs',_)=>some (.cst cs')
  |none=>none
 |_=>none
def Q9(bx:Nat→Option Bx):List Nat→List (Nat×Bx)
 |[]=>[]
 |b::bs=>match bx b with
  |some x=>match oC bx x with
   |some x'=>(b,x')::Q9 bx bs
   |none=>Q9 bx bs
  |none=>Q9 bx bs
theorem uy{bx:Nat→Option Bx}:∀{ups:List (Nat×Bx)} {k:Nat},(∀x,(k,x) ∉ ups)→updB bx ups k=bx k
 |[],_,_=>rfl
 | (b,x)::r,k,h=>by
  have h1:k≠b:=fun e=>h x (by rw[e];exact PP ..)
  show (if k=b then some x else updB bx r k)=bx k;rw[lw h1];exact uy fun y hy=>h y (lm _ hy)
theorem Hu{bx:Nat→Option Bx}:∀{ups:List (Nat×Bx)} {k:Nat} {x:Bx},updB bx ups k=some x→(k,x)∈ups∨((∀y,(k,y) ∉ ups)∧bx k=some x)
 |[],_,_,h=>.inr ⟨(fun _ h=>by cases h),h⟩
 | (b,x0)::r,k,x,h=>by
  have h':(if k=b then some x0 else updB bx r k)=some x:=h;by_cases e:k=b
  ·rw[Za0 e]at h';cases h';exact .inl (by rw[e];exact PP ..)
  ·rw[lw e]at h';rcases Hu h' with h1 | ⟨h1,h2⟩
   ·exact .inl (lm _ h1)
   ·refine .inr ⟨fun y hy=>?_,h2⟩;rcases Zao.1 hy with hy | hy
    ·cases hy;exact e rfl
    ·exact h1 y hy
theorem kR{bx:Nat→Option Bx}:∀{bs:List Nat} {b:Nat} {x':Bx},(b,x')∈Q9 bx bs→b∈bs∧∃x,bx b=some x∧oC bx x=some x'
 |[],_,_,h=>by cases h
 |b0::bs,b,x',h=>by
  unfold Q9 at h;split at h
  ·rename_i x hx;split at h
   ·rename_i y hy;rcases Zao.1 h with h | h
    ·cases h;exact⟨PP ..,x,hx,hy⟩
    ·obtain⟨h1,h2⟩:=kR h;exact⟨lm _ h1,h2⟩
   ·obtain⟨h1,h2⟩:=kR h;exact⟨lm _ h1,h2⟩
  ·obtain⟨h1,h2⟩:=kR h;exact⟨lm _ h1,h2⟩
theorem Ig{bx:Nat→Option Bx}:∀{bs:List Nat} {b:Nat} {x x':Bx},b∈bs→bx b=some x→oC bx x=some x'→(b,x')∈Q9 bx bs
 |[],_,_,_,h,_,_=>by cases h
 |b0::bs,b,x,x',h,hx,hy=>by
  unfold Q9;rcases Zao.1 h with rfl | h
  ·rw[hx];simp only;rw[hy];exact PP ..
  ·split
   ·split
    ·exact lm _ (Ig h hx hy)
    ·exact Ig h hx hy
   ·exact Ig h hx hy
section
variable {X:Nat→Prop} {n0:Nat} {M:Mm} {w:World} {bx:Nat→Option Bx}
def iJ(M:Mm)(bx:Nat→Option Bx)(bs:List Nat)(q:Nat):Prop:=M.F q∨∃b x,b∈bs∧bx b=some x∧(oC bx x).isSome=true∧Hx M b x q
theorem aG.Q9(h:aG X n0 M bx w)(bs:List Nat)(hbs:∀b∈bs,∀cs,bx b=some (.cells cs)→∀cs' ps,gQ bx rH cs=some (cs',ps)→I5 ps∧∀b'∈kE bx rH cs,Fz M bx (iJ M bx bs) b') :
  U1 X n0 M w ⟨M.m,iJ M bx bs,M.o⟩ w∧aG X n0 ⟨M.m,iJ M bx bs,M.o⟩ (updB bx (Go.Proofs.YthhknjlmjefklaaGreatDoor.Q9 bx bs)) w∧∀q,iJ M bx bs q→M.F q∨n0≤q∨X q:=by
 have g:U1 X n0 M w ⟨M.m,iJ M bx bs,M.o⟩ w:=⟨aN.refl _ _ _,fun _ _ _=>rfl,fun _ h _=>.inl h,fun _ _ h=>h,fun _=>uF rfl⟩;have hx:∀k x q,Hx (⟨M.m,iJ M bx bs,M.o⟩:Mm) k x q↔Hx M k x q:=fun k x q=>Hx.eq rfl rfl
 have frozen:∀{b x' q},(b,x')∈Go.Proofs.YthhknjlmjefklaaGreatDoor.Q9 bx bs→¬Hx M b x' q:=by
  intro b x' q hm hq;obtain⟨_,x,_,h2⟩:=kR hm;cases x <;> simp only[oC]at h2 <;> first | (cases h2;exact hq) | (split at h2 <;> first | (cases h2;exact hq) | cases h2) | cases h2
 have old:∀{b x},updB bx (Go.Proofs.YthhknjlmjefklaaGreatDoor.Q9 bx bs) b=some x→∀{q},Hx M b x q→bx b=some x∧∀y,(b,y) ∉ Go.Proofs.YthhknjlmjefklaaGreatDoor.Q9 bx bs:=by
  intro b x hb q hq;rcases Hu hb with h1 | ⟨h1,h2⟩
  ·exact absurd hq (frozen h1)
  ·exact⟨h2,h1⟩
 refine⟨g,⟨?_,?_,?_,?_,?_,?_⟩,?_⟩
 ·intro b x hb;rcases Hu hb with h1 | ⟨_,h2⟩
  ·obtain⟨hbm,x0,h2,h3⟩:=kR h1;have hF:∀q,Hx M b x0 q→iJ M bx bs q:=fun q hq=>.inr ⟨b,x0,hbm,h2,by rw[h3];rfl,hq⟩
   have ho:=h.box b x0 h2;cases x0 with
   |buf e k es =>
    cases h3;obtain⟨A,n,c,e1,e2⟩:=ho;refine⟨A,n,c,e1,e2.Ue.mono fun q hq _=>?_⟩;rcases hq with hq | hq
    ·exact .inl hq
    ·exact hF q ⟨n,c,by rw[←hq];exact e1⟩
   |rws e k es =>
    cases h3;obtain⟨g',vs,e1,e2,e3⟩:=ho;exact⟨g',e1,e3.rd e2 (fun q hq _=>.inl hq) (hF g' e1)⟩
   |cells cs =>
    simp only[oC]at h3;split at h3
    ·rename_i cs' ps hcs;cases h3;obtain⟨g',T,vs,e1,e2,e3⟩:=ho;obtain⟨hp,hob⟩:=hbs b hbm cs h2 cs' ps hcs;exact⟨g',vs,e1,hF g' e1,e2.lt,fun j u hj=>by rw[e2.cell];simpa using hj,wO h (fun q hq _=>.inl hq) _ cs cs' ps vs hcs hp hob e3⟩
    ·cases h3
   |ay es=>cases h3
   |mp D8=>cases h3
   |aA D8=>cases h3
   |sG es=>cases h3
   |cst cs=>cases h3
  ·exact (h.box b x h2).go g rfl fun _ _=>rfl
 ·intro b x q hb hq;rw[hx]at hq;obtain⟨h1,h2⟩:=old hb hq;obtain⟨d1,d2,d3⟩:=h.dom b x q h1 hq;refine⟨d1,d2,fun hf=>?_⟩;rcases hf with hf | ⟨b',x',e1,e2,e3,e4⟩
  ·exact d3 hf
  ·obtain rfl:=h.inj _ _ _ _ q h1 e2 hq e4;obtain⟨y,hy⟩:=Option.isSome_iff_exists.1 e3;exact h2 y (Ig e1 e2 hy)
 ·intro b b' x x' q h1 h2 h3 h4;rw[hx]at h3 h4;exact h.inj _ _ _ _ q (old h1 h3).1 (old h2 h4).1 h3 h4
 ·intro b q hb;obtain⟨x,h1,h2⟩:=h.hm b q hb;cases hy:updB bx (Go.Proofs.YthhknjlmjefklaaGreatDoor.Q9 bx bs) b with
  |none =>
   exfalso
   have:∀y,(b,y) ∉ Go.Proofs.YthhknjlmjefklaaGreatDoor.Q9 bx bs:=by
    have gen:∀{ups:List (Nat×Bx)},updB bx ups b=none→∀y,(b,y) ∉ ups:=by
     intro ups
     induction ups with
     |nil=>intro _ y hy;cases hy
     |cons a r ih =>
      obtain⟨b0,x0⟩:=a;intro hn y hm;have hn':(if b=b0 then some x0 else updB bx r b)=none:=hn;by_cases e:b=b0
      ·rw[Za0 e]at hn';cases hn'
      ·rw[lw e]at hn';rcases Zao.1 hm with hm | hm
       ·cases hm;exact e rfl
       ·exact ih hn' y hm
    exact gen hy
   rw[uy this,h1]at hy;cases hy
  |some y =>
   refine⟨y,rfl,?_⟩;rcases Hu hy with h3 | ⟨_,h3⟩
   ·obtain⟨_,x0,h4,h5⟩:=kR h3;rw[h1]at h4;cases h4;cases x with
    |buf e k es=>cases h2
    |ay es=>cases h2
    |rws e k es=>cases h5;rfl
    |cells cs =>
     simp only[oC]at h5;split at h5
     ·cases h5;rfl
     ·cases h5
    |_=>cases h5
   ·rw[h1]at h3;cases h3;exact h2
 ·intro b v hb;have h1:=h.ho b v hb;cases hy:updB bx (Go.Proofs.YthhknjlmjefklaaGreatDoor.Q9 bx bs) b with
  |some y=>rfl
  |none =>
   exfalso
   have gen:∀{ups:List (Nat×Bx)},updB bx ups b=none→bx b=none:=by
    intro ups
    induction ups with
    |nil=>exact fun h=>h
    |cons a r ih =>
     obtain⟨b0,x0⟩:=a;intro hn;have hn':(if b=b0 then some x0 else updB bx r b)=none:=hn;by_cases e:b=b0
     ·rw[Za0 e]at hn';cases hn'
     ·rw[lw e]at hn';exact ih hn'
   rw[gen hy]at h1;cases h1
 ·intro q hq;rcases hq with hq | ⟨b,x,_,e2,_,e4⟩
  ·exact h.fz q hq
  ·exact (h.dom b x q e2 e4).2.1
 ·intro q hq;rcases hq with hq | ⟨b,x,_,e2,_,e4⟩
  ·exact .inl hq
  ·exact .inr (h.dom b x q e2 e4).1
end
def Bx.EC:Bx→Bool
 |.ay _=>true
 |.sG _=>true
 |.cst _=>true
 |_=>false
theorem Bx.b0a{x:Bx}(h:x.EC=true){M:Mm}{b q:Nat}:¬Hx M b x q:=by
 cases x <;> first | exact fun h=>h | cases h
section
variable {bx:Nat→Option Bx} {rec:List AV→Option (List AV×List Prop)} {dw:List AV→List Nat} {S:Nat→Prop}
def Au(Pq:List Prop→Prop)(bx:Nat→Option Bx)(rec:List AV→Option (List AV×List Prop))(dw:List AV→List Nat)(S:Nat→Prop)(b:Nat):Prop :=
 (∀x,bx b=some x→x.EC=true∨(∃e k es,x=.buf e k es)∨(∃e k es,x=.rws e k es)∨∃cs,x=.cells cs) ∧
 ∀cs,bx b=some (.cells cs)→∃r,rec cs=some r∧Pq r.2∧∀b'∈dw cs,S b'
mutual
theorem a7U{Pq:List Prop→Prop}(qH:∀ps qs,Pq (ps++qs)→Pq ps∧Pq qs)(hrec:∀cs r,rec cs=some r→Pq r.2→∀b∈dw cs,∀x,bx b=some x→x.EC=true∨(∃e k es,x=.buf e k es)∨(∃e k es,x=.rws e k es)):∀(a:AV) (js:List Nat) (kn:Bool) (a':AV) (ps:List Prop),
  bK js kn bx rec a=some (a',ps)→Pq ps→(∀b∈bV js bx dw a,S b)→∀b∈bV js bx dw a,Au Pq bx rec dw S b
 |.own b n,js,kn,a',ps,h,hp,hS,b',hb=>by
  simp only[bK]at h;simp only[bV]at hb;cases hi:bf b js 0 with
  |some i=>rw[hi]at hb;cases hb
  |none =>
   rw[hi]at h hb;obtain rfl:=ut.1 hb;simp only at h;split at h
   ·rename_i e k es hx;refine⟨fun x hx'=>?_,fun cs hx'=>?_⟩
    ·rw[hx]at hx';cases hx';exact .inr (.inl ⟨_,_,_,rfl⟩)
    ·rw[hx]at hx';cases hx'
   ·rename_i es hx;refine⟨fun x hx'=>?_,fun cs hx'=>?_⟩
    ·rw[hx]at hx';cases hx';exact .inl rfl
    ·rw[hx]at hx';cases hx'
   ·cases h
 |.sl b n,js,kn,a',ps,h,hp,hS,b',hb=>by
  simp only[bK]at h;simp only[bV]at hb;cases hi:bf b js 0 with
  |some i=>rw[hi]at hb;cases hb
  |none =>
   rw[hi]at h hb;obtain rfl:=ut.1 hb;simp only at h;split at h
   ·rename_i e k es hx;refine⟨fun x hx'=>?_,fun cs hx'=>?_⟩
    ·rw[hx]at hx';cases hx';exact .inr (.inr (.inl ⟨_,_,_,rfl⟩))
    ·rw[hx]at hx';cases hx'
   ·rename_i es hx;refine⟨fun x hx'=>?_,fun cs hx'=>?_⟩
    ·rw[hx]at hx';cases hx';exact .inl rfl
    ·rw[hx]at hx';cases hx'
   ·cases h
 |.ptr b off,js,kn,a',ps,h,hp,hS,b',hb=>by
  simp only[bK]at h;simp only[bV]at hb hS;cases hi:bf b js 0 with
  |some i=>rw[hi]at hb;cases hb
  |none =>
   rw[hi]at h hb hS;simp only at h hb hS;split at h
   ·rename_i cs hx;rw[hx]at hb hS;simp only at hb hS;split at h
    ·rename_i cs' qs hcs;cases h;rcases Zao.1 hb with rfl | hb
     ·refine⟨fun x hx'=>?_,fun c0 hx'=>?_⟩
      ·rw[hx]at hx';cases hx';exact .inr (.inr (.inr ⟨_,rfl⟩))
      ·rw[hx]at hx';cases hx';exact⟨_,hcs,hp,fun b2 hb2=>hS b2 (lm _ hb2)⟩
     ·have:=hrec cs _ hcs hp b' hb;refine⟨fun x hx'=>?_,fun c0 hx'=>?_⟩
      ·rcases this x hx' with h1 | h1 | h1
       ·exact .inl h1
       ·exact .inr (.inl h1)
       ·exact .inr (.inr (.inl h1))
      ·rcases this _ hx' with h1 | ⟨_,_,_,h1⟩ | ⟨_,_,_,h1⟩
       ·cases h1
       ·cases h1
       ·cases h1
    ·cases h
   ·rename_i cs hx;rw[hx]at hb;obtain rfl:=ut.1 hb;refine⟨fun x hx'=>?_,fun cs hx'=>?_⟩
    ·rw[hx]at hx';cases hx';exact .inl rfl
    ·rw[hx]at hx';cases hx'
   ·cases h
 |.agg cs,js,kn,a',ps,h,hp,hS,b',hb=>by
  simp only[bK]at h;split at h
  ·rename_i cs' qs hcs;cases h;exact uo qH hrec cs js kn cs' _ hcs hp hS b' hb
  ·cases h
 |.o7 cs,js,kn,a',ps,h,hp,hS,b',hb=>by
  simp only[bK]at h;split at h
  ·rename_i cs' qs hcs;cases h;exact uo qH hrec cs js kn cs' _ hcs hp hS b' hb
  ·cases h
 |.clo f cs,[],kn,a',ps,h,hp,hS,b',hb=>by
  simp only[bK]at h;split at h
  ·rename_i cs' qs hcs;cases h;exact uo qH hrec cs [] false cs' _ hcs hp hS b' hb
  ·cases h
 |.clo f cs,j::js,kn,a',ps,h,hp,hS,b',hb=>by
  simp only[bK]at h;split at h
  ·rename_i cs' qs hcs;cases h;exact uo qH hrec cs (j::js) kn cs' _ hcs hp hS b' hb
  ·cases h
 |.dt _,_,_,_,_,_,_,_,_,hb=>by simp[bV]at hb
 |.nil,_,_,_,_,_,_,_,_,hb=>by simp[bV]at hb
 |.aW _,_,_,_,_,_,_,_,_,hb=>by simp[bV]at hb
 |.V4 _,_,_,_,_,_,_,_,_,hb=>by simp[bV]at hb
 |.eX _ _ _,_,_,_,_,_,_,_,_,hb=>by simp[bV]at hb
 |.gl _ _,_,_,_,_,_,_,_,_,hb=>by simp[bV]at hb
 |.pin _,_,_,_,_,_,_,_,_,hb=>by simp[bV]at hb
 |.ak _ _,_,_,_,_,_,_,_,_,hb=>by simp[bV]at hb
 |.un,_,_,_,_,_,_,_,_,hb=>by simp[bV]at hb
theorem uo{Pq:List Prop→Prop}(qH:∀ps qs,Pq (ps++qs)→Pq ps∧Pq qs)(hrec:∀cs r,rec cs=some r→Pq r.2→∀b∈dw cs,∀x,bx b=some x→x.EC=true∨(∃e k es,x=.buf e k es)∨(∃e k es,x=.rws e k es)):∀(cs:List AV) (js:List Nat) (kn:Bool) (cs':List AV) (ps:List Prop),
  jE js kn bx rec cs=some (cs',ps)→Pq ps→(∀b∈iq js bx dw cs,S b)→∀b∈iq js bx dw cs,Au Pq bx rec dw S b
 |[],_,_,_,_,_,_,_,_,hb=>by simp[iq]at hb
 |c::cs,js,kn,cs',ps,h,hp,hS,b,hb=>by
  simp only[jE]at h;split at h
  ·rename_i c1 ps1 cs1 qs1 e1 e2;cases h;obtain⟨hp1,hp2⟩:=qH _ _ hp;simp only[iq]at hb hS;rcases ZaA.1 hb with hb | hb
   ·exact a7U qH hrec c js kn c1 _ e1 hp1 (fun b hb=>hS b (ZaB _ hb)) b hb
   ·exact uo qH hrec cs js kn cs1 _ e2 hp2 (fun b hb=>hS b (ZaS _ hb)) b hb
  ·cases h
end
end
structure En where
 P:Program
 G:World→Prop
 T:Nat→Nat→Option Value
 hT:∀w,G w→∀g i v,T g i=some v→w.cell? ⟨g,i,none⟩=some v
 hm:P.follows .mixedOrders=true
 nh:Nat
def wR(P:Program)(G:World→Prop)(f:FuncId)(args:List AV)(r:AV):Prop :=
 (∃fn,P.funcs[f]?=some fn∧fn.body.isNone=false∧(fn.name == "runtime.NumGoroutine")=false) ∧
 ∀(ok:Nat→Prop) (w:World) (vs:List Value),G w→RL (M0 ok) w args vs →
  Calls P f vs.toArray w (fun e w'=>∃v,e=.returned v∧Below w.heap.size w w'∧RV (M0 fun b=>ok b∨w.heap.size≤b) w' r v)
def lk(xs:List (Option Bx))(b:Nat):Option Bx:=match xs[b]? with
 |some x=>x
 |none=>none
def bP(P:Program)(G:World→Prop)(f:FuncId)(args:List AV)(xs:List (Option Bx))(r:AV)(xs':List (Option Bx)):Prop :=
 (∃fn,P.funcs[f]?=some fn∧fn.body.isNone=false∧(fn.name == "runtime.NumGoroutine")=false) ∧
 ∀(X:Nat→Prop) (M:Mm) (w:World) (vs:List Value),(∀w',aN X w.heap.size w w'→G w')→aG X w.heap.size M (lk xs) w→RL M w args vs →
  Calls P f vs.toArray w (fun e w'=>∃v M',e=.returned v∧U1 X w.heap.size M w M' w'∧aG X w.heap.size M' (lk xs') w'∧(∀b,M'.F b→M.F b∨w.heap.size≤b∨X b)∧RV M' w' r v)
theorem Oo{P:Program}{f:FuncId}{args:Array Value}{w:World}(h:∃fn,P.funcs[f]?=some fn∧fn.body.isNone=false∧(fn.name == "runtime.NumGoroutine")=false):(callFunc f args).run P w=.ok (.enter f args) w:=by
 obtain⟨fn,h1,h2,h3⟩:=h;simp only[callFunc,program,Za8,Sem.run,Result.andThen,h1,h2,h3,ZaY,ZaM];rfl
def ed(P:Program)(t:TypeId):Option Nat:=match P.info? t with | some i=>some i.size | none=>none
def oN(P:Program)(t:TypeId):Option Bool:=match P.underlying t with
 |some (.struct _)=>some true
 |some (.array _ _)=>some true
 |some _=>some false
 |none=>none
theorem Ce{P:Program}{t:TypeId}{b:Bool}(h:oN P t=some b)(w:World):(isAgg t).run P w=.ok b w:=by
 unfold oN at h;unfold isAgg underlying;cases hu:P.underlying t with
 |none=>rw[hu]at h;cases h
 |some d =>
  simp only[program,Za8,Sem.run,hu,Zab,Result.andThen];cases d <;> (rw[hu]at h;cases h;rfl)
theorem run_sizeOf{P:Program}{t:TypeId}{n:Nat}(h:ed P t=some n)(w:World):(sizeOf t).run P w=.ok n w:=by
 unfold ed at h;unfold sizeOf typeInfo;cases hu:P.info? t with
 |none=>rw[hu]at h;cases h
 |some d =>
  rw[hu]at h;cases h;simp only[program,Za8,Sem.run,hu,Zab,Result.andThen]
theorem wL(g o n:Nat):(⟨g,o,none⟩:Addr).add n=⟨g,o+n,none⟩:=by
 unfold Addr.add;split
 ·rename_i h;subst h;rfl
 ·rfl
mutual
def AV.jg:AV→Bool
 |.dt (.val _)=>true
 |.nil=>true
 |.agg cs=>AV.Ea cs
 |.o7 cs=>AV.Ea cs
 |_=>false
def AV.Ea:List AV→Bool
 |[]=>true
 |c::cs=>AV.jg c && AV.Ea cs
end
mutual
theorem RV.jg{w w':World}:∀{M M':Mm} (a:AV) (v:Value),a.jg=true→RV M w a v→RV M' w' a v
 |_,_,.dt (.val x),v,_,h=>by
  have e:v=x:=Rd.Z9 h;rw[e];exact Rd.val _
 |_,_,.nil,v,_,h=>h
 |_,_,.agg cs,v,hs,⟨vs,h1,h2⟩=>⟨vs,h1,RL.jg cs vs hs h2⟩
 |_,_,.o7 cs,v,hs,⟨vs,h1,h2⟩=>⟨vs,h1,RL.jg cs vs hs h2⟩
theorem RL.jg{w w':World}:∀{M M':Mm} (cs:List AV) (vs:List Value),AV.Ea cs=true→RL M w cs vs→RL M' w' cs vs
 |_,_,[],_,_,h=>h
 |_,_,c::cs,_,hs,⟨u,us,h1,h2,h3⟩=>by
  have hs':(c.jg && AV.Ea cs)=true:=hs;rw[AC]at hs';exact⟨u,us,h1,RV.jg c u hs'.1 h2,RL.jg cs us hs'.2 h3⟩
end
mutual
def lD(ρ:Nat→Nat):AV→AV
 |.own b n=>.own (ρ b) n
 |.sl b n=>.sl (ρ b) n
 |.V4 b=>.V4 (ρ b)
 |.ptr b o=>.ptr (ρ b) o
 |.eX b i k=>.eX (ρ b) i k
 |.agg cs=>.agg (uU ρ cs)
 |.o7 cs=>.o7 (uU ρ cs)
 |.clo f cs=>.clo f (uU ρ cs)
 |.dt d=>.dt d
 |.nil=>.nil
 |.aW es=>.aW es
 |.gl g o=>.gl g o
 |.pin cs=>.pin cs
 |.ak f cs=>.ak f cs
 |.un=>.un
def uU(ρ:Nat→Nat):List AV→List AV
 |[]=>[]
 |c::cs=>lD ρ c::uU ρ cs
end
def ql(ρ:Nat→Nat):Bx→Bx
 |.cells cs=>.cells (uU ρ cs)
 |.mp D8=>.mp (D8.map fun x=>(x.1,lD ρ x.2))
 |x=>x
def b7y(js:List Nat)(bx:Nat→Option Bx):List (Value×AV)→Option (List (Value×AV)×List Prop)
 |[]=>some ([],[])
 | (k,a)::r=>match bK js true bx (gQ bx rH) a,b7y js bx r with
  |some (a',ps),some (r',qs)=>some ((k,a')::r',ps++qs)
  |_,_=>none
def rho(js:List Nat)(k:Nat)(i:Nat):Nat:=match js[i]? with
 |some j=>j
 |none=>k+(i - js.length)
def nodupB:List Nat→Bool
 |[]=>true
 |j::js=>!js.contains j && nodupB js
def a7V:Nat→List (Option Bx)→Bool
 |0,_=>true
 |n+1,some _::xs=>a7V n xs
 |_+1,_=>false
def xe(bx:Nat→Option Bx):AV→Option (aa1×List Prop)
 |.dt (.row xs)=>some (xs,[])
 |.dt (.val (.slice _ 0 _))=>some ([],[])
 |.aW xs=>some (xs,[])
 |.nil=>some ([],[])
 |.own b n=>match bx b with
  |some (.buf _ _ es)=>some (es,[es.length=n])
  |some (.ay es)=>some (es,[es.length=n])
  |_=>none
 |.sl b n=>match bx b with
  |some (.rws _ _ es)=>some (es,[es.length=n])
  |some (.sG es)=>some (es,[es.length=n])
  |_=>none
 |_=>none
def S9(k:Nat)(xs:aa1):Prop:=∀x∈xs,x.length=k∧∀d∈x,d.one=true
def X8(bytes n:Nat):Prop:=n≤maxLen∧n * bytes≤140737488355328
def qm(bytes:Nat)(c:Int):Prop:=0≤c∧(bytes:Int) * c≤281474976710656∧c≤maxLen
def E5(es:aa1)(n:Int)(sz:Nat)(ds:List Dt):Prop:=0≤n∧es[n.toNat]?=some ds∧ds.length=sz
def jL(s:ByteArray)(n:Int)(r:Value):Prop:=∃b,0≤n∧s[n.toNat]?=some b∧r=.int .u8 b.toNat
def fU(es:aa1)(sz:Nat)(lo hi:Int)(rs:aa1):Prop:=0≤lo∧lo≤hi∧hi≤es.length∧rs=(es.take hi.toNat).drop lo.toNat∧(lo=0∨∀x∈es,x.length=sz)
def Aw(s:ByteArray)(lo hi:Int)(r:Value):Prop:=0≤lo∧lo≤hi∧hi≤s.size∧r=.string (s.extract lo.toNat hi.toNat)
def Dy(bytes n k:Nat)(xs:aa1):Bool:=Nat.ble n maxLen && Nat.ble (n * bytes) 140737488355328 && xs.all fun x=>Nat.beq x.length k && x.all Dt.one
theorem yU{bytes n k:Nat}{xs:aa1}(h:Dy bytes n k xs=true):X8 bytes n∧S9 k xs:=by
 unfold Dy at h;simp only[AC,Zav]at h;exact⟨⟨ZaD h.1.1,ZaD h.1.2⟩,fun x hx=>⟨Zau (h.2 x hx).1,(h.2 x hx).2⟩⟩
def nY(P:Program)(kt:TypeId)(k:Value)(keys:List Value)(r:Option Nat):Prop :=
 ∀(es:List MapEntry) (w:World),es.map (·.key)=keys→Sem.run P (do Instr.checkKey es.isEmpty 10000 kt k;Instr.findKey kt k es) w=.ok (r.bind fun i=>(es[i]?).map fun e=>(i,e.val)) w
def eY(P:Program)(kt:TypeId)(k:Value)(keys:List Value):Prop :=
 ∀(es:List MapEntry) (w:World),es.map (·.key)=keys→Sem.run P (do Instr.checkKey false 10000 kt k;Instr.findKey kt k es) w=.ok none w
def eu:List AV→Option (List Dt)
 |[]=>some []
 |.dt d::cs=>match eu cs with
  |some ds=>some (d::ds)
  |none=>none
 |_::_=>none
theorem zM:∀{cs:List AV} {ds:List Dt},eu cs=some ds→cs=ds.map .dt
 |[],_,h=>by cases h;rfl
 |.dt d::cs,ds,h=>by
  unfold eu at h;split at h
  ·rename_i ds' h';cases h;rw[zM h'];rfl
  ·cases h
 |.nil::_,_,h=>by simp[eu]at h
 |.aW _::_,_,h=>by simp[eu]at h
 |.own _ _::_,_,h=>by simp[eu]at h
 |.sl _ _::_,_,h=>by simp[eu]at h
 |.V4 _::_,_,h=>by simp[eu]at h
 |.ptr _ _::_,_,h=>by simp[eu]at h
 |.eX _ _ _::_,_,h=>by simp[eu]at h
 |.gl _ _::_,_,h=>by simp[eu]at h
 |.pin _::_,_,h=>by simp[eu]at h
 |.agg _::_,_,h=>by simp[eu]at h
 |.o7 _::_,_,h=>by simp[eu]at h
 |.clo _ _::_,_,h=>by simp[eu]at h
 |.ak _ _::_,_,h=>by simp[eu]at h
 |.un::_,_,h=>by simp[eu]at h
def chunks(ds:List Dt)(sz len:Nat):aa1:=(List.range len).map fun i=>(ds.drop (i * sz)).take sz
inductive J5 where
 |val (v:AV)
 |load (b off n:Nat) (ag:Bool)
 |zZ (b i k:Nat) (ds:List Dt) (ag:Bool)
 |store (b off:Nat) (cs:List AV)
 |wS (b i k:Nat) (cs:List AV)
 |alloc (t:TypeId) (cs:List AV)
 |mk (e:TypeId) (sz len:Nat) (cs:List AV)
 |mk0 (e:TypeId) (k bytes:Nat) (c:Int)
 |xY (e:TypeId) (k bytes n:Nat) (z:List Dt) (l c:Int)
 |app (e:TypeId) (k bytes:Nat) (s x:AV) (c:Bool)
 |idx (x:AV) (i:Int) (sz:Nat) (r:Option (List Dt))
 |vC (x:AV) (sz:Nat) (lo hi mx:Option Int) (r:Option (aa1))
 |call (f:FuncId) (args caps:List AV) (r:AV)
 |Az
 |Aa
 |ins (b:Nat) (kt:TypeId) (k:Value) (v:AV)
 |look (b:Nat) (kt:TypeId) (k:Value) (z:AV) (ok:Bool) (r:Option Nat)
 |Ac (b:Nat) (kt:TypeId) (k:Value) (ok:Bool) (i:Nat) (v:AV)
 |prop (v:AV) (ps:List Prop)
 |xZ (x:AV) (l:aa0)
 |qg (f:FuncId) (args caps:List AV) (e k:Nat) (es:aa1)
 |Bv (c:AV)
def zy(P:Program)(G:World→Prop)(f:FuncId)(args:List AV)(e k:Nat)(es:aa1):Prop :=
 (∃fn,P.funcs[f]?=some fn∧fn.body.isNone=false∧(fn.name == "runtime.NumGoroutine")=false) ∧
 ∀(F:Nat→Prop) (w:World) (vs:List Value),G w→(∀b,F b→b < w.heap.size)→RL (M0 F) w args vs →
  Calls P f vs.toArray w (fun x w'=>∃v M',x=.returned v∧U1 (fun _=>False) w.heap.size (M0 F) w M' w'∧aG (fun _=>False) w.heap.size M' (lk [some (.buf e k es)]) w'∧(∀b,M'.F b→F b∨w.heap.size≤b)∧RV M' w' (.own 0 es.length) v)
theorem bP.YA{P:Program}{G:World→Prop}(hG:∀w w',G w→Below w.heap.size w w'→G w'){f:FuncId}{args:List AV}{e k n:Nat}{es:aa1}(h:bP P G f args [] (.own 0 n) [some (.buf e k es)])(hn:n=es.length):zy P G f args e k es:=by
 subst hn;have no:∀b x,lk [] b=some x→False:=fun b x h=>by simp[lk]at h
 refine⟨h.1,fun F w vs hw hF hr=>(h.2 (fun _=>False) (M0 F) w vs (fun w' hb=>hG w w' hw hb.below) ⟨fun b x h=>(no b x h).elim,fun b x g h _=>(no b x h).elim,fun b b' x x' g h _ _ _=>(no b x h).elim,(fun b g h=>by cases h),(fun b v h=>by cases h),hF⟩ hr).mono ?_⟩;rintro x w' ⟨v,M',h1,h2,h3,h4,h5⟩;refine⟨v,M',h1,h2,h3,fun b hb=>?_,h5⟩;rcases h4 b hb with h | h | h
 ·exact .inl h
 ·exact .inr h
 ·exact h.elim
def J5.news(k:Nat):J5→List Nat
 |.alloc _ _=>[k]
 |.mk0 _ _ _ _=>[k]
 |.xY _ _ _ _ _ _ _=>[k]
 |.app _ _ _ .nil _ _=>[k]
 |.app _ _ _ (.aW _) _ _=>[k]
 |.Az=>[k]
 |.Aa=>[k]
 |.qg _ _ _ _ _ _=>[k]
 |_=>[]
def J5.bt(bx:Nat→Option Bx)(k:Nat):J5→List Nat
 |.val _=>[]
 |.prop _ _=>[]
 |.load b _ _ _=>[b]
 |.zZ b _ _ _ _=>[b]
 |.store b _ _=>[b]
 |.wS b _ _ cs=>b::O4 [] bx cs
 |.alloc _ _=>[k]
 |.mk _ _ _ cs=>O4 [] bx cs
 |.mk0 _ _ _ _=>[k]
 |.xY _ _ _ _ _ _ _=>[k]
 |.app _ _ _ s x _=>(match s with | .own b _=>[b] | _=>[k])++(match x with | .own b _=>[b] | .sl b _=>[b] | _=>[])
 |.idx x _ _ _=>O4 [] bx [x]
 |.vC x _ _ _ _ _=>O4 [] bx [x]
 |.xZ x _=>O4 [] bx [x]
 |.call _ args _ r=>match r.jg with | true=>Ug bx args | false=>O4 [] bx args
 |.Az=>[k]
 |.Aa=>[k]
 |.qg _ args _ _ _ _=>k::O4 [] bx args
 |.Bv c=>O4 [] bx [c]
 |.ins b _ _ _=>[b]
 |.look b _ _ _ _ _=>[b]
 |.Ac b _ _ _ _ _=>[b]
def rowAt(cs:List AV)(off n:Nat)(ag:Bool):Option AV:=match Nat.ble (off+n) cs.length with
 |true=>match ag with
  |true=>some (.agg ((cs.drop off).take n))
  |false=>cs[off]?
 |false=>none
def J5.run(E:En)(bx:Nat→Option Bx)(k:Nat):J5→Option (AV×List (Nat×Bx)×List Prop)
 |.val v=>some (v,[],[])
 |.prop v ps=>some (v,[],ps)
 |.load b off n ag=>match bx b with
  |some (.cells cs)=>match rowAt cs off n ag with
   |some r=>some (r,[],[])
   |none=>none
  |some (.cst cs)=>match rowAt cs off n ag with
   |some r=>some (r,[],[])
   |none=>none
  |_=>none
 |.zZ b i k ds ag=>match bx b with
  |some (.rws _ k' es)=>match Nat.beq k k' with
   |true=>some (cond ag (.agg (ds.map .dt)) (.dt (ds.headD (.val undef))),[],[es[i]?=some ds,ds.length=cond ag k 1])
   |false=>none
  |_=>none
 |.store b off vs=>match bx b with
  |some (.cells cs)=>match Nat.ble (off+vs.length) cs.length && vs.all AV.one with
   |true=>some (.dt (.val undef),[(b,.cells (cs.take off++vs++cs.drop (off+vs.length)))],[])
   |false=>none
  |_=>none
 |.wS b i k vs=>match bx b with
  |some (.rws e k' es)=>match Nat.beq k k' && vs.all AV.one && Nat.beq vs.length k,bM [] false bx vs with
   |true,some (vs',ps)=>match eu vs',(O4 [] bx vs).contains b with
    |some ds,false=>some (.dt (.val undef),Q9 bx (O4 [] bx vs)++[(b,.rws e k' (es.set i ds))],(i < es.length)::ps)
    |_,_=>none
   |_,_=>none
  |_=>none
 |.alloc _ cs=>match cs.all AV.one with
  |true=>some (.ptr k 0,[(k,.cells cs)],[])
  |false=>none
 |.mk _ sz len cs=>match bM [] false bx cs with
  |some (cs',ps)=>match eu cs',cs.all AV.one && Nat.beq cs'.length (len * sz) with
   |some ds,true=>some (.aW (chunks ds sz len),Q9 bx (O4 [] bx cs),ps)
   |_,_=>none
  |none=>none
 |.mk0 e kk bytes c=>some (.own k 0,[(k,.buf e kk [])],[qm bytes c])
 |.xY e kk bytes n z l c=>some (.sl k n,[(k,.rws e kk (List.replicate n z))],[l=n∧c=n∧qm bytes c])
 |.app e kk bytes s x c=>match xe bx x with
  |some (xs,ps)=>match s with
   |.nil=>match !c || Dy bytes xs.length kk xs with
    |true=>some (.own k xs.length,[(k,.buf e kk xs)],cond c ps (X8 bytes xs.length::S9 kk xs::ps))
    |false=>none
   |.own b n=>match bx b with
    |some (.buf e' k' es)=>match Nat.beq e e' && Nat.beq kk k' && (match x with | .own b' _=>!Nat.beq b b' | .sl b' _=>!Nat.beq b b' | _=>true) && (!c || (Nat.beq es.length n && Dy bytes (es++xs).length kk xs)) with
     |true=>some (.own b (es++xs).length,[(b,.buf e kk (es++xs))],cond c ps ((es.length=n)::X8 bytes (es++xs).length::S9 kk xs::ps))
     |false=>none
    |_=>none
   |.aW es=>match !c || (Nat.ble 1 xs.length && Dy bytes (es++xs).length kk (es++xs)) with
    |true=>some (.own k (es++xs).length,[(k,.buf e kk (es++xs))],cond c ps ((1≤xs.length)::X8 bytes (es++xs).length::S9 kk (es++xs)::ps))
    |false=>none
   |_=>none
  |none=>none
 |.idx x i sz r=>match bM [] false bx [x] with
  |some ([.dt (.row es)],ps)=>match r with
   |some ds=>some (.pin (ds.map .dt),Q9 bx (O4 [] bx [x]),E5 es i sz ds::ps)
   |none=>match decide (0≤i),es[i.toNat]? with
    |true,some ds=>match Nat.beq ds.length sz with
     |true=>some (.pin (ds.map .dt),Q9 bx (O4 [] bx [x]),ps)
     |false=>none
    |_,_=>none
  |_=>none
 |.vC x sz lo hi mx r=>match bM [] false bx [x] with
  |some ([.dt (.row es)],ps)=>match r with
   |some rs=>some (cond mx.isSome (.aW rs) (.dt (.row rs)),Q9 bx (O4 [] bx [x]),fU es sz (lo.getD 0) (hi.getD es.length) rs::(mx=none∨mx=hi)::ps)
   |none=>some (cond mx.isSome (.aW ((es.take (hi.getD es.length).toNat).drop (lo.getD 0).toNat)) (.dt (.row ((es.take (hi.getD es.length).toNat).drop (lo.getD 0).toNat))),Q9 bx (O4 [] bx [x]),fU es sz (lo.getD 0) (hi.getD es.length) ((es.take (hi.getD es.length).toNat).drop (lo.getD 0).toNat)::(mx=none∨mx=hi)::ps)
  |_=>none
 |.xZ x l=>match bM [] false bx [x] with
  |some ([.dt (.row es)],ps)=>some (.dt (.val (str l)),[],(es=l.map fun b=>[.val (.int .u8 b.toNat)])::ps)
  |_=>none
 |.call f args caps r=>match r.jg with
  |true=>match KT bx args with
   |some (args',ps)=>some (r,[],wR E.P E.G f (args'++caps) r::ps)
   |none=>none
  |false=>match bM [] false bx args with
   |some (args',ps)=>some (r,Q9 bx (O4 [] bx args),wR E.P E.G f (args'++caps) r::ps)
   |none=>none
 |.qg f args caps e kk es=>match bM [] false bx args with
  |some (args',ps)=>some (.own k es.length,(k,.buf e kk es)::Q9 bx (O4 [] bx args),zy E.P E.G f (args'++caps) e kk es::ps)
  |none=>none
 |.Bv c=>match bM [] false bx [c] with
  |some ([c'],ps)=>some (c',Q9 bx (O4 [] bx [c]),ps)
  |_=>none
 |.Az=>some (.V4 k,[(k,.mp [])],[])
 |.Aa=>some (.V4 k,[(k,.aA [])],[])
 |.ins b kt key v=>match bx b with
  |some (.mp D8)=>some (.dt (.val undef),[(b,.mp (D8++[(key,v)]))],[eY E.P kt key (D8.map (·.1))])
  |some (.aA D8)=>match v with
   |.agg cs=>match eu cs with
    |some ds=>some (.dt (.val undef),[(b,.aA (D8++[(key,ds)]))],[eY E.P kt key (D8.map (·.1))])
    |none=>none
   |_=>none
  |_=>none
 |.Ac b kt key ok i v=>match bx b with
  |some (.mp D8)=>some (cond ok (.o7 [v,.dt (.val (.bool true))]) v,[],[nY E.P kt key (D8.map (·.1)) (some i),(D8.map (·.2))[i]?=some v])
  |some (.aA D8)=>match v with
   |.agg cs=>match eu cs with
    |some ds=>some (cond ok (.o7 [v,.dt (.val (.bool true))]) v,[],[nY E.P kt key (D8.map (·.1)) (some i),(D8.map (·.2))[i]?=some ds])
    |none=>none
   |_=>none
  |_=>none
 |.look b kt key z ok r=>match bx b with
  |some (.aA D8)=>match r with
   |some _=>none
   |none=>some (cond ok (.o7 [z,.dt (.val (.bool false))]) z,[],[nY E.P kt key (D8.map (·.1)) none])
  |some (.mp D8)=>match r with
   |some i=>match D8[i]? with
    |some (_,v)=>some (cond ok (.o7 [v,.dt (.val (.bool true))]) v,[],[nY E.P kt key (D8.map (·.1)) r])
    |none=>none
   |none=>some (cond ok (.o7 [z,.dt (.val (.bool false))]) z,[],[nY E.P kt key (D8.map (·.1)) none])
  |_=>none
def Left(X:Nat→Prop)(n0:Nat)(w0:World×Mm)(ok0:Nat→Prop)(nt:Nat)(tm:Nat→AV)(bx:Nat→Option Bx)(a:Act)(w:World):Prop:=∃M,Inv X n0 w0 ok0 M nt tm bx a w
theorem WI{Pq:List Prop→Prop}(qH:∀ps qs,Pq (ps++qs)→Pq ps∧Pq qs){bx:Nat→Option Bx}(cs:List AV)(r:List AV×List Prop)(h:gQ bx 1 cs=some r)(hp:Pq r.2):∀b∈kE bx 1 cs,∀x,bx b=some x→x.EC=true∨(∃e k es,x=.buf e k es)∨(∃e k es,x=.rws e k es):=by
 intro b hb x hx;have:=uo qH (bx:=bx) (rec:=gQ bx 0) (dw:=kE bx 0) (S:=fun _=>True) (fun cs r h=>by cases h) cs [] false r.1 r.2 h hp (fun _ _=>trivial) b hb;rcases this.1 x hx with h1 | h1 | h1 | ⟨c0,rfl⟩
 ·exact .inl h1
 ·exact .inr (.inl h1)
 ·exact .inr (.inr h1)
 ·obtain⟨r',h2,_⟩:=this.2 c0 hx;cases h2
theorem Qe{bx:Nat→Option Bx}{js:List Nat}{kn:Bool}{cs cs':List AV}{ps:List Prop}(h:bM js kn bx cs=some (cs',ps))(hp:I5 ps){S:Nat→Prop}(hS:∀b∈O4 js bx cs,S b):∀b∈O4 js bx cs,Au I5 bx (gQ bx 1) (kE bx 1) S b :=
 uo (fun _ _=>jl) (WI fun _ _=>jl) cs js kn cs' ps h hp hS
section
variable {E:En} {X:Nat→Prop} {n0:Nat} {w0:World×Mm} {ok0:Nat→Prop} {M:Mm} {nt:Nat} {tm:Nat→AV} {bx:Nat→Option Bx} {a:Act} {w:World} {o:Oper} {Q:Exit→Act→World→Prop}
theorem Jq{bs:List Nat}(hst:∀b∈bs,Au I5 bx (gQ bx 1) (kE bx 1) (·∈bs) b):∀b∈bs,Fz M bx (iJ M bx bs) b:=by
 intro b hb x hx q hq;refine .inr ⟨b,x,hb,hx,?_,hq⟩;rcases (hst b hb).1 x hx with h1 | ⟨_,_,_,rfl⟩ | ⟨_,_,_,rfl⟩ | ⟨c0,rfl⟩
 ·exact absurd hq (Bx.b0a h1)
 ·rfl
 ·rfl
 ·obtain⟨r,h2,_⟩:=(hst b hb).2 c0 hx;have h2':gQ bx rH c0=some r:=h2;simp only[oC,h2',Option.isSome_some]
theorem Inv.freeze(h:Inv X n0 w0 ok0 M nt tm bx a w)(bs:List Nat)(hst:∀b∈bs,Au I5 bx (gQ bx 1) (kE bx 1) (·∈bs) b) :
  Inv X n0 w0 ok0 ⟨M.m,iJ M bx bs,M.o⟩ nt tm (updB bx (Q9 bx bs)) a w:=by
 obtain⟨g,hs,hF⟩:=h.J4.Q9 bs fun b hb cs hx cs' ps hc=>by
  obtain⟨r,h1,h2,h3⟩:=(hst b hb).2 cs hx;have hc':gQ bx 1 cs=some (cs',ps):=hc;rw[h1]at hc';cases hc';exact⟨h2,fun b' hb'=>Jq hst b' (h3 b' hb')⟩
 exact h.same g hs hF
theorem jv{v:Value}{w':World}{K:Act→World→Prop}(hrun:(execOp a.eval o).run E.P w=.ok (.value v) w')(h:K (a.put o.dst v) w'):o.wp E.P a w K Q:=by
 unfold Oper.wp;rw[hrun,Oper.upon_value];exact h
theorem Jr{w':World}{K:Act→World→Prop}(hrun:(execOp a.eval o).run E.P w=.ok .skip w')(h:K (a.put o.dst undef) w'):o.wp E.P a w K Q:=by
 unfold Oper.wp;rw[hrun,Oper.upon_skip];exact h
theorem dP{v:Value}{r:AV}(hI:Inv X n0 w0 ok0 M nt tm bx a w)(hd:∀t,o.dst=some t→t < nt)(hrun:(execOp a.eval o).run E.P w=.ok (.value v) w)(hr:RV M w r v) :
  o.wp E.P a w (Left X n0 w0 ok0 nt (U8 tm o.dst r) (updB bx [])) Q:=jv hrun ⟨M,hI.val o.dst hd hr⟩
theorem run_load{P:Program}{t:TypeId}{n:Nat}{ag:Bool}(hn:ed P t=some n)(ha:oN P t=some ag){g q:Nat}{cs:List AV}{vs:List Value}(hc:∀(j:Nat) u,vs[j]?=some u→w.cell? ⟨g,q+j,none⟩=some u)(hl:RL M w cs vs){off:Nat}{r:AV}(hr:rowAt cs off n ag=some r) :
  ∃v,(loadVar t ⟨g,q+off,none⟩).run P w=.ok v w∧RV M w r v:=by
 unfold rowAt at hr;split at hr
 case h_2=>cases hr
 rename_i hle;have AA:=ZaD hle;have hlen:=hl.len;cases ag with
 |true =>
  cases hr;refine⟨.agg ((vs.drop off).take n).toArray,?_,_,rfl,(hl.drop off).take n⟩;have h1:(loadCells ⟨g,q+off,none⟩ n).run P w=.ok ((vs.drop off).take n).toArray w:=by
   have hn':((vs.drop off).take n).length=n:=by simp;omega
   have:=run_loadCells_list (P:=P) w ⟨g,q+off,none⟩ ((vs.drop off).take n) (fun j v hj=>by
    rw[wL,Nat.add_assoc];refine hc _ v ?_;rw[List.getElem?_take]at hj;split at hj
    ·rw[List.getElem?_drop]at hj;exact hj
    ·cases hj)
   rwa [hn']at this
  simp only[loadVar,Za8,Zab,Result.andThen,Ce ha,run_sizeOf hn,h1,ZaP]
 |false =>
  obtain⟨u,hu,hru⟩:=hl.get hr;refine⟨u,?_,hru⟩;have hcell:=hc off u hu;simp only[loadVar,Za8,Result.andThen,Ce ha,load,Sem.run,hcell,ZaY,ZaM]
theorem Cf{P:Program}{t:TypeId}{x:Operand}(ho:o.op=.load t x){g q:Nat}(hv:a.eval x=.pointer (some ⟨g,q,none⟩)){v:Value}(h:(loadVar t ⟨g,q,none⟩).run P w=.ok v w):(execOp a.eval o).run P w=.ok (.value v) w:=by
 obtain⟨dd,op,ty,pos,af,gd⟩:=o;simp only at ho;subst ho;simp only[execOp,Instr.loadAt,Instr.sureAddr,hv,Za8,Zab,Result.andThen,h]
theorem a5P{t:TypeId}{x:Operand}(ho:o.op=.load t x)(hI:Inv X n0 w0 ok0 M nt tm bx a w)(hd:∀t,o.dst=some t→t < nt){b off n k:Nat}{ag:Bool}(hx:J6 tm x=.ptr b off)(hn:ed E.P t=some n)(ha:oN E.P t=some ag){r:AV}{ups:List (Nat×Bx)}{ps:List Prop}(hr:(J5.load b off n ag).run E bx k=some (r,ups,ps)) :
  o.wp E.P a w (Left X n0 w0 ok0 nt (U8 tm o.dst r) (updB bx ups)) Q:=by
 have hv:=hI.ev x;rw[hx]at hv;obtain⟨g,hg,hv⟩:=hv;simp only[J5.run]at hr;split at hr
 ·rename_i cs hb;split at hr
  ·rename_i r' hrow;cases hr;obtain⟨g',T,vs,hg',hB,hl⟩:=hI.J4.box b _ hb;rw[hg]at hg';cases hg';obtain⟨u,h1,h2⟩:=run_load (g:=g) (q:=0) hn ha (fun j u hj=>by rw[ZaH,hB.cell];simpa using hj) hl hrow;rw[ZaH]at h1;exact dP hI hd (Cf ho hv h1) h2
  ·cases hr
 ·rename_i cs hb;split at hr
  ·rename_i r' hrow;cases hr;obtain⟨g',vs,hg',hF,hlt,hc,hl⟩:=hI.J4.box b _ hb;rw[hg]at hg';cases hg';obtain⟨u,h1,h2⟩:=run_load (g:=g) (q:=0) (M:=M0 M.F) hn ha (fun j u hj=>by rw[ZaH];exact hc j u hj) hl hrow;rw[ZaH]at h1;exact dP hI hd (Cf ho hv h1) (RV.go (U1.same (M:=M0 M.F) (M':=M) (fun _ h _=>h) (fun _ _ h=>by cases h) (fun _ _ h=>by cases h)) _ _ h2)
  ·cases hr
 ·cases hr
theorem a5Q{t:TypeId}{x:Operand}(ho:o.op=.load t x)(hI:Inv X n0 w0 ok0 M nt tm bx a w)(hd:∀t,o.dst=some t→t < nt){cs:List AV}{n:Nat}{ag:Bool}(hx:J6 tm x=.pin cs)(hn:ed E.P t=some n)(ha:oN E.P t=some ag){r:AV}(hr:rowAt cs 0 n ag=some r) :
  o.wp E.P a w (Left X n0 w0 ok0 nt (U8 tm o.dst r) (updB bx [])) Q:=by
 have hv:=hI.ev x;rw[hx]at hv;obtain⟨g,q,vs,hv,hF,hlt,hc,hl⟩:=hv;obtain⟨u,h1,h2⟩:=run_load (g:=g) (q:=q) (M:=M0 M.F) hn ha hc hl hr;exact dP hI hd (Cf ho hv h1) (RV.go (U1.same (M:=M0 M.F) (M':=M) (fun _ h _=>h) (fun _ _ h=>by cases h) (fun _ _ h=>by cases h)) _ _ h2)
theorem VL{t:TypeId}{x:Operand}(ho:o.op=.load t x)(hI:Inv X n0 w0 ok0 M nt tm bx a w)(hd:∀t,o.dst=some t→t < nt){g off:Nat}(hx:J6 tm x=.gl g off)(ha:oN E.P t=some false){r:Value}(hr:w.cell? ⟨g,off,none⟩=some r) :
  o.wp E.P a w (Left X n0 w0 ok0 nt (U8 tm o.dst (.dt (.val r))) (updB bx [])) Q:=by
 have hv:=hI.ev x;rw[hx]at hv;refine dP hI hd (Cf (v:=r) ho hv ?_) (Rd.val _);simp only[loadVar,Za8,Result.andThen,Ce ha,load,Sem.run,hr,ZaY,ZaM]
theorem a6W{F:Nat→Prop}{k:Nat}{es:aa1}{vs:List Value}(h:vz F w k es vs){i:Nat}{ds:List Dt}(hi:es[i]?=some ds):RL (M0 F) w (ds.map .dt) ((vs.drop (i * k)).take k):=by
 obtain⟨hlt,he⟩:=Pi.1 hi;obtain⟨hk,hf⟩:=h.2 i hlt;rw[he]at hk;have hvl:=h.1;have hle:i * k+k≤vs.length:=by
  rw[hvl];have:(i+1) * k≤es.length * k:=ZaJ k hlt;rw[Nat.add_mul]at this;omega
 have key:∀n,n≤ds.length→RL (M0 F) w ((ds.take n).map .dt) ((vs.drop (i * k)).take n):=by
  intro n
  induction n with
  |zero=>exact fun _=>rfl
  |succ n ih =>
   intro hn;have ih':=ih J;obtain⟨u,h1,_,h2⟩:=hf n (by rw[he];omega);simp only[he]at h2;rw[List.take_add_one,Za2 J,ZaL,List.take_add_one,List.getElem?_drop,h1];exact ih'.append ⟨u,[],rfl,h2,rfl⟩
 have:=key k J
 rwa [Zae J]at this
theorem a7W{t:TypeId}{x:Operand}(ho:o.op=.load t x)(hI:Inv X n0 w0 ok0 M nt tm bx a w)(hd:∀t,o.dst=some t→t < nt){b i k n k0:Nat}{ds:List Dt}{ag:Bool}(hx:J6 tm x=.eX b i k)(hn:ed E.P t=some n)(hnk:n=k)(ha:oN E.P t=some ag){r:AV}{ups:List (Nat×Bx)}{ps:List Prop}(hr:(J5.zZ b i k ds ag).run E bx k0=some (r,ups,ps))(hp:I5 ps) :
  o.wp E.P a w (Left X n0 w0 ok0 nt (U8 tm o.dst r) (updB bx ups)) Q:=by
 have hv:=hI.ev x;rw[hx]at hv;obtain⟨g,hg,hv⟩:=hv;simp only[J5.run]at hr;split at hr
 case h_2=>cases hr
 rename_i e k' es hb;split at hr
 case h_2=>cases hr
 rename_i hk;obtain rfl:=Zau hk;subst hnk;cases hr;obtain⟨h1,h2,_⟩:=hp;obtain⟨g',vs,hg',hB,hl⟩:=hI.J4.box b _ hb;rw[hg]at hg';cases hg';have hrl:=RL.go (U1.same (M:=M0 M.F) (M':=M) (fun _ h _=>h) (fun _ _ h=>by cases h) (fun _ _ h=>by cases h)) _ _ (a6W hl h1);have hrow:rowAt (ds.map .dt) 0 n ag=some (cond ag (.agg (ds.map .dt)) (.dt (ds.headD (.val undef)))):=by
  obtain⟨hlt,he⟩:=Pi.1 h1;have hk:=(hl.2 i hlt).1;rw[he]at hk;unfold rowAt;have:Nat.ble (0+n) (List.map AV.dt ds).length=true:=Nat.ble_eq_true_of_le (by simp;omega);rw[this];cases ag with
  |true=>simp only[Zb5,cond_true];rw[Zae (by simp;omega)]
  |false =>
   simp only[cond_false]at h2
   match ds,h2 with
   |[d],_=>rfl
 obtain⟨u,h3,h4⟩:=run_load (g:=g) (q:=i * n) hn ha (fun j u hj=>by
  rw[hB.cell];rw[List.getElem?_take]at hj;split at hj
  ·rw[List.getElem?_drop]at hj;simpa using hj
  ·cases hj) hrl hrow
 exact dP hI hd (Cf ho hv h3) h4
theorem VM{P:Program}{t:TypeId}{x y:Operand}(ho:o.op=.store t x y){g q:Nat}{T:TypeId}(hv:a.eval x=.pointer (some ⟨g,q,none⟩)){vs us:List Value}(hn:ed P t=some us.length)(hu:(a.eval y).cells=us.toArray)(h1:∀u∈us,u.oneCell'=true)(hB:F5 w g T vs.toArray)(hle:q+us.length≤vs.length) :
  (execOp a.eval o).run P w=.ok .skip (w.setRow g (vs.take q++us++vs.drop (q+us.length)).toArray):=by
 have h2:=run_storeCells_at (P:=P) g q T us 0 vs.toArray w hB (by simp;omega) h1;simp only[Nat.add_zero]at h2;obtain⟨dd,op,ty,pos,af,gd⟩:=o;simp only at ho;subst ho;have hsz:(a.eval y).cells.size=us.length:=by rw[hu];simp
 simp only[execOp,Instr.storeAt,storeVar,Instr.sureAddr,hv,Za8,Zab,Result.andThen,run_sizeOf hn,hsz,ne_eq,not_true_eq_false,ZaM];rw[hu];simp only[h2]
theorem a7X{t:TypeId}{x y:Operand}(ho:o.op=.store t x y)(hI:Inv X n0 w0 ok0 M nt tm bx a w)(hd:∀t,o.dst=some t→t < nt){b off k:Nat}(hx:J6 tm x=.ptr b off)(hn:ed E.P t=some (J6 tm y).cells.length){r:AV}{ups:List (Nat×Bx)}{ps:List Prop}(hr:(J5.store b off (J6 tm y).cells).run E bx k=some (r,ups,ps)) :
  o.wp E.P a w (Left X n0 w0 ok0 nt (U8 tm o.dst r) (updB bx ups)) Q:=by
 have hv:=hI.ev x;rw[hx]at hv;obtain⟨g,hg,hv⟩:=hv;simp only[J5.run]at hr;split at hr
 case h_2=>cases hr
 rename_i cs hb;split at hr
 case h_2=>cases hr
 rename_i hle;cases hr;obtain⟨g',T,vs,hg',hB,hl⟩:=hI.J4.box b _ hb;rw[hg]at hg';cases hg';rw[AC]at hle;have AA:=ZaD hle.1;have hlen:=hl.len;obtain⟨us,hu1,hu2⟩:=(hI.ev y).cells hle.2;have Bz:=hu2.len;refine Jr (VM ho hv (us:=us) (by rw[hn,Bz]) hu1 (hu2.oneCell hle.2) hB J) ⟨M,?_⟩;have:=hI.store hb hg hB (((hl.take off).append hu2).append (hl.drop (off+us.length))) o.dst hd;rw[Bz]at this ⊢
 exact this
theorem RL.a2z{M:Mm}{w:World}:∀{ds:List Dt} {vs:List Value},RL M w (ds.map .dt) vs→∀j (h:j < ds.length),∃u,vs[j]?=some u∧Rd M.F w u ds[j]:=by
 intro ds vs h j hj;obtain⟨u,h1,h2⟩:=h.get (i:=j) (c:=.dt ds[j]) (by rw[Zag,Za2 hj];rfl);exact⟨u,h1,h2⟩
theorem wM{M:Mm}{w:World}:RV M w (.dt (.val undef)) undef:=Rd.val _
theorem a6X{t:TypeId}{x y:Operand}(ho:o.op=.store t x y)(hI:Inv X n0 w0 ok0 M nt tm bx a w)(hd:∀t,o.dst=some t→t < nt){b i k k0:Nat}(hx:J6 tm x=.eX b i k)(hn:ed E.P t=some k){r:AV}{ups:List (Nat×Bx)}{ps:List Prop}(hr:(J5.wS b i k (J6 tm y).cells).run E bx k0=some (r,ups,ps))(hp:I5 ps) :
  o.wp E.P a w (Left X n0 w0 ok0 nt (U8 tm o.dst r) (updB bx ups)) Q:=by
 have hv:=hI.ev x;rw[hx]at hv;obtain⟨g,hg,hv⟩:=hv;simp only[J5.run]at hr;split at hr
 case h_2=>cases hr
 rename_i e k' es hb;split at hr
 case h_2=>cases hr
 rename_i vs' qs hc hcv;split at hr
 case h_2=>cases hr
 rename_i ds hds hnb;cases hr;obtain⟨hi,hp'⟩:=hp;simp only[AC]at hc;obtain rfl:=Zau hc.1.1;have hlk:=Zau hc.2
 let bs:=O4 [] bx (J6 tm y).cells
 have hst:=Qe hcv hp' (S:=(·∈bs)) fun b hb=>hb
 have hI1:=hI.freeze bs hst;have hnb':b ∉ bs:=fun h=>by
  have:=List.contains_iff_mem.2 h;rw[this]at hnb;cases hnb
 have hb1:updB bx (Q9 bx bs) b=some (.rws e k es):=by
  rw[uy (fun x hx=>hnb' (kR hx).1),hb]
 obtain⟨g',vs,hg',hB,hl⟩:=hI1.J4.box b _ hb1;rw[show (M.m b=_) from hg]at hg'
 cases hg';obtain⟨us,hu1,hu2⟩:=(hI.ev y).cells hc.1.2;have Bz:=hu2.len;have hu3:=nM hI.J4 (F1:=iJ M bx bs) (fun q h _=>.inl h) (wO hI.J4 (fun q h _=>.inl h) 1) _ [] false _ _ us (M0 (iJ M bx bs)) rfl (fun b i h=>by cases h) hcv hp' (fun b hb=>Jq hst b hb) hu2;rw[zM hds]at hu3;have hdl:ds.length=k:=by
  have:=hu3.len;rw[EQ]at this;omega
 have hvl:=hl.1;have hik:i * k+k≤vs.length:=by
  rw[hvl];have:(i+1) * k≤es.length * k:=ZaJ k hi;rw[Nat.add_mul]at this;omega
 have hone:=hu2.oneCell hc.1.2;refine Jr (VM ho hv (us:=us) (by rw[hn,Bz,hlk]) hu1 hone hB J) ⟨⟨M.m,iJ M bx bs,M.o⟩,?_⟩;generalize hv2:vs.take (i * k)++us++vs.drop (i * k+us.length)=vs2;have b7z:∀{M2:Mm} {w2:World},U1 X n0 ⟨M.m,iJ M bx bs,M.o⟩ w M2 w2→vz M2.F w2 k (es.set i ds) vs2:=by
  intro M2 w2 gg;subst hv2;refine⟨by simp;omega,fun j hj=>?_⟩;rw[List.length_set]at hj;obtain⟨hk1,hk2⟩:=hl.2 j hj;by_cases ej:i=j
  ·subst ej;rw[List.getElem_set_self];refine⟨hdl,fun j' hj'=>?_⟩;obtain⟨u,h1,h2⟩:=hu3.a2z j' hj';refine⟨u,?_,hone u (Za5 h1),Rd.go gg h2⟩;rw[Zah,ZaK (by simp;omega),ZaN (by simp;omega)];simp only[Zaz];rw[show i * k+j' - min (i * k) vs.length=j' by omega]
   exact h1
  ·rw[List.getElem_set_ne ej];refine⟨hk1,fun j' hj'=>?_⟩;obtain⟨u,h1,h2,h3⟩:=hk2 j' hj';refine⟨u,?_,h2,Rd.go gg h3⟩;rw[←h1];rcases Nat.lt_or_gt_of_ne ej with hlt | hlt
   ·have:(i+1) * k≤j * k:=ZaJ k hlt;rw[Nat.add_mul]at this;rw[ZaK (by simp;omega)];simp only[Za4,Zaz];rw[List.getElem?_drop];congr 1;omega
   ·have:(j+1) * k≤i * k:=ZaJ k hlt;rw[Nat.add_mul]at this;rw[Zah,ZaN (by simp;omega),List.getElem?_take_of_lt J]
 have hfin:=hI1.KR (x:=.rws e k es) (x':=.rws e k (es.set i ds)) (w':=w.setRow g vs2.toArray) (r:=.dt (.val undef)) (v:=undef) hb1 hg rfl hg rfl rfl rfl (setRow_size _ _ _) (fun q hq=>WH hq) (fun gg=>⟨g,vs2,hg,hB.setRow,b7z gg⟩) o.dst hd wM;have e:aJ (updB bx (Q9 bx bs)) b (.rws e k (es.set i ds))=updB bx (Q9 bx bs++[(b,.rws e k (es.set i ds))]):=by
  have gen:∀ups:List (Nat×Bx),(∀x,(b,x) ∉ ups)→aJ (updB bx ups) b (.rws e k (es.set i ds))=updB bx (ups++[(b,.rws e k (es.set i ds))]):=by
   intro ups
   induction ups with
   |nil=>intro _;rfl
   |cons p r ih =>
    intro hn;obtain⟨b0,x0⟩:=p;have hne:b≠b0:=fun e=>hn x0 (by rw[e];exact PP ..)
    have:=ih fun x hx=>hn x (lm _ hx)
    funext q;have hq:=congrFun this q;show (if q=b then some _ else if q=b0 then some x0 else updB bx r q)=if q=b0 then some x0 else updB bx (r++_) q
    rw[←hq];by_cases e1:q=b
    ·subst e1;rw[Za0 rfl,lw hne];exact (Za0 rfl).symm
    ·rw[lw e1];by_cases e2:q=b0
     ·rw[Za0 e2,Za0 e2]
     ·rw[lw e2,lw e2];exact (lw e1).symm
  exact gen _ fun x hx=>hnb' (kR hx).1
 rw[←e];exact hfin
end
theorem RL.b2J{M:Mm}{w:World}{a:AV}{v:Value}(h:RV M w a v):RL M w [a] [v]:=⟨v,[],rfl,h,rfl⟩
theorem RL.b2K{M:Mm}{w:World}{a:AV}{v:Value}(h:RL M w [a] [v]):RV M w a v:=by
 obtain⟨u,us,e,h,_⟩:=h;cases e;exact h
theorem b0b{P:Program}{t e:TypeId}(h:P.underlying t=some (.slice e)):P.elem t=e:=by unfold Program.elem;rw[h]
section
variable {E:En} {X:Nat→Prop} {n0:Nat} {w0:World×Mm} {ok0:Nat→Prop} {M:Mm} {nt:Nat} {tm:Nat→AV} {bx:Nat→Option Bx} {a:Act} {w:World} {o:Oper} {Q:Exit→Act→World→Prop}
theorem Inv.hand(hI:Inv X n0 w0 ok0 M nt tm bx a w){kn:Bool}{cs cs':List AV}{ps:List Prop}(hc:bM [] kn bx cs=some (cs',ps))(hp:I5 ps){vs:List Value}(hr:RL M w cs vs) :
  ∃M1,Inv X n0 w0 ok0 M1 nt tm (updB bx (Q9 bx (O4 [] bx cs))) a w∧RL (M0 M1.F) w cs' vs∧M1.m=M.m∧M1.o=M.o∧∀q,M.F q→M1.F q:=by
 have hst:=Qe hc hp (S:=(·∈O4 [] bx cs)) fun b hb=>hb
 refine⟨_,hI.freeze _ hst,?_,rfl,rfl,fun q hq=>.inl hq⟩;exact nM hI.J4 (F1:=iJ M bx (O4 [] bx cs)) (fun q h _=>.inl h) (wO hI.J4 (fun q h _=>.inl h) 1) cs [] kn cs' ps vs (M0 (iJ M bx (O4 [] bx cs))) rfl (fun b i h=>by cases h) hc hp (fun b hb=>Jq hst b hb) hr
theorem Inv.Js(hI:Inv X n0 w0 ok0 M nt tm bx a w){kn:Bool}{c c':AV}{ps:List Prop}(hc:bM [] kn bx [c]=some ([c'],ps))(hp:I5 ps){v:Value}(hr:RV M w c v) :
  ∃M1,Inv X n0 w0 ok0 M1 nt tm (updB bx (Q9 bx (O4 [] bx [c]))) a w∧RV (M0 M1.F) w c' v∧M1.m=M.m∧M1.o=M.o∧∀q,M.F q→M1.F q:=by
 obtain⟨M1,h1,h2,h3⟩:=hI.hand hc hp (RL.b2J hr);exact⟨M1,h1,h2.b2K,h3⟩
theorem Qg(hS:aG X n0 M bx w){x:AV}{xs:aa1}{ps:List Prop}(h:xe bx x=some (xs,ps))(hp:I5 ps){v:Value}(hr:RV M w x v) :
  ∃A m c,v=.slice A m c∧xs.length=m∧∀k,S9 k xs→0 < m→∃b q,A=some ⟨b,q,none⟩∧∀i (hi:i < xs.length),(xs[i]).length=k∧∀j (hj:j < (xs[i]).length),∃u,w.cell? ⟨b,q+i * k+j,none⟩=some u∧Rd M.F w u (xs[i])[j]∧u.oneCell'=true:=by
 have JV:∀{v:Value} {xs:aa1},Rd M.F w v (.row xs)→∃A m c,v=.slice A m c∧xs.length=m∧∀k,S9 k xs→0 < m→∃b q,A=some ⟨b,q,none⟩∧∀i (hi:i < xs.length),(xs[i]).length=k∧∀j (hj:j < (xs[i]).length),∃u,w.cell? ⟨b,q+i * k+j,none⟩=some u∧Rd M.F w u (xs[i])[j]∧u.oneCell'=true:=by
  intro v xs hr;obtain⟨A,m,c,rfl,hm,_⟩:=Rd.slice hr;refine⟨A,m,c,rfl,hm,fun k hk h0=>?_⟩;obtain⟨b,q,e,hf⟩:=Rd.src (A:=none) (ok:=M.F) hr (fun b hb _=>⟨hb,I⟩) hk h0;refine⟨b,q,e,fun i hi=>⟨(hf i hi).1,fun j hj=>?_⟩⟩;obtain⟨u,h1,h2,h3⟩:=(hf i hi).2 j hj;exact⟨u,h1,h2.mono fun _ h _=>h.1,h3⟩
 unfold xe at h;split at h
 ·cases h;exact JV hr
 ·cases h;exact⟨_,0,_,Rd.Z9 hr,rfl,fun _ _ h=>absurd h (Nat.lt_irrefl _)⟩
 ·cases h;obtain⟨A,_,h2⟩:=hr;exact JV h2
 ·cases h;exact⟨none,0,0,hr,rfl,fun _ _ h=>absurd h (Nat.lt_irrefl _)⟩
 ·rename_i b n;obtain⟨A,c,A',n',c',h1,h2,h3,h4⟩:=hr;split at h
  ·rename_i e k0 es hb;cases h;obtain⟨A2,n2,c2,e1,e2⟩:=hS.box b _ hb;rw[h2]at e1;cases e1;have hn:n=n':=hp.1.symm.trans e2.len;obtain⟨rfl,rfl⟩:=h4 hn;subst hn;refine⟨A,n,c,h1,e2.len,fun k hk h0=>?_⟩;obtain⟨xs',⟨hx,ho⟩,he⟩:=e2.own;have hlen:=e2.len;rcases ho with⟨_,h5⟩ | ⟨g',cap,cur,hv,hbg,hgb,hnc,hcm,hcs,ht⟩
   ·omega
   ·simp only[Zap]at hv;obtain⟨rfl,_,rfl⟩:=hv;have hk0:k0=k:=by rw[←(he 0 J).1];exact (hk _ (Zay _)).1
    subst hk0;refine⟨g',0,rfl,fun i hi=>⟨(he i hi).1,fun j hj=>?_⟩⟩;obtain⟨u,h6,h7⟩:=(he i hi).2 j hj;refine⟨u,?_,h7.mono fun _ h _=>h.1,h7.one ((hk _ (Zay _)).2 _ (Zay _))⟩;have hj':j < k0:=by rw[←(he i hi).1];exact hj
    have hlt:i * k0+j < n * k0:=by
     have:(i+1) * k0≤n * k0:=ZaJ k0 J;rw[Nat.add_mul]at this;omega
    have e:cur[i * k0+j]?=some u:=by
     rw[←h6,←ht,List.getElem?_take_of_lt hlt];simp
    simp[World.cell?,hgb,Nat.zero_add,e]
  ·rename_i es hb;cases h;obtain⟨A2,n2,c2,e1,e2⟩:=hS.box b _ hb;rw[h2]at e1;cases e1;have hn:n=n':=hp.1.symm.trans e2.len;obtain⟨rfl,rfl⟩:=h4 hn;subst hn;rw[h1];exact JV e2
  ·cases h
 ·rename_i b n;obtain⟨g,h1,h2⟩:=hr;split at h
  ·rename_i e k0 es hb;cases h;obtain⟨g',vs,e1,e2,e3⟩:=hS.box b _ hb;rw[h1]at e1;cases e1;have hn:=hp.1;subst hn;refine⟨_,_,_,h2,rfl,fun k hk h0=>?_⟩;have hk0:k0=k:=by rw[←(e3.2 0 h0).1];exact (hk _ (Zay _)).1
   subst hk0;refine⟨g,0,rfl,fun i hi=>⟨(e3.2 i hi).1,fun j hj=>?_⟩⟩;obtain⟨u,h6,h7,h8⟩:=(e3.2 i hi).2 j hj;refine⟨u,?_,h8,h7⟩;rw[e2.cell,ZaH];simpa using h6
  ·rename_i es hb;cases h;obtain⟨g',e1,e2⟩:=hS.box b _ hb;rw[h1]at e1;cases e1;have hn:=hp.1;subst hn;rw[h2];exact JV e2
  ·cases h
 ·cases h
theorem a7Y{P:Program}{t t' ty e e':TypeId}{args:Array Value}(ht:P.underlying t=some (.slice e))(ht':P.underlying t'=some (.slice e')):(Builtin.append_ #[t,t'] ty args).run P w=(Builtin.append_ #[t,t] ty args).run P w:=by
 unfold Builtin.append_;cases args[0]? with
 |none=>rfl
 |some s=>cases args[1]? with
  |none=>rfl
  |some x =>
   cases s with
   |slice base n c =>
    have e1:∀w,(underlying t).run P w=.ok (TypeDesc.slice e) w:=Zat ht;have e2:∀w,(underlying t').run P w=.ok (TypeDesc.slice e') w:=Zat ht';have f1:(#[t,t']:Array TypeId)[0]?=some t:=rfl;have f2:(#[t,t']:Array TypeId)[1]?=some t':=rfl;have f3:(#[t,t]:Array TypeId)[0]?=some t:=rfl;have f4:(#[t,t]:Array TypeId)[1]?=some t:=rfl;simp only[f1,f2,f3,f4,Za8,e1,e2,Result.andThen,Zab]
   |_=>rfl
theorem Oq{P:Program}(ok:Nat→Prop)(t ty e:TypeId)(z:Value)(k bytes:Nat)(ht:P.underlying t=some (.slice e))(hinfo:(P.info? e).map (fun i=>(i.zero,i.size,i.bytes))=some (some z,k,bytes))(hz:z.cells.size=k)(hk0:0 < k)
  (A:Option Addr) (n c:Nat) (l:aa1) (hown:aZ ok w 0 e k A n c l) (A':Option Addr) (m c':Nat) (l':aa1) (hm:l'.length=m)
  (hsrc:0 < m→∃b o,A'=some ⟨b,o,none⟩∧∀i (hi:i < l'.length),(l'[i]).length=k∧∀j (hj:j < (l'[i]).length),∃u,w.cell? ⟨b,o+i * k+j,none⟩=some u∧Rd (fun b=>ok b∧A≠some ⟨b,0,none⟩) w u (l'[i])[j]∧u.oneCell'=true)
  (hf:X8 bytes (n+m)) :
  ∃A2 c2 w2,(Builtin.append_ #[t,t] ty #[.slice A n c,.slice A' m c']).run P w=.ok (.slice A2 (n+m) c2) w2∧aZ ok w2 0 e k A2 (n+m) c2 (l++l') ∧
   (∀g,g < w.heap.size→A≠some ⟨g,0,none⟩→w2.heap[g]?=w.heap[g]?)∧w.heap.size≤w2.heap.size∧w2.os=w.os∧w2.tape=w.tape∧w2.output=w.output∧(A2=A∨A2=some ⟨w.heap.size,0,none⟩)∧(m=0→A2=A∧c2=c):=by
 rcases Zas m with h0 | h0
 ·subst h0;obtain rfl:l'=[]:=Za9 hm;obtain⟨i0,hi0,hz0,hz1,hz2⟩:=info_parts hinfo;refine⟨A,c,w,?_,by simpa using hown,fun _ _ _=>rfl,NE _,rfl,rfl,rfl,.inl rfl,fun _=>⟨rfl,rfl⟩⟩;obtain⟨xs,⟨_,ho⟩,_⟩:=hown.own;rcases ho with⟨hv,h0⟩ | ⟨g,cap,cur,hv,_,_,hnc,_⟩
  ·simp only[Zap]at hv;obtain⟨rfl,rfl,rfl⟩:=hv;rcases A' with _ | ad <;> simp[Builtin.append_,Zat ht,sizeOf,typeInfo,hi0,Builtin.lenOf,Builtin.firstCells,loadCells,loadCellsFrom]
  ·simp only[Zap]at hv;obtain⟨rfl,_,rfl⟩:=hv;rcases A' with _ | ad <;> simp[Builtin.append_,Zat ht,sizeOf,typeInfo,hi0,Builtin.lenOf,Builtin.firstCells,hnc,storeCells,loadCells,loadCellsFrom]
 ·obtain⟨A2,c2,w2,h1,h2,h3,h4,h5,h6,h7,h8⟩:=a7u (P:=P) (w:=w) ok 0 t ty e z k bytes ht hinfo hz hk0 A n c l hown A' m c' l' hm hsrc hf.1 hf.2 (ww _);exact⟨A2,c2,w2,h1,h2,h3,h4,h5,h6,h7,h8,fun e=>J⟩
theorem Inv.app(hI:Inv X n0 w0 ok0 M nt tm bx a w){b k:Nat}{e:TypeId}{A A2:Option Addr}{n m c c2:Nat}{_es es2:aa1}{w2:World}
  (hb:(∃es,bx b=some (.buf e k es)∧M.o b=some (A,n,c))∨(bx b=none∧A=none)) (hown:aZ M.F w2 0 e k A2 (n+m) c2 es2)
  (h3:∀g,g < w.heap.size→A≠some ⟨g,0,none⟩→w2.heap[g]?=w.heap[g]?) (h4:w.heap.size≤w2.heap.size) (h5:w2.os=w.os) (h6:w2.tape=w.tape) (h7:w2.output=w.output) (h8:A2=A∨∃g,A2=some ⟨g,0,none⟩∧w.heap.size≤g) (h9:bx b≠none→m=0→A2=A∧c2=c)
  (d:Option Nat) (hd:∀t,d=some t→t < nt):∃M',Inv X n0 w0 ok0 M' nt (U8 tm d (.own b (n+m))) (aJ bx b (.buf e k es2)) (a.put d (.slice A2 (n+m) c2)) w2:=by
 have hA:∀g,A=some ⟨g,0,none⟩→∃x,bx b=some x∧Hx M b x g:=by
  intro g hg;rcases hb with⟨es,h1,h2⟩ | ⟨_,h2⟩
  ·exact⟨_,h1,n,c,by rw[h2,hg]⟩
  ·rw[h2]at hg;cases hg
 have hdom:∀g,A=some ⟨g,0,none⟩→(n0≤g∨X g)∧g < w.heap.size∧¬M.F g:=by
  intro g hg;obtain⟨x,h1,h2⟩:=hA g hg;exact hI.J4.dom b x g h1 h2
 have hmb:M.m b=none:=by
  rcases hb with⟨es,h1,_⟩ | ⟨h1,_⟩
  ·cases e:M.m b with
   |none=>rfl
   |some g =>
    obtain⟨x,h2,h3⟩:=hI.J4.hm b g e;rw[h1]at h2;cases h2;cases h3
  ·exact hI.J4.zu h1
 let M':Mm:=⟨M.m,M.F,fun q=>if q=b then some (A2,n+m,c2) else M.o q⟩
 have hob:M'.o b=some (A2,n+m,c2):=Za0 rfl;have hoq:∀q,q≠b→M'.o q=M.o q:=fun q hq=>lw hq
 have g:U1 X n0 M w M' w2:=by
  refine⟨⟨h5,h6,h7,h4,fun q hq hX=>?_⟩,fun q hq hl=>?_,fun _ h _=>h,fun _ _ h=>h,fun q=>?_⟩
  ·refine h3 q (Zaa hq hI.le) fun e=>?_
   rcases (hdom q e).1 with h | h
   ·omega
   ·exact hX h
  ·exact h3 q hl fun e=>(hdom q e).2.2 hq
  ·by_cases e:q=b
   ·subst e;intro A0 n1 c1 h1;rcases hb with⟨es,hb1,h2⟩ | ⟨h2,_⟩
    ·rw[h2]at h1;cases h1;exact⟨A2,n+m,c2,hob,J,fun e=>h9 (by rw[hb1];simp) J⟩
    ·rw[hI.J4.Dc h2]at h1;cases h1
   ·exact uF (hoq q e)
 refine⟨M',hI.put g (hI.J4.upd (x':=.buf e k es2) g hI.le (fun q hq=>⟨rfl,hoq q hq⟩) (fun q hq hnq=>h3 q hq fun e=>?_) (fun q hq=>⟨Zaa (hI.J4.fz q hq) h4,.inl hq⟩) ⟨A2,n+m,c2,hob,hown⟩ (fun q hq=>?_) (fun q hq=>?_)) (fun _ h=>.inl h) d hd ⟨A2,c2,A2,n+m,c2,rfl,hob,NE _,fun _=>⟨rfl,rfl⟩⟩⟩
 ·obtain⟨x,h1,h2⟩:=hA q e;exact hnq x h1 h2
 ·obtain⟨n',c',hq⟩:=hq;rw[hob]at hq;cases hq;have hlt:q < w2.heap.size:=by
   rcases hown.addr with h | ⟨g',h,_,hl⟩
   ·cases h
   ·cases h;exact hl
  rcases h8 with h | h
  ·exact⟨.inl (hA q h.symm),hlt,(hdom q h.symm).2.2⟩
  ·obtain⟨g',h,hge⟩:=h;cases h;exact⟨.inr hge,hlt,fun hf=>by have:=hI.J4.fz _ hf;omega⟩
 ·have:M.m b=some q:=hq;rw[hmb]at this;cases this
theorem Xp{w:World}{F:Nat→Prop}{k:Nat}(hk0:0 < k){b o:Nat}{l:aa1}(hel:∀i (hi:i < l.length),(l[i]).length=k∧∀j (hj:j < (l[i]).length),∃u,w.cell? ⟨b,o+i * k+j,none⟩=some u∧Rd F w u (l[i])[j]∧u.oneCell'=true) :
  ∃vs:List Value,vs.length=l.length * k∧(∀q u,vs[q]?=some u→w.cell? ⟨b,o+q,none⟩=some u)∧(∀u∈vs,u.oneCell'=true)∧∀i (hi:i < l.length) j (hj:j < (l[i]).length),∃u,vs[i * k+j]?=some u∧Rd F w u (l[i])[j]:=by
 have hdiv:∀q,q < l.length * k→q / k < l.length∧q % k < k:=fun q hq=>⟨Nat.div_lt_of_lt_mul (by rwa [Zbb]at hq),Nat.mod_lt _ hk0⟩
 have Tn:∀q,q / k * k+q % k=q:=fun q=>by rw[Zbb];exact Nat.div_add_mod q k
 let vs:List Value:=(List.range (l.length * k)).map fun q=>(w.cell? ⟨b,o+q,none⟩).getD (.int .i64 0)
 have hvl:vs.length=l.length * k:=by simp[vs]
 have hget:∀i (hi:i < l.length) j (hj:j < (l[i]).length),∃u,vs[i * k+j]?=some u∧w.cell? ⟨b,o+(i * k+j),none⟩=some u∧Rd F w u (l[i])[j]∧u.oneCell'=true:=by
  intro i hi j hj;obtain⟨hk,hj2⟩:=hel i hi;obtain⟨u,h1,h2,h3⟩:=hj2 j hj;have hlt:i * k+j < l.length * k:=by
   have:(i+1) * k≤l.length * k:=ZaJ k J;rw[Nat.add_mul]at this;omega
  refine⟨u,?_,by rw[←Nat.add_assoc];exact h1,h2,h3⟩;simp only[vs];rw[Zag,List.getElem?_range hlt,Option.map_some,←Nat.add_assoc,h1,Zb3]
 have hall:∀q u,vs[q]?=some u→w.cell? ⟨b,o+q,none⟩=some u∧u.oneCell'=true:=by
  intro q u hq;have hlt:q < l.length * k:=by rw[←hvl];exact (Pi.1 hq).1
  obtain⟨h1,h2⟩:=hdiv q hlt;obtain⟨hk,_⟩:=hel (q / k) h1;obtain⟨u',e1,e2,_,e3⟩:=hget (q / k) h1 (q % k) (by rw[hk];exact h2);rw[Tn]at e1 e2;rw[hq]at e1;injection e1 with e1
  subst e1;exact⟨e2,e3⟩
 exact⟨vs,hvl,fun q u hq=>(hall q u hq).1,fun u hu=>by obtain⟨q,hq⟩:=List.getElem?_of_mem hu;exact (hall q u hq).2,fun i hi j hj=>by obtain⟨u,h1,_,h2,_⟩:=hget i hi j hj;exact⟨u,h1,h2⟩⟩
theorem a7Z{P:Program}{w:World}(F:Nat→Prop)(t ty e:TypeId)(z:Value)(k bytes:Nat)(ht:P.underlying t=some (.slice e))(hinfo:(P.info? e).map (fun i=>(i.zero,i.size,i.bytes))=some (some z,k,bytes))(hz:z.cells.size=k)(hk0:0 < k)
  {ad:Addr} (es:aa1) {olds:List Value} (ol:olds.length=es.length * k) (oc:∀q u,olds[q]?=some u→w.cell? (ad.add q)=some u) (ok:∀i (hi:i < es.length),(es[i]).length=k) (og:∀i (hi:i < es.length) j (hj:j < (es[i]).length),∃u,olds[i * k+j]?=some u∧Rd F w u (es[i])[j])
  {b' o':Nat} (c':Nat) (l':aa1) (hl':∀i (hi:i < l'.length),(l'[i]).length=k∧∀j (hj:j < (l'[i]).length),∃u,w.cell? ⟨b',o'+i * k+j,none⟩=some u∧Rd F w u (l'[i])[j]∧u.oneCell'=true) (hm:1≤l'.length) (hf:X8 bytes (es.length+l'.length)) :
  ∃g c2 w2,(Builtin.append_ #[t,t] ty #[.slice (some ad) es.length es.length,.slice (some ⟨b',o',none⟩) l'.length c']).run P w=.ok (.slice (some ⟨g,0,none⟩) (es.length+l'.length) c2) w2∧w.heap.size≤g∧aZ F w2 0 e k (some ⟨g,0,none⟩) (es.length+l'.length) c2 (es++l') ∧
   (∀g,g < w.heap.size→w2.heap[g]?=w.heap[g]?)∧w.heap.size≤w2.heap.size∧w2.os=w.os∧w2.tape=w.tape∧w2.output=w.output:=by
 obtain⟨i0,hi0,hz0,hz1,hz2⟩:=info_parts hinfo;obtain⟨news,nl,nc,_,ng⟩:=Xp hk0 hl';have hadd:∀b o q,(⟨b,o,none⟩:Addr).add q=⟨b,o+q,none⟩:=fun b o q=>by
  unfold Addr.add;split
  ·subst q;rfl
  ·rfl
 obtain⟨v',w2,hrun,hown,hg⟩:=run_append_arg_grows (P:=P) w t ty e i0 z k bytes ht hi0 hz0 hz1 hz2 hz hk0 ad es.length es.length olds ol oc ⟨b',o',none⟩ l'.length c' news nl (fun q u hq=>by rw[hadd];exact nc q u hq) J hf.1 hf.2;have hblk:∀g,g < w.heap.size→w2.heap[g]?=w.heap[g]?:=fun g h=>hg.block g h fun e=>by cases e
 obtain⟨hxl,hcase⟩:=hown;rcases hcase with⟨_,h0⟩ | ⟨g,cap,cur,rfl,hge,hrest⟩
 ·omega
 have Dw:∀u d,Rd F w u d→Rd (fun b=>F b∧(some ⟨g,0,none⟩:Option Addr)≠some ⟨b,0,none⟩) w2 u d:=by
  intro u d hr;refine (hr.lt.mono (ok':=fun b=>F b∧b < w.heap.size) fun _ h _=>h).keep hg.size (fun b hb _=>hblk b hb.2) |>.mono ?_
  intro b hb _;refine⟨hb.1,fun e=>?_⟩;injection e with e
  injection e with e
  have:=hb.2;omega
 refine⟨g,cap,w2,hrun,hge,⟨by rw[Za4],olds++news,⟨hxl,.inr ⟨g,cap,cur,rfl,ww _,hrest⟩⟩,fun i hi=>?_⟩,hblk,hg.size,hg.os,hg.tape,hg.output⟩;rw[Za4]at hi;by_cases hin:i < es.length
 ·have e1:(es++l')[i]'(by rw[Za4];omega)=es[i]:=List.getElem_append_left hin;simp only[e1];refine⟨ok i hin,fun j hj=>?_⟩;obtain⟨u,h6,h7⟩:=og i hin j hj;refine⟨u,?_,Dw _ _ h7⟩;rw[ZaN ((Pi.1 h6).1)];exact h6
 ·have e1:(es++l')[i]'(by rw[Za4];omega)=l'[i - es.length]:=List.getElem_append_right J;simp only[e1];refine⟨(hl' _ J).1,fun j hj=>?_⟩;obtain⟨u,h6,h7⟩:=ng (i - es.length) J j hj;refine⟨u,?_,Dw _ _ h7⟩;have ee:i * k+j=es.length * k+((i - es.length) * k+j):=by
   rw[Nat.sub_mul];have:es.length * k≤i * k:=ZaJ k J;omega
  rw[ee,←ol,ZaK J,Nat.add_sub_cancel_left];exact h6
theorem b2L{t t':TypeId}{s x:Operand}(ho:o.op=.call ⟨.builtin .append,#[s,x],#[t,t']⟩)(hI:Inv X n0 w0 ok0 M nt tm bx a w)(hd:∀t,o.dst=some t→t < nt){e e':TypeId}{z:Value}{kk bytes k:Nat}{c0:Bool}
  (ht:E.P.underlying t=some (.slice e)) (ht':E.P.underlying t'=some (.slice e')) (hinfo:(E.P.info? e).map (fun i=>(i.zero,i.size,i.bytes))=some (some z,kk,bytes)) (hz:z.cells.size=kk) (hk0:0 < kk)
  (hnew:∀q∈(J5.app e kk bytes (J6 tm s) (J6 tm x) c0).news k,bx q=none) {r:AV} {ups:List (Nat×Bx)} {ps:List Prop} (hr:(J5.app e kk bytes (J6 tm s) (J6 tm x) c0).run E bx k=some (r,ups,ps)) (hp:I5 ps) :
  o.wp E.P a w (Left X n0 w0 ok0 nt (U8 tm o.dst r) (updB bx ups)) Q:=by
 simp only[J5.run]at hr;split at hr
 case h_2=>cases hr
 rename_i xs qs hsrc;have exec:∀{A:Option Addr} {n c:Nat} {A':Option Addr} {m c':Nat} {v:Value} {w2:World},a.eval s=.slice A n c→a.eval x=.slice A' m c'→(Builtin.append_ #[t,t] o.type #[.slice A n c,.slice A' m c']).run E.P w=.ok v w2→(execOp a.eval o).run E.P w=.ok (.value v) w2:=by
  intro A n c A' m c' v w2 h1 h2 h3;obtain⟨dd,op,ty,pos,af,gd⟩:=o;simp only at ho;subst ho;rw[←a7Y ht ht']at h3;simp[execOp,resolve,invoke,builtin,h1,h2,h3,Result.andThen]
 split at hr
 ·rename_i hs;split at hr
  case h_2=>cases hr
  rename_i jF;cases hr;obtain⟨hf,hk,hp'⟩:X8 bytes xs.length∧S9 kk xs∧I5 qs:=by
   cases c0 with
   |true=>exact⟨(yU jF).1,(yU jF).2,hp⟩
   |false=>exact hp
  obtain⟨A',m,c',hx,hm,hel⟩:=Qg hI.J4 hsrc hp' (hI.ev x);have hk1:bx k=none:=hnew k (by rw[hs];exact ut.2 rfl);have hse:=hI.ev s;rw[hs]at hse;subst hm;obtain⟨A2,c2,w2,h1,h2,h3,h4,h5,h6,h7,h8,h9⟩:=Oq (P:=E.P) (w:=w) M.F t o.type e z kk bytes ht hinfo hz hk0 none 0 0 [] (aZ.nil M.F w 0 e kk) A' xs.length c' xs rfl (fun h0=>by
   obtain⟨b,q,e1,e2⟩:=hel kk hk h0;refine⟨b,q,e1,fun i hi=>⟨(e2 i hi).1,fun j hj=>?_⟩⟩;obtain⟨u,f1,f2,f3⟩:=(e2 i hi).2 j hj;exact⟨u,f1,f2.mono fun b hb _=>⟨hb,I⟩,f3⟩) (by rw[ZaH];exact hf)
  have:=hI.app (b:=k) (n:=0) (c:=0) (_es:=[]) (.inr ⟨hk1,rfl⟩) h2 h3 h4 h5 h6 h7 (h8.imp_right fun h=>⟨_,h,NE _⟩) (fun _=>h9) o.dst hd;rw[ZaH]at this h1;rw[List.nil_append]at this;exact jv (exec hse hx h1) this
 ·rename_i b n hs;split at hr
  case h_2=>cases hr
  rename_i e1 k1 es hb;split at hr
  case h_2=>cases hr
  rename_i hc;cases hr;simp only[AC]at hc;obtain⟨hn,hf,hk,hp'⟩:es.length=n∧X8 bytes (es++xs).length∧S9 kk xs∧I5 qs:=by
   cases c0 with
   |true =>
    have h2:=hc.2;simp only[Bool.not_true,Bool.false_or,AC]at h2;exact⟨Zau h2.1,(yU h2.2).1,(yU h2.2).2,hp⟩
   |false=>exact hp
  obtain rfl:=Zau hc.1.1.1;obtain rfl:=Zau hc.1.1.2;obtain⟨A',m,c',hx,hm,hel⟩:=Qg hI.J4 hsrc hp' (hI.ev x);have hse:=hI.ev s;rw[hs]at hse;obtain⟨A0,c0,A,n',c,g1,g2,g3,g4⟩:=hse;obtain⟨A3,n3,c3,f1,hown⟩:=hI.J4.box b _ hb;rw[g2]at f1;cases f1;have hnn:n=n':=hn.symm.trans hown.len;obtain⟨rfl,rfl⟩:=g4 hnn;subst hnn;subst hm;obtain⟨A2,c2,w2,h1,h2,h3,h4,h5,h6,h7,h8,h9⟩:=Oq (P:=E.P) (w:=w) M.F t o.type e z kk bytes ht hinfo hz hk0 A0 n c0 es hown A' xs.length c' xs rfl (fun h0=>by
   obtain⟨b',q,e1,e2⟩:=hel kk hk h0;refine⟨b',q,e1,fun i hi=>⟨(e2 i hi).1,fun j hj=>?_⟩⟩;obtain⟨u,f1,f2,f3⟩:=(e2 i hi).2 j hj;exact⟨u,f1,f2.mono fun b1 hb1 _=>⟨hb1,fun e=>(hI.J4.dom b _ b1 hb ⟨n,c0,by rw[←e];exact g2⟩).2.2 hb1⟩,f3⟩) (by rw[Za4,hn]at hf;exact hf)
  have hl:(es++xs).length=n+xs.length:=by rw[Za4,hn]
  have:=hI.app (b:=b) (n:=n) (c:=c0) (_es:=es) (.inl ⟨es,hb,g2⟩) h2 h3 h4 h5 h6 h7 (h8.imp_right fun h=>⟨_,h,NE _⟩) (fun _=>h9) o.dst hd;rw[hl];exact jv (exec g1 hx h1) this
 ·rename_i es hs;split at hr
  case h_2=>cases hr
  rename_i jF;cases hr;obtain⟨h1x,hf,hk,hp'⟩:1≤xs.length∧X8 bytes (es++xs).length∧S9 kk (es++xs)∧I5 qs:=by
   cases c0 with
   |true =>
    simp only[Bool.not_true,Bool.false_or,AC]at jF;exact⟨ZaD jF.1,(yU jF.2).1,(yU jF.2).2,hp⟩
   |false=>exact hp
  have hke:S9 kk es:=fun x hx=>hk x (ZaB _ hx)
  have hkx:S9 kk xs:=fun x hx=>hk x (ZaS _ hx)
  obtain⟨A',m,c',hx,hm,hel⟩:=Qg hI.J4 hsrc hp' (hI.ev x);have hk1:bx k=none:=hnew k (by rw[hs];exact ut.2 rfl);have hse:=hI.ev s;rw[hs]at hse;subst hm;obtain⟨b',q',rfl,SL⟩:=hel kk hkx h1x;obtain⟨A,hsv,hrd⟩:=hse;have hl:(es++xs).length=es.length+xs.length:=Za4;rw[hl]at hf ⊢
  have fin:∀{A2:Option Addr} {c2:Nat} {w2:World},(Builtin.append_ #[t,t] o.type #[.slice A es.length es.length,.slice (some ⟨b',q',none⟩) xs.length c']).run E.P w=.ok (.slice A2 (es.length+xs.length) c2) w2→aZ M.F w2 0 e kk A2 (es.length+xs.length) c2 (es++xs)→(∀g,g < w.heap.size→w2.heap[g]?=w.heap[g]?)→w.heap.size≤w2.heap.size→w2.os=w.os→w2.tape=w.tape→w2.output=w.output→(∃g,A2=some ⟨g,0,none⟩∧w.heap.size≤g)→o.wp E.P a w (Left X n0 w0 ok0 nt (U8 tm o.dst (.own k (es.length+xs.length))) (updB bx [(k,.buf e kk (es++xs))])) Q:=by
   intro A2 c2 w2 h1 h2 h3 h4 h5 h6 h7 h8;exact jv (exec hsv hx h1) (hI.app (b:=k) (A:=none) (n:=es.length) (c:=0) (_es:=[]) (.inr ⟨hk1,rfl⟩) h2 (fun g hg _=>h3 g hg) h4 h5 h6 h7 (.inr h8) (fun h=>absurd hk1 h) o.dst hd)
  cases A with
  |none =>
   have h0:es=[]:=by
    cases es with
    |nil=>rfl
    |cons x r =>
     obtain⟨b,q,e1,_⟩:=Rd.src (A:=none) (ok:=M.F) (k:=kk) (hsv ▸ hrd) (fun b hb _=>⟨hb,I⟩) hke I;cases e1
   subst h0;obtain⟨A2,c2,w2,h1,h2,h3,h4,h5,h6,h7,h8,_⟩:=Oq (P:=E.P) (w:=w) M.F t o.type e z kk bytes ht hinfo hz hk0 none 0 0 [] (aZ.nil M.F w 0 e kk) (some ⟨b',q',none⟩) xs.length c' xs rfl (fun _=>⟨b',q',rfl,fun i hi=>⟨(SL i hi).1,fun j hj=>by
    obtain⟨u,f1,f2,f3⟩:=(SL i hi).2 j hj;exact⟨u,f1,f2.mono fun b hb _=>⟨hb,I⟩,f3⟩⟩⟩) hf
   refine fin h1 h2 (fun g hg=>h3 g hg I) h4 h5 h6 h7 ?_;rcases h8 with h8 | h8
   ·subst h8;have:=h2.len;rcases h2.own with⟨ys,⟨_,hy⟩,_⟩
    rcases hy with⟨_,h0⟩ | ⟨g,cap,cur,hv,_⟩
    ·omega
    ·cases hv
   ·exact⟨_,h8,NE _⟩
  |some ad =>
   have hes:∃olds:List Value,olds.length=es.length * kk∧(∀q u,olds[q]?=some u→w.cell? (ad.add q)=some u)∧(∀i (hi:i < es.length),(es[i]).length=kk)∧∀i (hi:i < es.length) j (hj:j < (es[i]).length),∃u,olds[i * kk+j]?=some u∧Rd M.F w u (es[i])[j]:=by
    rcases Zas es.length with h0 | h0
    ·obtain rfl:es=[]:=Za9 h0;exact⟨[],I,fun q u h=>by simp at h,fun i hi=>by simp at hi,fun i hi=>by simp at hi⟩
    ·obtain⟨b,q,e1,h2⟩:=Rd.src (A:=none) (ok:=M.F) (k:=kk) (hsv ▸ hrd) (fun b hb _=>⟨hb,I⟩) hke h0;cases e1;obtain⟨olds,ol,oc,_,og⟩:=Xp (F:=fun b=>M.F b∧(none:Option Addr)≠some ⟨b,0,none⟩) hk0 h2;refine⟨olds,ol,fun r u hr=>?_,fun i hi=>(h2 i hi).1,fun i hi j hj=>?_⟩
     ·have:=oc r u hr
      rwa [show (⟨b,q,none⟩:Addr).add r=⟨b,q+r,none⟩ by
       unfold Addr.add;split
       ·subst r;rfl
       ·rfl]
     ·obtain⟨u,h3,h4⟩:=og i hi j hj;exact⟨u,h3,h4.mono fun _ h _=>h.1⟩
   obtain⟨olds,ol,oc,okk,og⟩:=hes;obtain⟨g,c2,w2,h1,hge,h2,h3,h4,h5,h6,h7⟩:=a7Z (P:=E.P) (w:=w) M.F t o.type e z kk bytes ht hinfo hz hk0 es ol oc okk og c' xs SL h1x hf;exact fin h1 h2 h3 h4 h5 h6 h7 ⟨g,rfl,hge⟩
 ·cases hr
end
end Go.Proofs.YthhknjlmjefklaaGreatDoor
