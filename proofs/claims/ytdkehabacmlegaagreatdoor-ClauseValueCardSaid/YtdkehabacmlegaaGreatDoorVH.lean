/- Plain walks, second form: values handed to a call: what has grown in the call's own boxes becomes data. -/
import Derived.Test.YtdkehabacmlegaaGreatDoorVG
import Derived.Great.BuildSlice
import Derived.ArgAppend
import Derived.Laws.Slices
import Derived.Laws.BytesString
namespace Go.Proofs.YtdkehabacmlegaaGreatDoor
open Go.RowKit
def J4:List Prop→Prop
 |[]=>True
 |p::ps=>p∧J4 ps
theorem ed:∀{ps qs:List Prop},J4 (ps++qs)→J4 ps∧J4 qs
 |[],_,h=>⟨trivial,h⟩
 |_::_,_,h=>⟨⟨h.1,(ed h.2).1⟩,(ed h.2).2⟩
def Z0(b:Nat):List Nat→Nat→Option Nat
 |[],_=>none
 |j::js,i=>match Nat.beq b j with
  |true=>some i
  |false=>Z0 b js (i+1)
theorem nJ{b:Nat}:∀{js:List Nat} {k i:Nat},Z0 b js k=some i→k≤i∧js[i - k]?=some b
 |[],_,_,h=>by cases h
 |j::js,k,i,h=>by
  unfold Z0 at h;cases e:Nat.beq b j with
  |true =>
   rw[e]at h;cases h;exact⟨Nat.le_refl _,by simp[Nat.eq_of_beq_eq_true e]⟩
  |false =>
   rw[e]at h;obtain⟨h1,h2⟩:=nJ h;refine⟨J,?_⟩;rw[show i - k=(i - (k+1))+1 by omega]
   simpa using h2
mutual
def aj(js:List Nat)(kn:Bool)(bx:Nat→Option Bx)(rec:List AV→Option (List AV×List Prop)):AV→Option (AV×List Prop)
 |.dt d=>some (.dt d,[])
 |.nil=>match kn with
  |true=>some (.nil,[])
  |false=>some (.dt (.row []),[])
 |.X8 es=>some (.dt (.row es),[])
 |.own b n=>match Z0 b js 0 with
  |some i=>some (.own i n,[])
  |none=>match bx b with
   |some (.buf _ _ es)=>some (.dt (.row es),[es.length=n])
   |some (.ak es)=>some (.dt (.row es),[es.length=n])
   |_=>none
 |.sl b n=>match Z0 b js 0 with
  |some i=>some (.sl i n,[])
  |none=>match bx b with
   |some (.rws _ _ es)=>some (.dt (.row es),[es.length=n])
   |some (.mq es)=>some (.dt (.row es),[es.length=n])
   |_=>none
 |.O5 b=>match Z0 b js 0 with
  |some i=>some (.O5 i,[])
  |none=>none
 |.ptr b off=>match Z0 b js 0 with
  |some i=>some (.ptr i off,[])
  |none=>match bx b with
   |some (.cells cs)=>match rec cs with
    |some (cs',ps)=>some (.pin (cs'.drop off),ps)
    |none=>none
   |some (.cst cs)=>some (.pin (cs.drop off),[])
   |_=>none
 |.bI b i k=>match Z0 b js 0 with
  |some j=>some (.bI j i k,[])
  |none=>none
 |.gl g o=>some (.gl g o,[])
 |.pin cs=>some (.pin cs,[])
 |.agg cs=>match eP js kn bx rec cs with
  |some (cs',ps)=>some (.agg cs',ps)
  |none=>none
 |.l7 cs=>match eP js kn bx rec cs with
  |some (cs',ps)=>some (.l7 cs',ps)
  |none=>none
 |.bK f cs=>match js with
  |[]=>match eP [] false bx rec cs with
   |some (cs',ps)=>some (.Z6 f cs',ps)
   |none=>none
  |j::js=>match eP (j::js) kn bx rec cs with
   |some (cs',ps)=>some (.bK f cs',ps)
   |none=>none
 |.Z6 f cs=>some (.Z6 f cs,[])
 |.un=>none
def eP(js:List Nat)(kn:Bool)(bx:Nat→Option Bx)(rec:List AV→Option (List AV×List Prop)):List AV→Option (List AV×List Prop)
 |[]=>some ([],[])
 |c::cs=>match aj js kn bx rec c,eP js kn bx rec cs with
  |some (c',ps),some (cs',qs)=>some (c'::cs',ps++qs)
  |_,_=>none
end
mutual
def ax(js:List Nat)(bx:Nat→Option Bx)(rec:List AV→List Nat):AV→List Nat
 |.own b _=>match Z0 b js 0 with
  |some _=>[]
  |none=>[b]
 |.sl b _=>match Z0 b js 0 with
  |some _=>[]
  |none=>[b]
 |.ptr b _=>match Z0 b js 0 with
  |some _=>[]
  |none=>match bx b with
   |some (.cells cs)=>b::rec cs
   |_=>[b]
 |.agg cs=>di js bx rec cs
 |.l7 cs=>di js bx rec cs
 |.bK _ cs=>di js bx rec cs
 |_=>[]
def di(js:List Nat)(bx:Nat→Option Bx)(rec:List AV→List Nat):List AV→List Nat
 |[]=>[]
 |c::cs=>ax js bx rec c++di js bx rec cs
end
def cK(bx:Nat→Option Bx):Nat→List AV→Option (List AV×List Prop)
 |0,_=>none
 |n+1,cs=>eP [] false bx (cK bx n) cs
def gm(bx:Nat→Option Bx):Nat→List AV→List Nat
 |0,_=>[]
 |n+1,cs=>di [] bx (gm bx n) cs
theorem N8.same{M M':Mm}{w:World}(hF:∀b,M.F b→b < w.heap.size→M'.F b)(hm:∀k g,M.m k=some g→M'.m k=some g)(ho:∀k v,M.o k=some v→M'.o k=some v):N8 (fun _=>False) 0 M w M' w :=
 ⟨V3.refl _ _ _,fun _ _ _=>rfl,hF,hm,fun b A n c h=>⟨A,n,c,ho b _ h,Nat.le_refl _,fun _=>⟨rfl,rfl⟩⟩⟩
theorem RL.sO{F F':Nat→Prop}{w:World}(h:∀q,F q→q < w.heap.size→F' q){cs:List AV}{vs:List Value}(hr:RL (M0 F) w cs vs):RL (M0 F') w cs vs :=
 RL.go (N8.same (M:=M0 F) (M':=M0 F') h (fun _ _ h=>h) (fun _ _ h=>h)) cs vs hr
theorem oJ.rd{F F':Nat→Prop}{w:World}{k:Nat}{es:bv}{vs:List Value}{g:Nat}{T:TypeId}(hB:y9 w g T vs.toArray)(h:oJ F w k es vs)(hF:∀q,F q→q < w.heap.size→F' q)(hg:F' g):Rd F' w (.slice (some ⟨g,0,none⟩) es.length es.length) (.row es):=by
 rcases Nat.eq_zero_or_pos es.length with h0 | h0
 ·obtain rfl:es=[]:=List.eq_nil_of_length_eq_zero h0;exact .nil _ _
 ·refine Rd.mk (k:=k) rfl (Nat.le_refl _) hB.lt hg (fun i hi=>(h.2 i hi).1) (fun i j hi hj=>?_);obtain⟨u,h1,_,h2⟩:=(h.2 i hi).2 j hj;refine⟨u,?_,h2.mono hF⟩;rw[Nat.zero_add,hB.cell];simpa using h1
section
variable {X:Nat→Prop} {n0:Nat} {M:Mm} {w:World} {bx:Nat→Option Bx} {F1:Nat→Prop}
def Fz(M:Mm)(bx:Nat→Option Bx)(F1:Nat→Prop)(b:Nat):Prop:=∀x,bx b=some x→∀q,Hx M b x q→F1 q
mutual
theorem a2O(hS:V7 X n0 M bx w)(hF:∀q,M.F q→q < w.heap.size→F1 q){rec:List AV→Option (List AV×List Prop)}{aH:List AV→List Nat}
  (hrec:∀cs cs' ps vs,rec cs=some (cs',ps)→J4 ps→(∀b∈aH cs,Fz M bx F1 b)→RL M w cs vs→RL (M0 F1) w cs' vs):∀(a:AV) (js:List Nat) (kn:Bool) (a':AV) (ps:List Prop) (v:Value) (Mc:Mm),Mc.F=F1→(∀b i,Z0 b js 0=some i→Mc.m i=M.m b∧Mc.o i=M.o b) →
  aj js kn bx rec a=some (a',ps)→J4 ps→(∀b∈ax js bx aH a,Fz M bx F1 b)→RV M w a v→RV Mc w a' v
 |.dt d,js,kn,a',ps,v,Mc,hc,hj,h,hp,ho,hr=>by
  cases h;show Rd Mc.F w v d;rw[hc];exact Rd.mono hr hF
 |.nil,js,kn,a',ps,v,Mc,hc,hj,h,hp,ho,hr=>by
  simp only[aj]at h;cases kn with
  |true=>cases h;exact hr
  |false =>
   cases h;rw[show v=_ from hr]
   exact Rd.nil _ _
 |.X8 es,js,kn,a',ps,v,Mc,hc,hj,h,hp,ho,⟨A,h1,h2⟩=>by
  cases h;show Rd Mc.F w v (.row es);rw[hc];exact h2.mono hF
 |.own b n,js,kn,a',ps,v,Mc,hc,hj,h,hp,ho,⟨A,c,A',n',c',h1,h2,h3,h4⟩=>by
  simp only[aj]at h;simp only[ax]at ho;cases hi:Z0 b js 0 with
  |some i =>
   rw[hi]at h;cases h;exact⟨A,c,A',n',c',h1,(hj b i hi).2.trans h2,h3,h4⟩
  |none =>
   rw[hi]at h ho;simp only at h;split at h
   ·rename_i e k es hb;cases h;obtain⟨A2,n2,c2,e1,e2⟩:=hS.box b _ hb;rw[h2]at e1;cases e1;have hn:n=n':=hp.1.symm.trans e2.len;obtain⟨rfl,rfl⟩:=h4 hn;subst hn;show Rd Mc.F w v (.row es);rw[hc,h1];refine e2.Kq.mono fun q hq hl=>?_
    rcases hq with hq | hq
    ·exact hF q hq hl
    ·exact ho b (List.mem_singleton.2 rfl) _ hb q ⟨n,c,by rw[←hq];exact h2⟩
   ·rename_i es hb;cases h;obtain⟨A2,n2,c2,e1,e2⟩:=hS.box b _ hb;rw[h2]at e1;cases e1;have hn:n=n':=hp.1.symm.trans e2.len;obtain⟨rfl,rfl⟩:=h4 hn;subst hn;show Rd Mc.F w v (.row es);rw[hc,h1];exact e2.mono hF
   ·cases h
 |.sl b n,js,kn,a',ps,v,Mc,hc,hj,h,hp,ho,⟨g,h1,h2⟩=>by
  simp only[aj]at h;simp only[ax]at ho;cases hi:Z0 b js 0 with
  |some i =>
   rw[hi]at h;cases h;exact⟨g,(hj b i hi).1.trans h1,h2⟩
  |none =>
   rw[hi]at h ho;simp only at h;split at h
   ·rename_i e k es hb;cases h;obtain⟨g',vs,e1,e2,e3⟩:=hS.box b _ hb;rw[h1]at e1;cases e1;have hn:es.length=n:=hp.1;subst hn;show Rd Mc.F w v (.row es);rw[hc,h2];exact e3.rd e2 hF (ho b (List.mem_singleton.2 rfl) _ hb g h1)
   ·rename_i es hb;cases h;obtain⟨g',e1,e2⟩:=hS.box b _ hb;rw[h1]at e1;cases e1;have hn:es.length=n:=hp.1;subst hn;show Rd Mc.F w v (.row es);rw[hc,h2];exact e2.mono hF
   ·cases h
 |.O5 b,js,kn,a',ps,v,Mc,hc,hj,h,hp,ho,⟨g,h1,h2⟩=>by
  simp only[aj]at h;cases hi:Z0 b js 0 with
  |some i=>rw[hi]at h;cases h;exact⟨g,(hj b i hi).1.trans h1,h2⟩
  |none=>rw[hi]at h;cases h
 |.ptr b off,js,kn,a',ps,v,Mc,hc,hj,h,hp,ho,⟨g,h1,h2⟩=>by
  simp only[aj]at h;simp only[ax]at ho;cases hi:Z0 b js 0 with
  |some i=>rw[hi]at h;cases h;exact⟨g,(hj b i hi).1.trans h1,h2⟩
  |none =>
   rw[hi]at h ho;simp only at h;split at h
   ·rename_i cs hb;rw[hb]at ho;split at h
    ·rename_i cs' qs hcs;cases h;obtain⟨g',T,vs,e1,e2,e3⟩:=hS.box b _ hb;rw[h1]at e1;cases e1;have e4:=hrec cs cs' _ vs hcs hp (fun q hq=>ho q (List.mem_cons_of_mem _ hq)) e3;refine⟨g,off,vs.drop off,h2,?_,e2.lt,fun j u hj=>?_,?_⟩
     ·rw[hc];exact ho b (List.mem_cons_self ..) _ hb g h1
     ·rw[e2.cell];rw[List.getElem?_drop]at hj;simpa using hj
     ·rw[hc];exact e4.drop off
    ·cases h
   ·rename_i cs hb;cases h;obtain⟨g',vs,e1,e2,e3,e4,e5⟩:=hS.box b _ hb;rw[h1]at e1;cases e1;refine⟨g,off,vs.drop off,h2,?_,e3,fun j u hj=>?_,?_⟩
    ·rw[hc];exact hF g e2 e3
    ·rw[List.getElem?_drop]at hj;exact e4 _ u hj
    ·rw[hc];exact (e5.sO hF).drop off
   ·cases h
 |.bI b i k,js,kn,a',ps,v,Mc,hc,hj,h,hp,ho,⟨g,h1,h2⟩=>by
  simp only[aj]at h;cases hi:Z0 b js 0 with
  |some i=>rw[hi]at h;cases h;exact⟨g,(hj b i hi).1.trans h1,h2⟩
  |none=>rw[hi]at h;cases h
 |.gl g o,js,kn,a',ps,v,Mc,hc,hj,h,hp,ho,hr=>by cases h;exact hr
 |.pin cs,js,kn,a',ps,v,Mc,hc,hj,h,hp,ho,⟨g,o,vs,h1,h2,h3,h4,h5⟩=>by
  cases h;refine⟨g,o,vs,h1,?_,h3,h4,?_⟩
  ·rw[hc];exact hF g h2 h3
  ·rw[hc];exact h5.sO hF
 |.agg cs,js,kn,a',ps,v,Mc,hc,hj,h,hp,ho,⟨vs,h1,h2⟩=>by
  simp only[aj]at h;split at h
  ·rename_i cs' qs hcs;cases h;exact⟨vs,h1,jf hS hF hrec cs js kn cs' _ vs Mc hc hj hcs hp ho h2⟩
  ·cases h
 |.l7 cs,js,kn,a',ps,v,Mc,hc,hj,h,hp,ho,⟨vs,h1,h2⟩=>by
  simp only[aj]at h;split at h
  ·rename_i cs' qs hcs;cases h;exact⟨vs,h1,jf hS hF hrec cs js kn cs' _ vs Mc hc hj hcs hp ho h2⟩
  ·cases h
 |.bK f cs,[],kn,a',ps,v,Mc,hc,hj,h,hp,ho,⟨vs,h1,h2⟩=>by
  simp only[aj]at h;split at h
  ·rename_i cs' qs hcs;cases h;refine⟨vs,h1,?_⟩;rw[hc];exact jf hS hF hrec cs [] false cs' _ vs (M0 F1) rfl (fun b i h=>by cases h) hcs hp ho h2
  ·cases h
 |.bK f cs,j::js,kn,a',ps,v,Mc,hc,hj,h,hp,ho,⟨vs,h1,h2⟩=>by
  simp only[aj]at h;split at h
  ·rename_i cs' qs hcs;cases h;exact⟨vs,h1,jf hS hF hrec cs (j::js) kn cs' _ vs Mc hc hj hcs hp ho h2⟩
  ·cases h
 |.Z6 f cs,js,kn,a',ps,v,Mc,hc,hj,h,hp,ho,⟨vs,h1,h2⟩=>by
  cases h;refine⟨vs,h1,?_⟩;rw[hc];exact h2.sO hF
 |.un,js,kn,a',ps,v,Mc,hc,hj,h,hp,ho,hr=>by cases h
theorem jf(hS:V7 X n0 M bx w)(hF:∀q,M.F q→q < w.heap.size→F1 q){rec:List AV→Option (List AV×List Prop)}{aH:List AV→List Nat}
  (hrec:∀cs cs' ps vs,rec cs=some (cs',ps)→J4 ps→(∀b∈aH cs,Fz M bx F1 b)→RL M w cs vs→RL (M0 F1) w cs' vs):∀(cs:List AV) (js:List Nat) (kn:Bool) (cs':List AV) (ps:List Prop) (vs:List Value) (Mc:Mm),Mc.F=F1→(∀b i,Z0 b js 0=some i→Mc.m i=M.m b∧Mc.o i=M.o b) →
  eP js kn bx rec cs=some (cs',ps)→J4 ps→(∀b∈di js bx aH cs,Fz M bx F1 b)→RL M w cs vs→RL Mc w cs' vs
 |[],js,kn,cs',ps,vs,Mc,hc,hj,h,hp,ho,hr=>by cases h;exact hr
 |c::cs,js,kn,cs',ps,vs,Mc,hc,hj,h,hp,ho,⟨u,us,h1,h2,h3⟩=>by
  simp only[eP]at h;split at h
  ·rename_i c1 aV cs1 VZ e1 e2;cases h;obtain⟨hp1,hp2⟩:=ed hp;simp only[di]at ho;exact⟨u,us,h1,a2O hS hF hrec c js kn c1 _ u Mc hc hj e1 hp1 (fun b hb=>ho b (List.mem_append_left _ hb)) h2,jf hS hF hrec cs js kn cs1 _ us Mc hc hj e2 hp2 (fun b hb=>ho b (List.mem_append_right _ hb)) h3⟩
  ·cases h
end
theorem qc(hS:V7 X n0 M bx w)(hF:∀q,M.F q→q < w.heap.size→F1 q):∀(n:Nat) (cs cs':List AV) (ps:List Prop) (vs:List Value),cK bx n cs=some (cs',ps)→J4 ps→(∀b∈gm bx n cs,Fz M bx F1 b)→RL M w cs vs→RL (M0 F1) w cs' vs
 |0,_,_,_,_,h,_,_,_=>by cases h
 |n+1,cs,cs',ps,vs,h,hp,ho,hr=>jf hS hF (qc hS hF n) cs [] false cs' ps vs (M0 F1) rfl (fun b i h=>by cases h) h hp ho hr
end
abbrev lN:Nat:=1
abbrev aN(js:List Nat)(kn:Bool)(bx:Nat→Option Bx)(cs:List AV):Option (List AV×List Prop):=eP js kn bx (cK bx lN) cs
abbrev J3(js:List Nat)(bx:Nat→Option Bx)(cs:List AV):List Nat:=di js bx (gm bx lN) cs
abbrev Db(bx:Nat→Option Bx)(cs:List AV):Option (List AV×List Prop):=eP [] false bx (cK bx 4) cs
abbrev Kt(bx:Nat→Option Bx)(cs:List AV):List Nat:=di [] bx (gm bx 4) cs
def jA(bx:Nat→Option Bx):Bx→Option Bx
 |.buf _ _ es=>some (.ak es)
 |.rws _ _ es=>some (.mq es)
 |.cells cs=>match cK bx lN cs with
  |some (cs',_)=>some (.cst cs')
  |none=>none
 |_=>none
def M8(bx:Nat→Option Bx):List Nat→List (Nat×Bx)
 |[]=>[]
 |b::bs=>match bx b with
  |some x=>match jA bx x with
   |some x'=>(b,x')::M8 bx bs
   |none=>M8 bx bs
  |none=>M8 bx bs
theorem qf{bx:Nat→Option Bx}:∀{ups:List (Nat×Bx)} {k:Nat},(∀x,(k,x) ∉ ups)→H9 bx ups k=bx k
 |[],_,_=>rfl
 | (b,x)::r,k,h=>by
  have h1:k≠b:=fun e=>h x (by rw[e];exact List.mem_cons_self ..)
  show (if k=b then some x else H9 bx r k)=bx k;rw[if_neg h1];exact qf fun y hy=>h y (List.mem_cons_of_mem _ hy)
theorem Av{bx:Nat→Option Bx}:∀{ups:List (Nat×Bx)} {k:Nat} {x:Bx},H9 bx ups k=some x→(k,x)∈ups∨((∀y,(k,y) ∉ ups)∧bx k=some x)
 |[],_,_,h=>.inr ⟨(fun _ h=>by cases h),h⟩
 | (b,x0)::r,k,x,h=>by
  have h':(if k=b then some x0 else H9 bx r k)=some x:=h;by_cases e:k=b
  ·rw[if_pos e]at h';cases h';exact .inl (by rw[e];exact List.mem_cons_self ..)
  ·rw[if_neg e]at h';rcases Av h' with h1 | ⟨h1,h2⟩
   ·exact .inl (List.mem_cons_of_mem _ h1)
   ·refine .inr ⟨fun y hy=>?_,h2⟩;rcases List.mem_cons.1 hy with hy | hy
    ·cases hy;exact e rfl
    ·exact h1 y hy
theorem iJ{bx:Nat→Option Bx}:∀{bs:List Nat} {b:Nat} {x':Bx},(b,x')∈M8 bx bs→b∈bs∧∃x,bx b=some x∧jA bx x=some x'
 |[],_,_,h=>by cases h
 |b0::bs,b,x',h=>by
  unfold M8 at h;split at h
  ·rename_i x hx;split at h
   ·rename_i y hy;rcases List.mem_cons.1 h with h | h
    ·cases h;exact⟨List.mem_cons_self ..,x,hx,hy⟩
    ·obtain⟨h1,h2⟩:=iJ h;exact⟨List.mem_cons_of_mem _ h1,h2⟩
   ·obtain⟨h1,h2⟩:=iJ h;exact⟨List.mem_cons_of_mem _ h1,h2⟩
  ·obtain⟨h1,h2⟩:=iJ h;exact⟨List.mem_cons_of_mem _ h1,h2⟩
theorem AJ{bx:Nat→Option Bx}:∀{bs:List Nat} {b:Nat} {x x':Bx},b∈bs→bx b=some x→jA bx x=some x'→(b,x')∈M8 bx bs
 |[],_,_,_,h,_,_=>by cases h
 |b0::bs,b,x,x',h,hx,hy=>by
  unfold M8;rcases List.mem_cons.1 h with rfl | h
  ·rw[hx];simp only;rw[hy];exact List.mem_cons_self ..
  ·split
   ·split
    ·exact List.mem_cons_of_mem _ (AJ h hx hy)
    ·exact AJ h hx hy
   ·exact AJ h hx hy
section
variable {X:Nat→Prop} {n0:Nat} {M:Mm} {w:World} {bx:Nat→Option Bx}
def dJ(M:Mm)(bx:Nat→Option Bx)(bs:List Nat)(q:Nat):Prop:=M.F q∨∃b x,b∈bs∧bx b=some x∧(jA bx x).isSome=true∧Hx M b x q
theorem V7.M8(h:V7 X n0 M bx w)(bs:List Nat)(hbs:∀b∈bs,∀cs,bx b=some (.cells cs)→∀cs' ps,cK bx lN cs=some (cs',ps)→J4 ps∧∀b'∈gm bx lN cs,Fz M bx (dJ M bx bs) b') :
  N8 X n0 M w ⟨M.m,dJ M bx bs,M.o⟩ w∧V7 X n0 ⟨M.m,dJ M bx bs,M.o⟩ (H9 bx (Go.Proofs.YtdkehabacmlegaaGreatDoor.M8 bx bs)) w∧∀q,dJ M bx bs q→M.F q∨n0≤q∨X q:=by
 have g:N8 X n0 M w ⟨M.m,dJ M bx bs,M.o⟩ w:=⟨V3.refl _ _ _,fun _ _ _=>rfl,fun _ h _=>.inl h,fun _ _ h=>h,fun _=>nR rfl⟩;have hx:∀k x q,Hx (⟨M.m,dJ M bx bs,M.o⟩:Mm) k x q↔Hx M k x q:=fun k x q=>Hx.eq rfl rfl
 have frozen:∀{b x' q},(b,x')∈Go.Proofs.YtdkehabacmlegaaGreatDoor.M8 bx bs→¬Hx M b x' q:=by
  intro b x' q hm hq;obtain⟨_,x,_,h2⟩:=iJ hm;cases x <;> simp only[jA]at h2 <;> first | (cases h2;exact hq) | (split at h2 <;> first | (cases h2;exact hq) | cases h2) | cases h2
 have old:∀{b x},H9 bx (Go.Proofs.YtdkehabacmlegaaGreatDoor.M8 bx bs) b=some x→∀{q},Hx M b x q→bx b=some x∧∀y,(b,y) ∉ Go.Proofs.YtdkehabacmlegaaGreatDoor.M8 bx bs:=by
  intro b x hb q hq;rcases Av hb with h1 | ⟨h1,h2⟩
  ·exact absurd hq (frozen h1)
  ·exact⟨h2,h1⟩
 refine⟨g,⟨?_,?_,?_,?_,?_,?_⟩,?_⟩
 ·intro b x hb;rcases Av hb with h1 | ⟨_,h2⟩
  ·obtain⟨We,x0,h2,h3⟩:=iJ h1;have hF:∀q,Hx M b x0 q→dJ M bx bs q:=fun q hq=>.inr ⟨b,x0,We,h2,by rw[h3];rfl,hq⟩
   have ho:=h.box b x0 h2;cases x0 with
   |buf e k es =>
    cases h3;obtain⟨A,n,c,e1,e2⟩:=ho;refine⟨A,n,c,e1,e2.Kq.mono fun q hq _=>?_⟩;rcases hq with hq | hq
    ·exact .inl hq
    ·exact hF q ⟨n,c,by rw[←hq];exact e1⟩
   |rws e k es =>
    cases h3;obtain⟨g',vs,e1,e2,e3⟩:=ho;exact⟨g',e1,e3.rd e2 (fun q hq _=>.inl hq) (hF g' e1)⟩
   |cells cs =>
    simp only[jA]at h3;split at h3
    ·rename_i cs' ps hcs;cases h3;obtain⟨g',T,vs,e1,e2,e3⟩:=ho;obtain⟨hp,mr⟩:=hbs b We cs h2 cs' ps hcs;exact⟨g',vs,e1,hF g' e1,e2.lt,fun j u hj=>by rw[e2.cell];simpa using hj,qc h (fun q hq _=>.inl hq) _ cs cs' ps vs hcs hp mr e3⟩
    ·cases h3
   |ak es=>cases h3
   |mp x9=>cases h3
   |T9 x9=>cases h3
   |mq es=>cases h3
   |cst cs=>cases h3
  ·exact (h.box b x h2).go g rfl fun _ _=>rfl
 ·intro b x q hb hq;rw[hx]at hq;obtain⟨h1,h2⟩:=old hb hq;obtain⟨d1,d2,d3⟩:=h.dom b x q h1 hq;refine⟨d1,d2,fun hf=>?_⟩;rcases hf with hf | ⟨b',x',e1,e2,e3,e4⟩
  ·exact d3 hf
  ·obtain rfl:=h.inj _ _ _ _ q h1 e2 hq e4;obtain⟨y,hy⟩:=Option.isSome_iff_exists.1 e3;exact h2 y (AJ e1 e2 hy)
 ·intro b b' x x' q h1 h2 h3 h4;rw[hx]at h3 h4;exact h.inj _ _ _ _ q (old h1 h3).1 (old h2 h4).1 h3 h4
 ·intro b q hb;obtain⟨x,h1,h2⟩:=h.hm b q hb;cases hy:H9 bx (Go.Proofs.YtdkehabacmlegaaGreatDoor.M8 bx bs) b with
  |none =>
   exfalso
   have:∀y,(b,y) ∉ Go.Proofs.YtdkehabacmlegaaGreatDoor.M8 bx bs:=by
    have gen:∀{ups:List (Nat×Bx)},H9 bx ups b=none→∀y,(b,y) ∉ ups:=by
     intro ups
     induction ups with
     |nil=>intro _ y hy;cases hy
     |cons a r ih =>
      obtain⟨b0,x0⟩:=a;intro hn y hm;have hn':(if b=b0 then some x0 else H9 bx r b)=none:=hn;by_cases e:b=b0
      ·rw[if_pos e]at hn';cases hn'
      ·rw[if_neg e]at hn';rcases List.mem_cons.1 hm with hm | hm
       ·cases hm;exact e rfl
       ·exact ih hn' y hm
    exact gen hy
   rw[qf this,h1]at hy;cases hy
  |some y =>
   refine⟨y,rfl,?_⟩;rcases Av hy with h3 | ⟨_,h3⟩
   ·obtain⟨_,x0,h4,h5⟩:=iJ h3;rw[h1]at h4;cases h4;cases x with
    |buf e k es=>cases h2
    |ak es=>cases h2
    |rws e k es=>cases h5;rfl
    |cells cs =>
     simp only[jA]at h5;split at h5
     ·cases h5;rfl
     ·cases h5
    |_=>cases h5
   ·rw[h1]at h3;cases h3;exact h2
 ·intro b v hb;have h1:=h.ho b v hb;cases hy:H9 bx (Go.Proofs.YtdkehabacmlegaaGreatDoor.M8 bx bs) b with
  |some y=>rfl
  |none =>
   exfalso
   have gen:∀{ups:List (Nat×Bx)},H9 bx ups b=none→bx b=none:=by
    intro ups
    induction ups with
    |nil=>exact fun h=>h
    |cons a r ih =>
     obtain⟨b0,x0⟩:=a;intro hn;have hn':(if b=b0 then some x0 else H9 bx r b)=none:=hn;by_cases e:b=b0
     ·rw[if_pos e]at hn';cases hn'
     ·rw[if_neg e]at hn';exact ih hn'
   rw[gen hy]at h1;cases h1
 ·intro q hq;rcases hq with hq | ⟨b,x,_,e2,_,e4⟩
  ·exact h.fz q hq
  ·exact (h.dom b x q e2 e4).2.1
 ·intro q hq;rcases hq with hq | ⟨b,x,_,e2,_,e4⟩
  ·exact .inl hq
  ·exact .inr (h.dom b x q e2 e4).1
end
def Bx.xV:Bx→Bool
 |.ak _=>true
 |.mq _=>true
 |.cst _=>true
 |_=>false
theorem Bx.a2P{x:Bx}(h:x.xV=true){M:Mm}{b q:Nat}:¬Hx M b x q:=by
 cases x <;> first | exact fun h=>h | cases h
section
variable {bx:Nat→Option Bx} {rec:List AV→Option (List AV×List Prop)} {aH:List AV→List Nat} {S:Nat→Prop}
def uD(Pq:List Prop→Prop)(bx:Nat→Option Bx)(rec:List AV→Option (List AV×List Prop))(aH:List AV→List Nat)(S:Nat→Prop)(b:Nat):Prop :=
 (∀x,bx b=some x→x.xV=true∨(∃e k es,x=.buf e k es)∨(∃e k es,x=.rws e k es)∨∃cs,x=.cells cs) ∧
 ∀cs,bx b=some (.cells cs)→∃r,rec cs=some r∧Pq r.2∧∀b'∈aH cs,S b'
mutual
theorem a0K{Pq:List Prop→Prop}(kL:∀ps qs,Pq (ps++qs)→Pq ps∧Pq qs)(hrec:∀cs r,rec cs=some r→Pq r.2→∀b∈aH cs,∀x,bx b=some x→x.xV=true∨(∃e k es,x=.buf e k es)∨(∃e k es,x=.rws e k es)):∀(a:AV) (js:List Nat) (kn:Bool) (a':AV) (ps:List Prop),
  aj js kn bx rec a=some (a',ps)→Pq ps→(∀b∈ax js bx aH a,S b)→∀b∈ax js bx aH a,uD Pq bx rec aH S b
 |.own b n,js,kn,a',ps,h,hp,hS,b',hb=>by
  simp only[aj]at h;simp only[ax]at hb;cases hi:Z0 b js 0 with
  |some i=>rw[hi]at hb;cases hb
  |none =>
   rw[hi]at h hb;obtain rfl:=List.mem_singleton.1 hb;simp only at h;split at h
   ·rename_i e k es hx;refine⟨fun x hx'=>?_,fun cs hx'=>?_⟩
    ·rw[hx]at hx';cases hx';exact .inr (.inl ⟨_,_,_,rfl⟩)
    ·rw[hx]at hx';cases hx'
   ·rename_i es hx;refine⟨fun x hx'=>?_,fun cs hx'=>?_⟩
    ·rw[hx]at hx';cases hx';exact .inl rfl
    ·rw[hx]at hx';cases hx'
   ·cases h
 |.sl b n,js,kn,a',ps,h,hp,hS,b',hb=>by
  simp only[aj]at h;simp only[ax]at hb;cases hi:Z0 b js 0 with
  |some i=>rw[hi]at hb;cases hb
  |none =>
   rw[hi]at h hb;obtain rfl:=List.mem_singleton.1 hb;simp only at h;split at h
   ·rename_i e k es hx;refine⟨fun x hx'=>?_,fun cs hx'=>?_⟩
    ·rw[hx]at hx';cases hx';exact .inr (.inr (.inl ⟨_,_,_,rfl⟩))
    ·rw[hx]at hx';cases hx'
   ·rename_i es hx;refine⟨fun x hx'=>?_,fun cs hx'=>?_⟩
    ·rw[hx]at hx';cases hx';exact .inl rfl
    ·rw[hx]at hx';cases hx'
   ·cases h
 |.ptr b off,js,kn,a',ps,h,hp,hS,b',hb=>by
  simp only[aj]at h;simp only[ax]at hb hS;cases hi:Z0 b js 0 with
  |some i=>rw[hi]at hb;cases hb
  |none =>
   rw[hi]at h hb hS;simp only at h hb hS;split at h
   ·rename_i cs hx;rw[hx]at hb hS;simp only at hb hS;split at h
    ·rename_i cs' qs hcs;cases h;rcases List.mem_cons.1 hb with rfl | hb
     ·refine⟨fun x hx'=>?_,fun c0 hx'=>?_⟩
      ·rw[hx]at hx';cases hx';exact .inr (.inr (.inr ⟨_,rfl⟩))
      ·rw[hx]at hx';cases hx';exact⟨_,hcs,hp,fun b2 hb2=>hS b2 (List.mem_cons_of_mem _ hb2)⟩
     ·have:=hrec cs _ hcs hp b' hb;refine⟨fun x hx'=>?_,fun c0 hx'=>?_⟩
      ·rcases this x hx' with h1 | h1 | h1
       ·exact .inl h1
       ·exact .inr (.inl h1)
       ·exact .inr (.inr (.inl h1))
      ·rcases this _ hx' with h1 | ⟨_,_,_,h1⟩ | ⟨_,_,_,h1⟩
       ·cases h1
       ·cases h1
       ·cases h1
    ·cases h
   ·rename_i cs hx;rw[hx]at hb;obtain rfl:=List.mem_singleton.1 hb;refine⟨fun x hx'=>?_,fun cs hx'=>?_⟩
    ·rw[hx]at hx';cases hx';exact .inl rfl
    ·rw[hx]at hx';cases hx'
   ·cases h
 |.agg cs,js,kn,a',ps,h,hp,hS,b',hb=>by
  simp only[aj]at h;split at h
  ·rename_i cs' qs hcs;cases h;exact nL kL hrec cs js kn cs' _ hcs hp hS b' hb
  ·cases h
 |.l7 cs,js,kn,a',ps,h,hp,hS,b',hb=>by
  simp only[aj]at h;split at h
  ·rename_i cs' qs hcs;cases h;exact nL kL hrec cs js kn cs' _ hcs hp hS b' hb
  ·cases h
 |.bK f cs,[],kn,a',ps,h,hp,hS,b',hb=>by
  simp only[aj]at h;split at h
  ·rename_i cs' qs hcs;cases h;exact nL kL hrec cs [] false cs' _ hcs hp hS b' hb
  ·cases h
 |.bK f cs,j::js,kn,a',ps,h,hp,hS,b',hb=>by
  simp only[aj]at h;split at h
  ·rename_i cs' qs hcs;cases h;exact nL kL hrec cs (j::js) kn cs' _ hcs hp hS b' hb
  ·cases h
 |.dt _,_,_,_,_,_,_,_,_,hb=>by simp[ax]at hb
 |.nil,_,_,_,_,_,_,_,_,hb=>by simp[ax]at hb
 |.X8 _,_,_,_,_,_,_,_,_,hb=>by simp[ax]at hb
 |.O5 _,_,_,_,_,_,_,_,_,hb=>by simp[ax]at hb
 |.bI _ _ _,_,_,_,_,_,_,_,_,hb=>by simp[ax]at hb
 |.gl _ _,_,_,_,_,_,_,_,_,hb=>by simp[ax]at hb
 |.pin _,_,_,_,_,_,_,_,_,hb=>by simp[ax]at hb
 |.Z6 _ _,_,_,_,_,_,_,_,_,hb=>by simp[ax]at hb
 |.un,_,_,_,_,_,_,_,_,hb=>by simp[ax]at hb
theorem nL{Pq:List Prop→Prop}(kL:∀ps qs,Pq (ps++qs)→Pq ps∧Pq qs)(hrec:∀cs r,rec cs=some r→Pq r.2→∀b∈aH cs,∀x,bx b=some x→x.xV=true∨(∃e k es,x=.buf e k es)∨(∃e k es,x=.rws e k es)):∀(cs:List AV) (js:List Nat) (kn:Bool) (cs':List AV) (ps:List Prop),
  eP js kn bx rec cs=some (cs',ps)→Pq ps→(∀b∈di js bx aH cs,S b)→∀b∈di js bx aH cs,uD Pq bx rec aH S b
 |[],_,_,_,_,_,_,_,_,hb=>by simp[di]at hb
 |c::cs,js,kn,cs',ps,h,hp,hS,b,hb=>by
  simp only[eP]at h;split at h
  ·rename_i c1 aV cs1 VZ e1 e2;cases h;obtain⟨hp1,hp2⟩:=kL _ _ hp;simp only[di]at hb hS;rcases List.mem_append.1 hb with hb | hb
   ·exact a0K kL hrec c js kn c1 _ e1 hp1 (fun b hb=>hS b (List.mem_append_left _ hb)) b hb
   ·exact nL kL hrec cs js kn cs1 _ e2 hp2 (fun b hb=>hS b (List.mem_append_right _ hb)) b hb
  ·cases h
end
end
structure En where
 P:Program
 G:World→Prop
 T:Nat→Nat→Option Value
 hT:∀w,G w→∀g i v,T g i=some v→w.cell? ⟨g,i,none⟩=some v
 hm:P.follows .mixedOrders=true
 nh:Nat
def qj(P:Program)(G:World→Prop)(f:FuncId)(args:List AV)(r:AV):Prop :=
 (∃fn,P.funcs[f]?=some fn∧fn.body.isNone=false∧(fn.name == "runtime.NumGoroutine")=false) ∧
 ∀(ok:Nat→Prop) (w:World) (vs:List Value),G w→RL (M0 ok) w args vs →
  Calls P f vs.toArray w (fun e w'=>∃v,e=.returned v∧Below w.heap.size w w'∧RV (M0 fun b=>ok b∨w.heap.size≤b) w' r v)
def lk(xs:List (Option Bx))(b:Nat):Option Bx:=match xs[b]? with
 |some x=>x
 |none=>none
def aK(P:Program)(G:World→Prop)(f:FuncId)(args:List AV)(xs:List (Option Bx))(r:AV)(xs':List (Option Bx)):Prop :=
 (∃fn,P.funcs[f]?=some fn∧fn.body.isNone=false∧(fn.name == "runtime.NumGoroutine")=false) ∧
 ∀(X:Nat→Prop) (M:Mm) (w:World) (vs:List Value),(∀w',V3 X w.heap.size w w'→G w')→V7 X w.heap.size M (lk xs) w→RL M w args vs →
  Calls P f vs.toArray w (fun e w'=>∃v M',e=.returned v∧N8 X w.heap.size M w M' w'∧V7 X w.heap.size M' (lk xs') w'∧(∀b,M'.F b→M.F b∨w.heap.size≤b∨X b)∧RV M' w' r v)
theorem NP{P:Program}{f:FuncId}{args:Array Value}{w:World}(h:∃fn,P.funcs[f]?=some fn∧fn.body.isNone=false∧(fn.name == "runtime.NumGoroutine")=false):(callFunc f args).run P w=.ok (.enter f args) w:=by
 obtain⟨fn,h1,h2,h3⟩:=h;simp only[callFunc,program,Sem.run_bind,Sem.run,Result.andThen,h1,h2,h3,Bool.false_eq_true,if_false];rfl
def bB(P:Program)(t:TypeId):Option Nat:=match P.info? t with | some i=>some i.size | none=>none
def jG(P:Program)(t:TypeId):Option Bool:=match P.underlying t with
 |some (.struct _)=>some true
 |some (.array _ _)=>some true
 |some _=>some false
 |none=>none
theorem vP{P:Program}{t:TypeId}{b:Bool}(h:jG P t=some b)(w:World):(isAgg t).run P w=.ok b w:=by
 unfold jG at h;unfold isAgg underlying;cases hu:P.underlying t with
 |none=>rw[hu]at h;cases h
 |some d =>
  simp only[program,Sem.run_bind,Sem.run,hu,Sem.run_pure,Result.andThen];cases d <;> (rw[hu]at h;cases h;rfl)
theorem run_sizeOf{P:Program}{t:TypeId}{n:Nat}(h:bB P t=some n)(w:World):(sizeOf t).run P w=.ok n w:=by
 unfold bB at h;unfold sizeOf typeInfo;cases hu:P.info? t with
 |none=>rw[hu]at h;cases h
 |some d =>
  rw[hu]at h;cases h;simp only[program,Sem.run_bind,Sem.run,hu,Sem.run_pure,Result.andThen]
theorem qa(g o n:Nat):(⟨g,o,none⟩:Addr).add n=⟨g,o+n,none⟩:=by
 unfold Addr.add;split
 ·rename_i h;subst h;rfl
 ·rfl
mutual
def AV.dW:AV→Bool
 |.dt (.val _)=>true
 |.nil=>true
 |.agg cs=>AV.xq cs
 |.l7 cs=>AV.xq cs
 |_=>false
def AV.xq:List AV→Bool
 |[]=>true
 |c::cs=>AV.dW c && AV.xq cs
end
mutual
theorem RV.dW{w w':World}:∀{M M':Mm} (a:AV) (v:Value),a.dW=true→RV M w a v→RV M' w' a v
 |_,_,.dt (.val x),v,_,h=>by
  have e:v=x:=Rd.Q9 h;rw[e];exact Rd.val _
 |_,_,.nil,v,_,h=>h
 |_,_,.agg cs,v,hs,⟨vs,h1,h2⟩=>⟨vs,h1,RL.dW cs vs hs h2⟩
 |_,_,.l7 cs,v,hs,⟨vs,h1,h2⟩=>⟨vs,h1,RL.dW cs vs hs h2⟩
theorem RL.dW{w w':World}:∀{M M':Mm} (cs:List AV) (vs:List Value),AV.xq cs=true→RL M w cs vs→RL M' w' cs vs
 |_,_,[],_,_,h=>h
 |_,_,c::cs,_,hs,⟨u,us,h1,h2,h3⟩=>by
  have hs':(c.dW && AV.xq cs)=true:=hs;rw[Bool.and_eq_true]at hs';exact⟨u,us,h1,RV.dW c u hs'.1 h2,RL.dW cs us hs'.2 h3⟩
end
mutual
def gU(ρ:Nat→Nat):AV→AV
 |.own b n=>.own (ρ b) n
 |.sl b n=>.sl (ρ b) n
 |.O5 b=>.O5 (ρ b)
 |.ptr b o=>.ptr (ρ b) o
 |.bI b i k=>.bI (ρ b) i k
 |.agg cs=>.agg (ou ρ cs)
 |.l7 cs=>.l7 (ou ρ cs)
 |.bK f cs=>.bK f (ou ρ cs)
 |.dt d=>.dt d
 |.nil=>.nil
 |.X8 es=>.X8 es
 |.gl g o=>.gl g o
 |.pin cs=>.pin cs
 |.Z6 f cs=>.Z6 f cs
 |.un=>.un
def ou(ρ:Nat→Nat):List AV→List AV
 |[]=>[]
 |c::cs=>gU ρ c::ou ρ cs
end
def kE(ρ:Nat→Nat):Bx→Bx
 |.cells cs=>.cells (ou ρ cs)
 |.mp x9=>.mp (x9.map fun x=>(x.1,gU ρ x.2))
 |x=>x
def b0b(js:List Nat)(bx:Nat→Option Bx):List (Value×AV)→Option (List (Value×AV)×List Prop)
 |[]=>some ([],[])
 | (k,a)::r=>match aj js true bx (cK bx lN) a,b0b js bx r with
  |some (a',ps),some (r',qs)=>some ((k,a')::r',ps++qs)
  |_,_=>none
def aO(js:List Nat)(k:Nat)(i:Nat):Nat:=match js[i]? with
 |some j=>j
 |none=>k+(i - js.length)
def nodupB:List Nat→Bool
 |[]=>true
 |j::js=>!js.contains j && nodupB js
def a0L:Nat→List (Option Bx)→Bool
 |0,_=>true
 |n+1,some _::xs=>a0L n xs
 |_+1,_=>false
def qx(bx:Nat→Option Bx):AV→Option (bv×List Prop)
 |.dt (.row xs)=>some (xs,[])
 |.dt (.val (.slice _ 0 _))=>some ([],[])
 |.X8 xs=>some (xs,[])
 |.nil=>some ([],[])
 |.own b n=>match bx b with
  |some (.buf _ _ es)=>some (es,[es.length=n])
  |some (.ak es)=>some (es,[es.length=n])
  |_=>none
 |.sl b n=>match bx b with
  |some (.rws _ _ es)=>some (es,[es.length=n])
  |some (.mq es)=>some (es,[es.length=n])
  |_=>none
 |_=>none
def L6(k:Nat)(xs:bv):Prop:=∀x∈xs,x.length=k∧∀d∈x,d.one=true
def P9(bytes n:Nat):Prop:=n≤maxLen∧n * bytes≤140737488355328
def jB(bytes:Nat)(c:Int):Prop:=0≤c∧(bytes:Int) * c≤281474976710656∧c≤maxLen
def z8(es:bv)(n:Int)(sz:Nat)(ds:List Dt):Prop:=0≤n∧es[n.toNat]?=some ds∧ds.length=sz
def fE(s:ByteArray)(n:Int)(r:Value):Prop:=∃b,0≤n∧s[n.toNat]?=some b∧r=.int .u8 b.toNat
def bW(es:bv)(sz:Nat)(lo hi:Int)(rs:bv):Prop:=0≤lo∧lo≤hi∧hi≤es.length∧rs=(es.take hi.toNat).drop lo.toNat∧(lo=0∨∀x∈es,x.length=sz)
def uE(s:ByteArray)(lo hi:Int)(r:Value):Prop:=0≤lo∧lo≤hi∧hi≤s.size∧r=.string (s.extract lo.toNat hi.toNat)
def wP(bytes n k:Nat)(xs:bv):Bool:=Nat.ble n maxLen && Nat.ble (n * bytes) 140737488355328 && xs.all fun x=>Nat.beq x.length k && x.all Dt.one
theorem sw{bytes n k:Nat}{xs:bv}(h:wP bytes n k xs=true):P9 bytes n∧L6 k xs:=by
 unfold wP at h;simp only[Bool.and_eq_true,List.all_eq_true]at h;exact⟨⟨Nat.le_of_ble_eq_true h.1.1,Nat.le_of_ble_eq_true h.1.2⟩,fun x hx=>⟨Nat.eq_of_beq_eq_true (h.2 x hx).1,(h.2 x hx).2⟩⟩
def ku(P:Program)(kt:TypeId)(k:Value)(keys:List Value)(r:Option Nat):Prop :=
 ∀(es:List MapEntry) (w:World),es.map (·.key)=keys→Sem.run P (do Instr.checkKey es.isEmpty 10000 kt k;Instr.findKey kt k es) w=.ok (r.bind fun i=>(es[i]?).map fun e=>(i,e.val)) w
def xW(P:Program)(kt:TypeId)(k:Value)(keys:List Value):Prop :=
 ∀(es:List MapEntry) (w:World),es.map (·.key)=keys→Sem.run P (do Instr.checkKey false 10000 kt k;Instr.findKey kt k es) w=.ok none w
def bC:List AV→Option (List Dt)
 |[]=>some []
 |.dt d::cs=>match bC cs with
  |some ds=>some (d::ds)
  |none=>none
 |_::_=>none
theorem tV:∀{cs:List AV} {ds:List Dt},bC cs=some ds→cs=ds.map .dt
 |[],_,h=>by cases h;rfl
 |.dt d::cs,ds,h=>by
  unfold bC at h;split at h
  ·rename_i ds' h';cases h;rw[tV h'];rfl
  ·cases h
 |.nil::_,_,h=>by simp[bC]at h
 |.X8 _::_,_,h=>by simp[bC]at h
 |.own _ _::_,_,h=>by simp[bC]at h
 |.sl _ _::_,_,h=>by simp[bC]at h
 |.O5 _::_,_,h=>by simp[bC]at h
 |.ptr _ _::_,_,h=>by simp[bC]at h
 |.bI _ _ _::_,_,h=>by simp[bC]at h
 |.gl _ _::_,_,h=>by simp[bC]at h
 |.pin _::_,_,h=>by simp[bC]at h
 |.agg _::_,_,h=>by simp[bC]at h
 |.l7 _::_,_,h=>by simp[bC]at h
 |.bK _ _::_,_,h=>by simp[bC]at h
 |.Z6 _ _::_,_,h=>by simp[bC]at h
 |.un::_,_,h=>by simp[bC]at h
def chunks(ds:List Dt)(sz len:Nat):bv:=(List.range len).map fun i=>(ds.drop (i * sz)).take sz
inductive G8 where
 |val (v:AV)
 |load (b off n:Nat) (ag:Bool)
 |uh (b i k:Nat) (ds:List Dt) (ag:Bool)
 |store (b off:Nat) (cs:List AV)
 |ql (b i k:Nat) (cs:List AV)
 |alloc (t:TypeId) (cs:List AV)
 |mk (e:TypeId) (sz len:Nat) (cs:List AV)
 |qU (e:TypeId) (k bytes:Nat) (c:Int)
 |qV (e:TypeId) (k bytes n:Nat) (z:List Dt) (l c:Int)
 |app (e:TypeId) (k bytes:Nat) (s x:AV) (c:Bool)
 |idx (x:AV) (i:Int) (sz:Nat) (r:Option (List Dt))
 |oK (x:AV) (sz:Nat) (lo hi mx:Option Int) (r:Option (bv))
 |call (f:FuncId) (args aI:List AV) (r:AV)
 |uF
 |ui
 |ins (b:Nat) (kt:TypeId) (k:Value) (v:AV)
 |look (b:Nat) (kt:TypeId) (k:Value) (z:AV) (ok:Bool) (r:Option Nat)
 |uj (b:Nat) (kt:TypeId) (k:Value) (ok:Bool) (i:Nat) (v:AV)
 |prop (v:AV) (ps:List Prop)
 |qW (x:AV) (l:bi)
def G8.news(k:Nat):G8→List Nat
 |.alloc _ _=>[k]
 |.qU _ _ _ _=>[k]
 |.qV _ _ _ _ _ _ _=>[k]
 |.app _ _ _ .nil _ _=>[k]
 |.app _ _ _ (.X8 _) _ _=>[k]
 |.uF=>[k]
 |.ui=>[k]
 |_=>[]
def G8.bt(bx:Nat→Option Bx)(k:Nat):G8→List Nat
 |.val _=>[]
 |.prop _ _=>[]
 |.load b _ _ _=>[b]
 |.uh b _ _ _ _=>[b]
 |.store b _ _=>[b]
 |.ql b _ _ cs=>b::J3 [] bx cs
 |.alloc _ _=>[k]
 |.mk _ _ _ cs=>J3 [] bx cs
 |.qU _ _ _ _=>[k]
 |.qV _ _ _ _ _ _ _=>[k]
 |.app _ _ _ s x _=>(match s with | .own b _=>[b] | _=>[k])++(match x with | .own b _=>[b] | .sl b _=>[b] | _=>[])
 |.idx x _ _ _=>J3 [] bx [x]
 |.oK x _ _ _ _ _=>J3 [] bx [x]
 |.qW x _=>J3 [] bx [x]
 |.call _ args _ r=>match r.dW with | true=>Kt bx args | false=>J3 [] bx args
 |.uF=>[k]
 |.ui=>[k]
 |.ins b _ _ _=>[b]
 |.look b _ _ _ _ _=>[b]
 |.uj b _ _ _ _ _=>[b]
def rowAt(cs:List AV)(off n:Nat)(ag:Bool):Option AV:=match Nat.ble (off+n) cs.length with
 |true=>match ag with
  |true=>some (.agg ((cs.drop off).take n))
  |false=>cs[off]?
 |false=>none
def G8.run(E:En)(bx:Nat→Option Bx)(k:Nat):G8→Option (AV×List (Nat×Bx)×List Prop)
 |.val v=>some (v,[],[])
 |.prop v ps=>some (v,[],ps)
 |.load b off n ag=>match bx b with
  |some (.cells cs)=>match rowAt cs off n ag with
   |some r=>some (r,[],[])
   |none=>none
  |some (.cst cs)=>match rowAt cs off n ag with
   |some r=>some (r,[],[])
   |none=>none
  |_=>none
 |.uh b i k ds ag=>match bx b with
  |some (.rws _ k' es)=>match Nat.beq k k' with
   |true=>some (cond ag (.agg (ds.map .dt)) (.dt (ds.headD (.val undef))),[],[es[i]?=some ds,ds.length=cond ag k 1])
   |false=>none
  |_=>none
 |.store b off vs=>match bx b with
  |some (.cells cs)=>match Nat.ble (off+vs.length) cs.length && vs.all AV.one with
   |true=>some (.dt (.val undef),[(b,.cells (cs.take off++vs++cs.drop (off+vs.length)))],[])
   |false=>none
  |_=>none
 |.ql b i k vs=>match bx b with
  |some (.rws e k' es)=>match Nat.beq k k' && vs.all AV.one && Nat.beq vs.length k,aN [] false bx vs with
   |true,some (vs',ps)=>match bC vs',(J3 [] bx vs).contains b with
    |some ds,false=>some (.dt (.val undef),M8 bx (J3 [] bx vs)++[(b,.rws e k' (es.set i ds))],(i < es.length)::ps)
    |_,_=>none
   |_,_=>none
  |_=>none
 |.alloc _ cs=>match cs.all AV.one with
  |true=>some (.ptr k 0,[(k,.cells cs)],[])
  |false=>none
 |.mk _ sz len cs=>match aN [] false bx cs with
  |some (cs',ps)=>match bC cs',cs.all AV.one && Nat.beq cs'.length (len * sz) with
   |some ds,true=>some (.X8 (chunks ds sz len),M8 bx (J3 [] bx cs),ps)
   |_,_=>none
  |none=>none
 |.qU e kk bytes c=>some (.own k 0,[(k,.buf e kk [])],[jB bytes c])
 |.qV e kk bytes n z l c=>some (.sl k n,[(k,.rws e kk (List.replicate n z))],[l=n∧c=n∧jB bytes c])
 |.app e kk bytes s x c=>match qx bx x with
  |some (xs,ps)=>match s with
   |.nil=>match !c || wP bytes xs.length kk xs with
    |true=>some (.own k xs.length,[(k,.buf e kk xs)],cond c ps (P9 bytes xs.length::L6 kk xs::ps))
    |false=>none
   |.own b n=>match bx b with
    |some (.buf e' k' es)=>match Nat.beq e e' && Nat.beq kk k' && (match x with | .own b' _=>!Nat.beq b b' | .sl b' _=>!Nat.beq b b' | _=>true) && (!c || (Nat.beq es.length n && wP bytes (es++xs).length kk xs)) with
     |true=>some (.own b (es++xs).length,[(b,.buf e kk (es++xs))],cond c ps ((es.length=n)::P9 bytes (es++xs).length::L6 kk xs::ps))
     |false=>none
    |_=>none
   |.X8 es=>match !c || (Nat.ble 1 xs.length && wP bytes (es++xs).length kk (es++xs)) with
    |true=>some (.own k (es++xs).length,[(k,.buf e kk (es++xs))],cond c ps ((1≤xs.length)::P9 bytes (es++xs).length::L6 kk (es++xs)::ps))
    |false=>none
   |_=>none
  |none=>none
 |.idx x i sz r=>match aN [] false bx [x] with
  |some ([.dt (.row es)],ps)=>match r with
   |some ds=>some (.pin (ds.map .dt),M8 bx (J3 [] bx [x]),z8 es i sz ds::ps)
   |none=>match decide (0≤i),es[i.toNat]? with
    |true,some ds=>match Nat.beq ds.length sz with
     |true=>some (.pin (ds.map .dt),M8 bx (J3 [] bx [x]),ps)
     |false=>none
    |_,_=>none
  |_=>none
 |.oK x sz lo hi mx r=>match aN [] false bx [x] with
  |some ([.dt (.row es)],ps)=>match r with
   |some rs=>some (cond mx.isSome (.X8 rs) (.dt (.row rs)),M8 bx (J3 [] bx [x]),bW es sz (lo.getD 0) (hi.getD es.length) rs::(mx=none∨mx=hi)::ps)
   |none=>some (cond mx.isSome (.X8 ((es.take (hi.getD es.length).toNat).drop (lo.getD 0).toNat)) (.dt (.row ((es.take (hi.getD es.length).toNat).drop (lo.getD 0).toNat))),M8 bx (J3 [] bx [x]),bW es sz (lo.getD 0) (hi.getD es.length) ((es.take (hi.getD es.length).toNat).drop (lo.getD 0).toNat)::(mx=none∨mx=hi)::ps)
  |_=>none
 |.qW x l=>match aN [] false bx [x] with
  |some ([.dt (.row es)],ps)=>some (.dt (.val (str l)),[],(es=l.map fun b=>[.val (.int .u8 b.toNat)])::ps)
  |_=>none
 |.call f args aI r=>match r.dW with
  |true=>match Db bx args with
   |some (args',ps)=>some (r,[],qj E.P E.G f (args'++aI) r::ps)
   |none=>none
  |false=>match aN [] false bx args with
   |some (args',ps)=>some (r,M8 bx (J3 [] bx args),qj E.P E.G f (args'++aI) r::ps)
   |none=>none
 |.uF=>some (.O5 k,[(k,.mp [])],[])
 |.ui=>some (.O5 k,[(k,.T9 [])],[])
 |.ins b kt key v=>match bx b with
  |some (.mp x9)=>some (.dt (.val undef),[(b,.mp (x9++[(key,v)]))],[xW E.P kt key (x9.map (·.1))])
  |some (.T9 x9)=>match v with
   |.agg cs=>match bC cs with
    |some ds=>some (.dt (.val undef),[(b,.T9 (x9++[(key,ds)]))],[xW E.P kt key (x9.map (·.1))])
    |none=>none
   |_=>none
  |_=>none
 |.uj b kt key ok i v=>match bx b with
  |some (.mp x9)=>some (cond ok (.l7 [v,.dt (.val (.bool true))]) v,[],[ku E.P kt key (x9.map (·.1)) (some i),(x9.map (·.2))[i]?=some v])
  |some (.T9 x9)=>match v with
   |.agg cs=>match bC cs with
    |some ds=>some (cond ok (.l7 [v,.dt (.val (.bool true))]) v,[],[ku E.P kt key (x9.map (·.1)) (some i),(x9.map (·.2))[i]?=some ds])
    |none=>none
   |_=>none
  |_=>none
 |.look b kt key z ok r=>match bx b with
  |some (.T9 x9)=>match r with
   |some _=>none
   |none=>some (cond ok (.l7 [z,.dt (.val (.bool false))]) z,[],[ku E.P kt key (x9.map (·.1)) none])
  |some (.mp x9)=>match r with
   |some i=>match x9[i]? with
    |some (_,v)=>some (cond ok (.l7 [v,.dt (.val (.bool true))]) v,[],[ku E.P kt key (x9.map (·.1)) r])
    |none=>none
   |none=>some (cond ok (.l7 [z,.dt (.val (.bool false))]) z,[],[ku E.P kt key (x9.map (·.1)) none])
  |_=>none
def Left(X:Nat→Prop)(n0:Nat)(w0:World×Mm)(ok0:Nat→Prop)(nt:Nat)(tm:Nat→AV)(bx:Nat→Option Bx)(a:Act)(w:World):Prop:=∃M,Inv X n0 w0 ok0 M nt tm bx a w
theorem Nc{Pq:List Prop→Prop}(kL:∀ps qs,Pq (ps++qs)→Pq ps∧Pq qs){bx:Nat→Option Bx}(cs:List AV)(r:List AV×List Prop)(h:cK bx 1 cs=some r)(hp:Pq r.2):∀b∈gm bx 1 cs,∀x,bx b=some x→x.xV=true∨(∃e k es,x=.buf e k es)∨(∃e k es,x=.rws e k es):=by
 intro b hb x hx;have:=nL kL (bx:=bx) (rec:=cK bx 0) (aH:=gm bx 0) (S:=fun _=>True) (fun cs r h=>by cases h) cs [] false r.1 r.2 h hp (fun _ _=>trivial) b hb;rcases this.1 x hx with h1 | h1 | h1 | ⟨c0,rfl⟩
 ·exact .inl h1
 ·exact .inr (.inl h1)
 ·exact .inr (.inr h1)
 ·obtain⟨r',h2,_⟩:=this.2 c0 hx;cases h2
theorem GK{bx:Nat→Option Bx}{js:List Nat}{kn:Bool}{cs cs':List AV}{ps:List Prop}(h:aN js kn bx cs=some (cs',ps))(hp:J4 ps){S:Nat→Prop}(hS:∀b∈J3 js bx cs,S b):∀b∈J3 js bx cs,uD J4 bx (cK bx 1) (gm bx 1) S b :=
 nL (fun _ _=>ed) (Nc fun _ _=>ed) cs js kn cs' ps h hp hS
section
variable {E:En} {X:Nat→Prop} {n0:Nat} {w0:World×Mm} {ok0:Nat→Prop} {M:Mm} {nt:Nat} {tm:Nat→AV} {bx:Nat→Option Bx} {a:Act} {w:World} {o:Oper} {Q:Exit→Act→World→Prop}
theorem BP{bs:List Nat}(hst:∀b∈bs,uD J4 bx (cK bx 1) (gm bx 1) (·∈bs) b):∀b∈bs,Fz M bx (dJ M bx bs) b:=by
 intro b hb x hx q hq;refine .inr ⟨b,x,hb,hx,?_,hq⟩;rcases (hst b hb).1 x hx with h1 | ⟨_,_,_,rfl⟩ | ⟨_,_,_,rfl⟩ | ⟨c0,rfl⟩
 ·exact absurd hq (Bx.a2P h1)
 ·rfl
 ·rfl
 ·obtain⟨r,h2,_⟩:=(hst b hb).2 c0 hx;have h2':cK bx lN c0=some r:=h2;simp only[jA,h2',Option.isSome_some]
theorem Inv.freeze(h:Inv X n0 w0 ok0 M nt tm bx a w)(bs:List Nat)(hst:∀b∈bs,uD J4 bx (cK bx 1) (gm bx 1) (·∈bs) b) :
  Inv X n0 w0 ok0 ⟨M.m,dJ M bx bs,M.o⟩ nt tm (H9 bx (M8 bx bs)) a w:=by
 obtain⟨g,hs,hF⟩:=h.H6.M8 bs fun b hb cs hx cs' ps hc=>by
  obtain⟨r,h1,h2,h3⟩:=(hst b hb).2 cs hx;have hc':cK bx 1 cs=some (cs',ps):=hc;rw[h1]at hc';cases hc';exact⟨h2,fun b' hb'=>BP hst b' (h3 b' hb')⟩
 exact h.same g hs hF
theorem eF{v:Value}{w':World}{K:Act→World→Prop}(hrun:(execOp a.eval o).run E.P w=.ok (.value v) w')(h:K (a.put o.dst v) w'):o.wp E.P a w K Q:=by
 unfold Oper.wp;rw[hrun,Oper.upon_value];exact h
theorem BQ{w':World}{K:Act→World→Prop}(hrun:(execOp a.eval o).run E.P w=.ok .skip w')(h:K (a.put o.dst undef) w'):o.wp E.P a w K Q:=by
 unfold Oper.wp;rw[hrun,Oper.upon_skip];exact h
theorem aX{v:Value}{r:AV}(hI:Inv X n0 w0 ok0 M nt tm bx a w)(hd:∀t,o.dst=some t→t < nt)(hrun:(execOp a.eval o).run E.P w=.ok (.value v) w)(hr:RV M w r v) :
  o.wp E.P a w (Left X n0 w0 ok0 nt (O6 tm o.dst r) (H9 bx [])) Q:=eF hrun ⟨M,hI.val o.dst hd hr⟩
theorem run_load{P:Program}{t:TypeId}{n:Nat}{ag:Bool}(hn:bB P t=some n)(ha:jG P t=some ag){g q:Nat}{cs:List AV}{vs:List Value}(hc:∀(j:Nat) u,vs[j]?=some u→w.cell? ⟨g,q+j,none⟩=some u)(hl:RL M w cs vs){off:Nat}{r:AV}(hr:rowAt cs off n ag=some r) :
  ∃v,(loadVar t ⟨g,q+off,none⟩).run P w=.ok v w∧RV M w r v:=by
 unfold rowAt at hr;split at hr
 case h_2=>cases hr
 rename_i hle;have b0c:=Nat.le_of_ble_eq_true hle;have hlen:=hl.len;cases ag with
 |true =>
  cases hr;refine⟨.agg ((vs.drop off).take n).toArray,?_,_,rfl,(hl.drop off).take n⟩;have h1:(loadCells ⟨g,q+off,none⟩ n).run P w=.ok ((vs.drop off).take n).toArray w:=by
   have hn':((vs.drop off).take n).length=n:=by simp;omega
   have:=run_loadCells_list (P:=P) w ⟨g,q+off,none⟩ ((vs.drop off).take n) (fun j v hj=>by
    rw[qa,Nat.add_assoc];refine hc _ v ?_;rw[List.getElem?_take]at hj;split at hj
    ·rw[List.getElem?_drop]at hj;exact hj
    ·cases hj)
   rwa [hn']at this
  simp only[loadVar,Sem.run_bind,Sem.run_pure,Result.andThen,vP ha,run_sizeOf hn,h1,if_true]
 |false =>
  obtain⟨u,hu,hru⟩:=hl.get hr;refine⟨u,?_,hru⟩;have hcell:=hc off u hu;simp only[loadVar,Sem.run_bind,Result.andThen,vP ha,load,Sem.run,hcell,Bool.false_eq_true,if_false]
theorem vQ{P:Program}{t:TypeId}{x:Operand}(ho:o.op=.load t x){g q:Nat}(hv:a.eval x=.pointer (some ⟨g,q,none⟩)){v:Value}(h:(loadVar t ⟨g,q,none⟩).run P w=.ok v w):(execOp a.eval o).run P w=.ok (.value v) w:=by
 obtain⟨dd,op,ty,pos,af,gd⟩:=o;simp only at ho;subst ho;simp only[execOp,Instr.loadAt,Instr.sureAddr,hv,Sem.run_bind,Sem.run_pure,Result.andThen,h]
theorem Yo{t:TypeId}{x:Operand}(ho:o.op=.load t x)(hI:Inv X n0 w0 ok0 M nt tm bx a w)(hd:∀t,o.dst=some t→t < nt){b off n k:Nat}{ag:Bool}(hx:G6 tm x=.ptr b off)(hn:bB E.P t=some n)(ha:jG E.P t=some ag){r:AV}{ups:List (Nat×Bx)}{ps:List Prop}(hr:(G8.load b off n ag).run E bx k=some (r,ups,ps)) :
  o.wp E.P a w (Left X n0 w0 ok0 nt (O6 tm o.dst r) (H9 bx ups)) Q:=by
 have hv:=hI.ev x;rw[hx]at hv;obtain⟨g,hg,hv⟩:=hv;simp only[G8.run]at hr;split at hr
 ·rename_i cs hb;split at hr
  ·rename_i r' hrow;cases hr;obtain⟨g',T,vs,hg',hB,hl⟩:=hI.H6.box b _ hb;rw[hg]at hg';cases hg';obtain⟨u,h1,h2⟩:=run_load (g:=g) (q:=0) hn ha (fun j u hj=>by rw[Nat.zero_add,hB.cell];simpa using hj) hl hrow;rw[Nat.zero_add]at h1;exact aX hI hd (vQ ho hv h1) h2
  ·cases hr
 ·rename_i cs hb;split at hr
  ·rename_i r' hrow;cases hr;obtain⟨g',vs,hg',hF,hlt,hc,hl⟩:=hI.H6.box b _ hb;rw[hg]at hg';cases hg';obtain⟨u,h1,h2⟩:=run_load (g:=g) (q:=0) (M:=M0 M.F) hn ha (fun j u hj=>by rw[Nat.zero_add];exact hc j u hj) hl hrow;rw[Nat.zero_add]at h1;exact aX hI hd (vQ ho hv h1) (RV.go (N8.same (M:=M0 M.F) (M':=M) (fun _ h _=>h) (fun _ _ h=>by cases h) (fun _ _ h=>by cases h)) _ _ h2)
  ·cases hr
 ·cases hr
theorem Yp{t:TypeId}{x:Operand}(ho:o.op=.load t x)(hI:Inv X n0 w0 ok0 M nt tm bx a w)(hd:∀t,o.dst=some t→t < nt){cs:List AV}{n:Nat}{ag:Bool}(hx:G6 tm x=.pin cs)(hn:bB E.P t=some n)(ha:jG E.P t=some ag){r:AV}(hr:rowAt cs 0 n ag=some r) :
  o.wp E.P a w (Left X n0 w0 ok0 nt (O6 tm o.dst r) (H9 bx [])) Q:=by
 have hv:=hI.ev x;rw[hx]at hv;obtain⟨g,q,vs,hv,hF,hlt,hc,hl⟩:=hv;obtain⟨u,h1,h2⟩:=run_load (g:=g) (q:=q) (M:=M0 M.F) hn ha hc hl hr;exact aX hI hd (vQ ho hv h1) (RV.go (N8.same (M:=M0 M.F) (M':=M) (fun _ h _=>h) (fun _ _ h=>by cases h) (fun _ _ h=>by cases h)) _ _ h2)
theorem Mi{t:TypeId}{x:Operand}(ho:o.op=.load t x)(hI:Inv X n0 w0 ok0 M nt tm bx a w)(hd:∀t,o.dst=some t→t < nt){g off:Nat}(hx:G6 tm x=.gl g off)(ha:jG E.P t=some false){r:Value}(hr:w.cell? ⟨g,off,none⟩=some r) :
  o.wp E.P a w (Left X n0 w0 ok0 nt (O6 tm o.dst (.dt (.val r))) (H9 bx [])) Q:=by
 have hv:=hI.ev x;rw[hx]at hv;refine aX hI hd (vQ (v:=r) ho hv ?_) (Rd.val _);simp only[loadVar,Sem.run_bind,Result.andThen,vP ha,load,Sem.run,hr,Bool.false_eq_true,if_false]
theorem ZC{F:Nat→Prop}{k:Nat}{es:bv}{vs:List Value}(h:oJ F w k es vs){i:Nat}{ds:List Dt}(hi:es[i]?=some ds):RL (M0 F) w (ds.map .dt) ((vs.drop (i * k)).take k):=by
 obtain⟨hlt,he⟩:=List.getElem?_eq_some_iff.1 hi;obtain⟨hk,hf⟩:=h.2 i hlt;rw[he]at hk;have hvl:=h.1;have hle:i * k+k≤vs.length:=by
  rw[hvl];have:(i+1) * k≤es.length * k:=Nat.mul_le_mul_right k hlt;rw[Nat.add_mul]at this;omega
 have key:∀n,n≤ds.length→RL (M0 F) w ((ds.take n).map .dt) ((vs.drop (i * k)).take n):=by
  intro n
  induction n with
  |zero=>exact fun _=>rfl
  |succ n ih =>
   intro hn;have ih':=ih J;obtain⟨u,h1,_,h2⟩:=hf n (by rw[he];omega);simp only[he]at h2;rw[List.take_add_one,List.getElem?_eq_getElem J,List.map_append,List.take_add_one,List.getElem?_drop,h1];exact ih'.append ⟨u,[],rfl,h2,rfl⟩
 have:=key k J
 rwa [List.take_of_length_le J]at this
theorem a0M{t:TypeId}{x:Operand}(ho:o.op=.load t x)(hI:Inv X n0 w0 ok0 M nt tm bx a w)(hd:∀t,o.dst=some t→t < nt){b i k n k0:Nat}{ds:List Dt}{ag:Bool}(hx:G6 tm x=.bI b i k)(hn:bB E.P t=some n)(hnk:n=k)(ha:jG E.P t=some ag){r:AV}{ups:List (Nat×Bx)}{ps:List Prop}(hr:(G8.uh b i k ds ag).run E bx k0=some (r,ups,ps))(hp:J4 ps) :
  o.wp E.P a w (Left X n0 w0 ok0 nt (O6 tm o.dst r) (H9 bx ups)) Q:=by
 have hv:=hI.ev x;rw[hx]at hv;obtain⟨g,hg,hv⟩:=hv;simp only[G8.run]at hr;split at hr
 case h_2=>cases hr
 rename_i e k' es hb;split at hr
 case h_2=>cases hr
 rename_i hk;obtain rfl:=Nat.eq_of_beq_eq_true hk;subst hnk;cases hr;obtain⟨h1,h2,_⟩:=hp;obtain⟨g',vs,hg',hB,hl⟩:=hI.H6.box b _ hb;rw[hg]at hg';cases hg';have hrl:=RL.go (N8.same (M:=M0 M.F) (M':=M) (fun _ h _=>h) (fun _ _ h=>by cases h) (fun _ _ h=>by cases h)) _ _ (ZC hl h1);have hrow:rowAt (ds.map .dt) 0 n ag=some (cond ag (.agg (ds.map .dt)) (.dt (ds.headD (.val undef)))):=by
  obtain⟨hlt,he⟩:=List.getElem?_eq_some_iff.1 h1;have hk:=(hl.2 i hlt).1;rw[he]at hk;unfold rowAt;have:Nat.ble (0+n) (List.map AV.dt ds).length=true:=Nat.ble_eq_true_of_le (by simp;omega);rw[this];cases ag with
  |true=>simp only[List.drop_zero,cond_true];rw[List.take_of_length_le (by simp;omega)]
  |false =>
   simp only[cond_false]at h2
   match ds,h2 with
   |[d],_=>rfl
 obtain⟨u,h3,h4⟩:=run_load (g:=g) (q:=i * n) hn ha (fun j u hj=>by
  rw[hB.cell];rw[List.getElem?_take]at hj;split at hj
  ·rw[List.getElem?_drop]at hj;simpa using hj
  ·cases hj) hrl hrow
 exact aX hI hd (vQ ho hv h3) h4
theorem Mj{P:Program}{t:TypeId}{x y:Operand}(ho:o.op=.store t x y){g q:Nat}{T:TypeId}(hv:a.eval x=.pointer (some ⟨g,q,none⟩)){vs us:List Value}(hn:bB P t=some us.length)(hu:(a.eval y).cells=us.toArray)(h1:∀u∈us,u.oneCell'=true)(hB:y9 w g T vs.toArray)(hle:q+us.length≤vs.length) :
  (execOp a.eval o).run P w=.ok .skip (w.setRow g (vs.take q++us++vs.drop (q+us.length)).toArray):=by
 have h2:=run_storeCells_at (P:=P) g q T us 0 vs.toArray w hB (by simp;omega) h1;simp only[Nat.add_zero]at h2;obtain⟨dd,op,ty,pos,af,gd⟩:=o;simp only at ho;subst ho;have hsz:(a.eval y).cells.size=us.length:=by rw[hu];simp
 simp only[execOp,Instr.storeAt,storeVar,Instr.sureAddr,hv,Sem.run_bind,Sem.run_pure,Result.andThen,run_sizeOf hn,hsz,ne_eq,not_true_eq_false,if_false];rw[hu];simp only[h2]
theorem a0N{t:TypeId}{x y:Operand}(ho:o.op=.store t x y)(hI:Inv X n0 w0 ok0 M nt tm bx a w)(hd:∀t,o.dst=some t→t < nt){b off k:Nat}(hx:G6 tm x=.ptr b off)(hn:bB E.P t=some (G6 tm y).cells.length){r:AV}{ups:List (Nat×Bx)}{ps:List Prop}(hr:(G8.store b off (G6 tm y).cells).run E bx k=some (r,ups,ps)) :
  o.wp E.P a w (Left X n0 w0 ok0 nt (O6 tm o.dst r) (H9 bx ups)) Q:=by
 have hv:=hI.ev x;rw[hx]at hv;obtain⟨g,hg,hv⟩:=hv;simp only[G8.run]at hr;split at hr
 case h_2=>cases hr
 rename_i cs hb;split at hr
 case h_2=>cases hr
 rename_i hle;cases hr;obtain⟨g',T,vs,hg',hB,hl⟩:=hI.H6.box b _ hb;rw[hg]at hg';cases hg';rw[Bool.and_eq_true]at hle;have b0c:=Nat.le_of_ble_eq_true hle.1;have hlen:=hl.len;obtain⟨us,hu1,hu2⟩:=(hI.ev y).cells hle.2;have uZ:=hu2.len;refine BQ (Mj ho hv (us:=us) (by rw[hn,uZ]) hu1 (hu2.oneCell hle.2) hB J) ⟨M,?_⟩;have:=hI.store hb hg hB (((hl.take off).append hu2).append (hl.drop (off+us.length))) o.dst hd;rw[uZ]at this ⊢
 exact this
theorem RL.Uw{M:Mm}{w:World}:∀{ds:List Dt} {vs:List Value},RL M w (ds.map .dt) vs→∀j (h:j < ds.length),∃u,vs[j]?=some u∧Rd M.F w u ds[j]:=by
 intro ds vs h j hj;obtain⟨u,h1,h2⟩:=h.get (i:=j) (c:=.dt ds[j]) (by rw[List.getElem?_map,List.getElem?_eq_getElem hj];rfl);exact⟨u,h1,h2⟩
theorem qb{M:Mm}{w:World}:RV M w (.dt (.val undef)) undef:=Rd.val _
theorem ZE{t:TypeId}{x y:Operand}(ho:o.op=.store t x y)(hI:Inv X n0 w0 ok0 M nt tm bx a w)(hd:∀t,o.dst=some t→t < nt){b i k k0:Nat}(hx:G6 tm x=.bI b i k)(hn:bB E.P t=some k){r:AV}{ups:List (Nat×Bx)}{ps:List Prop}(hr:(G8.ql b i k (G6 tm y).cells).run E bx k0=some (r,ups,ps))(hp:J4 ps) :
  o.wp E.P a w (Left X n0 w0 ok0 nt (O6 tm o.dst r) (H9 bx ups)) Q:=by
 have hv:=hI.ev x;rw[hx]at hv;obtain⟨g,hg,hv⟩:=hv;simp only[G8.run]at hr;split at hr
 case h_2=>cases hr
 rename_i e k' es hb;split at hr
 case h_2=>cases hr
 rename_i vs' qs hc hcv;split at hr
 case h_2=>cases hr
 rename_i ds hds hnb;cases hr;obtain⟨hi,hp'⟩:=hp;simp only[Bool.and_eq_true]at hc;obtain rfl:=Nat.eq_of_beq_eq_true hc.1.1;have hlk:=Nat.eq_of_beq_eq_true hc.2
 let bs:=J3 [] bx (G6 tm y).cells
 have hst:=GK hcv hp' (S:=(·∈bs)) fun b hb=>hb
 have hI1:=hI.freeze bs hst;have hnb':b ∉ bs:=fun h=>by
  have:=List.contains_iff_mem.2 h;rw[this]at hnb;cases hnb
 have hb1:H9 bx (M8 bx bs) b=some (.rws e k es):=by
  rw[qf (fun x hx=>hnb' (iJ hx).1),hb]
 obtain⟨g',vs,hg',hB,hl⟩:=hI1.H6.box b _ hb1;rw[show (M.m b=_) from hg]at hg'
 cases hg';obtain⟨us,hu1,hu2⟩:=(hI.ev y).cells hc.1.2;have uZ:=hu2.len;have hu3:=jf hI.H6 (F1:=dJ M bx bs) (fun q h _=>.inl h) (qc hI.H6 (fun q h _=>.inl h) 1) _ [] false _ _ us (M0 (dJ M bx bs)) rfl (fun b i h=>by cases h) hcv hp' (fun b hb=>BP hst b hb) hu2;rw[tV hds]at hu3;have hdl:ds.length=k:=by
  have:=hu3.len;rw[List.length_map]at this;omega
 have hvl:=hl.1;have hik:i * k+k≤vs.length:=by
  rw[hvl];have:(i+1) * k≤es.length * k:=Nat.mul_le_mul_right k hi;rw[Nat.add_mul]at this;omega
 have hone:=hu2.oneCell hc.1.2;refine BQ (Mj ho hv (us:=us) (by rw[hn,uZ,hlk]) hu1 hone hB J) ⟨⟨M.m,dJ M bx bs,M.o⟩,?_⟩;generalize hv2:vs.take (i * k)++us++vs.drop (i * k+us.length)=vs2;have b0d:∀{M2:Mm} {w2:World},N8 X n0 ⟨M.m,dJ M bx bs,M.o⟩ w M2 w2→oJ M2.F w2 k (es.set i ds) vs2:=by
  intro M2 w2 gg;subst hv2;refine⟨by simp;omega,fun j hj=>?_⟩;rw[List.length_set]at hj;obtain⟨hk1,hk2⟩:=hl.2 j hj;by_cases ej:i=j
  ·subst ej;rw[List.getElem_set_self];refine⟨hdl,fun j' hj'=>?_⟩;obtain⟨u,h1,h2⟩:=hu3.Uw j' hj';refine⟨u,?_,hone u (List.mem_of_getElem? h1),Rd.go gg h2⟩;rw[List.append_assoc,List.getElem?_append_right (by simp;omega),List.getElem?_append_left (by simp;omega)];simp only[List.length_take];rw[show i * k+j' - min (i * k) vs.length=j' by omega]
   exact h1
  ·rw[List.getElem_set_ne ej];refine⟨hk1,fun j' hj'=>?_⟩;obtain⟨u,h1,h2,h3⟩:=hk2 j' hj';refine⟨u,?_,h2,Rd.go gg h3⟩;rw[←h1];rcases Nat.lt_or_gt_of_ne ej with hlt | hlt
   ·have:(i+1) * k≤j * k:=Nat.mul_le_mul_right k hlt;rw[Nat.add_mul]at this;rw[List.getElem?_append_right (by simp;omega)];simp only[List.length_append,List.length_take];rw[List.getElem?_drop];congr 1;omega
   ·have:(j+1) * k≤i * k:=Nat.mul_le_mul_right k hlt;rw[Nat.add_mul]at this;rw[List.append_assoc,List.getElem?_append_left (by simp;omega),List.getElem?_take_of_lt J]
 have hfin:=hI1.Da (x:=.rws e k es) (x':=.rws e k (es.set i ds)) (w':=w.setRow g vs2.toArray) (r:=.dt (.val undef)) (v:=undef) hb1 hg rfl hg rfl rfl rfl (setRow_size _ _ _) (fun q hq=>Nb hq) (fun gg=>⟨g,vs2,hg,hB.setRow,b0d gg⟩) o.dst hd qb;have e:V6 (H9 bx (M8 bx bs)) b (.rws e k (es.set i ds))=H9 bx (M8 bx bs++[(b,.rws e k (es.set i ds))]):=by
  have gen:∀ups:List (Nat×Bx),(∀x,(b,x) ∉ ups)→V6 (H9 bx ups) b (.rws e k (es.set i ds))=H9 bx (ups++[(b,.rws e k (es.set i ds))]):=by
   intro ups
   induction ups with
   |nil=>intro _;rfl
   |cons p r ih =>
    intro hn;obtain⟨b0,x0⟩:=p;have hne:b≠b0:=fun e=>hn x0 (by rw[e];exact List.mem_cons_self ..)
    have:=ih fun x hx=>hn x (List.mem_cons_of_mem _ hx)
    funext q;have hq:=congrFun this q;show (if q=b then some _ else if q=b0 then some x0 else H9 bx r q)=if q=b0 then some x0 else H9 bx (r++_) q
    rw[←hq];by_cases e1:q=b
    ·subst e1;rw[if_pos rfl,if_neg hne];exact (if_pos rfl).symm
    ·rw[if_neg e1];by_cases e2:q=b0
     ·rw[if_pos e2,if_pos e2]
     ·rw[if_neg e2,if_neg e2];exact (if_neg e1).symm
  exact gen _ fun x hx=>hnb' (iJ hx).1
 rw[←e];exact hfin
end
theorem RL.a5x{M:Mm}{w:World}{a:AV}{v:Value}(h:RV M w a v):RL M w [a] [v]:=⟨v,[],rfl,h,rfl⟩
theorem RL.a5y{M:Mm}{w:World}{a:AV}{v:Value}(h:RL M w [a] [v]):RV M w a v:=by
 obtain⟨u,us,e,h,_⟩:=h;cases e;exact h
theorem a2Q{P:Program}{t e:TypeId}(h:P.underlying t=some (.slice e)):P.elem t=e:=by unfold Program.elem;rw[h]
section
variable {E:En} {X:Nat→Prop} {n0:Nat} {w0:World×Mm} {ok0:Nat→Prop} {M:Mm} {nt:Nat} {tm:Nat→AV} {bx:Nat→Option Bx} {a:Act} {w:World} {o:Oper} {Q:Exit→Act→World→Prop}
theorem Inv.hand(hI:Inv X n0 w0 ok0 M nt tm bx a w){kn:Bool}{cs cs':List AV}{ps:List Prop}(hc:aN [] kn bx cs=some (cs',ps))(hp:J4 ps){vs:List Value}(hr:RL M w cs vs) :
  ∃M1,Inv X n0 w0 ok0 M1 nt tm (H9 bx (M8 bx (J3 [] bx cs))) a w∧RL (M0 M1.F) w cs' vs∧M1.m=M.m∧M1.o=M.o∧∀q,M.F q→M1.F q:=by
 have hst:=GK hc hp (S:=(·∈J3 [] bx cs)) fun b hb=>hb
 refine⟨_,hI.freeze _ hst,?_,rfl,rfl,fun q hq=>.inl hq⟩;exact jf hI.H6 (F1:=dJ M bx (J3 [] bx cs)) (fun q h _=>.inl h) (qc hI.H6 (fun q h _=>.inl h) 1) cs [] kn cs' ps vs (M0 (dJ M bx (J3 [] bx cs))) rfl (fun b i h=>by cases h) hc hp (fun b hb=>BP hst b hb) hr
theorem Inv.IC(hI:Inv X n0 w0 ok0 M nt tm bx a w){kn:Bool}{c c':AV}{ps:List Prop}(hc:aN [] kn bx [c]=some ([c'],ps))(hp:J4 ps){v:Value}(hr:RV M w c v) :
  ∃M1,Inv X n0 w0 ok0 M1 nt tm (H9 bx (M8 bx (J3 [] bx [c]))) a w∧RV (M0 M1.F) w c' v∧M1.m=M.m∧M1.o=M.o∧∀q,M.F q→M1.F q:=by
 obtain⟨M1,h1,h2,h3⟩:=hI.hand hc hp (RL.a5x hr);exact⟨M1,h1,h2.a5y,h3⟩
theorem GL(hS:V7 X n0 M bx w){x:AV}{xs:bv}{ps:List Prop}(h:qx bx x=some (xs,ps))(hp:J4 ps){v:Value}(hr:RV M w x v) :
  ∃A m c,v=.slice A m c∧xs.length=m∧∀k,L6 k xs→0 < m→∃b q,A=some ⟨b,q,none⟩∧∀i (hi:i < xs.length),(xs[i]).length=k∧∀j (hj:j < (xs[i]).length),∃u,w.cell? ⟨b,q+i * k+j,none⟩=some u∧Rd M.F w u (xs[i])[j]∧u.oneCell'=true:=by
 have Cn:∀{v:Value} {xs:bv},Rd M.F w v (.row xs)→∃A m c,v=.slice A m c∧xs.length=m∧∀k,L6 k xs→0 < m→∃b q,A=some ⟨b,q,none⟩∧∀i (hi:i < xs.length),(xs[i]).length=k∧∀j (hj:j < (xs[i]).length),∃u,w.cell? ⟨b,q+i * k+j,none⟩=some u∧Rd M.F w u (xs[i])[j]∧u.oneCell'=true:=by
  intro v xs hr;obtain⟨A,m,c,rfl,hm,_⟩:=Rd.slice hr;refine⟨A,m,c,rfl,hm,fun k hk h0=>?_⟩;obtain⟨b,q,e,hf⟩:=Rd.src (A:=none) (ok:=M.F) hr (fun b hb _=>⟨hb,I⟩) hk h0;refine⟨b,q,e,fun i hi=>⟨(hf i hi).1,fun j hj=>?_⟩⟩;obtain⟨u,h1,h2,h3⟩:=(hf i hi).2 j hj;exact⟨u,h1,h2.mono fun _ h _=>h.1,h3⟩
 unfold qx at h;split at h
 ·cases h;exact Cn hr
 ·cases h;exact⟨_,0,_,Rd.Q9 hr,rfl,fun _ _ h=>absurd h (Nat.lt_irrefl _)⟩
 ·cases h;obtain⟨A,_,h2⟩:=hr;exact Cn h2
 ·cases h;exact⟨none,0,0,hr,rfl,fun _ _ h=>absurd h (Nat.lt_irrefl _)⟩
 ·rename_i b n;obtain⟨A,c,A',n',c',h1,h2,h3,h4⟩:=hr;split at h
  ·rename_i e k0 es hb;cases h;obtain⟨A2,n2,c2,e1,e2⟩:=hS.box b _ hb;rw[h2]at e1;cases e1;have hn:n=n':=hp.1.symm.trans e2.len;obtain⟨rfl,rfl⟩:=h4 hn;subst hn;refine⟨A,n,c,h1,e2.len,fun k hk h0=>?_⟩;obtain⟨xs',⟨hx,ho⟩,he⟩:=e2.own;have hlen:=e2.len;rcases ho with⟨_,h5⟩ | ⟨g',cap,cur,hv,hbg,hgb,hnc,hcm,hcs,ht⟩
   ·omega
   ·simp only[Value.slice.injEq]at hv;obtain⟨rfl,_,rfl⟩:=hv;have hk0:k0=k:=by rw[←(he 0 J).1];exact (hk _ (List.getElem_mem _)).1
    subst hk0;refine⟨g',0,rfl,fun i hi=>⟨(he i hi).1,fun j hj=>?_⟩⟩;obtain⟨u,h6,h7⟩:=(he i hi).2 j hj;refine⟨u,?_,h7.mono fun _ h _=>h.1,h7.one ((hk _ (List.getElem_mem _)).2 _ (List.getElem_mem _))⟩;have hj':j < k0:=by rw[←(he i hi).1];exact hj
    have hlt:i * k0+j < n * k0:=by
     have:(i+1) * k0≤n * k0:=Nat.mul_le_mul_right k0 J;rw[Nat.add_mul]at this;omega
    have e:cur[i * k0+j]?=some u:=by
     rw[←h6,←ht,List.getElem?_take_of_lt hlt];simp
    simp[World.cell?,hgb,Nat.zero_add,e]
  ·rename_i es hb;cases h;obtain⟨A2,n2,c2,e1,e2⟩:=hS.box b _ hb;rw[h2]at e1;cases e1;have hn:n=n':=hp.1.symm.trans e2.len;obtain⟨rfl,rfl⟩:=h4 hn;subst hn;rw[h1];exact Cn e2
  ·cases h
 ·rename_i b n;obtain⟨g,h1,h2⟩:=hr;split at h
  ·rename_i e k0 es hb;cases h;obtain⟨g',vs,e1,e2,e3⟩:=hS.box b _ hb;rw[h1]at e1;cases e1;have hn:=hp.1;subst hn;refine⟨_,_,_,h2,rfl,fun k hk h0=>?_⟩;have hk0:k0=k:=by rw[←(e3.2 0 h0).1];exact (hk _ (List.getElem_mem _)).1
   subst hk0;refine⟨g,0,rfl,fun i hi=>⟨(e3.2 i hi).1,fun j hj=>?_⟩⟩;obtain⟨u,h6,h7,h8⟩:=(e3.2 i hi).2 j hj;refine⟨u,?_,h8,h7⟩;rw[e2.cell,Nat.zero_add];simpa using h6
  ·rename_i es hb;cases h;obtain⟨g',e1,e2⟩:=hS.box b _ hb;rw[h1]at e1;cases e1;have hn:=hp.1;subst hn;rw[h2];exact Cn e2
  ·cases h
 ·cases h
theorem a0O{P:Program}{t t' ty e e':TypeId}{args:Array Value}(ht:P.underlying t=some (.slice e))(ht':P.underlying t'=some (.slice e')):(Builtin.append_ #[t,t'] ty args).run P w=(Builtin.append_ #[t,t] ty args).run P w:=by
 unfold Builtin.append_;cases args[0]? with
 |none=>rfl
 |some s=>cases args[1]? with
  |none=>rfl
  |some x =>
   cases s with
   |slice base n c =>
    have e1:∀w,(underlying t).run P w=.ok (TypeDesc.slice e) w:=run_underlying ht;have e2:∀w,(underlying t').run P w=.ok (TypeDesc.slice e') w:=run_underlying ht';have f1:(#[t,t']:Array TypeId)[0]?=some t:=rfl;have f2:(#[t,t']:Array TypeId)[1]?=some t':=rfl;have f3:(#[t,t]:Array TypeId)[0]?=some t:=rfl;have f4:(#[t,t]:Array TypeId)[1]?=some t:=rfl;simp only[f1,f2,f3,f4,Sem.run_bind,e1,e2,Result.andThen,Sem.run_pure]
   |_=>rfl
theorem Fx{P:Program}(ok:Nat→Prop)(t ty e:TypeId)(z:Value)(k bytes:Nat)(ht:P.underlying t=some (.slice e))(hinfo:(P.info? e).map (fun i=>(i.zero,i.size,i.bytes))=some (some z,k,bytes))(hz:z.cells.size=k)(hk0:0 < k)
  (A:Option Addr) (n c:Nat) (l:bv) (hown:Y9 ok w 0 e k A n c l) (A':Option Addr) (m c':Nat) (l':bv) (hm:l'.length=m)
  (hsrc:0 < m→∃b o,A'=some ⟨b,o,none⟩∧∀i (hi:i < l'.length),(l'[i]).length=k∧∀j (hj:j < (l'[i]).length),∃u,w.cell? ⟨b,o+i * k+j,none⟩=some u∧Rd (fun b=>ok b∧A≠some ⟨b,0,none⟩) w u (l'[i])[j]∧u.oneCell'=true)
  (hf:P9 bytes (n+m)) :
  ∃A2 c2 w2,(Builtin.append_ #[t,t] ty #[.slice A n c,.slice A' m c']).run P w=.ok (.slice A2 (n+m) c2) w2∧Y9 ok w2 0 e k A2 (n+m) c2 (l++l') ∧
   (∀g,g < w.heap.size→A≠some ⟨g,0,none⟩→w2.heap[g]?=w.heap[g]?)∧w.heap.size≤w2.heap.size∧w2.os=w.os∧w2.tape=w.tape∧w2.output=w.output∧(A2=A∨A2=some ⟨w.heap.size,0,none⟩)∧(m=0→A2=A∧c2=c):=by
 rcases Nat.eq_zero_or_pos m with h0 | h0
 ·subst h0;obtain rfl:l'=[]:=List.eq_nil_of_length_eq_zero hm;obtain⟨i0,hi0,hz0,hz1,hz2⟩:=info_parts hinfo;refine⟨A,c,w,?_,by simpa using hown,fun _ _ _=>rfl,Nat.le_refl _,rfl,rfl,rfl,.inl rfl,fun _=>⟨rfl,rfl⟩⟩;obtain⟨xs,⟨_,ho⟩,_⟩:=hown.own;rcases ho with⟨hv,h0⟩ | ⟨g,cap,cur,hv,_,_,hnc,_⟩
  ·simp only[Value.slice.injEq]at hv;obtain⟨rfl,rfl,rfl⟩:=hv;rcases A' with _ | ad <;> simp[Builtin.append_,run_underlying ht,sizeOf,typeInfo,hi0,Builtin.lenOf,Builtin.firstCells,loadCells,loadCellsFrom]
  ·simp only[Value.slice.injEq]at hv;obtain⟨rfl,_,rfl⟩:=hv;rcases A' with _ | ad <;> simp[Builtin.append_,run_underlying ht,sizeOf,typeInfo,hi0,Builtin.lenOf,Builtin.firstCells,hnc,storeCells,loadCells,loadCellsFrom]
 ·obtain⟨A2,c2,w2,h1,h2,h3,h4,h5,h6,h7,h8⟩:=a0g (P:=P) (w:=w) ok 0 t ty e z k bytes ht hinfo hz hk0 A n c l hown A' m c' l' hm hsrc hf.1 hf.2 (Nat.zero_le _);exact⟨A2,c2,w2,h1,h2,h3,h4,h5,h6,h7,h8,fun e=>J⟩
theorem Inv.app(hI:Inv X n0 w0 ok0 M nt tm bx a w){b k:Nat}{e:TypeId}{A A2:Option Addr}{n m c c2:Nat}{_es es2:bv}{w2:World}
  (hb:(∃es,bx b=some (.buf e k es)∧M.o b=some (A,n,c))∨(bx b=none∧A=none)) (hown:Y9 M.F w2 0 e k A2 (n+m) c2 es2)
  (h3:∀g,g < w.heap.size→A≠some ⟨g,0,none⟩→w2.heap[g]?=w.heap[g]?) (h4:w.heap.size≤w2.heap.size) (h5:w2.os=w.os) (h6:w2.tape=w.tape) (h7:w2.output=w.output) (h8:A2=A∨∃g,A2=some ⟨g,0,none⟩∧w.heap.size≤g) (h9:bx b≠none→m=0→A2=A∧c2=c)
  (d:Option Nat) (hd:∀t,d=some t→t < nt):∃M',Inv X n0 w0 ok0 M' nt (O6 tm d (.own b (n+m))) (V6 bx b (.buf e k es2)) (a.put d (.slice A2 (n+m) c2)) w2:=by
 have hA:∀g,A=some ⟨g,0,none⟩→∃x,bx b=some x∧Hx M b x g:=by
  intro g hg;rcases hb with⟨es,h1,h2⟩ | ⟨_,h2⟩
  ·exact⟨_,h1,n,c,by rw[h2,hg]⟩
  ·rw[h2]at hg;cases hg
 have hdom:∀g,A=some ⟨g,0,none⟩→(n0≤g∨X g)∧g < w.heap.size∧¬M.F g:=by
  intro g hg;obtain⟨x,h1,h2⟩:=hA g hg;exact hI.H6.dom b x g h1 h2
 have hmb:M.m b=none:=by
  rcases hb with⟨es,h1,_⟩ | ⟨h1,_⟩
  ·cases e:M.m b with
   |none=>rfl
   |some g =>
    obtain⟨x,h2,h3⟩:=hI.H6.hm b g e;rw[h1]at h2;cases h2;cases h3
  ·exact hI.H6.wG h1
 let M':Mm:=⟨M.m,M.F,fun q=>if q=b then some (A2,n+m,c2) else M.o q⟩
 have mr:M'.o b=some (A2,n+m,c2):=if_pos rfl;have hoq:∀q,q≠b→M'.o q=M.o q:=fun q hq=>if_neg hq
 have g:N8 X n0 M w M' w2:=by
  refine⟨⟨h5,h6,h7,h4,fun q hq hX=>?_⟩,fun q hq hl=>?_,fun _ h _=>h,fun _ _ h=>h,fun q=>?_⟩
  ·refine h3 q (Nat.lt_of_lt_of_le hq hI.le) fun e=>?_
   rcases (hdom q e).1 with h | h
   ·omega
   ·exact hX h
  ·exact h3 q hl fun e=>(hdom q e).2.2 hq
  ·by_cases e:q=b
   ·subst e;intro A0 n1 c1 h1;rcases hb with⟨es,hb1,h2⟩ | ⟨h2,_⟩
    ·rw[h2]at h1;cases h1;exact⟨A2,n+m,c2,mr,J,fun e=>h9 (by rw[hb1];simp) J⟩
    ·rw[hI.H6.AB h2]at h1;cases h1
   ·exact nR (hoq q e)
 refine⟨M',hI.put g (hI.H6.upd (x':=.buf e k es2) g hI.le (fun q hq=>⟨rfl,hoq q hq⟩) (fun q hq hnq=>h3 q hq fun e=>?_) (fun q hq=>⟨Nat.lt_of_lt_of_le (hI.H6.fz q hq) h4,.inl hq⟩) ⟨A2,n+m,c2,mr,hown⟩ (fun q hq=>?_) (fun q hq=>?_)) (fun _ h=>.inl h) d hd ⟨A2,c2,A2,n+m,c2,rfl,mr,Nat.le_refl _,fun _=>⟨rfl,rfl⟩⟩⟩
 ·obtain⟨x,h1,h2⟩:=hA q e;exact hnq x h1 h2
 ·obtain⟨n',c',hq⟩:=hq;rw[mr]at hq;cases hq;have hlt:q < w2.heap.size:=by
   rcases hown.addr with h | ⟨g',h,_,hl⟩
   ·cases h
   ·cases h;exact hl
  rcases h8 with h | h
  ·exact⟨.inl (hA q h.symm),hlt,(hdom q h.symm).2.2⟩
  ·obtain⟨g',h,hge⟩:=h;cases h;exact⟨.inr hge,hlt,fun hf=>by have:=hI.H6.fz _ hf;omega⟩
 ·have:M.m b=some q:=hq;rw[hmb]at this;cases this
theorem NQ{w:World}{F:Nat→Prop}{k:Nat}(hk0:0 < k){b o:Nat}{l:bv}(hel:∀i (hi:i < l.length),(l[i]).length=k∧∀j (hj:j < (l[i]).length),∃u,w.cell? ⟨b,o+i * k+j,none⟩=some u∧Rd F w u (l[i])[j]∧u.oneCell'=true) :
  ∃vs:List Value,vs.length=l.length * k∧(∀q u,vs[q]?=some u→w.cell? ⟨b,o+q,none⟩=some u)∧(∀u∈vs,u.oneCell'=true)∧∀i (hi:i < l.length) j (hj:j < (l[i]).length),∃u,vs[i * k+j]?=some u∧Rd F w u (l[i])[j]:=by
 have hdiv:∀q,q < l.length * k→q / k < l.length∧q % k < k:=fun q hq=>⟨Nat.div_lt_of_lt_mul (by rwa [Nat.mul_comm]at hq),Nat.mod_lt _ hk0⟩
 have JA:∀q,q / k * k+q % k=q:=fun q=>by rw[Nat.mul_comm];exact Nat.div_add_mod q k
 let vs:List Value:=(List.range (l.length * k)).map fun q=>(w.cell? ⟨b,o+q,none⟩).getD (.int .i64 0)
 have hvl:vs.length=l.length * k:=by simp[vs]
 have hget:∀i (hi:i < l.length) j (hj:j < (l[i]).length),∃u,vs[i * k+j]?=some u∧w.cell? ⟨b,o+(i * k+j),none⟩=some u∧Rd F w u (l[i])[j]∧u.oneCell'=true:=by
  intro i hi j hj;obtain⟨hk,hj2⟩:=hel i hi;obtain⟨u,h1,h2,h3⟩:=hj2 j hj;have hlt:i * k+j < l.length * k:=by
   have:(i+1) * k≤l.length * k:=Nat.mul_le_mul_right k J;rw[Nat.add_mul]at this;omega
  refine⟨u,?_,by rw[←Nat.add_assoc];exact h1,h2,h3⟩;simp only[vs];rw[List.getElem?_map,List.getElem?_range hlt,Option.map_some,←Nat.add_assoc,h1,Option.getD_some]
 have hall:∀q u,vs[q]?=some u→w.cell? ⟨b,o+q,none⟩=some u∧u.oneCell'=true:=by
  intro q u hq;have hlt:q < l.length * k:=by rw[←hvl];exact (List.getElem?_eq_some_iff.1 hq).1
  obtain⟨h1,h2⟩:=hdiv q hlt;obtain⟨hk,_⟩:=hel (q / k) h1;obtain⟨u',e1,e2,_,e3⟩:=hget (q / k) h1 (q % k) (by rw[hk];exact h2);rw[JA]at e1 e2;rw[hq]at e1;injection e1 with e1
  subst e1;exact⟨e2,e3⟩
 exact⟨vs,hvl,fun q u hq=>(hall q u hq).1,fun u hu=>by obtain⟨q,hq⟩:=List.getElem?_of_mem hu;exact (hall q u hq).2,fun i hi j hj=>by obtain⟨u,h1,_,h2,_⟩:=hget i hi j hj;exact⟨u,h1,h2⟩⟩
theorem a0P{P:Program}{w:World}(F:Nat→Prop)(t ty e:TypeId)(z:Value)(k bytes:Nat)(ht:P.underlying t=some (.slice e))(hinfo:(P.info? e).map (fun i=>(i.zero,i.size,i.bytes))=some (some z,k,bytes))(hz:z.cells.size=k)(hk0:0 < k)
  {ad:Addr} (es:bv) {olds:List Value} (ol:olds.length=es.length * k) (oc:∀q u,olds[q]?=some u→w.cell? (ad.add q)=some u) (ok:∀i (hi:i < es.length),(es[i]).length=k) (og:∀i (hi:i < es.length) j (hj:j < (es[i]).length),∃u,olds[i * k+j]?=some u∧Rd F w u (es[i])[j])
  {b' o':Nat} (c':Nat) (l':bv) (hl':∀i (hi:i < l'.length),(l'[i]).length=k∧∀j (hj:j < (l'[i]).length),∃u,w.cell? ⟨b',o'+i * k+j,none⟩=some u∧Rd F w u (l'[i])[j]∧u.oneCell'=true) (hm:1≤l'.length) (hf:P9 bytes (es.length+l'.length)) :
  ∃g c2 w2,(Builtin.append_ #[t,t] ty #[.slice (some ad) es.length es.length,.slice (some ⟨b',o',none⟩) l'.length c']).run P w=.ok (.slice (some ⟨g,0,none⟩) (es.length+l'.length) c2) w2∧w.heap.size≤g∧Y9 F w2 0 e k (some ⟨g,0,none⟩) (es.length+l'.length) c2 (es++l') ∧
   (∀g,g < w.heap.size→w2.heap[g]?=w.heap[g]?)∧w.heap.size≤w2.heap.size∧w2.os=w.os∧w2.tape=w.tape∧w2.output=w.output:=by
 obtain⟨i0,hi0,hz0,hz1,hz2⟩:=info_parts hinfo;obtain⟨news,nl,nc,_,ng⟩:=NQ hk0 hl';have hadd:∀b o q,(⟨b,o,none⟩:Addr).add q=⟨b,o+q,none⟩:=fun b o q=>by
  unfold Addr.add;split
  ·subst q;rfl
  ·rfl
 obtain⟨v',w2,hrun,hown,hg⟩:=run_append_arg_grows (P:=P) w t ty e i0 z k bytes ht hi0 hz0 hz1 hz2 hz hk0 ad es.length es.length olds ol oc ⟨b',o',none⟩ l'.length c' news nl (fun q u hq=>by rw[hadd];exact nc q u hq) J hf.1 hf.2;have hblk:∀g,g < w.heap.size→w2.heap[g]?=w.heap[g]?:=fun g h=>hg.block g h fun e=>by cases e
 obtain⟨hxl,hcase⟩:=hown;rcases hcase with⟨_,h0⟩ | ⟨g,cap,cur,rfl,hge,hrest⟩
 ·omega
 have wN:∀u d,Rd F w u d→Rd (fun b=>F b∧(some ⟨g,0,none⟩:Option Addr)≠some ⟨b,0,none⟩) w2 u d:=by
  intro u d hr;refine (hr.lt.mono (ok':=fun b=>F b∧b < w.heap.size) fun _ h _=>h).keep hg.size (fun b hb _=>hblk b hb.2) |>.mono ?_
  intro b hb _;refine⟨hb.1,fun e=>?_⟩;injection e with e
  injection e with e
  have:=hb.2;omega
 refine⟨g,cap,w2,hrun,hge,⟨by rw[List.length_append],olds++news,⟨hxl,.inr ⟨g,cap,cur,rfl,Nat.zero_le _,hrest⟩⟩,fun i hi=>?_⟩,hblk,hg.size,hg.os,hg.tape,hg.output⟩;rw[List.length_append]at hi;by_cases hin:i < es.length
 ·have e1:(es++l')[i]'(by rw[List.length_append];omega)=es[i]:=List.getElem_append_left hin;simp only[e1];refine⟨ok i hin,fun j hj=>?_⟩;obtain⟨u,h6,h7⟩:=og i hin j hj;refine⟨u,?_,wN _ _ h7⟩;rw[List.getElem?_append_left ((List.getElem?_eq_some_iff.1 h6).1)];exact h6
 ·have e1:(es++l')[i]'(by rw[List.length_append];omega)=l'[i - es.length]:=List.getElem_append_right J;simp only[e1];refine⟨(hl' _ J).1,fun j hj=>?_⟩;obtain⟨u,h6,h7⟩:=ng (i - es.length) J j hj;refine⟨u,?_,wN _ _ h7⟩;have ee:i * k+j=es.length * k+((i - es.length) * k+j):=by
   rw[Nat.sub_mul];have:es.length * k≤i * k:=Nat.mul_le_mul_right k J;omega
  rw[ee,←ol,List.getElem?_append_right J,Nat.add_sub_cancel_left];exact h6
theorem a5z{t t':TypeId}{s x:Operand}(ho:o.op=.call ⟨.builtin .append,#[s,x],#[t,t']⟩)(hI:Inv X n0 w0 ok0 M nt tm bx a w)(hd:∀t,o.dst=some t→t < nt){e e':TypeId}{z:Value}{kk bytes k:Nat}{c0:Bool}
  (ht:E.P.underlying t=some (.slice e)) (ht':E.P.underlying t'=some (.slice e')) (hinfo:(E.P.info? e).map (fun i=>(i.zero,i.size,i.bytes))=some (some z,kk,bytes)) (hz:z.cells.size=kk) (hk0:0 < kk)
  (hnew:∀q∈(G8.app e kk bytes (G6 tm s) (G6 tm x) c0).news k,bx q=none) {r:AV} {ups:List (Nat×Bx)} {ps:List Prop} (hr:(G8.app e kk bytes (G6 tm s) (G6 tm x) c0).run E bx k=some (r,ups,ps)) (hp:J4 ps) :
  o.wp E.P a w (Left X n0 w0 ok0 nt (O6 tm o.dst r) (H9 bx ups)) Q:=by
 simp only[G8.run]at hr;split at hr
 case h_2=>cases hr
 rename_i xs qs hsrc;have exec:∀{A:Option Addr} {n c:Nat} {A':Option Addr} {m c':Nat} {v:Value} {w2:World},a.eval s=.slice A n c→a.eval x=.slice A' m c'→(Builtin.append_ #[t,t] o.type #[.slice A n c,.slice A' m c']).run E.P w=.ok v w2→(execOp a.eval o).run E.P w=.ok (.value v) w2:=by
  intro A n c A' m c' v w2 h1 h2 h3;obtain⟨dd,op,ty,pos,af,gd⟩:=o;simp only at ho;subst ho;rw[←a0O ht ht']at h3;simp[execOp,resolve,invoke,builtin,h1,h2,h3,Result.andThen]
 split at hr
 ·rename_i hs;split at hr
  case h_2=>cases hr
  rename_i eQ;cases hr;obtain⟨hf,hk,hp'⟩:P9 bytes xs.length∧L6 kk xs∧J4 qs:=by
   cases c0 with
   |true=>exact⟨(sw eQ).1,(sw eQ).2,hp⟩
   |false=>exact hp
  obtain⟨A',m,c',hx,hm,hel⟩:=GL hI.H6 hsrc hp' (hI.ev x);have hk1:bx k=none:=hnew k (by rw[hs];exact List.mem_singleton.2 rfl);have hse:=hI.ev s;rw[hs]at hse;subst hm;obtain⟨A2,c2,w2,h1,h2,h3,h4,h5,h6,h7,h8,h9⟩:=Fx (P:=E.P) (w:=w) M.F t o.type e z kk bytes ht hinfo hz hk0 none 0 0 [] (Y9.nil M.F w 0 e kk) A' xs.length c' xs rfl (fun h0=>by
   obtain⟨b,q,e1,e2⟩:=hel kk hk h0;refine⟨b,q,e1,fun i hi=>⟨(e2 i hi).1,fun j hj=>?_⟩⟩;obtain⟨u,f1,f2,f3⟩:=(e2 i hi).2 j hj;exact⟨u,f1,f2.mono fun b hb _=>⟨hb,I⟩,f3⟩) (by rw[Nat.zero_add];exact hf)
  have:=hI.app (b:=k) (n:=0) (c:=0) (_es:=[]) (.inr ⟨hk1,rfl⟩) h2 h3 h4 h5 h6 h7 (h8.imp_right fun h=>⟨_,h,Nat.le_refl _⟩) (fun _=>h9) o.dst hd;rw[Nat.zero_add]at this h1;rw[List.nil_append]at this;exact eF (exec hse hx h1) this
 ·rename_i b n hs;split at hr
  case h_2=>cases hr
  rename_i e1 k1 es hb;split at hr
  case h_2=>cases hr
  rename_i hc;cases hr;simp only[Bool.and_eq_true]at hc;obtain⟨hn,hf,hk,hp'⟩:es.length=n∧P9 bytes (es++xs).length∧L6 kk xs∧J4 qs:=by
   cases c0 with
   |true =>
    have h2:=hc.2;simp only[Bool.not_true,Bool.false_or,Bool.and_eq_true]at h2;exact⟨Nat.eq_of_beq_eq_true h2.1,(sw h2.2).1,(sw h2.2).2,hp⟩
   |false=>exact hp
  obtain rfl:=Nat.eq_of_beq_eq_true hc.1.1.1;obtain rfl:=Nat.eq_of_beq_eq_true hc.1.1.2;obtain⟨A',m,c',hx,hm,hel⟩:=GL hI.H6 hsrc hp' (hI.ev x);have hse:=hI.ev s;rw[hs]at hse;obtain⟨A0,c0,A,n',c,g1,g2,g3,g4⟩:=hse;obtain⟨A3,n3,c3,f1,hown⟩:=hI.H6.box b _ hb;rw[g2]at f1;cases f1;have hnn:n=n':=hn.symm.trans hown.len;obtain⟨rfl,rfl⟩:=g4 hnn;subst hnn;subst hm;obtain⟨A2,c2,w2,h1,h2,h3,h4,h5,h6,h7,h8,h9⟩:=Fx (P:=E.P) (w:=w) M.F t o.type e z kk bytes ht hinfo hz hk0 A0 n c0 es hown A' xs.length c' xs rfl (fun h0=>by
   obtain⟨b',q,e1,e2⟩:=hel kk hk h0;refine⟨b',q,e1,fun i hi=>⟨(e2 i hi).1,fun j hj=>?_⟩⟩;obtain⟨u,f1,f2,f3⟩:=(e2 i hi).2 j hj;exact⟨u,f1,f2.mono fun b1 hb1 _=>⟨hb1,fun e=>(hI.H6.dom b _ b1 hb ⟨n,c0,by rw[←e];exact g2⟩).2.2 hb1⟩,f3⟩) (by rw[List.length_append,hn]at hf;exact hf)
  have hl:(es++xs).length=n+xs.length:=by rw[List.length_append,hn]
  have:=hI.app (b:=b) (n:=n) (c:=c0) (_es:=es) (.inl ⟨es,hb,g2⟩) h2 h3 h4 h5 h6 h7 (h8.imp_right fun h=>⟨_,h,Nat.le_refl _⟩) (fun _=>h9) o.dst hd;rw[hl];exact eF (exec g1 hx h1) this
 ·rename_i es hs;split at hr
  case h_2=>cases hr
  rename_i eQ;cases hr;obtain⟨h1x,hf,hk,hp'⟩:1≤xs.length∧P9 bytes (es++xs).length∧L6 kk (es++xs)∧J4 qs:=by
   cases c0 with
   |true =>
    simp only[Bool.not_true,Bool.false_or,Bool.and_eq_true]at eQ;exact⟨Nat.le_of_ble_eq_true eQ.1,(sw eQ.2).1,(sw eQ.2).2,hp⟩
   |false=>exact hp
  have hke:L6 kk es:=fun x hx=>hk x (List.mem_append_left _ hx)
  have hkx:L6 kk xs:=fun x hx=>hk x (List.mem_append_right _ hx)
  obtain⟨A',m,c',hx,hm,hel⟩:=GL hI.H6 hsrc hp' (hI.ev x);have hk1:bx k=none:=hnew k (by rw[hs];exact List.mem_singleton.2 rfl);have hse:=hI.ev s;rw[hs]at hse;subst hm;obtain⟨b',q',rfl,Jk⟩:=hel kk hkx h1x;obtain⟨A,hsv,hrd⟩:=hse;have hl:(es++xs).length=es.length+xs.length:=List.length_append;rw[hl]at hf ⊢
  have fin:∀{A2:Option Addr} {c2:Nat} {w2:World},(Builtin.append_ #[t,t] o.type #[.slice A es.length es.length,.slice (some ⟨b',q',none⟩) xs.length c']).run E.P w=.ok (.slice A2 (es.length+xs.length) c2) w2→Y9 M.F w2 0 e kk A2 (es.length+xs.length) c2 (es++xs)→(∀g,g < w.heap.size→w2.heap[g]?=w.heap[g]?)→w.heap.size≤w2.heap.size→w2.os=w.os→w2.tape=w.tape→w2.output=w.output→(∃g,A2=some ⟨g,0,none⟩∧w.heap.size≤g)→o.wp E.P a w (Left X n0 w0 ok0 nt (O6 tm o.dst (.own k (es.length+xs.length))) (H9 bx [(k,.buf e kk (es++xs))])) Q:=by
   intro A2 c2 w2 h1 h2 h3 h4 h5 h6 h7 h8;exact eF (exec hsv hx h1) (hI.app (b:=k) (A:=none) (n:=es.length) (c:=0) (_es:=[]) (.inr ⟨hk1,rfl⟩) h2 (fun g hg _=>h3 g hg) h4 h5 h6 h7 (.inr h8) (fun h=>absurd hk1 h) o.dst hd)
  cases A with
  |none =>
   have h0:es=[]:=by
    cases es with
    |nil=>rfl
    |cons x r =>
     obtain⟨b,q,e1,_⟩:=Rd.src (A:=none) (ok:=M.F) (k:=kk) (hsv ▸ hrd) (fun b hb _=>⟨hb,I⟩) hke I;cases e1
   subst h0;obtain⟨A2,c2,w2,h1,h2,h3,h4,h5,h6,h7,h8,_⟩:=Fx (P:=E.P) (w:=w) M.F t o.type e z kk bytes ht hinfo hz hk0 none 0 0 [] (Y9.nil M.F w 0 e kk) (some ⟨b',q',none⟩) xs.length c' xs rfl (fun _=>⟨b',q',rfl,fun i hi=>⟨(Jk i hi).1,fun j hj=>by
    obtain⟨u,f1,f2,f3⟩:=(Jk i hi).2 j hj;exact⟨u,f1,f2.mono fun b hb _=>⟨hb,I⟩,f3⟩⟩⟩) hf
   refine fin h1 h2 (fun g hg=>h3 g hg I) h4 h5 h6 h7 ?_;rcases h8 with h8 | h8
   ·subst h8;have:=h2.len;rcases h2.own with⟨ys,⟨_,hy⟩,_⟩
    rcases hy with⟨_,h0⟩ | ⟨g,cap,cur,hv,_⟩
    ·omega
    ·cases hv
   ·exact⟨_,h8,Nat.le_refl _⟩
  |some ad =>
   have hes:∃olds:List Value,olds.length=es.length * kk∧(∀q u,olds[q]?=some u→w.cell? (ad.add q)=some u)∧(∀i (hi:i < es.length),(es[i]).length=kk)∧∀i (hi:i < es.length) j (hj:j < (es[i]).length),∃u,olds[i * kk+j]?=some u∧Rd M.F w u (es[i])[j]:=by
    rcases Nat.eq_zero_or_pos es.length with h0 | h0
    ·obtain rfl:es=[]:=List.eq_nil_of_length_eq_zero h0;exact⟨[],I,fun q u h=>by simp at h,fun i hi=>by simp at hi,fun i hi=>by simp at hi⟩
    ·obtain⟨b,q,e1,h2⟩:=Rd.src (A:=none) (ok:=M.F) (k:=kk) (hsv ▸ hrd) (fun b hb _=>⟨hb,I⟩) hke h0;cases e1;obtain⟨olds,ol,oc,_,og⟩:=NQ (F:=fun b=>M.F b∧(none:Option Addr)≠some ⟨b,0,none⟩) hk0 h2;refine⟨olds,ol,fun r u hr=>?_,fun i hi=>(h2 i hi).1,fun i hi j hj=>?_⟩
     ·have:=oc r u hr
      rwa [show (⟨b,q,none⟩:Addr).add r=⟨b,q+r,none⟩ by
       unfold Addr.add;split
       ·subst r;rfl
       ·rfl]
     ·obtain⟨u,h3,h4⟩:=og i hi j hj;exact⟨u,h3,h4.mono fun _ h _=>h.1⟩
   obtain⟨olds,ol,oc,okk,og⟩:=hes;obtain⟨g,c2,w2,h1,hge,h2,h3,h4,h5,h6,h7⟩:=a0P (P:=E.P) (w:=w) M.F t o.type e z kk bytes ht hinfo hz hk0 es ol oc okk og c' xs Jk h1x hf;exact fin h1 h2 h3 h4 h5 h6 h7 ⟨g,rfl,hge⟩
 ·cases hr
end
end Go.Proofs.YtdkehabacmlegaaGreatDoor
