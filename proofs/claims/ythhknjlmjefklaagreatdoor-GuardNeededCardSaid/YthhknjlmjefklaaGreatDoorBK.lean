/- Plain walks: a call that is handed boxes. -/
import Derived.Test.YthhknjlmjefklaaGreatDoorBI
import Derived.Test.YthhknjlmjefklaaGreatDoorBJ
import Derived.Test.YthhknjlmjefklaaGreatDoorBF
import Derived.Test.YthhknjlmjefklaaGreatDoorBD
import Derived.Test.YthhknjlmjefklaaGreatDoorBG
namespace Go.Proofs.YthhknjlmjefklaaGreatDoor
open Go.Proofs.Tryz
open Go.RowKit
section
variable {w:World} {ρ:Nat→Nat}
mutual
theorem RV.ren:∀{M M':Mm},M'.F=M.F→(∀i,M'.m (ρ i)=M.m i)→(∀i,M'.o (ρ i)=M.o i)→∀(a:AV) (v:Value),RV M w a v→RV M' w (lD ρ a) v
 |_,_,hF,_,_,.dt d,v,h=>by show Rd _ w v d;rw[hF];exact h
 |_,_,_,_,_,.nil,_,h=>h
 |_,_,hF,_,_,.aW es,v,⟨A,h1,h2⟩=>⟨A,h1,by rw[hF];exact h2⟩
 |_,_,_,_,ho,.own b n,v,⟨A,c,A',n',c',h1,h2,h3,h4⟩=>⟨A,c,A',n',c',h1,(ho b).trans h2,h3,h4⟩
 |_,_,_,hm,_,.sl b n,v,⟨g,h1,h2⟩=>⟨g,(hm b).trans h1,h2⟩
 |_,_,_,hm,_,.V4 b,v,⟨g,h1,h2⟩=>⟨g,(hm b).trans h1,h2⟩
 |_,_,_,hm,_,.ptr b off,v,⟨g,h1,h2⟩=>⟨g,(hm b).trans h1,h2⟩
 |_,_,_,hm,_,.eX b i k,v,⟨g,h1,h2⟩=>⟨g,(hm b).trans h1,h2⟩
 |_,_,_,_,_,.gl _ _,_,h=>h
 |_,_,hF,_,_,.pin cs,v,⟨g,o,vs,h1,h2,h3,h4,h5⟩=>⟨g,o,vs,h1,by rw[hF];exact h2,h3,h4,by rw[hF];exact h5⟩
 |_,_,hF,hm,ho,.agg cs,v,⟨vs,h1,h2⟩=>⟨vs,h1,RL.ren hF hm ho cs vs h2⟩
 |_,_,hF,hm,ho,.o7 cs,v,⟨vs,h1,h2⟩=>⟨vs,h1,RL.ren hF hm ho cs vs h2⟩
 |_,_,hF,hm,ho,.clo f cs,v,⟨vs,h1,h2⟩=>⟨vs,h1,RL.ren hF hm ho cs vs h2⟩
 |_,_,hF,_,_,.ak _ _,_,⟨vs,h1,h2⟩=>⟨vs,h1,by rw[hF];exact h2⟩
 |_,_,_,_,_,.un,_,_=>trivial
theorem RL.ren:∀{M M':Mm},M'.F=M.F→(∀i,M'.m (ρ i)=M.m i)→(∀i,M'.o (ρ i)=M.o i)→∀(cs:List AV) (vs:List Value),RL M w cs vs→RL M' w (uU ρ cs) vs
 |_,_,_,_,_,[],_,h=>h
 |_,_,hF,hm,ho,c::cs,_,⟨u,us,h1,h2,h3⟩=>⟨u,us,h1,RV.ren hF hm ho c u h2,RL.ren hF hm ho cs us h3⟩
end
variable {M M':Mm} (hF:M'.F=M.F) (hm:∀i,M'.m (ρ i)=M.m i) (ho:∀i,M'.o (ρ i)=M.o i)
include hF hm ho
theorem MK.ren:∀{D8:List (Value×AV)} {es:List MapEntry},MK M w D8 es→MK M' w (D8.map fun x=>(x.1,lD ρ x.2)) es
 |[],_,h=>h
 | (_k,_a)::_kvs,_,⟨e,es',h1,h2,h3,h4⟩=>⟨e,es',h1,h2,RV.ren hF hm ho _ _ h3,MK.ren h4⟩
theorem oz.ren{b:Nat}{x:Bx}(h:oz M w b x):oz M' w (ρ b) (ql ρ x):=by
 cases x with
 |cells cs=>obtain⟨g,T,vs,h1,h2,h3⟩:=h;exact⟨g,T,vs,(hm b).trans h1,h2,RL.ren hF hm ho _ _ h3⟩
 |buf e k es=>obtain⟨A,n,c,h1,h2⟩:=h;exact⟨A,n,c,(ho b).trans h1,by rw[hF];exact h2⟩
 |ay es=>obtain⟨A,n,c,h1,h2⟩:=h;exact⟨A,n,c,(ho b).trans h1,by rw[hF];exact h2⟩
 |mp D8=>obtain⟨g,es,clk,h1,h2,h3⟩:=h;exact⟨g,es,clk,(hm b).trans h1,h2,MK.ren hF hm ho h3⟩
 |aA D8=>obtain⟨g,es,clk,h1,h2,h3⟩:=h;exact⟨g,es,clk,(hm b).trans h1,h2,by rw[hF];exact h3⟩
 |rws e k es=>obtain⟨g,vs,h1,h2,h3⟩:=h;exact⟨g,vs,(hm b).trans h1,h2,by rw[hF];exact h3⟩
 |sG es=>obtain⟨g,h1,h2⟩:=h;exact⟨g,(hm b).trans h1,by rw[hF];exact h2⟩
 |cst cs=>obtain⟨g,vs,h1,h2,h3,h4,h5⟩:=h;exact⟨g,vs,(hm b).trans h1,by rw[hF];exact h2,h3,h4,by rw[hF];exact h5⟩
omit hF in
theorem Hx.ren{b:Nat}{x:Bx}{q:Nat}:Hx M' (ρ b) (ql ρ x) q↔Hx M b x q:=by
 cases x <;> simp[Hx,ql,hm,ho]
end
theorem a8i{ρ:Nat→Nat}(x:Bx):(ql ρ x).vw=x.vw:=by cases x <;> rfl
def inv(js:List Nat)(K k:Nat):Option Nat:=match bf k js 0 with
 |some i=>some i
 |none=>if K≤k then some (js.length+(k - K)) else none
theorem Ou{b:Nat}:∀{js:List Nat} {k:Nat},b∈js→∃i,bf b js k=some i
 |j::js,k,h=>by
  unfold bf;cases e:Nat.beq b j with
  |true=>exact⟨k,rfl⟩
  |false =>
   rcases Zao.1 h with rfl | h
   ·rw[Nat.beq_refl]at e;cases e
   ·exact Ou h
theorem pI{js:List Nat}{K k i:Nat}(h:inv js K k=some i):rho js K i=k:=by
 unfold inv at h;split at h
 ·rename_i i' hi;cases h;have h2:=(um hi).2;unfold rho;rw[Nat.sub_zero]at h2;rw[h2]
 ·split at h
  ·rename_i hi hk;cases h;unfold rho;rw[Zaf J];show K+(js.length+(k - K) - js.length)=k;omega
  ·cases h
theorem b0n{js:List Nat}{K:Nat}(hn:js.Nodup)(hK:∀j∈js,j < K)(i:Nat):inv js K (rho js K i)=some i:=by
 rcases Zai i js.length with h | h
 ·have e:rho js K i=js[i]:=by unfold rho;rw[Za2 h]
  rw[e];unfold inv;obtain⟨i',hi'⟩:=Ou (k:=0) (Zay h);rw[hi'];have h2:=(um hi').2;rw[Nat.sub_zero]at h2;obtain⟨h3,h4⟩:=Pi.1 h2;exact congrArg some ((List.getElem_inj hn).1 h4)
 ·have e:rho js K i=K+(i - js.length):=by unfold rho;rw[Zaf h]
  rw[e];unfold inv;cases hi:bf (K+(i - js.length)) js 0 with
  |some i' =>
   have h2:=(um hi).2;have:=hK _ (Za5 h2);omega
  |none =>
   show (if K≤K+(i - js.length) then some (js.length+(K+(i - js.length) - K)) else none)=some i;rw[Za0 J];exact congrArg some J
theorem a8j{js:List Nat}{K k:Nat}(h:inv js K k=none):k ∉ js∧k < K:=by
 unfold inv at h;split at h
 ·cases h
 ·rename_i hi;split at h
  ·cases h
  ·refine⟨fun hm=>?_,J⟩;obtain⟨i,e⟩:=Ou (k:=0) hm;rw[hi]at e;cases e
section
variable {E:En} {X:Nat→Prop} {n0:Nat} {w0:World×Mm} {ok0:Nat→Prop} {M:Mm} {nt:Nat} {tm:Nat→AV} {bx:Nat→Option Bx} {a:Act} {w:World}
def mJ(M:Mm)(js:List Nat):Mm:=⟨fun i=>(js[i]?).bind M.m,M.F,fun i=>(js[i]?).bind M.o⟩
def uV(M:Mm)(bx:Nat→Option Bx)(js:List Nat)(g:Nat):Prop:=∃j∈js,∃x,bx j=some x∧Hx M j x g
def iZ(bx:Nat→Option Bx)(js:List Nat)(K:Nat)(xs:List (Option Bx))(k:Nat):Option Bx:=match inv js K k with
 |some i=>(lk xs i).map (ql (rho js K))
 |none=>bx k
theorem Inv.b43(hI:Inv X n0 w0 ok0 M nt tm bx a w){js:List Nat}{K:Nat}(hn:js.Nodup)(Uk:∀j∈js,j < K)(hK:∀k,K≤k→bx k=none){M2:Mm}{w':World}{xs:List (Option Bx)}
  (g:U1 (uV M bx js) w.heap.size (mJ M js) w M2 w') (hS:aG (uV M bx js) w.heap.size M2 (lk xs) w') (hF:∀b,M2.F b→M.F b∨w.heap.size≤b∨uV M bx js b) {r:AV} {v:Value} (hr:RV M2 w' r v) (d:Option Nat) (hd:∀t,d=some t→t < nt) :
  ∃M3,Inv X n0 w0 ok0 M3 nt (U8 tm d (lD (rho js K) r)) (iZ bx js K xs) (a.put d v) w':=by
 have hir:=b0n hn Uk
 let M3:Mm:=⟨fun k=>match inv js K k with | some i=>M2.m i | none=>M.m k,M2.F,fun k=>match inv js K k with | some i=>M2.o i | none=>M.o k⟩
 have hm:∀i,M3.m (rho js K i)=M2.m i:=fun i=>by show (match inv js K (rho js K i) with | some i=>M2.m i | none=>_)=_;rw[hir]
 have ho:∀i,M3.o (rho js K i)=M2.o i:=fun i=>by show (match inv js K (rho js K i) with | some i=>M2.o i | none=>_)=_;rw[hir]
 have mn:∀k,inv js K k=none→M3.m k=M.m k∧M3.o k=M.o k:=fun k h=>⟨by show (match inv js K k with | some i=>M2.m i | none=>_)=_;rw[h],by show (match inv js K k with | some i=>M2.o i | none=>_)=_;rw[h]⟩
 have EH:∀q,uV M bx js q→(n0≤q∨X q)∧q < w.heap.size∧¬M.F q:=fun q ⟨j,_,x,hx,hq⟩=>hI.J4.dom j x q hx hq
 have hle:=hI.le;have bel:aN X n0 w w':=g.below.mono J fun k hk hx=>by
  rcases (EH k hx).1 with h | h
  ·omega
  ·exact h
 have cases':∀k i,inv js K k=some i→(i < js.length∧js[i]?=some k)∨(js.length≤i∧bx k=none):=fun k i h=>by
  have h1:=pI h;rcases Zai i js.length with h2 | h2
  ·refine .inl ⟨h2,?_⟩;unfold rho at h1;rw[Za2 h2]at h1 ⊢
   exact congrArg some h1
  ·refine .inr ⟨h2,hK k ?_⟩;unfold rho at h1;rw[Zaf h2]at h1;have h3:K+(i - js.length)=k:=h1;omega
 have G:U1 X n0 M w M3 w':=by
  refine⟨bel,g.keep,g.F,fun k q hq=>?_,fun k A n c hq=>?_⟩
  ·cases hi:inv js K k with
   |none=>rw[(mn k hi).1];exact hq
   |some i =>
    rcases cases' k i hi with⟨h1,h2⟩ | ⟨h1,h2⟩
    ·have:=g.m i q (by show (js[i]?).bind M.m=_;rw[h2];exact hq);rw[←pI hi,hm];exact this
    ·rw[hI.J4.zu h2]at hq;cases hq
  ·cases hi:inv js K k with
   |none=>rw[(mn k hi).2];exact⟨A,n,c,hq,NE _,fun _=>⟨rfl,rfl⟩⟩
   |some i =>
    rcases cases' k i hi with⟨h1,h2⟩ | ⟨h1,h2⟩
    ·have:=g.o i A n c (by show (js[i]?).bind M.o=_;rw[h2];exact hq);rw[←pI hi,ho];exact this
    ·rw[hI.J4.Dc h2]at hq;cases hq
 -- another box's blocks are not touched
 have far:∀k x q,inv js K k=none→bx k=some x→Hx M k x q→w'.heap[q]?=w.heap[q]?∧¬uV M bx js q:=fun k x q hi hx hq=>by
  have hno:¬uV M bx js q:=fun⟨j,hj,y,hy,hyq⟩=>by
   have:=hI.J4.inj k j x y q hx hy hq hyq;subst this;exact (a8j hi).1 hj
  exact⟨g.below.block q (hI.J4.dom k x q hx hq).2.1 hno,hno⟩
 have oP:∀k,inv js K k=none→iZ bx js K xs k=bx k:=fun k h=>by unfold iZ;rw[h]
 have SS:∀k i,inv js K k=some i→iZ bx js K xs k=(lk xs i).map (ql (rho js K)):=fun k i h=>by unfold iZ;rw[h]
 have EI:∀k i y,inv js K k=some i→iZ bx js K xs k=some y→∃x,lk xs i=some x∧y=ql (rho js K) x:=fun k i y h hy=>by
  rw[SS k i h]at hy;cases hx:lk xs i with
  |none=>rw[hx]at hy;cases hy
  |some x=>rw[hx]at hy;exact⟨x,rfl,(Option.some.inj hy).symm⟩
 have hx':∀k i x q,inv js K k=some i→(Hx M3 k (ql (rho js K) x) q↔Hx M2 i x q):=fun k i x q h=>by
  have e:=pI h;subst e;exact Hx.ren hm ho
 have J4:aG X n0 M3 (iZ bx js K xs) w':=by
  refine⟨?_,?_,?_,?_,?_,fun q hq=>hS.fz q hq⟩
  ·intro k y hy;cases hi:inv js K k with
   |none =>
    rw[oP k hi]at hy;exact (hI.J4.box k y hy).go G (mn k hi).2 fun q hq=>(far k y q hi hy hq).1
   |some i =>
    obtain⟨x,hx,rfl⟩:=EI k i y hi hy;have e:=pI hi;subst e;exact oz.ren (M:=M2) (M':=M3) rfl hm ho (hS.box i x hx)
  ·intro k y q hy hq;cases hi:inv js K k with
   |none =>
    rw[oP k hi]at hy;have hq':Hx M k y q:=(Hx.eq (mn k hi).1 (mn k hi).2).1 hq;obtain⟨h1,h2,h3⟩:=hI.J4.dom k y q hy hq';refine⟨h1,Zaa h2 g.below.size,fun hf=>?_⟩;rcases hF q hf with h4 | h4 | h4
    ·exact h3 h4
    ·omega
    ·exact (far k y q hi hy hq').2 h4
   |some i =>
    obtain⟨x,hx,rfl⟩:=EI k i y hi hy;obtain⟨h1,h2,h3⟩:=hS.dom i x q hx ((hx' k i x q hi).1 hq);refine⟨?_,h2,h3⟩;rcases h1 with h1 | h1
    ·exact .inl J
    ·exact (EH q h1).1
  ·intro k k' y y' q hy hy' hq hq';have cross:∀{k k' y y'},inv js K k=none→(∃i,inv js K k'=some i)→iZ bx js K xs k=some y→iZ bx js K xs k'=some y'→Hx M3 k y q→Hx M3 k' y' q→False:=by
    intro k k' y y' hi ⟨i',hi'⟩ hy hy' hq hq';rw[oP k hi]at hy;have h1:Hx M k y q:=(Hx.eq (mn k hi).1 (mn k hi).2).1 hq;obtain⟨x',hx2,rfl⟩:=EI k' i' y' hi' hy';rcases (hS.dom i' x' q hx2 ((hx' k' i' x' q hi').1 hq')).1 with h2 | h2
    ·have:=(hI.J4.dom k y q hy h1).2.1;omega
    ·exact (far k y q hi hy h1).2 h2
   cases hi:inv js K k with
   |none =>
    cases hi':inv js K k' with
    |none =>
     rw[oP k hi]at hy;rw[oP k' hi']at hy';exact hI.J4.inj k k' y y' q hy hy' ((Hx.eq (mn k hi).1 (mn k hi).2).1 hq) ((Hx.eq (mn k' hi').1 (mn k' hi').2).1 hq')
    |some i'=>exact (cross hi ⟨i',hi'⟩ hy hy' hq hq').elim
   |some i =>
    cases hi':inv js K k' with
    |none=>exact (cross hi' ⟨i,hi⟩ hy' hy hq' hq).elim
    |some i' =>
     obtain⟨x,hx,rfl⟩:=EI k i y hi hy;obtain⟨x',hx2,rfl⟩:=EI k' i' y' hi' hy';have:=hS.inj i i' x x' q hx hx2 ((hx' k i x q hi).1 hq) ((hx' k' i' x' q hi').1 hq');subst this;rw[←pI hi,←pI hi']
  ·intro k q hq;cases hi:inv js K k with
   |none =>
    rw[(mn k hi).1]at hq;rw[oP k hi];exact hI.J4.hm k q hq
   |some i =>
    have e:=pI hi;rw[←e,hm]at hq;obtain⟨x,h1,h2⟩:=hS.hm i q hq;exact⟨ql (rho js K) x,by rw[SS k i hi,h1];rfl,by rw[a8i];exact h2⟩
  ·intro k u hq;cases hi:inv js K k with
   |none =>
    rw[(mn k hi).2]at hq;rw[oP k hi];exact hI.J4.ho k u hq
   |some i =>
    have e:=pI hi;rw[←e,ho]at hq;have h1:=hS.ho i u hq;rw[SS k i hi];cases hx:lk xs i with
    |none=>rw[hx]at h1;cases h1
    |some x=>rfl
 refine⟨M3,hI.put G J4 (fun b hb=>?_) d hd (RV.ren (M:=M2) (M':=M3) rfl hm ho r v hr)⟩;rcases hF b hb with h | h | h
 ·exact .inl h
 ·exact .inr (.inl J)
 ·rcases (EH b h).1 with h | h
  ·exact .inr (.inl h)
  ·exact .inr (.inr h)
theorem Inv.a1w(hI:Inv X n0 w0 ok0 M nt tm bx a w){js:List Nat}{kn:Bool}{cs cs':List AV}{ps:List Prop}(hc:bM js kn bx cs=some (cs',ps))(hp:I5 ps){vs:List Value}(hr:RL M w cs vs) :
  ∃M1,Inv X n0 w0 ok0 M1 nt tm (updB bx (Q9 bx (O4 js bx cs))) a w∧RL (mJ M1 js) w cs' vs∧M1.m=M.m∧M1.o=M.o:=by
 have hst:=Qe hc hp (S:=(·∈O4 js bx cs)) fun b hb=>hb
 refine⟨_,hI.freeze _ hst,?_,rfl,rfl⟩;refine nM hI.J4 (F1:=iJ M bx (O4 js bx cs)) (fun q h _=>.inl h) (wO hI.J4 (fun q h _=>.inl h) 1) cs js kn cs' ps vs (mJ ⟨M.m,iJ M bx (O4 js bx cs),M.o⟩ js) rfl (fun b i h=>?_) hc hp (fun b hb=>Jq hst b hb) hr;have h2:=(um h).2;rw[Nat.sub_zero]at h2;exact⟨by show (js[i]?).bind M.m=_;rw[h2];rfl,by show (js[i]?).bind M.o=_;rw[h2];rfl⟩
def uM(js:List Nat)(bx:Nat→Option Bx):Bx→Option (Bx×List Prop)
 |.cells cs=>match O4 js bx cs,bM js true bx cs with
  |[],some (cs',ps)=>some (.cells cs',ps)
  |_,_=>none
 |.buf e k es=>some (.buf e k es,[])
 |.aA D8=>some (.aA D8,[])
 |_=>none
def kX(qI:List Nat)(bx:Nat→Option Bx):List Nat→Option (List (Option Bx)×List Prop)
 |[]=>some ([],[])
 |j::js=>match bx j with
  |some x=>match uM qI bx x,kX qI bx js with
   |some (x',ps),some (xs,qs)=>some (some x'::xs,ps++qs)
   |_,_=>none
  |none=>none
theorem VO{qI:List Nat}:∀{js:List Nat} {xs:List (Option Bx)} {ps:List Prop},kX qI bx js=some (xs,ps)→I5 ps→xs.length=js.length∧∀i j,js[i]?=some j→∃x x' qs,bx j=some x∧uM qI bx x=some (x',qs)∧I5 qs∧lk xs i=some x'
 |[],_,_,h,_=>by cases h;exact⟨rfl,fun i j h=>by simp at h⟩
 |j::js,xs,ps,h,hp=>by
  unfold kX at h;split at h
  ·rename_i x hx;split at h
   ·rename_i x' ps1 Bo qs1 e1 e2;cases h;obtain⟨hp1,hp2⟩:=jl hp;obtain⟨h1,h2⟩:=VO e2 hp2;refine⟨by simp[h1],fun i j' hi=>?_⟩;cases i with
    |zero=>cases hi;exact⟨x,x',ps1,hx,e1,hp1,rfl⟩
    |succ i =>
     obtain⟨y,y',qs,h3,h4,h5,h6⟩:=h2 i j' (by simpa using hi);exact⟨y,y',qs,h3,h4,h5,by simpa[lk] using h6⟩
   ·cases h
  ·cases h
theorem YJ(hI:Inv X n0 w0 ok0 M nt tm bx a w){js:List Nat}(hn:js.Nodup){xs:List (Option Bx)}{ps:List Prop}(h:kX js bx js=some (xs,ps))(hp:I5 ps){Y:Nat→Prop}{m0:Nat}(hY:∀j∈js,∀x q,bx j=some x→Hx M j x q→m0≤q∨Y q):aG Y m0 (mJ M js) (lk xs) w:=by
 obtain⟨hlen,hget⟩:=VO h hp;have KW:∀i x',lk xs i=some x'→∃j x qs,js[i]?=some j∧bx j=some x∧uM js bx x=some (x',qs)∧I5 qs:=by
  intro i x' hx;rcases Zai i js.length with hi | hi
  ·obtain⟨x,x2,qs,h1,h2,h3,h4⟩:=hget i js[i] (Za2 hi);rw[hx]at h4;cases h4;exact⟨js[i],x,qs,Za2 hi,h1,h2,h3⟩
  ·unfold lk at hx;rw[Zaf J]at hx;cases hx
 have sm:∀i j,js[i]?=some j→(mJ M js).m i=M.m j∧(mJ M js).o i=M.o j:=fun i j h=>⟨by show (js[i]?).bind M.m=_;rw[h];rfl,by show (js[i]?).bind M.o=_;rw[h];rfl⟩
 have hx':∀i j x x' qs q,js[i]?=some j→uM js bx x=some (x',qs)→(Hx (mJ M js) i x' q↔Hx M j x q)∧x'.vw=x.vw:=by
  intro i j x x' qs q hj hg;obtain⟨e1,e2⟩:=sm i j hj;cases x with
  |cells cs =>
   simp only[uM]at hg;split at hg
   ·cases hg;exact⟨by simp[Hx,e1],rfl⟩
   ·cases hg
  |buf e k es=>cases hg;exact⟨by simp[Hx,e2],rfl⟩
  |aA D8=>cases hg;exact⟨by simp[Hx,e1],rfl⟩
  |_=>cases hg
 have b7E:∀i i' j,js[i]?=some j→js[i']?=some j→i=i':=fun i i' j h h'=>by
  obtain⟨h1,h2⟩:=Pi.1 h;obtain⟨h3,h4⟩:=Pi.1 h';exact (List.getElem_inj hn).1 (h2.trans h4.symm)
 refine⟨?_,?_,?_,?_,?_,fun q hq=>hI.J4.fz q hq⟩
 ·intro i x' hx;obtain⟨j,x,qs,hj,hb,hg,hq⟩:=KW i x' hx;obtain⟨e1,e2⟩:=sm i j hj;have hbox:=hI.J4.box j x hb;cases x with
  |cells cs =>
   simp only[uM]at hg;split at hg
   ·rename_i cs' ps' ho hc;cases hg;obtain⟨g,T,vs,h1,h2,h3⟩:=hbox;refine⟨g,T,vs,e1.trans h1,h2,?_⟩;refine nM hI.J4 (F1:=M.F) (fun q h _=>h) (wO hI.J4 (fun q h _=>h) 1) cs js true cs' _ vs (mJ M js) rfl (fun b i h=>?_) hc hq (fun b hb=>?_) h3
    ·have h2:=(um h).2;rw[Nat.sub_zero]at h2;exact sm i b h2
    ·have hb':b∈O4 js bx cs:=hb;rw[ho]at hb';cases hb'
   ·cases hg
  |buf e k es =>
   cases hg;obtain⟨A,n,c,h1,h2⟩:=hbox;exact⟨A,n,c,e2.trans h1,h2⟩
  |aA D8 =>
   cases hg;obtain⟨g,es,clk,h1,h2,h3⟩:=hbox;exact⟨g,es,clk,e1.trans h1,h2,h3⟩
  |_=>cases hg
 ·intro i x' q hx hq;obtain⟨j,x,qs,hj,hb,hg,_⟩:=KW i x' hx;have h1:=((hx' i j x x' qs q hj hg).1).1 hq;obtain⟨_,h2,h3⟩:=hI.J4.dom j x q hb h1;exact⟨hY j (Za5 hj) x q hb h1,h2,h3⟩
 ·intro i i' x y q hx hy hq hq';obtain⟨j,x1,qs,hj,hb,hg,_⟩:=KW i x hx;obtain⟨j',y1,qs',hj',hb',hg',_⟩:=KW i' y hy;have:=hI.J4.inj j j' x1 y1 q hb hb' (((hx' i j x1 x qs q hj hg).1).1 hq) (((hx' i' j' y1 y qs' q hj' hg').1).1 hq');subst this;exact b7E i i' j hj hj'
 ·intro i q hq;have hq2:(js[i]?).bind M.m=some q:=hq;cases hj:js[i]? with
  |none=>rw[hj]at hq2;cases hq2
  |some j =>
   rw[hj]at hq2;obtain⟨x,x',qs,h1,h2,_,h4⟩:=hget i j hj;obtain⟨x2,h5,h6⟩:=hI.J4.hm j q hq2;rw[h1]at h5;cases h5;exact⟨x',h4,((hx' i j x x' qs q hj h2).2).trans h6⟩
 ·intro i u hu;have hu2:(js[i]?).bind M.o=some u:=hu;cases hj:js[i]? with
  |none=>rw[hj]at hu2;cases hu2
  |some j =>
   obtain⟨x,x',qs,_,_,_,h4⟩:=hget i j hj;rw[h4];rfl
theorem b0o(hI:Inv X n0 w0 ok0 M nt tm bx a w){js:List Nat}(hn:js.Nodup){xs:List (Option Bx)}{ps:List Prop}(h:kX js bx js=some (xs,ps))(hp:I5 ps):aG (uV M bx js) w.heap.size (mJ M js) (lk xs) w :=
 YJ hI hn h hp fun j hj x _ hb hq=>.inr ⟨j,hj,x,hb,hq⟩
theorem Xv{o:Oper}{Q:Exit→Act→World→Prop}{x:Operand}{args:Array Operand}{ts:Array TypeId}(ho:o.op=.call ⟨.value x,args,ts⟩)(hI:Inv X n0 w0 ok0 M nt tm bx a w)(hd:∀t,o.dst=some t→t < nt)(hG:∀w',aN X n0 w0.1 w'→E.G w'){f:FuncId}(hx:J6 tm x=.ak f [])
  {js:List Nat} {K:Nat} (hn:js.Nodup) (Uk:∀j∈js,j < K) (hK:∀k,K≤k→updB bx (Q9 bx (O4 js bx (args.toList.map (J6 tm)))) k=none) {args':List AV} {ps qs:List Prop} {xs xs':List (Option Bx)} {r:AV}
  (hc:bM js false bx (args.toList.map (J6 tm))=some (args',ps)) (hp:I5 ps) (hb:kX js (updB bx (Q9 bx (O4 js bx (args.toList.map (J6 tm))))) js=some (xs,qs)) (hq:I5 qs) (hs:bP E.P E.G f args' xs r xs') :
  o.wp E.P a w (Left X n0 w0 ok0 nt (U8 tm o.dst (lD (rho js K) r)) (iZ (updB bx (Q9 bx (O4 js bx (args.toList.map (J6 tm))))) js K xs')) Q:=by
 have hv:=hI.ev x;rw[hx]at hv;obtain⟨us,hv,hus⟩:=hv;obtain rfl:us=[]:=hus;obtain⟨M1,hI1,h1,_,_⟩:=hI.a1w hc hp (RL.map hI.ev args.toList);have exec:(execOp a.eval o).run E.P w=.ok (.enter f (args.toList.map a.eval).toArray) w:=by
  obtain⟨dd,op,ty,pos,af,gd⟩:=o;simp only at ho;subst ho;have e:args.map a.eval=(args.toList.map a.eval).toArray:=by
   apply Array.ext';simp
  simp only[execOp,resolve,invoke,hv,Deferred.ofValue,Za8,Zab,Result.andThen,Array.empty_append];rw[show args.map a.eval++([]:List Value).toArray=(args.toList.map a.eval).toArray by rw[e];simp]
  exact Oo hs.1
 unfold Oper.wp;rw[exec,Oper.upon_enter];have EH:∀q,uV M1 (updB bx (Q9 bx (O4 js bx (args.toList.map (J6 tm))))) js q→(n0≤q∨X q):=fun q ⟨j,_,y,hy,hyq⟩=>(hI1.J4.dom j y q hy hyq).1
 have hle:=hI1.le;refine (hs.2 _ (mJ M1 js) w _ (fun w' hb'=>hG w' (hI1.below.trans (hb'.mono hle fun k hk hx=>?_))) (b0o hI1 hn hb hq) h1).mono ?_
 ·rcases EH k hx with h | h
  ·omega
  ·exact h
 ·rintro e w' ⟨v,M2,rfl,hg,hst,hF,mY⟩;exact hI1.b43 hn Uk hK hg hst hF mY o.dst hd
end
inductive AE where
 |I4
 |out (id:Nat)
 |ret
structure HG (E:En) (X:Nat→Prop) (n0:Nat) (w0:World×Mm):Prop where
 g:∀w,aN X n0 w0.1 w→E.G w
 h:∀k,E.nh≤k→w0.2.m k=none∧w0.2.o k=none
inductive LA where
 |inv (ft:List Nat) (nb:Nat) (e:AE) (s:AS)
 |run (n:Nat)
 |P5 (id i:Nat) (js:List Nat) (r:AV) (xs:List (Option Bx))
def b2U(id:Nat):List LA→Bool
 |.P5 id' _ _ _ _::_=>Nat.beq id id'
 |_=>false
def b7F(id i:Nat):List LA→Option (List Nat×AV×List (Option Bx)×List LA)
 |.P5 id' i' js r xs::ls=>match Nat.beq id id' && Nat.beq i i' with
  |true=>some (js,r,xs,ls)
  |false=>none
 |_=>none
def DD(bx:List (Option Bx))(f:Nat→Option Bx)(js:List Nat)(xs:List (Option Bx)):List (Option Bx):=(List.range (bx.length+(xs.length - js.length))).map fun k=>iZ f js bx.length xs k
mutual
def Rx:AV→Bool
 |.dt _=>true
 |.nil=>true
 |.agg cs=>Ed cs
 |.o7 cs=>Ed cs
 |_=>false
def Ed:List AV→Bool
 |[]=>true
 |c::cs=>Rx c && Ed cs
end
mutual
theorem NI{ρ:Nat→Nat}:∀(a:AV),Rx a=true→lD ρ a=a
 |.dt _,_=>rfl
 |.nil,_=>rfl
 |.agg cs,h=>by rw[lD,NJ cs h]
 |.o7 cs,h=>by rw[lD,NJ cs h]
 |.aW _,h=>by cases h
 |.own _ _,h=>by cases h
 |.sl _ _,h=>by cases h
 |.V4 _,h=>by cases h
 |.ptr _ _,h=>by cases h
 |.eX _ _ _,h=>by cases h
 |.gl _ _,h=>by cases h
 |.pin _,h=>by cases h
 |.clo _ _,h=>by cases h
 |.ak _ _,h=>by cases h
 |.un,h=>by cases h
theorem NJ{ρ:Nat→Nat}:∀(cs:List AV),Ed cs=true→uU ρ cs=cs
 |[],_=>rfl
 |c::cs,h=>by
  rw[Ed,AC]at h;rw[uU,NI c h.1,NJ cs h.2]
end
def Qj:List (Option Bx)→Bool
 |[]=>true
 |some (.buf _ _ _)::xs=>Qj xs
 |_::_=>false
theorem VP:∀{xs:List (Option Bx)},Qj xs=true→∀i ρ,(lk xs i).map (ql ρ)=lk xs i
 |[],_,i,ρ=>by simp[lk]
 |some (.buf e k es)::xs,h,0,ρ=>rfl
 |some (.buf e k es)::xs,h,i+1,ρ=>by
  have:=VP (xs:=xs) h i ρ;simpa[lk] using this
def Ry(js:List Nat)(r:AV)(xs':List (Option Bx)):Bool:=Nat.beq xs'.length js.length && (Rx r && Qj xs')
def Fj(ops:Array Oper)(o:Oper)(s:AS)(js os:List Nat)(r:AV)(xs':List (Option Bx)):Fp:=match Ry js r xs' with
 |true=>⟨o.looksAt ops,o.dst,js++os,true,false⟩
 |false=>⟨o.looksAt ops,o.dst,List.range (s.bx.length+(xs'.length - js.length)),true,true⟩
theorem VQ{qI:List Nat}{bx bx':Nat→Option Bx}:∀{js:List Nat} {r:List (Option Bx)×List Prop},(∀j∈js,bx j=bx' j)→kX qI bx js=some r→kX qI bx' js=some r
 |[],_,_,h=>h
 |j::js,r,hj,h=>by
  unfold kX at h ⊢;rw[←hj j (PP ..)];split at h
  ·rename_i x hx;split at h
   ·rename_i x' ps xs qs e1 e2;have e3:=VQ (fun q hq=>hj q (lm _ hq)) e2;have e4:uM qI bx' x=some (x',ps):=by
     cases x with
     |cells cs =>
      simp only[uM]at e1 ⊢
      split at e1
      ·rename_i ho hc;have hl:=gZ (js:=qI) (kn:=true) (bx:=bx) (bx':=bx') (cs:=cs) (fun b hb=>by rw[ho]at hb;cases hb);rw[←hl.1,←hl.2,ho,hc];exact e1
      ·cases e1
     |_=>exact e1
    simp only[e4,e3];exact h
   ·cases h
  ·cases h
def Rz(E:En)(ops:Array Oper)(o:Oper)(s:AS)(js:List Nat)(r:AV)(xs':List (Option Bx)):Option (AS×Fp×List Prop) :=
 match (match o.dst with | some d=>Nat.ble (d+1) s.tm.length | none=>true) && nodupB js && js.all (fun j=>Nat.ble (j+1) s.bx.length) with
 |false=>none
 |true=>match mr ops s.J8 o,o.op with
  |some true,.call ⟨.value x,args,_⟩=>match J6 s.J8 x with
   |.ak f []=>match bM js false s.G5 (args.toList.map (J6 s.J8)) with
    |some (args',ps)=>match kX js (updB s.G5 (Q9 s.G5 (O4 js s.G5 (args.toList.map (J6 s.J8))))) js with
     |some (xs,qs)=>some (⟨xA s.tm o.dst (lD (rho js s.bx.length) r),DD s.bx (updB s.G5 (Q9 s.G5 (O4 js s.G5 (args.toList.map (J6 s.J8))))) js xs'⟩,Fj ops o s js (O4 js s.G5 (args.toList.map (J6 s.J8))) r xs',bP E.P E.G f args' xs r xs'::(ps++qs))
     |none=>none
    |none=>none
   |_=>none
  |_,_=>none
theorem NK:∀{js:List Nat},nodupB js=true→js.Nodup
 |[],_=>.nil
 |j::js,h=>by
  unfold nodupB at h;rw[AC]at h;refine .cons (fun x hx e=>?_) (NK h.2);subst e;have:=h.1;simp[hx]at this
theorem a0a{xs:List (Option Bx)}{i:Nat}(h:xs.length≤i):lk xs i=none:=by unfold lk;rw[Zaf h]
theorem b0p{tm:List AV}{bx:List (Option Bx)}{f:Nat→Option Bx}{js:List Nat}{xs:List (Option Bx)}(hf:∀k,bx.length≤k→f k=none)(hj:∀j∈js,j < bx.length):(AS.mk tm (DD bx f js xs)).G5=iZ f js bx.length xs:=by
 funext k;unfold AS.G5 DD;simp only[Zag];rcases Zai k (bx.length+(xs.length - js.length)) with h | h
 ·rw[List.getElem?_range h];rfl
 ·rw[Zaf (by rw[List.length_range];exact h)];show none=_;unfold iZ;split
  ·rename_i i hi;have e:=pI hi;unfold rho at e;split at e
   ·rename_i j hj';have:=hj j (Za5 hj');omega
   ·rename_i hno;have:=List.getElem?_eq_none_iff.1 hno;rw[a0a J];rfl
  ·exact (hf k J).symm
theorem Ov{f:Nat→Option Bx}{bs:List Nat}{k:Nat}(h:f k=none):updB f (Q9 f bs) k=none:=by
 rw[uy]
 ·exact h
 ·intro x hx;have:=(kR hx).2
  simp_all
def AL(E:En)(ops:Array Oper)(id:Nat):List Oper→Nat→AS→List An→List LA→Option (AS×List Fp×List Prop×List An×List LA)
 |[],_,s,an,ls=>some (s,[],[],an,ls)
 |o::os,i,s,an,ls=>match b7F id i ls with
  |some (js,r,xs',jO)=>match Rz E ops o s js r xs' with
   |none=>none
   |some (s1,f,ps)=>match AL E ops id os (i+1) s1 an jO with
    |none=>none
    |some (s2,fs,qs,aX,sH)=>some (s2,f::fs,ps++qs,aX,sH)
  |none=>match Jv E ops o s an with
   |none=>none
   |some (s1,f,ps,fP)=>match AL E ops id os (i+1) s1 fP ls with
    |none=>none
    |some (s2,fs,qs,aX,sH)=>some (s2,f::fs,ps++qs,aX,sH)
def OO(E:En)(ops:Array Oper)(id:Nat)(draw:Bool)(s:AS)(an:List An)(ls:List LA):Option (AS×List Prop×List An×List LA) :=
 match AL E ops id ops.toList 0 s an ls with
 |none=>none
 |some (s',fs,ps,O7,ls')=>match !draw || (zB ops && xB [] fs (EG ops.toList [])) with
  |true=>some (s',ps,O7,ls')
  |false=>none
theorem a7b{E:En}{ops:Array Oper}{o:Oper}{s s':AS}{js:List Nat}{r:AV}{xs':List (Option Bx)}{f:Fp}{ps:List Prop}(h:Rz E ops o s js r xs'=some (s',f,ps))(hp:I5 ps) :
  Stp E ops s.tm.length o s.J8 s.G5 s'.J8 s'.G5 f∧s'.tm.length=s.tm.length:=by
 unfold Rz at h;split at h
 ·cases h
 rename_i hd;simp only[AC,Zav]at hd;obtain⟨⟨hd,hn⟩,hj⟩:=hd;have hd':∀t,o.dst=some t→t < s.tm.length:=fun t ht=>by
  rw[ht]at hd;have hd2:Nat.ble (t+1) s.tm.length=true:=hd;exact ZaD hd2
 have hj:∀j∈js,j < s.bx.length:=fun j h=>by have:=ZaD (hj j h);omega
 have hn:=NK hn;split at h
 ·rename_i x args ts hw hop;split at h
  ·rename_i f hx;split at h
   ·rename_i args' ps1 hc;split at h
    ·rename_i xs qs hb;cases h;obtain⟨hs,hp⟩:=hp;obtain⟨hp1,hp2⟩:=jl hp;have hout:∀k,s.bx.length≤k→s.G5 k=none:=fun k hk=>by unfold AS.G5;rw[Zaf hk]
     have Ul:=b0p (tm:=xA s.tm o.dst (lD (rho js s.bx.length) r)) (bx:=s.bx) (f:=updB s.G5 (Q9 s.G5 (O4 js s.G5 (args.toList.map (J6 s.J8))))) (js:=js) (xs:=xs') (fun k hk=>Ov (hout k hk)) hj;cases EJ:Ry js r xs' with
     |true =>
      have hfp:Fj ops o s js (O4 js s.G5 (args.toList.map (J6 s.J8))) r xs'=⟨o.looksAt ops,o.dst,js++O4 js s.G5 (args.toList.map (J6 s.J8)),true,false⟩:=by unfold Fj;rw[EJ]
      rw[hfp];unfold Ry at EJ;simp only[AC]at EJ;obtain⟨hlen,hfl,hab⟩:=EJ;have hlen:=Zau hlen;have hkeys:∀b,b ∉ O4 js s.G5 (args.toList.map (J6 s.J8))→∀f:Nat→Option Bx,updB f (Q9 s.G5 (O4 js s.G5 (args.toList.map (J6 s.J8)))) b=f b:=fun b hb f=>uy fun x hx=>hb (kR hx).1
      have oP:∀(g:Nat→Option Bx) (K:Nat),(∀j∈js,j < K)→∀b,iZ g js K xs' b=match bf b js 0 with | some i=>lk xs' i | none=>if K≤b then none else g b:=fun g K hK b=>by
       unfold iZ inv;cases hi:bf b js 0 with
       |some i=>exact VP hab i _
       |none =>
        simp only;by_cases c:K≤b
        ·rw[Za0 c,Za0 c];simp only[a0a (xs:=xs') (i:=js.length+(b - K)) J,Option.map_none]
        ·rw[lw c,lw c]
      refine⟨⟨fun t ht=>ht,rfl,hd',.inr (.inr (.inr ⟨r,?_,fun b hb=>?_,?_⟩))⟩,Hy _ _ _⟩
      ·rw[DC hd',NI _ hfl]
      ·have hb':b ∉ js++O4 js s.G5 (args.toList.map (J6 s.J8)):=fun h=>hb ⟨h,rfl⟩
       rw[ZaA]at hb';rw[Ul,oP _ _ hj];cases hi:bf b js 0 with
       |some i =>
        have h2:=(um hi).2;exact absurd (.inl (Za5 h2)) hb'
       |none =>
        simp only;by_cases c:s.bx.length≤b
        ·rw[Za0 c,hout b c]
        ·rw[lw c,hkeys b fun h=>hb' (.inr h)]
      ·intro jM gV hrt hbt ⟨Kf,hKf⟩ X n0 w0 ok0 Q i a w K ho hG hL hK;obtain⟨M,hI⟩:=hL;have hlook:∀t∈o.looksAt ops,jM t=s.J8 t:=hrt;have hev:∀x∈o.op.operands.toList,J6 jM x=J6 s.J8 x:=by
        intro x hx;cases x with
        |tmp t =>
         refine hlook t ?_;unfold Oper.looksAt;exact ZaB _ (List.mem_filterMap.2 ⟨.tmp t,hx,rfl⟩)
        |_=>rfl
       have hwant:mr ops jM o=mr ops s.J8 o:=by
        unfold mr;cases hg:o.guard with
        |none=>rfl
        |some x =>
         obtain⟨g,b⟩:=x;simp only;cases hdd:(ops[g]?).bind (·.dst) with
         |none=>rfl
         |some d =>
          simp only;have:jM d=s.J8 d:=hlook d (by
           unfold Oper.looksAt;refine ZaS _ ?_;rw[hg];simp[hdd])
          rw[this]
       have hxe:J6 jM x=.ak f []:=(hev x (by rw[hop];simp[Op.operands,Call.operands])).trans hx;have hae:args.toList.map (J6 jM)=args.toList.map (J6 s.J8):=List.map_congr_left fun y hy=>hev y (by rw[hop];simp[Op.operands,Call.operands];right;simpa using hy)
       have hob:∀b∈O4 js s.G5 (args.toList.map (J6 s.J8)),s.G5 b=gV b:=fun b hb=>(hbt b (ZaS _ hb)).symm
       have hjb:∀b∈js,s.G5 b=gV b:=fun b hb=>(hbt b (ZaB _ hb)).symm
       have hlc:=gZ (kn:=false) hob;have hlf:=uz (kn:=false) hob hc;have hcX:bM js false gV (args.toList.map (J6 jM))=some (args',ps1):=by rw[hae,←hlc.1];exact hc
       have hfX:Q9 gV (O4 js gV (args.toList.map (J6 jM)))=Q9 s.G5 (O4 js s.G5 (args.toList.map (J6 s.J8))):=by rw[hae,←hlc.2,hlf]
       have hbX:kX js (updB gV (Q9 gV (O4 js gV (args.toList.map (J6 jM))))) js=some (xs,qs):=by
        rw[hfX];exact VQ (fun j hj=>BU (hjb j hj)) hb
       have hnone:∀k,s.bx.length≤k→∀y,(k,y) ∉ Q9 s.G5 (O4 js s.G5 (args.toList.map (J6 s.J8))):=fun k hk y hy=>by
        obtain⟨_,x0,h1,_⟩:=kR hy;rw[hout k hk]at h1;cases h1
       unfold wpOp;simp only[ho];rw[Hw hI (hwant.trans hw)];simp only[ZaP];left;refine Oper.wp_mono (fun a w hL'=>hK a w ?_) (Xv (K:=s.bx.length+Kf) hop hI hd' hG hxe hn (fun j h=>by have:=hj j h;omega) (fun k hk=>by rw[hfX,uy fun y hy=>hnone k J y hy];exact hKf k J) hcX hp1 hbX hp2 hs)
       ·have e1:lD (rho js (s.bx.length+Kf)) r=r:=NI _ hfl;rw[e1,hfX]at hL';have e2:(fun b=>if b∈js++O4 js s.G5 (args.toList.map (J6 s.J8))∧true=true then (AS.mk (xA s.tm o.dst (lD (rho js s.bx.length) r)) (DD s.bx (updB s.G5 (Q9 s.G5 (O4 js s.G5 (args.toList.map (J6 s.J8))))) js xs')).G5 b else gV b)=iZ (updB gV (Q9 s.G5 (O4 js s.G5 (args.toList.map (J6 s.J8))))) js (s.bx.length+Kf) xs':=funext fun b=>by
         rw[Ul,oP _ _ hj,oP _ _ (fun j h=>by have:=hj j h;omega)]
         cases hi:bf b js 0 with
         |some i =>
          have h2:=(um hi).2;rw[Za0 ⟨ZaB _ (Za5 h2),rfl⟩]
         |none =>
          simp only;by_cases c:b∈js++O4 js s.G5 (args.toList.map (J6 s.J8))
          ·rw[Za0 ⟨c,Z⟩];have ceq:=hbt b c;by_cases c2:s.bx.length≤b
           ·rw[Za0 c2];split
            ·rfl
            ·rw[BU ceq,Ov (hout b c2)]
           ·rw[lw c2,lw J,BU ceq]
          ·rw[lw fun h=>c h.1];by_cases c2:s.bx.length+Kf≤b
           ·rw[Za0 c2];exact hKf b J
           ·rw[lw c2,hkeys b fun h=>c (ZaS _ h)]
        rw[e2];exact hL'
     |false =>
     have hfp:Fj ops o s js (O4 js s.G5 (args.toList.map (J6 s.J8))) r xs'=⟨o.looksAt ops,o.dst,List.range (s.bx.length+(xs'.length - js.length)),true,true⟩:=by unfold Fj;rw[EJ]
     rw[hfp];refine⟨⟨fun t ht=>ht,rfl,hd',.inr (.inr (.inl ⟨rfl,fun t ht=>?_,fun b hb=>?_,?_⟩))⟩,Hy _ _ _⟩
     ·rw[DC hd'];exact Ii ht
     ·have hb':s.bx.length+(xs'.length - js.length)≤b:=by
       rcases Zai b (s.bx.length+(xs'.length - js.length)) with h | h
       ·exact absurd ⟨List.mem_range.2 h,rfl⟩ hb
       ·exact h
      rw[hout b J];unfold AS.G5 DD;simp only[Zag];rw[Zaf (by rw[List.length_range];exact hb')];rfl
     ·intro X n0 w0 ok0 Q i a w K ho hG hL hK;obtain⟨M,hI⟩:=hL;unfold wpOp;simp only[ho];rw[Hw hI hw];simp only[ZaP];left;refine Oper.wp_mono (fun a w hL'=>hK a w ?_) (Xv hop hI hd' hG hx hn hj (fun k hk=>Ov (hout k hk)) hc hp1 hb hp2 hs);rw[Ul,DC hd'];exact hL'
    ·cases h
   ·cases h
  ·cases h
 ·cases h
theorem Xw{E:En}{ops:Array Oper}{id:Nat}:∀{os:List Oper} {i:Nat} {s s':AS} {an O7:List An} {ls ls':List LA} {fs:List Fp} {ps:List Prop},AL E ops id os i s an ls=some (s',fs,ps,O7,ls')→I5 ps →
  s'.tm.length=s.tm.length∧fs.length=os.length∧∃(U9:Nat→Nat→AV) (P8:Nat→Nat→Option Bx),U9 0=s.J8∧P8 0=s.G5∧U9 os.length=s'.J8∧P8 os.length=s'.G5∧(∃K,∀i,i≤os.length→∀k,K≤k→P8 i k=none) ∧
   ∀i o f,os[i]?=some o→fs[i]?=some f→Stp E ops s.tm.length o (U9 i) (P8 i) (U9 (i+1)) (P8 (i+1)) f
 |[],_,s,s',an,O7,ls,ls',fs,ps,h,_=>by
  cases h;exact⟨rfl,rfl,fun _=>s.J8,fun _=>s.G5,rfl,rfl,rfl,rfl,⟨s.bx.length,fun _ _ k hk=>OM s hk⟩,fun i o f hi=>by simp at hi⟩
 |o::os,i,s,s',an,O7,ls,ls',fs,ps,h,hp=>by
  have step:∀{s1:AS} {f:Fp} {lK:List Fp} {qs:List Prop} {fP:List An} {jO:List LA},Stp E ops s.tm.length o s.J8 s.G5 s1.J8 s1.G5 f→s1.tm.length=s.tm.length→AL E ops id os (i+1) s1 fP jO=some (s',lK,qs,O7,ls')→I5 qs →
    s'.tm.length=s.tm.length∧(f::lK).length=(o::os).length∧∃(U9:Nat→Nat→AV) (P8:Nat→Nat→Option Bx),U9 0=s.J8∧P8 0=s.G5∧U9 (o::os).length=s'.J8∧P8 (o::os).length=s'.G5∧(∃K,∀i,i≤(o::os).length→∀k,K≤k→P8 i k=none) ∧
     ∀i o' f',(o::os)[i]?=some o'→(f::lK)[i]?=some f'→Stp E ops s.tm.length o' (U9 i) (P8 i) (U9 (i+1)) (P8 (i+1)) f':=by
   intro s1 f lK qs fP jO hs hl h2 hp2;obtain⟨hl2,hf2,U9,P8,e1,e2,e3,e4,⟨Kf,hKf⟩,hst⟩:=Xw h2 hp2;refine⟨hl2.trans hl,by simp[hf2],fun i=>match i with | 0=>s.J8 | i+1=>U9 i,fun i=>match i with | 0=>s.G5 | i+1=>P8 i,rfl,rfl,e3,e4,Xu hKf,?_⟩;intro i o' f' hi hf;cases i with
   |zero =>
    cases hi;cases hf;simp only[e1,e2];exact hs
   |succ i =>
    rw[hl]at hst;exact hst i o' f' (by simpa using hi) (by simpa using hf)
  unfold AL at h;split at h
  ·split at h
   ·cases h
   ·rename_i s1 f ps1 h1;split at h
    ·cases h
    ·rename_i h2;cases h;obtain⟨hp1,hp2⟩:=jl hp;obtain⟨hs,hl⟩:=a7b h1 hp1;exact step hs hl h2 hp2
  ·split at h
   ·cases h
   ·rename_i s1 f ps1 fP h1;split at h
    ·cases h
    ·rename_i h2;cases h;obtain⟨hp1,hp2⟩:=jl hp;obtain⟨hs,hl⟩:=WM h1 hp1;exact step hs hl h2 hp2
theorem a6r{E:En}{ops:Array Oper}{draw:Bool}{id:Nat}{s s':AS}{an O7:List An}{ls ls':List LA}{ps:List Prop}(h:OO E ops id draw s an ls=some (s',ps,O7,ls'))(hp:I5 ps) :
  s'.tm.length=s.tm.length∧∀{X:Nat→Prop} {n0:Nat} {w0:World×Mm} {ok0:Nat→Prop},HG E X n0 w0→∀{Q:Exit→Act→World→Prop} {a:Act} {w:World},Left X n0 w0 ok0 s.tm.length s.J8 s.G5 a w→(∀a w,Left X n0 w0 ok0 s.tm.length s'.J8 s'.G5 a w→Q .normal a w)→(Code.region id ops draw).wp E.P Q a w:=by
 unfold OO at h;split at h
 ·cases h
 rename_i s1 fs ps1 fP jO hrun;split at h
 case h_2=>cases h
 rename_i jF;cases h;obtain⟨hl,hfl,U9,P8,e1,e2,e3,e4,hfin,hst⟩:=Xw hrun hp;exact⟨hl,fun hG _ _ _ h0 hQ=>WO hfl jF hst hfin hG.g (by rw[e1,e2];exact h0) (by rw[e3,e4];exact hQ)⟩
def AE.ex:AE→Exit
 |.I4=>.normal
 |.out id=>.exit id
 |.ret=>.ret
def D7(E:En)(c:Code)(s:AS)(e:AE)(s':AS):Prop :=
 s'.tm.length=s.tm.length∧∀(X:Nat→Prop) (n0:Nat) (w0:World×Mm) (ok0:Nat→Prop) (a:Act) (w:World),HG E X n0 w0→Left X n0 w0 ok0 s.tm.length s.J8 s.G5 a w →
  c.wp E.P (fun x a' w'=>x=e.ex∧Left X n0 w0 ok0 s.tm.length s'.J8 s'.G5 a' w') a w
mutual
def AV.dK(n:Nat):AV→Bool
 |.ptr b _=>Nat.ble (b+1) n
 |.own b _=>Nat.ble (b+1) n
 |.sl b _=>Nat.ble (b+1) n
 |.V4 b=>Nat.ble (b+1) n
 |.eX b _ _=>Nat.ble (b+1) n
 |.agg cs=>AV.qo n cs
 |.o7 cs=>AV.qo n cs
 |.clo _ cs=>AV.qo n cs
 |_=>true
def AV.qo(n:Nat):List AV→Bool
 |[]=>true
 |c::cs=>AV.dK n c && AV.qo n cs
end
def Mm.cut(M:Mm)(n:Nat):Mm:=⟨fun b=>if b < n then M.m b else none,M.F,fun b=>if b < n then M.o b else none⟩
theorem Mm.lu{M:Mm}{n b:Nat}(h:b < n):(M.cut n).m b=M.m b:=Za0 h
theorem Mm.Ae{M:Mm}{n b:Nat}(h:b < n):(M.cut n).o b=M.o b:=Za0 h
theorem DF{b n:Nat}(h:Nat.ble (b+1) n=true):b < n:=by have:=ZaD h;omega
mutual
theorem RV.dK{M:Mm}{w:World}{n:Nat}:∀(a:AV) (v:Value),a.dK n=true→RV M w a v→RV (M.cut n) w a v
 |.dt _d,_v,_,h=>h
 |.nil,_v,_,h=>h
 |.aW _es,_v,_,h=>h
 |.gl _ _,_v,_,h=>h
 |.pin _ds,_v,_,h=>h
 |.ak _ _,_v,_,h=>h
 |.un,_v,_,_h=>trivial
 |.ptr _b _off,_v,hp,⟨g,h1,h2⟩=>⟨g,(Mm.lu (DF hp)).trans h1,h2⟩
 |.eX _b _i _k,_v,hp,⟨g,h1,h2⟩=>⟨g,(Mm.lu (DF hp)).trans h1,h2⟩
 |.sl _b _m,_v,hp,⟨g,h1,h2⟩=>⟨g,(Mm.lu (DF hp)).trans h1,h2⟩
 |.V4 _b,_v,hp,⟨g,h1,h2⟩=>⟨g,(Mm.lu (DF hp)).trans h1,h2⟩
 |.own _b _m,_v,hp,⟨A,c,A',n',c',h1,h2,h3⟩=>⟨A,c,A',n',c',h1,(Mm.Ae (DF hp)).trans h2,h3⟩
 |.agg cs,_v,hf,⟨vs,h1,h2⟩=>⟨vs,h1,RL.dK cs vs hf h2⟩
 |.o7 cs,_v,hf,⟨vs,h1,h2⟩=>⟨vs,h1,RL.dK cs vs hf h2⟩
 |.clo _f cs,_v,hf,⟨vs,h1,h2⟩=>⟨vs,h1,RL.dK cs vs hf h2⟩
theorem RL.dK{M:Mm}{w:World}{n:Nat}:∀(cs:List AV) (vs:List Value),AV.qo n cs=true→RL M w cs vs→RL (M.cut n) w cs vs
 |[],_,_,h=>h
 |c::cs,_,hf,⟨u,us,h1,h2,h3⟩=>by
  have hf':(c.dK n && AV.qo n cs)=true:=hf;rw[AC]at hf';exact⟨u,us,h1,RV.dK c u hf'.1 h2,RL.dK cs us hf'.2 h3⟩
end
def vG(ft:List Nat):Nat→List AV→List AV
 |_,[]=>[]
 |i,x::xs=>(match ft.contains i with | true=>x | false=>.un)::vG ft (i+1) xs
theorem OQ(ft:List Nat):∀(i:Nat) (xs:List AV),(vG ft i xs).length=xs.length
 |_,[]=>rfl
 |i,x::xs=>by unfold vG;rw[Za1,Za1,OQ ft (i+1) xs]
theorem YK(ft:List Nat):∀(i:Nat) (xs:List AV) (t:Nat) (d:AV),(vG ft i xs).getD t d=.un∨(vG ft i xs).getD t d=xs.getD t d
 |_,[],t,d=>.inr rfl
 |i,x::xs,0,d=>by
  unfold vG;cases ft.contains i
  ·exact .inl rfl
  ·exact .inr rfl
 |i,x::xs,t+1,d=>by
  have:=YK ft (i+1) xs t d;unfold vG;simpa using this
def forget(ft:List Nat)(nb:Nat)(s:AS):AS:=⟨vG ft 0 s.tm,s.bx.take nb⟩
def Jw(nb:Nat):List (Value×AV)→Bool
 |[]=>true
 | (_,a)::r=>a.dK nb && Jw nb r
def Bx.dK(nb:Nat):Option Bx→Bool
 |some (.cells cs)=>AV.qo nb cs
 |some (.mp D8)=>Jw nb D8
 |_=>true
def forgets(nb:Nat)(s:AS):Bool:=AV.qo nb s.tm && s.bx.all (Bx.dK nb)
theorem MK.dK{M:Mm}{w:World}{n:Nat}:∀{D8:List (Value×AV)} {es:List MapEntry},Jw n D8=true→MK M w D8 es→MK (M.cut n) w D8 es
 |[],_,_,h=>h
 | (k,a)::D8,_,hf,⟨e,es',h1,h2,h3,h4⟩=>by
  have hf':(a.dK n && Jw n D8)=true:=hf;rw[AC]at hf';exact⟨e,es',h1,h2,RV.dK _ _ hf'.1 h3,MK.dK hf'.2 h4⟩
theorem Xx{n:Nat}:∀{cs:List AV},AV.qo n cs=true→∀(t:Nat) (d:AV),d.dK n=true→(cs.getD t d).dK n=true
 |[],_,t,d,hd=>by simpa using hd
 |c::cs,h,t,d,hd=>by
  have h':(c.dK n && AV.qo n cs)=true:=h;rw[AC]at h';cases t with
  |zero=>exact h'.1
  |succ t=>simpa using Xx h'.2 t d hd
theorem Left.forget{E:En}{ft:List Nat}{nb:Nat}{s:AS}(hf:(Nat.ble E.nh nb && forgets nb (forget ft nb s))=true){X:Nat→Prop}{n0:Nat}{w0:World×Mm}{ok0:Nat→Prop}{nt:Nat}{a:Act}{w:World}(hG:HG E X n0 w0)(h:Left X n0 w0 ok0 nt s.J8 s.G5 a w):Left X n0 w0 ok0 nt (forget ft nb s).J8 (forget ft nb s).G5 a w:=by
 obtain⟨M,hI⟩:=h;rw[AC]at hf;obtain⟨hnb,hf⟩:=hf;have hnb:=ZaD hnb;unfold forgets at hf;rw[AC]at hf;have hb:∀b x,(Go.Proofs.YthhknjlmjefklaaGreatDoor.forget ft nb s).G5 b=some x→b < nb∧s.G5 b=some x∧Bx.dK nb (some x)=true:=by
  intro b cs hbx;unfold AS.G5 at hbx ⊢;cases hx:(Go.Proofs.YthhknjlmjefklaaGreatDoor.forget ft nb s).bx[b]? with
  |none=>rw[hx]at hbx;cases hbx
  |some x =>
   rw[hx]at hbx;simp only at hbx;subst hbx;have h2:=Zav.1 hf.2 _ (Za5 hx);have h3:(s.bx.take nb)[b]?=some (some cs):=hx;rw[List.getElem?_take]at h3;split at h3
   ·rename_i hlt;rw[h3];exact⟨hlt,rfl,h2⟩
   ·cases h3
 have hb2:∀b,b < nb→(Go.Proofs.YthhknjlmjefklaaGreatDoor.forget ft nb s).G5 b=s.G5 b:=by
  intro b h1;unfold AS.G5;show (match (s.bx.take nb)[b]? with | some x=>x | none=>none)=_;rw[List.getElem?_take,Za0 h1]
  all_goals rfl
 have hm:∀b g,(M.cut nb).m b=some g→b < nb∧M.m b=some g:=fun b g h=>by
  by_cases e:b < nb
  ·rw[Mm.lu e]at h;exact⟨e,h⟩
  ·rw[show (M.cut nb).m b=none from lw e]at h;cases h
 have ho:∀b v,(M.cut nb).o b=some v→b < nb∧M.o b=some v:=fun b g h=>by
  by_cases e:b < nb
  ·rw[Mm.Ae e]at h;exact⟨e,h⟩
  ·rw[show (M.cut nb).o b=none from lw e]at h;cases h
 have hhx:∀b x q,b < nb→(Hx (M.cut nb) b x q↔Hx M b x q):=fun b x q h=>Hx.eq (Mm.lu h) (Mm.Ae h)
 refine⟨M.cut nb,hI.below,hI.le,hI.defers,hI.size,?_,⟨?_,?_,?_,?_,?_,hI.J4.fz⟩,hI.src,⟨hI.kL.below,hI.kL.keep,hI.kL.F,fun k q hq=>?_,fun b A n c e=>?_⟩⟩
 ·intro t;have hp:=Xx hf.1 t (.dt (.val undef)) rfl;have hp':((Go.Proofs.YthhknjlmjefklaaGreatDoor.forget ft nb s).J8 t).dK nb=true:=hp;rcases YK ft 0 s.tm t (.dt (.val undef)) with e | e
  ·have e':(Go.Proofs.YthhknjlmjefklaaGreatDoor.forget ft nb s).J8 t=.un:=e;rw[e'];trivial
  ·have e':(Go.Proofs.YthhknjlmjefklaaGreatDoor.forget ft nb s).J8 t=s.J8 t:=e;rw[e']at hp' ⊢
   exact RV.dK _ _ hp' (hI.tmps t)
 ·intro b x hbx;obtain⟨h1,h2,h3⟩:=hb b x hbx;have h4:=hI.J4.box b x h2;cases x with
  |cells cs=>obtain⟨g,T,vs,e1,e2,e3⟩:=h4;exact⟨g,T,vs,(Mm.lu h1).trans e1,e2,RL.dK _ _ h3 e3⟩
  |buf e k es=>obtain⟨A,n,c,e1,e2⟩:=h4;exact⟨A,n,c,(Mm.Ae h1).trans e1,e2⟩
  |ay es=>obtain⟨A,n,c,e1,e2⟩:=h4;exact⟨A,n,c,(Mm.Ae h1).trans e1,e2⟩
  |mp D8=>obtain⟨g,es,clk,e1,e2,e3⟩:=h4;exact⟨g,es,clk,(Mm.lu h1).trans e1,e2,MK.dK h3 e3⟩
  |aA D8=>obtain⟨g,es,clk,e1,e2,e3⟩:=h4;exact⟨g,es,clk,(Mm.lu h1).trans e1,e2,e3⟩
  |rws e k es=>obtain⟨g,vs,e1,e2⟩:=h4;exact⟨g,vs,(Mm.lu h1).trans e1,e2⟩
  |sG es=>obtain⟨g,e1,e2⟩:=h4;exact⟨g,(Mm.lu h1).trans e1,e2⟩
  |cst cs=>obtain⟨g,vs,e1,e2⟩:=h4;exact⟨g,vs,(Mm.lu h1).trans e1,e2⟩
 ·intro b x q hbx hq;obtain⟨h1,h2,_⟩:=hb b x hbx;exact hI.J4.dom b x q h2 ((hhx b x q h1).1 hq)
 ·intro b b' x x' q h1 h2 h3 h4;obtain⟨g1,g2,_⟩:=hb b x h1;obtain⟨k1,k2,_⟩:=hb b' x' h2;exact hI.J4.inj b b' x x' q g2 k2 ((hhx b x q g1).1 h3) ((hhx b' x' q k1).1 h4)
 ·intro b q hbq;obtain⟨h1,h2⟩:=hm b q hbq;obtain⟨x,h3,h4⟩:=hI.J4.hm b q h2;exact⟨x,(hb2 b h1).trans h3,h4⟩
 ·intro b v hbv;obtain⟨h1,h2⟩:=ho b v hbv;rw[hb2 b h1];exact hI.J4.ho b v h2
 ·rcases Zai k E.nh with h1 | h1
  ·exact (Mm.lu J).trans (hI.kL.m k q hq)
  ·rw[(hG.h k h1).1]at hq;cases hq
 ·rcases Zai b E.nh with h1 | h1
  ·obtain⟨A',n',c',e1,e2⟩:=hI.kL.o b A n c e;exact⟨A',n',c',(Mm.Ae J).trans e1,e2⟩
  ·rw[(hG.h b h1).2]at e;cases e
inductive Lp (E:En) (c:Code):Nat→AS→AE→AS→Prop
 |stop {s s':AS} {e:AE}:D7 E c s e s'→e≠.I4→Lp E c 0 s e s'
 |more {n:Nat} {s s1 s':AS} {e:AE}:D7 E c s .I4 s1→Lp E c n s1 e s'→Lp E c (n+1) s e s'
def Lps(E:En)(c:Code)(s:AS)(e:AE)(s':AS):Prop:=∃n,Lp E c n s e s'
theorem Lps.stop{E:En}{c:Code}{s s':AS}{e:AE}(h:D7 E c s e s')(he:e≠.I4):Lps E c s e s':=⟨0,.stop h he⟩
theorem Lps.more{E:En}{c:Code}{s s1 s':AS}{e:AE}(h:D7 E c s .I4 s1)(h':Lps E c s1 e s'):Lps E c s e s':=h'.elim fun n hn=>⟨n+1,.more h hn⟩
theorem Lp.len{E:En}{c:Code}{n:Nat}{s s':AS}{e:AE}(h:Lp E c n s e s'):s'.tm.length=s.tm.length:=by
 induction h with
 |stop h _=>exact h.1
 |more h _ ih=>exact ih.trans h.1
theorem Lps.tri{E:En}{c:Code}{s s':AS}{e:AE}(h:Lps E c s e s'):D7 E (.loop c) s e s':=by
 obtain⟨n,h⟩:=h;refine⟨h.len,fun X n0 w0 ok0 a w hG hL=>?_⟩;have hlen:=h.len;refine wp_loop_ghost (fun k a w=>∃s1,Lp E c k s1 e s'∧s1.tm.length=s.tm.length∧Left X n0 w0 ok0 s.tm.length s1.J8 s1.G5 a w) n ⟨s,h,rfl,hL⟩ ?_;rintro k a w ⟨s1,h1,hl,hL1⟩;cases h1 with
 |stop h2 he =>
  rw[←hl]at hL1;refine wp_mono (h2.2 X n0 w0 ok0 a w hG hL1) ?_;rintro x a' w' ⟨rfl,hL'⟩;rw[hl]at hL';cases e with
  |I4=>exact absurd rfl he
  |out i=>exact⟨rfl,hL'⟩
  |ret=>exact⟨rfl,hL'⟩
 |more h2 h3 =>
  rename_i k' s2;have hl2:=h2.1;rw[←hl]at hL1;refine wp_mono (h2.2 X n0 w0 ok0 a w hG hL1) ?_;rintro x a' w' ⟨rfl,hL'⟩;rw[hl]at hL';exact⟨_,Nat.lt_succ_self _,s2,h3,hl2.trans hl,hL'⟩
def Ee(step:AS→List An→List LA→Option (AE×AS×List Prop×List An×List LA)):Nat→AS→List An→List LA→Option (AE×AS×List Prop×List An×List LA)
 |0,_,_,_=>none
 |n+1,s,an,ls=>match step s an ls with
  |some (.I4,s1,ps,fP,jO)=>match Ee step n s1 fP jO with
   |some (e,s2,qs,aX,sH)=>some (e,s2,ps++qs,aX,sH)
   |none=>none
  |r=>r
def dY(E:En):Code→AS→List An→List LA→Option (AE×AS×List Prop×List An×List LA)
 |.skip,s,an,ls=>some (.I4,s,[],an,ls)
 |.label _,s,an,ls=>some (.I4,s,[],an,ls)
 |.region id ops draw,s,an,ls=>match b2U id ls with
  |true=>match OO E ops id draw s an ls with
   |none=>none
   |some (s',ps,O7,ls')=>some (.I4,s',ps,O7,ls')
  |false=>match Ij E ops draw s an with
   |none=>none
   |some (s',ps,O7)=>some (.I4,s',ps,O7,ls)
 |.seq x y,s,an,ls=>match dY E x s an ls with
  |some (.I4,s1,ps,fP,jO)=>match dY E y s1 fP jO with
   |some (e,s2,qs,aX,sH)=>some (e,s2,ps++qs,aX,sH)
   |none=>none
  |r=>r
 |.cond c x y,s,an,ls=>match J6 s.J8 c with
  |.dt (.val (.bool true))=>dY E x s an ls
  |.dt (.val (.bool false))=>dY E y s an ls
  |_=>none
 |.block id b,s,an,ls=>match dY E b s an ls with
  |some (.out i,s',ps,O7,ls')=>match Nat.beq i id with
   |true=>some (.I4,s',ps,O7,ls')
   |false=>some (.out i,s',ps,O7,ls')
  |r=>r
 |.scope b,s,an,ls=>dY E b s an ls
 |.loop b,s,an,ls=>match ls with
  |.inv ft nb e s'::ls=>match (Nat.ble E.nh nb && forgets nb (forget ft nb s)) with
   |true=>some (e,s',[D7 E (.loop b) (forget ft nb s) e s'],an,ls)
   |false=>none
  |.run n::ls=>Ee (fun s an ls=>dY E b s an ls) n s an ls
  |ls=>Ee (fun s an ls=>dY E b s an ls) 4000 s an ls
 |.exit id,s,an,ls=>some (.out id,s,[],an,ls)
 |.ret,s,an,ls=>some (.ret,s,[],an,ls)
 |_,_,_,_=>none
theorem GK{E:En}:∀{c:Code} {s s':AS} {an O7:List An} {ls ls':List LA} {e:AE} {ps:List Prop},dY E c s an ls=some (e,s',ps,O7,ls')→I5 ps→D7 E c s e s':=by
 intro c
 induction c with
 |skip=>intro s s' an O7 ls ls' e ps h _;cases h;exact⟨rfl,fun X n0 w0 ok0 a w _ hL=>wp_skip ⟨rfl,hL⟩⟩
 |label l=>intro s s' an O7 ls ls' e ps h _;cases h;exact⟨rfl,fun X n0 w0 ok0 a w _ hL=>wp_label ⟨rfl,hL⟩⟩
 |region id ops draw =>
  intro s s' an O7 ls ls' e ps h hp;simp only[dY]at h;split at h
  ·split at h
   ·cases h
   ·rename_i s1 ps1 fP jO hr;cases h;obtain⟨hl,hw⟩:=a6r hr hp;exact⟨hl,fun X n0 w0 ok0 a w hG hL=>hw hG hL fun a w hL'=>⟨rfl,hL'⟩⟩
  split at h
  ·cases h
  ·rename_i s1 ps1 fP hr;cases h;refine⟨?_,fun X n0 w0 ok0 a w hG hL=>a4W hr hp hG.g hL fun a w hL'=>⟨rfl,hL'⟩⟩;unfold Ij at hr;split at hr
   ·cases hr
   ·rename_i h1;split at hr
    ·cases hr;exact (Ot h1 hp).1
    ·cases hr
 |seq x y Fq KX =>
  intro s s' an O7 ls ls' e ps h hp;simp only[dY]at h;split at h
  ·rename_i s1 ps1 fP jO hx;split at h
   ·rename_i e2 s2 qs aX sH hy;cases h;obtain⟨hp1,hp2⟩:=jl hp;obtain⟨l1,t1⟩:=Fq hx hp1;obtain⟨l2,t2⟩:=KX hy hp2;refine⟨l2.trans l1,fun X n0 w0 ok0 a w hG hL=>wp_seq (wp_mono (t1 X n0 w0 ok0 a w hG hL) ?_)⟩;rintro x' a' w' ⟨rfl,hL'⟩;rw[←l1]at hL';have:=t2 X n0 w0 ok0 a' w' hG hL';rw[l1]at this;exact this
   ·cases h
  ·rename_i hne;obtain⟨l1,t1⟩:=Fq h hp;refine⟨l1,fun X n0 w0 ok0 a w hG hL=>wp_seq (wp_mono (t1 X n0 w0 ok0 a w hG hL) ?_)⟩;rintro x' a' w' ⟨rfl,hL'⟩;cases e with
   |I4=>exact absurd h (hne _ _ _ _)
   |out i=>exact⟨rfl,hL'⟩
   |ret=>exact⟨rfl,hL'⟩
 |cond c x y Fq KX =>
  intro s s' an O7 ls ls' e ps h hp;simp only[dY]at h;split at h
  ·rename_i hc;obtain⟨l1,t1⟩:=Fq h hp;refine⟨l1,fun X n0 w0 ok0 a w hG hL=>?_⟩;obtain⟨M,hI⟩:=hL;have hv:=hI.ev c;rw[hc]at hv;exact wp_cond_true (Rd.Z9 hv) (t1 X n0 w0 ok0 a w hG ⟨M,hI⟩)
  ·rename_i hc;obtain⟨l1,t1⟩:=KX h hp;refine⟨l1,fun X n0 w0 ok0 a w hG hL=>?_⟩;obtain⟨M,hI⟩:=hL;have hv:=hI.ev c;rw[hc]at hv;exact wp_cond_false (Rd.Z9 hv) (t1 X n0 w0 ok0 a w hG ⟨M,hI⟩)
  ·cases h
 |block id b ih =>
  intro s s' an O7 ls ls' e ps h hp;simp only[dY]at h;split at h
  ·rename_i i s1 ps1 fP jO hb;split at h
   ·rename_i hi;have hi':=Zau hi;cases h;obtain⟨l1,t1⟩:=ih hb hp;refine⟨l1,fun X n0 w0 ok0 a w hG hL=>wp_block (wp_mono (t1 X n0 w0 ok0 a w hG hL) ?_)⟩;rintro x' a' w' ⟨rfl,hL'⟩;show if i=id then _ else _
    rw[Za0 hi'];exact⟨rfl,hL'⟩
   ·rename_i hi;cases h;obtain⟨l1,t1⟩:=ih hb hp;refine⟨l1,fun X n0 w0 ok0 a w hG hL=>wp_block (wp_mono (t1 X n0 w0 ok0 a w hG hL) ?_)⟩;rintro x' a' w' ⟨rfl,hL'⟩;show if i=id then _ else _
    rw[lw (fun e=>by rw[e,Nat.beq_refl]at hi;cases hi)];exact⟨rfl,hL'⟩
  ·rename_i hne;obtain⟨l1,t1⟩:=ih h hp;refine⟨l1,fun X n0 w0 ok0 a w hG hL=>wp_block (wp_mono (t1 X n0 w0 ok0 a w hG hL) ?_)⟩;rintro x' a' w' ⟨rfl,hL'⟩;cases e with
   |I4=>exact⟨rfl,hL'⟩
   |out i=>exact absurd h (hne _ _ _ _ _)
   |ret=>exact⟨rfl,hL'⟩
 |scope b ih =>
  intro s s' an O7 ls ls' e ps h hp;simp only[dY]at h;obtain⟨l1,t1⟩:=ih h hp;refine⟨l1,fun X n0 w0 ok0 a w hG hL=>wp_scope_straight (wp_mono (t1 X n0 w0 ok0 a w hG hL) ?_)⟩;rintro x' a' w' ⟨rfl,hL'⟩;cases e <;> exact⟨rfl,hL'⟩
 |loop b ih =>
  intro s s' an O7 ls ls' e ps h hp;have rounds:∀(n:Nat) {s s':AS} {an O7:List An} {ls ls':List LA} {e:AE} {ps:List Prop},Ee (fun s an ls=>dY E b s an ls) n s an ls=some (e,s',ps,O7,ls')→I5 ps→Lps E b s e s':=by
   intro n
   induction n with
   |zero=>intro s s' an O7 ls ls' e ps h _;cases h
   |succ n ihn =>
    intro s s' an O7 ls ls' e ps h hp;simp only[Ee]at h;split at h
    ·rename_i s1 ps1 fP jO hx;split at h
     ·rename_i e2 s2 qs aX sH hy;cases h;obtain⟨hp1,hp2⟩:=jl hp;exact .more (ih hx hp1) (ihn hy hp2)
     ·cases h
    ·rename_i hne;exact .stop (ih h hp) fun he=>by subst he;exact hne _ _ _ _ h
  simp only[dY]at h;split at h
  ·rename_i ft nb e1 s1 jO;split at h
   ·rename_i hf;cases h;obtain⟨l1,t1⟩:=hp.1;have hlen:(forget ft nb s).tm.length=s.tm.length:=OQ _ _ _;refine⟨l1.trans hlen,fun X n0 w0 ok0 a w hG hL=>?_⟩;have:=t1 X n0 w0 ok0 a w hG (by rw[hlen];exact Left.forget hf hG hL);rw[hlen]at this;exact this
   ·cases h
  ·exact (rounds _ h hp).tri
  ·exact (rounds _ h hp).tri
 |exit id=>intro s s' an O7 ls ls' e ps h _;cases h;exact⟨rfl,fun X n0 w0 ok0 a w _ hL=>wp_exit ⟨rfl,hL⟩⟩
 |ret=>intro s s' an O7 ls ls' e ps h _;cases h;exact⟨rfl,fun X n0 w0 ok0 a w _ hL=>wp_ret ⟨rfl,hL⟩⟩
 |goto l=>intro s s' an O7 ls ls' e ps h _;cases h
 |refuse l=>intro s s' an O7 ls ls' e ps h _;cases h
 |rangeFunc f p x y Fq KX=>intro s s' an O7 ls ls' e ps h _;cases h
def oD(P:Program)(s:AS):List ResultVar→Option (List AV)
 |[]=>some []
 |.tmp t::rs=>match oD P s rs with
  |some cs=>some (s.J8 t::cs)
  |none=>none
 |.cell x t::rs=>match s.J8 x,ed P t,oN P t,oD P s rs with
  |.ptr b off,some n,some ag,some cs=>match s.G5 b with
   |some (.cells c0)=>match rowAt c0 off n ag with
    |some r=>some (r::cs)
    |none=>none
   |_=>none
  |_,_,_,_=>none
def xC:List AV→AV
 |[x]=>x
 |xs=>.o7 xs
def Af(tmps:Array Value):ResultVar→Sem Value
 |.tmp t=>pure (tmps.getD t undef)
 |.cell a t=>do loadVar t (←asAddr (tmps.getD a undef))
section
variable {P:Program} {X:Nat→Prop} {n0:Nat} {w0:World×Mm} {ok0:Nat→Prop} {M:Mm} {nt:Nat} {a:Act} {w:World}
theorem CQ{s:AS}(hI:Inv X n0 w0 ok0 M nt s.J8 s.G5 a w):∀{rs:List ResultVar} {cs:List AV},oD P s rs=some cs→∃vs,(rs.mapM (Af a.tmps)).run P w=.ok vs w∧RL M w cs vs
 |[],cs,h=>by cases h;exact⟨[],rfl,rfl⟩
 |.tmp t::rs,cs,h=>by
  unfold oD at h;split at h
  ·rename_i cs' h';cases h;obtain⟨vs,h1,h2⟩:=CQ hI h';refine⟨a.tmps.getD t undef::vs,?_,_,vs,rfl,hI.tmps t,h2⟩;rw[List.mapM_cons];simp only[Af,Za8,Zab,Result.andThen,h1]
  ·cases h
 |.cell x t::rs,cs,h=>by
  unfold oD at h;split at h
  ·rename_i b off n ag cs' hx hn ha h';split at h
   ·rename_i c0 hb;split at h
    ·rename_i r hr;cases h;obtain⟨vs,h1,h2⟩:=CQ hI h';have hv:=hI.tmps x;rw[hx]at hv;obtain⟨g,hg,hv⟩:=hv;obtain⟨g',T,us,e1,e2,e3⟩:=hI.J4.box b _ hb;rw[hg]at e1;cases e1;obtain⟨u,hu1,hu2⟩:=run_load (P:=P) (g:=g) (q:=0) hn ha (fun j u hj=>by rw[ZaH,e2.cell];simpa using hj) e3 hr;rw[ZaH]at hu1;refine⟨u::vs,?_,u,vs,rfl,hu2,h2⟩;rw[List.mapM_cons];have b7G:(Af a.tmps (.cell x t)).run P w=.ok u w:=by
      simp only[Af,hv,asAddr,Za8,Zab,Result.andThen,hu1]
     simp only[Za8,b7G,Zab,Result.andThen,h1]
    ·cases h
   ·cases h
  ·cases h
theorem Nh{fn:Func}{tmps:Array Value}{vs:List Value}(h:(fn.results.toList.mapM (Af tmps)).run P w=.ok vs w):(results fn tmps).run P w=.ok (if h:vs.length=1 then vs[0] else .tuple vs.toArray) w:=by
 have e:results fn tmps=(do let vs ←fn.results.mapM (Af tmps);pure (if h:vs.size=1 then vs[0] else .tuple vs)):=by
  unfold results;congr 1
 rw[e,Array.mapM_eq_mapM_toList];simp only[Za8,Sem.run_map,h,Result.andThen,Zab];by_cases h1:vs.length=1
 ·simp[h1]
 ·simp[h1]
end
def SV(E:En)(fn:Func)(c:Code)(args:List AV)(an:List An)(ls:List LA):Option (AV×List Prop) :=
 match dY E c ⟨args++List.replicate (fn.ntmps - args.length) (.dt (.val undef)),[]⟩ an ls with
 |some (.out _,_)=>none
 |none=>none
 |some (_,s,ps,_,_)=>match oD E.P s fn.results.toList with
  |some cs=>match bM [] false s.G5 cs with
   |some (cs',qs)=>some (xC cs',ps++qs)
   |none=>none
  |none=>none
def Ef(E:En)(fn:Func)(args:List AV)(an:List An)(ls:List LA):Option (AV×List Prop):=match fn.body with
 |some c=>SV E fn c args an ls
 |none=>none
theorem YL{M:Mm}{w:World}{cs:List AV}{vs:List Value}(h:RL M w cs vs):RV M w (xC cs) (if h:vs.length=1 then vs[0] else .tuple vs.toArray):=by
 have hl:=h.len
 match cs,h with
 |[],h =>
  rw[show vs=[] from h]
  exact⟨[],rfl,rfl⟩
 |[c],⟨u,us,e,h1,h2⟩ =>
  rw[show us=[] from h2]at e
  subst e;exact h1
 |c::c'::cs,h =>
  simp only[Za1]at hl;rw[dif_neg J];exact⟨vs,rfl,h⟩
theorem walk{E:En}(hG:∀w w',E.G w→Below w.heap.size w w'→E.G w'){f:FuncId}{fn:Func}{c:Code}(hf:E.P.funcs[f]?=some fn)(hb:fn.body=some c)(hn:(fn.name == "runtime.NumGoroutine")=false)
  {args:List AV} (an:List An) (ls:List LA) {r:AV} {ps:List Prop} (h:SV E fn c args an ls=some (r,ps)) (hp:I5 ps):wR E.P E.G f args r:=by
 refine⟨⟨fn,hf,by rw[hb];rfl,hn⟩,fun ok w vs hw hargs=>?_⟩;unfold SV at h;have key:∃e s cs cs' O7 ls' ps1 qs,dY E c ⟨args++List.replicate (fn.ntmps - args.length) (.dt (.val undef)),[]⟩ an ls=some (e,s,ps1,O7,ls')∧(∀i,e≠.out i)∧oD E.P s fn.results.toList=some cs∧bM [] false s.G5 cs=some (cs',qs)∧r=xC cs'∧ps=ps1++qs:=by
  split at h
  ·cases h
  ·cases h
  ·rename_i e s ps' O7 ls' hne hc;split at h
   ·rename_i cs hcs;split at h
    ·rename_i cs' qs hcv;cases h;exact⟨e,s,cs,cs',O7,ls',ps',qs,hc,fun i he=>by subst he;exact hne _ rfl,hcs,hcv,rfl,rfl⟩
    ·cases h
   ·cases h
 obtain⟨e,s,cs,cs',O7,ls',ps1,qs,hc,hne,hcs,hcv,rfl,rfl⟩:=key;obtain⟨hp1,hp2⟩:=jl hp;obtain⟨hlen,EL⟩:=GK hc hp1;have hal:=hargs.len;refine calls_of_wp hf hb (wp_mono (EL (fun _=>False) w.heap.size (w,M0 fun b=>ok b∧b < w.heap.size) ok _ w ⟨fun w' hb=>hG w w' hw hb.below,fun _ _=>⟨rfl,rfl⟩⟩ ⟨M0 fun b=>ok b∧b < w.heap.size,?_⟩) ?_)
 ·have oG:∀b x,(AS.mk (args++List.replicate (fn.ntmps - args.length) (.dt (.val undef))) []).G5 b≠some x:=fun b x h=>by simp[AS.G5]at h
  refine⟨aN.refl _ _ _,NE _,rfl,?_,?_,⟨fun b x h=>absurd h (oG b x),fun b x _ h=>absurd h (oG b x),fun b _ x _ _ h=>absurd h (oG b x),(fun b g h=>by cases h),(fun b v h=>by cases h),fun b hb=>hb.2⟩,fun b hb _=>.inl hb.1,U1.refl _ _ _ _⟩
  ·simp[hal]
  ·intro t;have hargs':RL (M0 fun b=>ok b∧b < w.heap.size) w args vs:=RL.zx (fun b hb hl=>⟨hb,hl⟩) hargs;by_cases ht:t < args.length
   ·obtain⟨u,hu1,hu2⟩:=hargs'.get (i:=t) (c:=args[t]) (Za2 ht);have e1:(AS.mk (args++List.replicate (fn.ntmps - args.length) (.dt (.val undef))) []).J8 t=args[t]:=by
     unfold AS.J8;simp[ZaN ht,ht]
    have e2:(vs.toArray++Array.replicate (fn.ntmps - vs.toArray.size) undef).getD t undef=u:=by
     have ht':t < vs.length:=J;simp only[ZaV];rw[Array.getElem?_append_left (by simpa using ht')];simp[hu1]
    rw[e1,e2];exact hu2
   ·have e1:(AS.mk (args++List.replicate (fn.ntmps - args.length) (.dt (.val undef))) []).J8 t=.dt (.val undef):=by
     unfold AS.J8;rw[bi,ZaK J,List.getElem?_replicate];split <;> rfl
    have e2:(vs.toArray++Array.replicate (fn.ntmps - vs.toArray.size) undef).getD t undef=undef:=by
     simp only[ZaV];rw[Array.getElem?_append_right (by simp;omega),Array.getElem?_replicate];split <;> rfl
    rw[e1,e2];exact wM
 ·rintro x a' w' ⟨rfl,M,hI⟩;obtain⟨us,h1,h2⟩:=CQ hI hcs;obtain⟨M1,hI1,h3,_⟩:=hI.hand hcv hp2 h2;have hR:∃v,(results fn a'.tmps).run E.P w'=.ok v w'∧(fun e w'=>∃v,e=Ending.returned v∧Below w.heap.size w w'∧RV (M0 fun b=>ok b∨w.heap.size≤b) w' (xC cs') v) (.returned v) w':=by
   refine⟨_,Nh h1,_,rfl,hI.below.below,?_⟩;refine RV.lift (F:=M1.F) (M:=M0 fun b=>ok b∨w.heap.size≤b) (fun b hb _=>?_) (YL h3);by_cases e:b < w.heap.size
   ·rcases hI1.src b hb e with h | h
    ·exact .inl h
    ·exact h.elim
   ·exact .inr J
  cases e with
  |I4=>exact⟨hI.defers,hR⟩
  |ret=>exact⟨hI.defers,hR⟩
  |out i=>exact absurd rfl (hne i)
theorem b44{E:En}(hG:∀w w',E.G w→Below w.heap.size w w'→E.G w'){f:FuncId}{fn:Func}(hf:E.P.funcs[f]?=some fn)(hn:(fn.name == "runtime.NumGoroutine")=false)
  {args:List AV} {an:List An} {ls:List LA} {r:AV} {ps:List Prop} (h:Ef E fn args an ls=some (r,ps)) (hp:I5 ps):wR E.P E.G f args r:=by
 unfold Ef at h;split at h
 ·rename_i c hc;exact walk hG hf hc hn an ls h hp
 ·cases h
theorem D7.weak{E:En}{c:Code}{s s':AS}{e:AE}(h:D7 E c s e s')(ft:List Nat)(nb:Nat)(hf:(Nat.ble E.nh nb && forgets nb (forget ft nb s'))=true):D7 E c s e (forget ft nb s'):=by
 refine⟨(OQ _ _ _).trans h.1,fun X n0 w0 ok0 a w hG hL=>wp_mono (h.2 X n0 w0 ok0 a w hG hL) ?_⟩;rintro x a' w' ⟨rfl,hL'⟩;exact⟨rfl,Left.forget hf hG hL'⟩
def IK(E:En)(c:Code)(s:AS)(an:List An)(ls:List LA)(ft:List Nat)(nb:Nat):Option (AE×AS×List Prop):=match dY E c s an ls with
 |some (e,s',ps,_,_)=>match Nat.ble E.nh nb && forgets nb (forget ft nb s') with
  |true=>some (e,forget ft nb s',ps)
  |false=>none
 |none=>none
theorem tw{E:En}{c:Code}{s s':AS}{an:List An}{ls:List LA}{ft:List Nat}{nb:Nat}{e:AE}{ps:List Prop}(h:IK E c s an ls ft nb=some (e,s',ps))(hp:I5 ps):D7 E c s e s':=by
 unfold IK at h;split at h
 ·rename_i e1 s1 ps1 fP jO hc;split at h
  ·rename_i hf;cases h;exact (GK hc hp).weak ft nb hf
  ·cases h
 ·cases h
def stG(kv:List (Nat×AV))(i:Nat):AV:=match kv with
 |[]=>.un
 | (j,v)::r=>match Nat.beq i j with
  |true=>v
  |false=>stG r i
def stT(kv:List (Nat×AV)):Nat→Nat→List AV
 |_,0=>[]
 |i,n+1=>stG kv i::stT kv (i+1) n
abbrev stt(n:Nat)(kv:List (Nat×AV)):List AV:=stT kv 0 n
def V5:Code→List Nat→Code
 |c,[]=>c
 |.seq x _,0::p=>V5 x p
 |.seq _ y,_::p=>V5 y p
 |.cond _ x _,0::p=>V5 x p
 |.cond _ _ y,_::p=>V5 y p
 |.block _ b,_::p=>V5 b p
 |.loop b,_::p=>V5 b p
 |.scope b,_::p=>V5 b p
 |c,_=>c
def ai(fn:Func):Code:=match fn.body with
 |some c=>c
 |none=>.skip
def RD(E:En)(fn:Func)(c:Code)(args:List AV)(xs:List (Option Bx))(ks:List Nat)(an:List An)(ls:List LA):Option (AV×List (Option Bx)×List Prop) :=
 match dY E c ⟨args++List.replicate (fn.ntmps - args.length) (.dt (.val undef)),xs⟩ an ls with
 |some (.out _,_,_,_,_)=>none
 |none=>none
 |some (_,s,ps,_,_)=>match oD E.P s fn.results.toList with
  |some cs=>match bM ks true s.G5 cs with
   |some (cs',qs)=>match kX ks (updB s.G5 (Q9 s.G5 (O4 ks s.G5 cs))) ks with
    |some (xs',rs)=>match nodupB ks && (List.range E.nh).all (fun i=>Nat.beq (ks.getD i (i+1)) i) && Nat.beq xs.length E.nh with
     |true=>some (xC cs',xs',ps++(qs++rs))
     |false=>none
    |none=>none
   |none=>none
  |none=>none
theorem b45{E:En}{f:FuncId}{fn:Func}{c:Code}(hf:E.P.funcs[f]?=some fn)(hb:fn.body=some c)(hn:(fn.name == "runtime.NumGoroutine")=false)
  {args:List AV} {xs:List (Option Bx)} {ks:List Nat} (an:List An) (ls:List LA) {r:AV} {xs':List (Option Bx)} {ps:List Prop} (h:RD E fn c args xs ks an ls=some (r,xs',ps)) (hp:I5 ps):bP E.P E.G f args xs r xs':=by
 refine⟨⟨fn,hf,by rw[hb];rfl,hn⟩,fun X M w vs hG hS hargs=>?_⟩;unfold RD at h;have key:∃e s cs cs' O7 ls' ps1 qs rs,dY E c ⟨args++List.replicate (fn.ntmps - args.length) (.dt (.val undef)),xs⟩ an ls=some (e,s,ps1,O7,ls')∧(∀i,e≠.out i)∧oD E.P s fn.results.toList=some cs∧bM ks true s.G5 cs=some (cs',qs) ∧
   kX ks (updB s.G5 (Q9 s.G5 (O4 ks s.G5 cs))) ks=some (xs',rs)∧(nodupB ks && (List.range E.nh).all (fun i=>Nat.beq (ks.getD i (i+1)) i) && Nat.beq xs.length E.nh)=true∧r=xC cs'∧ps=ps1++(qs++rs):=by
  split at h
  ·cases h
  ·cases h
  ·rename_i e s ps' O7 ls' hne hc;split at h
   ·rename_i cs hcs;split at h
    ·rename_i cs' qs hcv;split at h
     ·rename_i Bo rs hgb;split at h
      ·rename_i hck;cases h;exact⟨e,s,cs,cs',O7,ls',ps',qs,rs,hc,fun i he=>by subst he;exact hne _ rfl,hcs,hcv,hgb,hck,rfl,rfl⟩
      ·cases h
     ·cases h
    ·cases h
   ·cases h
 obtain⟨e,s,cs,cs',O7,ls',ps1,qs,rs,hc,hne,hcs,hcv,hgb,hck,rfl,rfl⟩:=key;simp only[AC,Zav,List.mem_range]at hck;obtain⟨⟨hnd,hks⟩,hxl⟩:=hck;have hnd:=NK hnd;have hxl:xs.length=E.nh:=Zau hxl;have hks:∀i,i < E.nh→ks[i]?=some i:=fun i hi=>by
  have:=Zau (hks i hi);rw[bi]at this;cases hk:ks[i]? with
  |none=>rw[hk]at this;simp at this
  |some k=>rw[hk]at this;simp at this;rw[this]
 obtain⟨hp1,hp2⟩:=jl hp;obtain⟨hp2,hp3⟩:=jl hp2;obtain⟨hlen,EL⟩:=GK hc hp1;have hal:=hargs.len;have hbx:(AS.mk (args++List.replicate (fn.ntmps - args.length) (.dt (.val undef))) xs).G5=lk xs:=rfl;have hhg:HG E X w.heap.size (w,M):=⟨hG,fun k hk=>by
  have hl:lk xs k=none:=by unfold lk;rw[Zaf J]
  exact⟨hS.zu hl,hS.Dc hl⟩⟩
 refine calls_of_wp hf hb (wp_mono (EL X w.heap.size (w,M) M.F _ w hhg ⟨M,?_⟩) ?_)
 ·refine⟨aN.refl _ _ _,NE _,rfl,?_,?_,by rw[hbx];exact hS,fun b hb _=>.inl hb,U1.refl _ _ _ _⟩
  ·simp[hal]
  ·intro t;by_cases ht:t < args.length
   ·obtain⟨u,hu1,hu2⟩:=hargs.get (i:=t) (c:=args[t]) (Za2 ht);have e1:(AS.mk (args++List.replicate (fn.ntmps - args.length) (.dt (.val undef))) xs).J8 t=args[t]:=by
     unfold AS.J8;simp[ZaN ht,ht]
    have e2:(vs.toArray++Array.replicate (fn.ntmps - vs.toArray.size) undef).getD t undef=u:=by
     have ht':t < vs.length:=J;simp only[ZaV];rw[Array.getElem?_append_left (by simpa using ht')];simp[hu1]
    rw[e1,e2];exact hu2
   ·have e1:(AS.mk (args++List.replicate (fn.ntmps - args.length) (.dt (.val undef))) xs).J8 t=.dt (.val undef):=by
     unfold AS.J8;rw[bi,ZaK J,List.getElem?_replicate];split <;> rfl
    have e2:(vs.toArray++Array.replicate (fn.ntmps - vs.toArray.size) undef).getD t undef=undef:=by
     simp only[ZaV];rw[Array.getElem?_append_right (by simp;omega),Array.getElem?_replicate];split <;> rfl
    rw[e1,e2];exact wM
 ·rintro x a' w' ⟨rfl,Mf,hI⟩;obtain⟨us,h1,h2⟩:=CQ hI hcs;obtain⟨M1,hI1,h3,_⟩:=hI.a1w hcv hp2 h2;have b7H:=YJ hI1 hnd hgb hp3 (Y:=X) (m0:=w.heap.size) fun j hj x q hb hq=>(hI1.J4.dom j x q hb hq).1
  have hnh:∀k,(M.m k).isSome=true∨(M.o k).isSome=true→k < E.nh:=fun k hk=>by
   rcases Zai k E.nh with h | h
   ·exact h
   ·obtain⟨e1,e2⟩:=hhg.h k h;rw[show M.m k=none from e1,show M.o k=none from e2]at hk
    rcases hk with hk | hk <;> cases hk
  have hgo:U1 X w.heap.size M w (mJ M1 ks) w':=⟨hI1.kL.below,hI1.kL.keep,hI1.kL.F,fun k q hq=>by
   have hk:=hks k (hnh k (.inl (by rw[hq];rfl)));show (ks[k]?).bind M1.m=_;rw[hk];exact hI1.kL.m k q hq,fun k A n c hq=>by
   have hk:=hks k (hnh k (.inr (by rw[hq];rfl)));show ∃A' n' c',(ks[k]?).bind M1.o=_∧_;rw[hk];exact hI1.kL.o k A n c hq⟩
  have hR:∃v,(results fn a'.tmps).run E.P w'=.ok v w'∧(fun e w'=>∃v M',e=Ending.returned v∧U1 X w.heap.size M w M' w'∧aG X w.heap.size M' (lk xs') w'∧(∀b,M'.F b→M.F b∨w.heap.size≤b∨X b)∧RV M' w' (xC cs') v) (.returned v) w':=by
   refine⟨_,Nh h1,_,mJ M1 ks,rfl,hgo,b7H,fun b hb=>?_,YL h3⟩;by_cases e:b < w.heap.size
   ·rcases hI1.src b hb e with h | h
    ·exact .inl h
    ·exact .inr (.inr h)
   ·exact .inr (.inl J)
  cases e with
  |I4=>exact⟨hI.defers,hR⟩
  |ret=>exact⟨hI.defers,hR⟩
  |out i=>exact absurd rfl (hne i)
def IL(E:En)(fn:Func)(args:List AV)(xs:List (Option Bx))(ks:List Nat)(an:List An)(ls:List LA):Option (AE×AS×List Prop):=match fn.body with
 |some c=>match RD E fn c args xs ks an ls with
  |some (r,xs',ps)=>some (.I4,⟨[r],xs'⟩,ps)
  |none=>none
 |none=>none
theorem b2V{E:En}{f:FuncId}{fn:Func}(hf:E.P.funcs[f]?=some fn)(hn:(fn.name == "runtime.NumGoroutine")=false)
  {args:List AV} {xs:List (Option Bx)} {ks:List Nat} {an:List An} {ls:List LA} {r:AV} {xs':List (Option Bx)} {ps:List Prop} (h:IL E fn args xs ks an ls=some (.I4,⟨[r],xs'⟩,ps)) (hp:I5 ps):bP E.P E.G f args xs r xs':=by
 unfold IL at h;split at h
 ·rename_i c hc;split at h
  ·rename_i r1 Bo ps1 h1;cases h;exact b45 hf hc hn an ls h1 hp
  ·cases h
 ·cases h
def Gx(w:World):Prop:=Tab w∧True
theorem Gx.below{w w':World}(h:Gx w)(hb:Below w.heap.size w w'):Gx w':=⟨h.1.below hb,Z⟩
def SX(_g _i:Nat):Option Value:=none
theorem YM(w:World)(_h:Gx w)(g i:Nat)(v:Value)(hv:SX g i=some v):w.cell? ⟨g,i,none⟩=some v:=by cases hv
theorem mixed:prog.follows .mixedOrders=true:=by kernel_rfl
noncomputable abbrev EX:En:=⟨prog,Gx,SX,YM,mixed,0⟩
abbrev l7(f:FuncId)(args:List AV)(r:AV):Prop:=wR prog Gx f args r
abbrev vi(n:Int):Value:=.int .i64 n
abbrev bT:Value:=.bool true
abbrev bF:Value:=.bool false
abbrev Bn(op:BinOp)(t:TypeId)(x y:Operand)(a b r:Value):Prop:=dS prog op t x y a b r
abbrev x9(o:Ob):AV:=.agg [.dt (.val (.int .i64 o.kind)),.dt (.val (str o.num)),.dt (.val (str o.den)),.dt (.val (str o.sp)),.dt (.val (str o.sn)),.dt (.val (str o.text)),.dt (.row (o.pair.map Ob.enc))]
abbrev o6(b:Bool):AV:=.dt (.val (.bool b))
abbrev yT:An:=.av (o6 true)
abbrev yF:An:=.av (o6 false)
abbrev inA(n:Int):AV:=.dt (.val (.int .i64 n))
abbrev stA(l:aa0):AV:=.dt (.val (str l))
theorem RV.obj{M:Mm}{w:World}{o:Ob}{v:Value}(h:RV M w (x9 o) v):∃A n c,v=N7 o (.slice A n c)∧Rd M.F w (.slice A n c) (.row (o.pair.map Ob.enc)):=by
 obtain⟨vs,rfl,u0,_,rfl,h0,u1,_,rfl,h1,u2,_,rfl,h2,u3,_,rfl,h3,u4,_,rfl,h4,u5,_,rfl,h5,u6,_,rfl,h6,rfl⟩:=h;obtain⟨A,n,c,rfl,_⟩:=Rd.slice h6;refine⟨A,n,c,?_,h6⟩;rw[Rd.Z9 h0,Rd.Z9 h1,Rd.Z9 h2,Rd.Z9 h3,Rd.Z9 h4,Rd.Z9 h5]
theorem RV.a1x{M:Mm}{w:World}{o:Ob}{A:Option Addr}{n c:Nat}(h:Rd M.F w (.slice A n c) (.row (o.pair.map Ob.enc))):RV M w (x9 o) (N7 o (.slice A n c)) :=
 ⟨_,rfl,_,_,rfl,.val _,_,_,rfl,.val _,_,_,rfl,.val _,_,_,rfl,.val _,_,_,rfl,.val _,_,_,rfl,.val _,_,_,rfl,h,rfl⟩
theorem RL.zC{M:Mm}{w:World}{o:Ob}{vs:List Value}(h:RL M w [x9 o] vs):∃A n c,vs=[N7 o (.slice A n c)]∧Rd M.F w (.slice A n c) (.row (o.pair.map Ob.enc)):=by
 obtain⟨u,us,rfl,h1,rfl⟩:=h;obtain⟨A,n,c,rfl,h⟩:=h1.obj;exact⟨A,n,c,rfl,h⟩
theorem RL.wP{M:Mm}{w:World}{o o':Ob}{vs:List Value}(h:RL M w [x9 o,x9 o'] vs):∃A n c A' n' c',vs=[N7 o (.slice A n c),N7 o' (.slice A' n' c')]∧Rd M.F w (.slice A n c) (.row (o.pair.map Ob.enc))∧Rd M.F w (.slice A' n' c') (.row (o'.pair.map Ob.enc)):=by
 obtain⟨u,us,rfl,h1,h2⟩:=h;obtain⟨A,n,c,rfl,h⟩:=h1.obj;obtain⟨A',n',c',rfl,h'⟩:=RL.zC h2;exact⟨A,n,c,A',n',c',rfl,h,h'⟩
theorem RL.iD{M:Mm}{w:World}{u:Value}{vs:List Value}(h:RL M w [.dt (.val u)] vs):vs=[u]:=by
 obtain⟨x,us,rfl,h1,rfl⟩:=h;rw[Rd.Z9 h1]
theorem nT.pure{ok:Nat→Prop}{r:Ob}{w w':World}{e:Ending}(h:nT ok r w e w'):∃v,e=.returned v∧Below w.heap.size w w'∧RV (M0 fun b=>ok b∨w.heap.size≤b) w' (x9 r) v:=by
 obtain⟨A,n,c,rfl,h1,h2⟩:=h;exact⟨_,rfl,h2,RV.a1x h1⟩
theorem P6.pure{ok:Nat→Prop}{r:Value}{w w':World}{e:Ending}(h:P6 r w e w'):∃v,e=.returned v∧Below w.heap.size w w'∧RV (M0 fun b=>ok b∨w.heap.size≤b) w' (.dt (.val r)) v:=by
 obtain⟨rfl,h2⟩:=h;exact⟨_,rfl,h2,.val _⟩
abbrev Fn(f:FuncId):Prop:=∃fn,prog.funcs[f]?=some fn∧fn.body.isNone=false∧(fn.name == "runtime.NumGoroutine")=false
theorem uN{f:FuncId}(hf:Fn f){o:Ob}{r:Value}(h:∀(ok:Nat→Prop) (A:Option Addr) (n c:Nat) (w:World),Tab w→Rd ok w (.slice A n c) (.row (o.pair.map Ob.enc))→Calls prog f #[N7 o (.slice A n c)] w (P6 r w)):l7 f [x9 o] (.dt (.val r)) :=
 ⟨hf,fun ok w vs ht hv=>by
  obtain⟨A,n,c,rfl,hr⟩:=hv.zC;exact (h ok A n c w ht.1 hr).mono fun _ _=>P6.pure⟩
theorem a0b{f:FuncId}(hf:Fn f){o o' r:Ob}(h:∀(ok:Nat→Prop) (A A':Option Addr) (n c n' c':Nat) (w:World),Tab w→Rd ok w (.slice A n c) (.row (o.pair.map Ob.enc))→Rd ok w (.slice A' n' c') (.row (o'.pair.map Ob.enc))→Calls prog f #[N7 o (.slice A n c),N7 o' (.slice A' n' c')] w (nT ok r w)):l7 f [x9 o,x9 o'] (x9 r) :=
 ⟨hf,fun ok w vs ht hv=>by
  obtain⟨A,n,c,A',n',c',rfl,hr,hr'⟩:=hv.wP;exact (h ok A A' n c n' c' w ht.1 hr hr').mono fun _ _=>nT.pure⟩
theorem a1y{f:FuncId}{fn:Func}(hf:prog.funcs[f]?=some fn)(hn:(fn.name == "runtime.NumGoroutine")=false){args:List AV}{an:List An}{ls:List LA}{r:AV}{ps:List Prop}(h:Ef EX fn args an ls=some (r,ps))(hp:I5 ps):l7 f args r :=
 b44 (E:=EX) (fun _ _ h hb=>h.below hb) hf hn h hp
noncomputable abbrev H9(n:Nat):En:=⟨prog,Gx,SX,YM,mixed,n⟩
abbrev F7(f:FuncId)(args:List AV)(xs:List (Option Bx))(r:AV)(xs':List (Option Bx)):Prop:=bP prog Gx f args xs r xs'
theorem psw{n:Nat}{f:FuncId}{fn:Func}(hf:prog.funcs[f]?=some fn)(hn:(fn.name == "runtime.NumGoroutine")=false){args:List AV}{xs:List (Option Bx)}{ks:List Nat}{an:List An}{ls:List LA}{r:AV}{xs':List (Option Bx)}{ps:List Prop}(h:IL (H9 n) fn args xs ks an ls=some (.I4,⟨[r],xs'⟩,ps))(hp:I5 ps):F7 f args xs r xs' :=
 b2V (E:=H9 n) hf hn h hp
theorem c1P{c:Code}{s s':AS}{an:List An}{ls:List LA}{ft:List Nat}{nb:Nat}{e:AE}{ps:List Prop}(h:IK EX c s an ls ft nb=some (e,s',ps))(hp:I5 ps):D7 EX c s e s':=tw h hp
theorem pW(an:List An)(ls:List LA)(ps:List Prop){f:FuncId}{fn:Func}{args:List AV}{r:AV}(hf:prog.funcs[f]?=some fn)(hp:I5 ps)(hn:(fn.name == "runtime.NumGoroutine")=false:=by kernel_rfl)(h:Ef EX fn args an ls=some (r,ps):=by kernel_rfl):l7 f args r:=a1y hf hn h hp
theorem pV(an:List An)(ps:List Prop){f:FuncId}{fn:Func}{args:List AV}{r:AV}(hf:prog.funcs[f]?=some fn)(hp:I5 ps)(hn:(fn.name == "runtime.NumGoroutine")=false:=by kernel_rfl)(h:Ef EX fn args an []=some (r,ps):=by kernel_rfl):l7 f args r:=a1y hf hn h hp
theorem sW(n:Nat)(ks:List Nat)(an:List An)(ls:List LA)(ps:List Prop){f:FuncId}{fn:Func}{args:List AV}{xs xs':List (Option Bx)}{r:AV}(hf:prog.funcs[f]?=some fn)(hp:I5 ps)(hn:(fn.name == "runtime.NumGoroutine")=false:=by kernel_rfl)(h:IL (H9 n) fn args xs ks an ls=some (.I4,⟨[r],xs'⟩,ps):=by kernel_rfl):F7 f args xs r xs':=psw hf hn h hp
theorem tW{E:En}{c:Code}{s s':AS}{e:AE}(an:List An)(ls:List LA)(ft:List Nat)(nb:Nat)(ps:List Prop)(hp:I5 ps)(h:IK E c s an ls ft nb=some (e,s',ps):=by kernel_rfl):D7 E c s e s':=tw h hp
abbrev nK:Nat→List An→List An
 |0,l=>l
 |n+1,l=>.no::nK n l
noncomputable abbrev Bt(o:BinOp)(t A B:Nat)(x y:Int)(r:Value):Prop:=Bn o t (.tmp A) (.tmp B) (vi x) (vi y) r
noncomputable abbrev Bk(o:BinOp)(t A:Nat)(k x:Int)(r:Value):Prop:=Bn o t (.tmp A) (.const (vi k)) (vi x) (vi k) r
noncomputable abbrev Bs(o:BinOp)(t A B:Nat)(x y:aa0)(r:Value):Prop:=Bn o t (.tmp A) (.tmp B) (str x) (str y) r
noncomputable abbrev Bl(o:BinOp)(t A:Nat)(l x:aa0)(r:Value):Prop:=Bn o t (.tmp A) (.const (str l)) (str x) (str l) r
noncomputable abbrev Bu(o:BinOp)(t A:Nat)(k x:Int)(r:Value):Prop:=Bn o t (.tmp A) (.const (Value.int .u8 k)) (Value.int .u8 x) (Value.int .u8 k) r
theorem V8{f:FuncId}{fn:Func}(hf:prog.funcs[f]?=some fn)(hb:fn.body.isNone=false)(hn:(fn.name == "runtime.NumGoroutine")=false):Fn f:=⟨fn,hf,hb,hn⟩
theorem l7.val{f:FuncId}{args:List AV}{a b:AV}(h:l7 f args a)(e:a=b):l7 f args b:=e ▸ h
theorem l7.b{f:FuncId}{args:List AV}{a b:Bool}(h:l7 f args (o6 a))(e:a=b):l7 f args (o6 b):=e ▸ h
def Tr.isC:Tr→Bool
 |.cons _ _=>true
 |_=>false
abbrev o9(t:Tr):AV:=x9 t.ob
abbrev D9(o:Ob):List Dt:=[.val (.int .i64 o.kind),.val (str o.num),.val (str o.den),.val (str o.sp),.val (str o.sn),.val (str o.text),.row (o.pair.map Ob.enc)]
theorem Jy(o:Ob):o.enc=D9 o:=Ob.pO o
theorem IM{l:List Ob}{i:Nat}{o:Ob}(h:l[i]?=some o):E5 (l.map Ob.enc) (i:Int) 7 (D9 o):=⟨Int.natCast_nonneg _,by
 rw[Int.toNat_natCast,Zag,h];exact congrArg some (Jy o),rfl⟩
theorem jZ.pure{ok:Nat→Prop}{p:Prop}[Decidable p]{w w':World}{e:Ending}(h:jZ p w e w'):∃v,e=.returned v∧Below w.heap.size w w'∧RV (M0 fun b=>ok b∨w.heap.size≤b) w' (o6 (decide p)) v:=by
 obtain⟨b,rfl,hb,h2⟩:=h;refine⟨_,rfl,h2,?_⟩;rw[show decide p=b by cases b <;> simp_all]
 exact .val _
theorem jZ.iff{p q:Prop}(h:p↔q){w w':World}{e:Ending}(hr:jZ p w e w'):jZ q w e w':=by
 obtain⟨b,h1,h2,h3⟩:=hr;exact⟨b,h1,h2.trans h,h3⟩
theorem aI.pure{ok:Nat→Prop}{r:Ob}{w w':World}{e:Ending}(hp:r.pair=[])(h:aI r w e w'):∃v,e=.returned v∧Below w.heap.size w w'∧RV (M0 fun b=>ok b∨w.heap.size≤b) w' (x9 r) v:=nT.pure (ok:=ok) (h.obj hp)
theorem uD.pure{ok:Nat→Prop}{q:Rat}{w w':World}{e:Ending}(h:uD q w e w'):∃v,e=.returned v∧Below w.heap.size w w'∧RV (M0 fun b=>ok b∨w.heap.size≤b) w' (o9 (.num q)) v:=by
 obtain⟨A,c,rfl,h2⟩:=h;exact⟨_,rfl,h2,RV.a1x (o:=ax q) (.nil _ _)⟩
theorem YN(a d:Ob):l7 167 [x9 a,x9 d] (x9 (jY a d)) :=
 a0b (V8 func167 rfl (by kernel_rfl)) fun ok A A' n c n' c' w _ h h'=>a6K ok a d A A' n n' c c' w h h'
theorem b46{k:Nat}{a:Tr}(b:Tr)(ha:a.Ok k)(hk:k≤100000):l7 112 [o9 a,o9 b] (o6 (decide (a=b))) :=
 ⟨V8 func112 rfl (by kernel_rfl),fun ok w vs ht hv=>by
  obtain⟨A,n,c,A',n',c',rfl,hr,hr'⟩:=hv.wP;exact (VE ok ok a.ob.size a.ob b.ob (NE _) (ha.wf hk) A A' n n' c c' w hr hr').mono fun e w' h=>(jZ.iff Tr.Dx h).pure⟩
theorem uq{k:Nat}{t:Tr}(h:t.Ok k)(hk:k≤100000):l7 175 [o9 t] (o6 t.valid) :=
 uN (V8 func175 rfl (by kernel_rfl)) fun ok A n c w ht hr=>by
  rw[←Tr.WG];exact a6l ok t.ob (h.wf hk) (h.sm hk) A n c w ht hr
theorem Ik(a d:Ob):l7 69 [x9 a,x9 d] (x9 (jY a d)) :=
 a0b (V8 func69 rfl (by kernel_rfl)) fun ok A A' n c n' c' w _ h h'=>WC ok a d A A' n n' c c' w h h'
theorem b47{k:Nat}{a:Tr}(b:Tr)(ha:a.Ok k)(hk:k≤100000):l7 50 [o9 a,o9 b] (o6 (decide (a=b))) :=
 ⟨V8 func50 rfl (by kernel_rfl),fun ok w vs ht hv=>by
  obtain⟨A,n,c,A',n',c',rfl,hr,hr'⟩:=hv.wP;exact (Nu ok ok a.ob.size a.ob b.ob (NE _) (ha.wf hk) A A' n n' c c' w hr hr').mono fun e w' h=>(jZ.iff Tr.Dx h).pure⟩
theorem a8k{k:Nat}{a b:Tr}(ha:a.Ok k)(hb:b.Ok k)(h1:1≤k)(hk:k≤10000):l7 154 [o9 a,o9 b] (o6 (decide (a.val < b.val))) :=
 ⟨V8 func154 rfl (by kernel_rfl),fun ok w vs ht hv=>by
  obtain⟨A,n,c,A',n',c',rfl,hr,hr'⟩:=hv.wP;have e1:=hr.len;have e2:=hr'.len;rw[EQ]at e1 e2;exact (a6Q a.ob b.ob a.val b.val a.IE b.IE (ha.val h1) (hb.val h1) hk hk A A' n n' c c' e1 e2 w ht.1).mono fun _ _=>P6.pure⟩
theorem W9{k:Nat}{t:Tr}(h:t.Ok k)(hk:k≤100000):l7 118 [o9 t] (o6 t.valid) :=
 uN (V8 func118 rfl (by kernel_rfl)) fun ok A n c w ht hr=>by
  rw[←Tr.WG];exact VK ok t.ob (h.wf hk) (h.sm hk) A n c w hr
theorem zN(n:Int)(h0:-9223372036854775808≤n)(h1:n≤9223372036854775807):l7 46 [inA n] (o9 (.num n)) :=
 ⟨V8 func46 rfl (by kernel_rfl),fun ok w vs ht hv=>by
  obtain rfl:=hv.iD;exact (Xi n w ht.1 h0 h1).mono fun _ _ h=>aI.pure (r:=(Tr.num n).ob) rfl (by
   show aI (ax n) _ _ _;rw[Og];exact h)⟩
theorem zQ(n:Int)(h0:-9223372036854775808≤n)(h1:n≤9223372036854775807):l7 12 [inA n] (o9 (.num n)) :=
 ⟨V8 func12 rfl (by kernel_rfl),fun ok w vs ht hv=>by
  obtain rfl:=hv.iD;exact (Xn n w ht.1 h0 h1).mono fun _ _ h=>aI.pure (r:=(Tr.num n).ob) rfl h⟩
theorem yV(o:Ob)(hn:o.pair.length≤9223372036854775807):l7 102 [x9 o] (o6 (decide (o.kind=4∧o.pair.length=2))) :=
 uN (V8 func102 rfl (by kernel_rfl)) fun ok A n c w _ hr=>by
  have e1:=hr.len;rw[EQ]at e1;rw[e1];exact a5I o A n c w J
theorem a8l(a b:aa0):(⟨a.toArray⟩:ByteArray)++⟨b.toArray⟩=⟨(a++b).toArray⟩:=by
 apply ByteArray.ext;rw[ByteArray.data_append];simp
theorem Hz{P:Program}{t:TypeId}{x y:Operand}{a b:aa0}(h:a.length+b.length≤9223372036854775807):dS P .add t x y (str a) (str b) (str (a++b)):=by
 have:=b0f (P:=P) (t:=t) (x:=x) (y:=y) (a:=⟨a.toArray⟩) (b:=⟨b.toArray⟩) (by
  show ((a.toArray.size+b.toArray.size:Nat):Int)≤9223372036854775807;simp only[List.size_toArray];omega)
 rw[a8l]at this;exact this
theorem VR(a:aa0):(⟨a.toArray⟩:ByteArray).toList=a:=by
 rw[Zb2]
theorem BA{α:Type}[BEq α][LawfulBEq α][DecidableEq α](a b:α):(a == b)=decide (a=b):=by
 by_cases h:a=b <;> simp[h]
theorem L6{P:Program}{t:TypeId}{x y:Operand}{a b:aa0}{r:Bool}(h:decide (a=b)=r):dS P .eql t x y (str a) (str b) (.bool r):=by
 refine kV ?_;show some (Value.bool (a == b))=_;rw[←h,BA a b]
theorem OT{P:Program}{t:TypeId}{x y:Operand}{a b:aa0}{r:Bool}(h:decide (a=b)=!r):dS P .neq t x y (str a) (str b) (.bool r):=by
 refine kV ?_;show some (Value.bool !(a == b))=_;rw[BA a b,h,Bool.not_not]
theorem F6{P:Program}{t:TypeId}{x y:Operand}{k:IntKind}{a b:Int}{r:Bool}(h:decide (a=b)=r):dS P .eql t x y (.int k a) (.int k b) (.bool r):=by
 refine kV ?_;simp only[lF,decide_true];rw[BA a b,h]
theorem F8{P:Program}{t:TypeId}{x y:Operand}{k:IntKind}{a b:Int}{r:Bool}(h:decide (a < b)=r):dS P .lss t x y (.int k a) (.int k b) (.bool r):=by
 refine kV ?_;simp only[lF,decide_true];rw[h]
theorem dA{P:Program}{t:TypeId}{x y:Operand}{k:IntKind}{a b:Int}{r:Bool}(h:decide (b < a)=r):dS P .gtr t x y (.int k a) (.int k b) (.bool r):=by
 refine kV ?_;simp only[lF,decide_true,gt_iff_lt];rw[h]
theorem Z7{P:Program}{t:TypeId}{x y:Operand}{k:IntKind}{a b:Int}{r:Bool}(h:decide (b≤a)=r):dS P .geq t x y (.int k a) (.int k b) (.bool r):=by
 refine kV ?_;simp only[lF,decide_true,ge_iff_le];rw[h]
theorem N8{P:Program}{t:TypeId}{x y:Operand}{a b c:Int}(h:a+b=c)(h0:-9223372036854775808≤c)(h1:c≤9223372036854775807):dS P .add t x y (.int .i64 a) (.int .i64 b) (.int .i64 c):=by
 refine kV ?_;simp only[lF,decide_true];rw[h,show IntKind.i64.wrap c=c by rw[IntKind.wrap_i64];omega]
theorem dO{P:Program}{t:TypeId}{x y:Operand}{a b c:Int}(h:a - b=c)(h0:-9223372036854775808≤c)(h1:c≤9223372036854775807):dS P .sub t x y (.int .i64 a) (.int .i64 b) (.int .i64 c):=by
 refine kV ?_;simp only[lF,decide_true];rw[h,show IntKind.i64.wrap c=c by rw[IntKind.wrap_i64];omega]
namespace Ob
mutual
def yg:Ob→Ob→Bool
 |⟨k,n,d,p,s,t,l⟩,⟨k',n',d',p',s',t',l'⟩=>decide (k=k') && decide (n=n') && decide (d=d') && decide (p=p') && decide (s=s') && decide (t=t') && jG l l'
def jG:List Ob→List Ob→Bool
 |[],[]=>true
 |a::l,b::l'=>yg a b && jG l l'
 |[],_::_=>false
 |_::_,[]=>false
end
mutual
theorem Dh:∀a b:Ob,yg a b=true↔a=b
 |⟨k,n,d,p,s,t,l⟩,⟨k',n',d',p',s',t',l'⟩=>by
  rw[yg];simp only[AC,Za3,CU l l',Ob.mk.injEq,and_assoc]
theorem CU:∀a b:List Ob,jG a b=true↔a=b
 |[],[]=>by simp[jG]
 |a::l,b::l'=>by
  rw[jG];simp only[AC,Dh a b,CU l l',List.cons.injEq]
 |[],_::_=>by simp[jG]
 |_::_,[]=>by simp[jG]
end
end Ob
instance:DecidableEq Ob:=fun a b=>decidable_of_iff _ (Ob.Dh a b)
abbrev sameD{α:Type}[DecidableEq α](a b:α):Bool:=decide (a=b)
structure Te where
 kind:Int
 np:aa0
 nn:aa0
 val:Ob
 args:List Te
namespace Te
mutual
def enc:Te→List Dt
 |⟨k,p,n,o,l⟩=>[.val (.int .i64 k),.val (str p),.val (str n),.val (.int .i64 o.kind),.val (str o.num),.val (str o.den),.val (str o.sp),.val (str o.sn),.val (str o.text),.row (o.pair.map Ob.enc),.row (mG l)]
def mG:List Te→aa1
 |[]=>[]
 |t::r=>enc t::mG r
end
mutual
def size:Te→Nat
 |⟨_,_,_,_,l⟩=>iF l+1
def iF:List Te→Nat
 |[]=>0
 |t::r=>size t+iF r
end
mutual
def yg:Te→Te→Bool
 |⟨k,p,n,o,l⟩,⟨k',p',n',o',l'⟩=>decide (k=k') && decide (p=p') && decide (n=n') && decide (o=o') && jG l l'
def jG:List Te→List Te→Bool
 |[],[]=>true
 |a::l,b::l'=>yg a b && jG l l'
 |[],_::_=>false
 |_::_,[]=>false
end
mutual
theorem Dh:∀a b:Te,yg a b=true↔a=b
 |⟨k,p,n,o,l⟩,⟨k',p',n',o',l'⟩=>by
  rw[yg];simp only[AC,Za3,CU l l',Te.mk.injEq,and_assoc]
theorem CU:∀a b:List Te,jG a b=true↔a=b
 |[],[]=>by simp[jG]
 |a::l,b::l'=>by
  rw[jG];simp only[AC,Dh a b,CU l l',List.cons.injEq]
 |[],_::_=>by simp[jG]
 |_::_,[]=>by simp[jG]
end
instance:DecidableEq Te:=fun a b=>decidable_of_iff _ (Dh a b)
theorem a8m(l:List Te):mG l=l.map enc:=by
 induction l with
 |nil=>rfl
 |cons t r ih=>rw[mG,ih];rfl
theorem size_pos(t:Te):0 < t.size:=by cases t;rw[size];omega
theorem WQ{l:List Te}{t:Te}(h:t∈l):t.size≤iF l:=by
 induction l with
 |nil=>cases h
 |cons x r ih =>
  rw[iF];rcases Zao.1 h with rfl | h
  ·omega
  ·have:=ih h;omega
theorem Ci{t x:Te}(h:x∈t.args):x.size < t.size:=by
 obtain⟨k,p,n,o,l⟩:=t;rw[size];have:=WQ (l:=l) h;omega
inductive Wf:Te→Prop
 |mk (t:Te) (hv:t.val.Wf) (hl:t.args.length≤9223372036854775807) (h:∀x∈t.args,Wf x):Wf t
end Te
abbrev C9(t:Te):List Dt:=[.val (.int .i64 t.kind),.val (str t.np),.val (str t.nn),.val (.int .i64 t.val.kind),.val (str t.val.num),.val (str t.val.den),.val (str t.val.sp),.val (str t.val.sn),.val (str t.val.text),.row (t.val.pair.map Ob.enc),.row (t.args.map Te.enc)]
theorem xg(t:Te):t.enc=C9 t:=by
 obtain⟨k,p,n,o,l⟩:=t;rw[Te.enc,Te.a8m]
abbrev y9(t:Te):AV:=.agg [inA t.kind,stA t.np,stA t.nn,inA t.val.kind,stA t.val.num,stA t.val.den,stA t.val.sp,stA t.val.sn,stA t.val.text,.dt (.row (t.val.pair.map Ob.enc)),.dt (.row (t.args.map Te.enc))]
abbrev O3(l:List Te):AV:=.dt (.row (l.map Te.enc))
theorem Y9{l:List Te}{i:Nat}{t:Te}(h:l[i]?=some t):E5 (l.map Te.enc) (i:Int) 11 (C9 t):=⟨Int.natCast_nonneg _,by
 rw[Int.toNat_natCast,Zag,h];exact congrArg some (xg t),rfl⟩
theorem O6(l:List Te):Value.int .i64 (l.length:Int)=Value.int .i64 ((l.map Te.enc).length:Int):=by rw[EQ]
abbrev df(c:List Te):List Dt:=[.row (c.map Te.enc)]
abbrev xE(l:List (List Te)):AV:=.dt (.row (l.map df))
namespace Te
abbrev V9:Ob:=⟨0,[],[],[],[],[],[]⟩
abbrev N9:Te:=⟨0,[],[],V9,[]⟩
def ap(n:aa0)(l:List Te):Te:=⟨3,x8,n,V9,l⟩
abbrev is(t:Te)(n:aa0)(k:Nat):Prop:=t.kind=3∧t.np=x8∧t.nn=n∧t.args.length=k
abbrev O8:aa0:=[110,111,116]
abbrev Q7:aa0:=[105,102]
def G9(o:Ob):Te:=⟨2,[],[],o,[]⟩
abbrev G8:Te:=G9 tO
abbrev noT:Te:=G9 U6
abbrev arg(t:Te)(i:Nat):Te:=t.args.getD i N9
def neg(t:Te):Te:=if is t O8 1 then t.arg 0 else ap O8 [t]
end Te
open Te
def addN(out:List Te):List Te→List Te
 |[]=>out
 |t::r=>addN (if t∈out then out else out++[t]) r
end Go.Proofs.YthhknjlmjefklaaGreatDoor
namespace Go.Proofs.YthhknjlmjefklaaGreatDoor
open Go.Proofs.Tryz
open Go.RowKit
namespace Te
mutual
def jH:Te→Nat
 |⟨k,_,_,o,l⟩=>if k=2 then o.nodes else if k=3 then Eg l+1 else 1
def Eg:List Te→Nat
 |[]=>0
 |x::r=>jH x+Eg r
end
mutual
def dep:Te→Nat
 |⟨k,_,_,_,l⟩=>if k=3 then EM l+1 else 1
def EM:List Te→Nat
 |[]=>0
 |x::r=>max (dep x) (EM r)
end
mutual
def cnt:Te→Int→Int
 |⟨k,_,_,o,l⟩,m=>if k=2 then min m (aC o) else if k=3 then mM l m 1 else 1
def mM:List Te→Int→Int→Int
 |[],_,n=>n
 |x::r,m,n=>if n < m then mM r m (n+cnt x (m - n)) else n
end
mutual
def vH:Te→Int→Int
 |⟨k,_,_,_,l⟩,m=>if k=3 then mO l m 0+1 else 1
def mO:List Te→Int→Int→Int
 |[],_,d=>d
 |x::r,m,d=>if 1 < m then mO r m (max d (vH x (m - 1))) else d
end
theorem Nw(o:Ob):aC o=((min o.nodes 3001:Nat):Int):=by unfold aC;split <;> omega
theorem b0q(t:Te):1≤t.dep:=by obtain⟨k,p,n,o,l⟩:=t;rw[dep];split <;> omega
mutual
theorem OU:∀(t:Te) (m:Int),1≤m→m≤3001→cnt t m=min m (jH t)
 |⟨k,p,n,o,l⟩,m,h1,h2=>by
  rw[cnt,jH,Nw];by_cases h:k=2
  ·rw[Za0 h,Za0 h];omega
  rw[lw h,lw h];by_cases h:k=3
  ·rw[Za0 h,Za0 h];have:=Xy l m 1 J J J;omega
  ·rw[lw h,lw h];omega
theorem Xy:∀(l:List Te) (m n:Int),1≤n→n≤m→m≤3001→mM l m n=min m (n+Eg l)
 |[],m,n,h1,h2,h3=>by rw[mM,Eg];omega
 |x::r,m,n,h1,h2,h3=>by
  rw[mM,Eg];by_cases h:n < m
  ·rw[Za0 h];have a:=OU x (m - n) J J;have b:=Xy r m (n+cnt x (m - n)) J J h3;omega
  ·rw[lw h];omega
end
mutual
theorem OV:∀(t:Te) (m:Int),1≤m→vH t m=min m (dep t)
 |⟨k,p,n,o,l⟩,m,h1=>by
  rw[vH,dep];by_cases h:k=3
  ·rw[Za0 h,Za0 h];have:=Xz l m 0 h1 J J;omega
  ·rw[lw h,lw h];omega
theorem Xz:∀(l:List Te) (m d:Int),1≤m→0≤d→d≤m - 1→mO l m d=min (m - 1) (max d (EM l))
 |[],m,d,h1,h2,h3=>by rw[mO,EM];omega
 |x::r,m,d,h1,h2,h3=>by
  rw[mO,EM];by_cases h:1 < m
  ·rw[Za0 h];have a:=OV x (m - 1) J;have b:=Xz r m (max d (vH x (m - 1))) h1 J J;omega
  ·rw[lw h];omega
end
def AO(p n:aa0):Bool:=Y8 ⟨p,n⟩ && !(decide (p=x8) && decide (n=aQ)) && !(decide (p=x8) && decide (n=[116]))
mutual
def vI:Te→Bool
 |⟨k,p,n,o,l⟩ =>
  if k=1 then AO p n && decide (o=V9) && decide (l.length=0)
  else if k=2 then (decide (p=[]) && decide (n=[])) && o.pU && decide (l.length=0)
  else if k=3 then Y8 ⟨p,n⟩ && decide (o=V9) && decide (l.length≤8) && uX l
  else false
def uX:List Te→Bool
 |[]=>true
 |x::r=>vI x && uX r
end
def valid(t:Te):Bool:=decide (t.jH≤3000) && decide (t.dep≤200) && t.vI
inductive Bd:Te→Prop
 |mk (t:Te) (hv:t.val.Wf) (hs:t.val.Sm) (hp:t.np.length≤9223372036854775807) (hn:t.nn.length≤9223372036854775807) (hl:t.args.length≤9223372036854775807) (h:∀x∈t.args,Bd x):Bd t
theorem Bd.parts{t:Te}(h:t.Bd):t.val.Wf∧t.val.Sm∧t.np.length≤9223372036854775807∧t.nn.length≤9223372036854775807∧t.args.length≤9223372036854775807:=by cases h with | mk _ hv hs hp hn hl hh=>exact⟨hv,hs,hp,hn,hl⟩
theorem Bd.kids{t x:Te}(h:t.Bd)(hx:x∈t.args):x.Bd:=by cases h with | mk _ hv hs hp hn hl hh=>exact hh x hx
end Te
end Go.Proofs.YthhknjlmjefklaaGreatDoor
