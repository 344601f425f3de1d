/- Plain values for a walk, second form: boxes, growing rows (buffers) and maps of the call's own, or handed in by pointer; what a value stands for; steps of the memory. -/
import Derived.Test.YtbpmpdadppamgaaGreatDoorGB
import Derived.Test.YtbpmpdadppamgaaGreatDoorGH
import Derived.Laws.CopyRow
import Derived.Laws.Cells
import Derived.Great.BuildSlice
namespace Go.Proofs.YtbpmpdadppamgaaGreatDoor
open Go.RowKit
inductive AV where
 |dt (d:Dt)
 |nil
 |ax (es:aa0)
 |own (b n:Nat)
 |sl (b n:Nat)
 |Q5 (b:Nat)
 |ptr (b off:Nat)
 |df (b i k:Nat)
 |gl (g off:Nat)
 |pin (cs:List AV)
 |agg (cs:List AV)
 |l7 (cs:List AV)
 |dm (f:FuncId) (cs:List AV)
 |au (f:FuncId) (cs:List AV)
 |un
namespace AV
def one:AV→Bool
 |.dt d=>d.one
 |.agg _=>false
 |.l7 _=>false
 |.un=>false
 |_=>true
def cells:AV→List AV
 |.agg cs=>cs
 |x=>[x]
end AV
structure Mm where
 m:Nat→Option Nat
 F:Nat→Prop
 o:Nat→Option (Option Addr×Nat×Nat)
abbrev M0(F:Nat→Prop):Mm:=⟨fun _=>none,F,fun _=>none⟩
mutual
def RV:Mm→World→AV→Value→Prop
 |M,w,.dt d,v=>Rd M.F w v d
 |_,_,.nil,v=>v=.slice none 0 0
 |M,w,.ax es,v=>∃A,v=.slice A es.length es.length∧Rd M.F w v (.row es)
 |M,_,.own b n,v=>∃A c A' n' c',v=.slice A n c∧M.o b=some (A',n',c')∧n≤n'∧(n=n'→A=A'∧c=c')
 |M,_,.sl b n,v=>∃g,M.m b=some g∧v=.slice (some ⟨g,0,none⟩) n n
 |M,_,.Q5 b,v=>∃g,M.m b=some g∧v=.map (some g)
 |M,_,.ptr b off,v=>∃g,M.m b=some g∧v=.pointer (some ⟨g,off,none⟩)
 |M,_,.df b i k,v=>∃g,M.m b=some g∧v=.pointer (some ⟨g,i * k,none⟩)
 |_,_,.gl g off,v=>v=.pointer (some ⟨g,off,none⟩)
 |M,w,.pin cs,v=>∃g o vs,v=.pointer (some ⟨g,o,none⟩)∧M.F g∧g < w.heap.size∧(∀(j:Nat) u,vs[j]?=some u→w.cell? ⟨g,o+j,none⟩=some u)∧RL (M0 M.F) w cs vs
 |M,w,.agg cs,v=>∃vs,v=.agg vs.toArray∧RL M w cs vs
 |M,w,.l7 cs,v=>∃vs,v=.tuple vs.toArray∧RL M w cs vs
 |M,w,.dm f cs,v=>∃vs,v=.func (.func f) #[] vs.toArray∧RL M w cs vs
 |M,w,.au f cs,v=>∃vs,v=.func (.func f) #[] vs.toArray∧RL (M0 M.F) w cs vs
 |_,_,.un,_=>True
def RL:Mm→World→List AV→List Value→Prop
 |_,_,[],vs=>vs=[]
 |M,w,c::cs,vs=>∃u us,vs=u::us∧RV M w c u∧RL M w cs us
end
structure W9 (X:Nat→Prop) (B:Nat) (w w':World):Prop where
 os:w'.os=w.os
 tape:w'.tape=w.tape
 output:w'.output=w.output
 size:w.heap.size≤w'.heap.size
 block:∀k,k < B→¬X k→w'.heap[k]?=w.heap[k]?
theorem W9.refl(X:Nat→Prop)(B:Nat)(w:World):W9 X B w w:=⟨rfl,rfl,rfl,PP _,fun _ _ _=>rfl⟩
theorem W9.trans{X:Nat→Prop}{B:Nat}{a b c:World}(h:W9 X B a b)(k:W9 X B b c):W9 X B a c :=
 ⟨k.os.trans h.os,k.tape.trans h.tape,k.output.trans h.output,pu h.size k.size,fun i hi hx=>(k.block i hi hx).trans (h.block i hi hx)⟩
theorem W9.of{X:Nat→Prop}{B:Nat}{w w':World}(h:Below B w w'):W9 X B w w':=⟨h.os,h.tape,h.output,h.size,fun k hk _=>h.block k hk⟩
theorem W9.below{B:Nat}{w w':World}(h:W9 (fun _=>False) B w w'):Below B w w':=⟨h.os,h.tape,h.output,h.size,fun k hk=>h.block k hk id⟩
theorem W9.mono{X X':Nat→Prop}{B B':Nat}{w w':World}(h:W9 X B w w')(hB:B'≤B)(hX:∀k,k < B'→X k→X' k):W9 X' B' w w' :=
 ⟨h.os,h.tape,h.output,h.size,fun k hk hx=>h.block k J fun hk'=>hx (hX k hk hk')⟩
structure P5 (X:Nat→Prop) (n0:Nat) (M:Mm) (w:World) (M':Mm) (w':World):Prop where
 below:W9 X n0 w w'
 keep:∀b,M.F b→b < w.heap.size→w'.heap[b]?=w.heap[b]?
 F:∀b,M.F b→b < w.heap.size→M'.F b
 m:∀k g,M.m k=some g→M'.m k=some g
 o:∀b A n c,M.o b=some (A,n,c)→∃A' n' c',M'.o b=some (A',n',c')∧n≤n'∧(n=n'→A'=A∧c'=c)
theorem nI{M M':Mm}{b:Nat}(h:M'.o b=M.o b):∀A n c,M.o b=some (A,n,c)→∃A' n' c',M'.o b=some (A',n',c')∧n≤n'∧(n=n'→A'=A∧c'=c) :=
 fun A n c e=>⟨A,n,c,h.trans e,PP _,fun _=>⟨rfl,rfl⟩⟩
theorem P5.refl(X:Nat→Prop)(n0:Nat)(M:Mm)(w:World):P5 X n0 M w M w:=⟨W9.refl _ _ _,fun _ _ _=>rfl,fun _ h _=>h,fun _ _ h=>h,fun _=>nI rfl⟩
theorem TF{w w':World}{a:Addr}(h:w'.heap[a.block]?=w.heap[a.block]?):w'.cell? a=w.cell? a:=by
 unfold World.cell?;rw[h]
theorem P5.trans{X:Nat→Prop}{n0:Nat}{M M' M2:Mm}{w w' w2:World}(g:P5 X n0 M w M' w')(h:P5 X n0 M' w' M2 w2):P5 X n0 M w M2 w2 :=
 ⟨g.below.trans h.below,fun b hb hl=>(h.keep b (g.F b hb hl) (kw hl g.below.size)).trans (g.keep b hb hl),fun b hb hl=>h.F b (g.F b hb hl) (kw hl g.below.size),fun k q hq=>h.m k q (g.m k q hq),fun b A n c e=>by
  obtain⟨A1,n1,c1,e1,l1,h1⟩:=g.o b A n c e;obtain⟨A2,n2,c2,e2,l2,h2⟩:=h.o b A1 n1 c1 e1;refine⟨A2,n2,c2,e2,pu l1 l2,fun e3=>?_⟩;obtain⟨rfl,rfl⟩:=h1 J;obtain⟨rfl,rfl⟩:=h2 J;exact⟨rfl,rfl⟩⟩
theorem P5.flat{X:Nat→Prop}{n0:Nat}{M M':Mm}{w w':World}(g:P5 X n0 M w M' w'):P5 X n0 (M0 M.F) w (M0 M'.F) w':=⟨g.below,g.keep,g.F,(fun _ _ h=>by cases h),(fun _ _ _ _ h=>by cases h)⟩
theorem Rd.go{X:Nat→Prop}{n0:Nat}{M M':Mm}{w w':World}{v:Value}{d:Dt}(g:P5 X n0 M w M' w')(h:Rd M.F w v d):Rd M'.F w' v d :=
 (h.mono (ok':=fun b=>M.F b∧M'.F b) fun b hb hl=>⟨hb,g.F b hb hl⟩).keep g.below.size (fun b hb hl=>g.keep b hb.1 hl) |>.mono fun _ h _=>h.2
mutual
theorem RV.go{X:Nat→Prop}{n0:Nat}{w w':World}:∀{M M':Mm},P5 X n0 M w M' w'→∀(a:AV) (v:Value),RV M w a v→RV M' w' a v
 |_,_,g,.dt d,v,h=>Rd.go g h
 |_,_,_,.nil,v,h=>h
 |_,_,g,.ax es,v,⟨A,h1,h2⟩=>⟨A,h1,Rd.go g h2⟩
 |_,_,g,.own b n,v,⟨A,c,A',n',c',h1,h2,h3,h4⟩=>by
  obtain⟨A2,n2,c2,e1,e2,e3⟩:=g.o b A' n' c' h2;refine⟨A,c,A2,n2,c2,h1,e1,pu h3 e2,fun e=>?_⟩;have hn:n=n':=J;obtain⟨rfl,rfl⟩:=h4 hn;obtain⟨rfl,rfl⟩:=e3 J;exact⟨rfl,rfl⟩
 |_,_,g,.sl b n,v,⟨x,h1,h2⟩=>⟨x,g.m _ _ h1,h2⟩
 |_,_,g,.Q5 b,v,⟨x,h1,h2⟩=>⟨x,g.m _ _ h1,h2⟩
 |_,_,g,.ptr b off,v,⟨x,h1,h2⟩=>⟨x,g.m _ _ h1,h2⟩
 |_,_,g,.df b i k,v,⟨x,h1,h2⟩=>⟨x,g.m _ _ h1,h2⟩
 |_,_,_,.gl _ _,v,h=>h
 |_,_,g,.pin cs,v,⟨x,o,vs,h1,h2,h3,h4,h5⟩=>⟨x,o,vs,h1,g.F _ h2 h3,kw h3 g.below.size,fun j u hj=>(TF (g.keep x h2 h3)).trans (h4 j u hj),RL.go g.flat cs vs h5⟩
 |_,_,g,.agg cs,v,⟨vs,h1,h2⟩=>⟨vs,h1,RL.go g cs vs h2⟩
 |_,_,g,.l7 cs,v,⟨vs,h1,h2⟩=>⟨vs,h1,RL.go g cs vs h2⟩
 |_,_,g,.dm f cs,v,⟨vs,h1,h2⟩=>⟨vs,h1,RL.go g cs vs h2⟩
 |_,_,g,.au f cs,v,⟨vs,h1,h2⟩=>⟨vs,h1,RL.go g.flat cs vs h2⟩
 |_,_,_,.un,_,_=>trivial
theorem RL.go{X:Nat→Prop}{n0:Nat}{w w':World}:∀{M M':Mm},P5 X n0 M w M' w'→∀(cs:List AV) (vs:List Value),RL M w cs vs→RL M' w' cs vs
 |_,_,_,[],_,h=>h
 |_,_,g,c::cs,_,⟨u,us,h1,h2,h3⟩=>⟨u,us,h1,RV.go g c u h2,RL.go g cs us h3⟩
end
theorem RL.len{M:Mm}{w:World}:∀{cs:List AV} {vs:List Value},RL M w cs vs→vs.length=cs.length
 |[],_,h=>by rw[show _=_ from h];rfl
 |c::cs,_,⟨u,us,h1,_,h3⟩=>by rw[h1,yM,yM,RL.len h3]
theorem RL.get{M:Mm}{w:World}:∀{cs:List AV} {vs:List Value},RL M w cs vs→∀{i:Nat} {c:AV},cs[i]?=some c→∃u,vs[i]?=some u∧RV M w c u
 |[],_,_,i,c,hi=>by simp at hi
 |c::cs,_,⟨u,us,h1,h2,h3⟩,i,c',hi=>by
  subst h1;cases i with
  |zero=>exact⟨u,rfl,by simpa using (Zao hi) ▸ h2⟩
  |succ i=>exact RL.get h3 (by simpa using hi)
theorem RL.take{M:Mm}{w:World}:∀{cs:List AV} {vs:List Value} (n:Nat),RL M w cs vs→RL M w (cs.take n) (vs.take n)
 |_,_,0,_=>rfl
 |[],_,n+1,h=>by rw[show _=_ from h];rfl
 |c::cs,_,n+1,⟨u,us,h1,h2,h3⟩=>by subst h1;exact⟨u,us.take n,rfl,h2,RL.take n h3⟩
theorem RL.drop{M:Mm}{w:World}:∀{cs:List AV} {vs:List Value} (n:Nat),RL M w cs vs→RL M w (cs.drop n) (vs.drop n)
 |_,_,0,h=>h
 |[],_,n+1,h=>by rw[show _=_ from h];rfl
 |c::cs,_,n+1,⟨u,us,h1,h2,h3⟩=>by subst h1;exact RL.drop n h3
theorem RL.append{M:Mm}{w:World}:∀{cs ds:List AV} {vs us:List Value},RL M w cs vs→RL M w ds us→RL M w (cs++ds) (vs++us)
 |[],_,_,_,h,h'=>by rw[show _=_ from h];exact h'
 |c::cs,_,_,_,⟨u,us,h1,h2,h3⟩,h'=>by subst h1;exact⟨u,us++_,rfl,h2,RL.append h3 h'⟩
theorem RV.oneCell{M:Mm}{w:World}{a:AV}{v:Value}(h:RV M w a v)(h1:a.one=true):v.oneCell'=true:=by
 cases a with
 |dt d=>exact Rd.one h h1
 |nil=>rw[show v=_ from h];rfl
 |ax es=>obtain⟨A,rfl,_⟩:=h;rfl
 |own b n=>obtain⟨A,c,A',n',c',rfl,_⟩:=h;rfl
 |sl b n=>obtain⟨g,_,rfl⟩:=h;rfl
 |Q5 b=>obtain⟨g,_,rfl⟩:=h;rfl
 |ptr b off=>obtain⟨g,_,rfl⟩:=h;rfl
 |df b i k=>obtain⟨g,_,rfl⟩:=h;rfl
 |gl g off=>rw[show v=_ from h];rfl
 |pin ds=>obtain⟨g,o,vs,rfl,_⟩:=h;rfl
 |dm f cs=>obtain⟨vs,rfl,_⟩:=h;rfl
 |au f cs=>obtain⟨vs,rfl,_⟩:=h;rfl
 |agg cs=>cases h1
 |l7 cs=>cases h1
 |un=>cases h1
theorem RL.oneCell{M:Mm}{w:World}:∀{cs:List AV} {vs:List Value},RL M w cs vs→cs.all AV.one=true→∀u∈vs,u.oneCell'=true
 |[],_,h,_=>by rw[show _=_ from h];intro u hu;cases hu
 |c::cs,_,⟨u,us,h1,h2,h3⟩,ha=>by
  subst h1;rw[List.all_cons,Ce]at ha;intro x hx;rcases Za3.1 hx with rfl | hx
  ·exact h2.oneCell ha.1
  ·exact RL.oneCell h3 ha.2 x hx
theorem cells_one{v:Value}(h:v.oneCell'=true):v.cells=#[v]:=by
 cases v <;> first | rfl | cases h
theorem RV.cells{M:Mm}{w:World}{a:AV}{v:Value}(h:RV M w a v)(h1:a.cells.all AV.one=true):∃vs,v.cells=vs.toArray∧RL M w a.cells vs:=by
 cases a with
 |agg cs=>obtain⟨vs,rfl,hr⟩:=h;exact⟨vs,rfl,hr⟩
 |l7 cs=>simp[AV.cells,AV.one]at h1
 |un=>simp[AV.cells,AV.one]at h1
 |_ =>
  refine⟨[v],?_,v,[],rfl,h,rfl⟩;rw[cells_one (h.oneCell (by simpa[AV.cells] using h1))]
inductive Bx where
 |cells (cs:List AV)
 |buf (e:TypeId) (k:Nat) (es:aa0)
 |aI (es:aa0)
 |mp (y9:List (Value×AV))
 |rws (e:TypeId) (k:Nat) (es:aa0)
 |oF (es:aa0)
 |cst (cs:List AV)
 |V3 (y9:List (Value×List Dt))
def Bx.qM:Bx→Bool
 |.buf _ _ _=>false
 |.aI _=>false
 |_=>true
def qN(F:Nat→Prop)(w:World)(k:Nat)(es:aa0)(vs:List Value):Prop :=
 vs.length=es.length * k∧∀i (h:i < es.length),(es[i]).length=k∧∀j (hj:j < (es[i]).length),∃u,vs[i * k+j]?=some u∧u.oneCell'=true∧Rd F w u (es[i])[j]
def MK(M:Mm)(w:World):List (Value×AV)→List MapEntry→Prop
 |[],es=>es=[]
 | (k,a)::y9,es=>∃e es',es=e::es'∧e.key=k∧RV M w a e.val∧MK M w y9 es'
def qz(y9:List (Value×List Dt)):List (Value×AV):=y9.map fun x=>(x.1,AV.agg (x.2.map .dt))
def kT(M:Mm)(w:World)(b:Nat):Bx→Prop
 |.V3 y9=>∃g es Z6,M.m b=some g∧w.heap[g]?=some (.map es.toArray Z6)∧MK (M0 M.F) w (qz y9) es
 |.cells cs=>∃g T vs,M.m b=some g∧D5 w g T vs.toArray∧RL M w cs vs
 |.buf e k es=>∃A n c,M.o b=some (A,n,c)∧ah M.F w 0 e k A n c es
 |.aI es=>∃A n c,M.o b=some (A,n,c)∧Rd M.F w (.slice A n c) (.row es)
 |.mp y9=>∃g es Z6,M.m b=some g∧w.heap[g]?=some (.map es.toArray Z6)∧MK M w y9 es
 |.rws e k es=>∃g vs,M.m b=some g∧D5 w g e vs.toArray∧qN M.F w k es vs
 |.oF es=>∃g,M.m b=some g∧Rd M.F w (.slice (some ⟨g,0,none⟩) es.length es.length) (.row es)
 |.cst cs=>∃g vs,M.m b=some g∧M.F g∧g < w.heap.size∧(∀(j:Nat) u,vs[j]?=some u→w.cell? ⟨g,j,none⟩=some u)∧RL (M0 M.F) w cs vs
def Hx(M:Mm)(b:Nat):Bx→Nat→Prop
 |.cells _,g=>M.m b=some g
 |.mp _,g=>M.m b=some g
 |.V3 _,g=>M.m b=some g
 |.buf _ _ _,g=>∃n c,M.o b=some (some ⟨g,0,none⟩,n,c)
 |.rws _ _ _,g=>M.m b=some g
 |_,_=>False
section
variable {X:Nat→Prop} {n0:Nat} {M M':Mm} {w w':World}
theorem MK.go(g:P5 X n0 M w M' w'):∀{y9:List (Value×AV)} {es:List MapEntry},MK M w y9 es→MK M' w' y9 es
 |[],_,h=>h
 | (_k,_a)::_kvs,_,⟨e,es',h1,h2,h3,h4⟩=>⟨e,es',h1,h2,RV.go g _ _ h3,MK.go g h4⟩
theorem ah.go(g:P5 X n0 M w M' w'){e:TypeId}{k:Nat}{A:Option Addr}{n c:Nat}{l:aa0}(h:ah M.F w 0 e k A n c l)(hA:∀q,A=some ⟨q,0,none⟩→w'.heap[q]?=w.heap[q]?):ah M'.F w' 0 e k A n c l :=
 ((h.mono (ok':=fun b=>M.F b∧M'.F b) fun b hb hl=>⟨hb,g.F b hb hl⟩).keep g.below.size fun q hq h=>by
  rcases h with h | h
  ·exact g.keep q h.1 hq
  ·exact hA q h).mono fun b hb _=>hb.2
theorem qN.go(g:P5 X n0 M w M' w'){k:Nat}{es:aa0}{vs:List Value}(h:qN M.F w k es vs):qN M'.F w' k es vs :=
 ⟨h.1,fun i hi=>⟨(h.2 i hi).1,fun j hj=>by
  obtain⟨u,h1,h2,h3⟩:=(h.2 i hi).2 j hj;exact⟨u,h1,h2,Rd.go g h3⟩⟩⟩
theorem kT.go(g:P5 X n0 M w M' w'){b:Nat}(ho:M'.o b=M.o b){x:Bx}(hk:∀q,Hx M b x q→w'.heap[q]?=w.heap[q]?)(h:kT M w b x):kT M' w' b x:=by
 cases x with
 |cells cs=>obtain⟨q,T,vs,h1,h2,h3⟩:=h;exact⟨q,T,vs,g.m _ _ h1,h2.keep (hk q h1),RL.go g _ _ h3⟩
 |buf e k es=>obtain⟨A,n,c,h1,h2⟩:=h;exact⟨A,n,c,ho.trans h1,h2.go g fun q hq=>hk q ⟨n,c,by rw[←hq];exact h1⟩⟩
 |aI es=>obtain⟨A,n,c,h1,h2⟩:=h;exact⟨A,n,c,ho.trans h1,Rd.go g h2⟩
 |mp y9=>obtain⟨q,es,Z6,h1,h2,h3⟩:=h;exact⟨q,es,Z6,g.m _ _ h1,(hk q h1).trans h2,MK.go g h3⟩
 |V3 y9=>obtain⟨q,es,Z6,h1,h2,h3⟩:=h;exact⟨q,es,Z6,g.m _ _ h1,(hk q h1).trans h2,MK.go g.flat h3⟩
 |rws e k es=>obtain⟨q,vs,h1,h2,h3⟩:=h;exact⟨q,vs,g.m _ _ h1,h2.keep (hk q h1),h3.go g⟩
 |oF es=>obtain⟨q,h1,h2⟩:=h;exact⟨q,g.m _ _ h1,Rd.go g h2⟩
 |cst cs=>obtain⟨q,vs,h1,h2,h3,h4,h5⟩:=h;exact⟨q,vs,g.m _ _ h1,g.F _ h2 h3,kw h3 g.below.size,fun j u hj=>(TF (g.keep q h2 h3)).trans (h4 j u hj),RL.go g.flat cs vs h5⟩
theorem Hx.eq{b:Nat}{x:Bx}(hm:M'.m b=M.m b)(ho:M'.o b=M.o b){q:Nat}:Hx M' b x q↔Hx M b x q:=by
 cases x <;> simp[Hx,hm,ho]
end
structure aa (X:Nat→Prop) (n0:Nat) (M:Mm) (bx:Nat→Option Bx) (w:World):Prop where
 box:∀b x,bx b=some x→kT M w b x
 dom:∀b x g,bx b=some x→Hx M b x g→(n0≤g∨X g)∧g < w.heap.size∧¬M.F g
 inj:∀b b' x x' g,bx b=some x→bx b'=some x'→Hx M b x g→Hx M b' x' g→b=b'
 hm:∀b g,M.m b=some g→∃x,bx b=some x∧x.qM=true
 ho:∀b v,M.o b=some v→(bx b).isSome=true
 fz:∀b,M.F b→b < w.heap.size
def J2(bx:Nat→Option Bx):List (Nat×Bx)→Nat→Option Bx
 |[],k=>bx k
 | (b,x)::r,k=>if k=b then some x else J2 bx r k
abbrev Z8(bx:Nat→Option Bx)(b:Nat)(x:Bx):Nat→Option Bx:=fun k=>if k=b then some x else bx k
section
variable {X:Nat→Prop} {n0:Nat} {M M':Mm} {w w':World} {bx:Nat→Option Bx}
theorem aa.yO(h:aa X n0 M bx w){k:Nat}(hk:bx k=none):M.m k=none:=by
 cases e:M.m k with
 |none=>rfl
 |some g=>obtain⟨x,h1,_⟩:=h.hm k g e;rw[hk]at h1;cases h1
theorem aa.Dn(h:aa X n0 M bx w){k:Nat}(hk:bx k=none):M.o k=none:=by
 cases e:M.o k with
 |none=>rfl
 |some v=>have:=h.ho k v e;rw[hk]at this;cases this
theorem aa.upd(h:aa X n0 M bx w)(g:P5 X n0 M w M' w')(le:n0≤w.heap.size){b:Nat}{x':Bx}
  (hm:∀k,k≠b→M'.m k=M.m k∧M'.o k=M.o k) (hw:∀q,q < w.heap.size→(∀x,bx b=some x→¬Hx M b x q)→w'.heap[q]?=w.heap[q]?)
  (hF:∀q,M'.F q→q < w'.heap.size∧(M.F q∨w.heap.size≤q)) (hx:kT M' w' b x')
  (hd:∀q,Hx M' b x' q→((∃x,bx b=some x∧Hx M b x q)∨w.heap.size≤q)∧q < w'.heap.size∧¬M'.F q) (hmb:∀q,M'.m b=some q→x'.qM=true):aa X n0 M' (Z8 bx b x') w':=by
 have old:∀{k x},k≠b→Z8 bx b x' k=some x→bx k=some x:=fun hk h=>by rwa [show Z8 bx b x' _=_ from EQ hk]at h
 have this:∀{x},Z8 bx b x' b=some x→x=x':=fun h=>by rw[show Z8 bx b x' b=some x' from Ch rfl]at h;exact (Zao h).symm
 have far:∀{k x q},k≠b→bx k=some x→Hx M k x q→w'.heap[q]?=w.heap[q]?:=fun {k x q} hk hb hq =>
  hw q (h.dom k x q hb hq).2.1 fun y hy hyq=>hk (h.inj _ _ _ _ q hb hy hq hyq)
 refine⟨?_,?_,?_,?_,?_,fun q hq=>(hF q hq).1⟩
 ·intro k x hk;by_cases e:k=b
  ·subst e;rw[this hk];exact hx
  ·have hk':=old e hk;exact (h.box k x hk').go g (hm k e).2 fun q hq=>far e hk' hq
 ·intro k x q hk hq;by_cases e:k=b
  ·subst e;rw[this hk]at hq;obtain⟨h1,h2,h3⟩:=hd q hq;refine⟨?_,h2,h3⟩;rcases h1 with⟨y,hy,hyq⟩ | h1
   ·exact (h.dom _ _ _ hy hyq).1
   ·exact .inl J
  ·have hk':=old e hk;have hq':=(Hx.eq (hm k e).1 (hm k e).2).1 hq;obtain⟨h1,h2,h3⟩:=h.dom k x q hk' hq';refine⟨h1,kw h2 g.below.size,fun hf=>?_⟩;rcases (hF q hf).2 with h4 | h4
   ·exact h3 h4
   ·omega
 ·intro k k' x y q hk hk' hq hq';have key:∀{k x},k≠b→Z8 bx b x' k=some x→Hx M' k x q→∀{y},Z8 bx b x' b=some y→Hx M' b y q→False:=by
   intro k x e hk hq y hy hyq;rw[this hy]at hyq;have hk2:=old e hk;have hq2:=(Hx.eq (hm k e).1 (hm k e).2).1 hq;rcases (hd q hyq).1 with⟨z,hz,hzq⟩ | h1
   ·exact e (h.inj _ _ _ _ q hk2 hz hq2 hzq)
   ·have:=(h.dom k x q hk2 hq2).2.1;omega
  by_cases e:k=b <;> by_cases e':k'=b
  ·rw[e,e']
  ·subst e;exact (key e' hk' hq' hk hq).elim
  ·subst e';exact (key e hk hq hk' hq').elim
  ·exact h.inj _ _ _ _ q (old e hk) (old e' hk') ((Hx.eq (hm k e).1 (hm k e).2).1 hq) ((Hx.eq (hm k' e').1 (hm k' e').2).1 hq')
 ·intro k q hk;by_cases e:k=b
  ·subst e;exact⟨x',Ch rfl,hmb q hk⟩
  ·rw[(hm k e).1]at hk;obtain⟨x,h1,h2⟩:=h.hm k q hk;exact⟨x,(EQ e).trans h1,h2⟩
 ·intro k v hk;by_cases e:k=b
  ·subst e;show (Z8 bx k x' k).isSome=true;rw[show Z8 bx k x' k=some x' from Ch rfl];rfl
  ·rw[(hm k e).2]at hk;show (Z8 bx b x' k).isSome=true;rw[show Z8 bx b x' k=bx k from EQ e]
   exact h.ho k v hk
theorem aa.grow(h:aa X n0 M bx w)(g:P5 X n0 M w M' w')(hm:M'.m=M.m)(ho:M'.o=M.o)
  (hw:∀q k x,bx k=some x→Hx M k x q→w'.heap[q]?=w.heap[q]?) (hF:∀q,M'.F q→q < w'.heap.size∧(M.F q∨w.heap.size≤q)):aa X n0 M' bx w':=by
 have hx:∀k x q,Hx M' k x q↔Hx M k x q:=fun k x q=>Hx.eq (by rw[hm]) (by rw[ho])
 refine⟨fun b x hb=>(h.box b x hb).go g (by rw[ho]) fun q hq=>hw q b x hb hq,?_,?_,?_,?_,fun q hq=>(hF q hq).1⟩
 ·intro b x q hb hq;rw[hx]at hq;obtain⟨h1,h2,h3⟩:=h.dom b x q hb hq;refine⟨h1,kw h2 g.below.size,fun hf=>?_⟩;rcases (hF q hf).2 with h4 | h4
  ·exact h3 h4
  ·omega
 ·intro b b' x x' q h1 h2 h3 h4;rw[hx]at h3 h4;exact h.inj _ _ _ _ q h1 h2 h3 h4
 ·intro b q hb;rw[hm]at hb;exact h.hm b q hb
 ·intro b v hb;rw[ho]at hb;exact h.ho b v hb
theorem ah.Od{ok:Nat→Prop}{e:TypeId}{k:Nat}{A:Option Addr}{n c:Nat}{l:aa0}(h:ah ok w 0 e k A n c l):Rd (fun q=>ok q∨A=some ⟨q,0,none⟩) w (.slice A n c) (.row l):=by
 have h0:=h.rd;rcases h.addr with rfl | ⟨g,rfl,_,hg⟩
 ·have hl:=h.len;obtain⟨xs,⟨_,ho⟩,_⟩:=h.own;rcases ho with⟨hv,_⟩ | ⟨g,cap,cur,hv,_⟩
  ·simp only[Za6]at hv;obtain⟨_,rfl,rfl⟩:=hv;obtain rfl:l=[]:=q9 hl;exact .nil _ _
  ·simp only[Za6]at hv;cases hv.1
 ·obtain⟨xs,⟨hx,ho⟩,he⟩:=h.own;have hlen:=h.len;rcases Zaa n with hn | hn
  ·subst hn;obtain rfl:l=[]:=q9 hlen;exact .nil _ _
  ·rcases ho with⟨_,h1⟩ | ⟨g',cap,cur,hv,hbg,hgb,hnc,hcm,hcs,ht⟩
   ·omega
   ·simp only[Za6,Option.some.injEq,Addr.mk.injEq]at hv;obtain⟨⟨rfl,_⟩,_,rfl⟩:=hv;refine Rd.mk (k:=k) hlen hnc hg (.inr rfl) (fun i hi=>(he i hi).1) (fun i j hi hj=>?_);obtain⟨u,h1,h2⟩:=(he i hi).2 j hj;refine⟨u,?_,h2.mono fun b hb _=>.inl hb.1⟩;have hj':j < k:=by rw[←(he i hi).1];exact hj
    have hlt:i * k+j < n * k:=by
     have:(i+1) * k≤n * k:=Zas k J;rw[Nat.add_mul]at this;omega
    have e:cur[i * k+j]?=some u:=by
     rw[←h1,←ht,List.getElem?_take_of_lt hlt];simp
    simp[World.cell?,hgb,Nat.zero_add,e]
theorem aa.Bi(h:aa X n0 M bx w){b:Nat}{e:TypeId}{k:Nat}{es:aa0}(hb:bx b=some (.buf e k es)) :
  ∃M',P5 X n0 M w M' w∧aa X n0 M' (Z8 bx b (.aI es)) w∧M'.m=M.m∧M'.o=M.o∧∀q,M'.F q→M.F q∨n0≤q∨X q:=by
 obtain⟨A,n,c,ho,hown⟩:=h.box b _ hb;have hmb:M.m b=none:=by
  cases e:M.m b with
  |none=>rfl
  |some g =>
   obtain⟨x,h1,h2⟩:=h.hm b g e;rw[hb]at h1;cases h1;cases h2
 have Oe:∀q,A=some ⟨q,0,none⟩→Hx M b (.buf e k es) q:=fun q hq=>⟨n,c,by rw[←hq];exact ho⟩
 let M':Mm:=⟨M.m,fun q=>M.F q∨A=some ⟨q,0,none⟩,M.o⟩
 have g:P5 X n0 M w M' w:=⟨W9.refl _ _ _,fun _ _ _=>rfl,fun _ h _=>.inl h,fun _ _ h=>h,fun _=>nI rfl⟩;have old:∀{k x},k≠b→Z8 bx b (.aI es) k=some x→bx k=some x:=fun hk h=>by rwa [show Z8 bx b (.aI es) _=_ from EQ hk]at h
 have this:∀{x},Z8 bx b (.aI es) b=some x→x=.aI es:=fun h=>by rw[show Z8 bx b (.aI es) b=some (.aI es) from Ch rfl]at h;exact (Zao h).symm
 have hx:∀k x q,Hx M' k x q↔Hx M k x q:=fun k x q=>Hx.eq rfl rfl
 refine⟨M',g,⟨?_,?_,?_,?_,?_,?_⟩,rfl,rfl,?_⟩
 ·intro k x hk;by_cases e:k=b
  ·subst e;rw[this hk];exact⟨A,n,c,ho,hown.Od⟩
  ·exact (h.box k x (old e hk)).go g rfl fun _ _=>rfl
 ·intro k x q hk hq;by_cases e:k=b
  ·subst e;rw[this hk]at hq;exact hq.elim
  ·rw[hx]at hq;obtain⟨h1,h2,h3⟩:=h.dom k x q (old e hk) hq;refine⟨h1,h2,fun hf=>?_⟩;rcases hf with hf | hf
   ·exact h3 hf
   ·exact e (h.inj _ _ _ _ q (old e hk) hb hq (Oe q hf))
 ·intro k k' x y q hk hk' hq hq';rw[hx]at hq hq';by_cases e:k=b
  ·subst e;rw[this hk]at hq;exact hq.elim
  ·by_cases e':k'=b
   ·subst e';rw[this hk']at hq';exact hq'.elim
   ·exact h.inj _ _ _ _ q (old e hk) (old e' hk') hq hq'
 ·intro k q hk;obtain⟨x,h1,h2⟩:=h.hm k q hk;by_cases e:k=b
  ·subst e;rw[hmb]at hk;cases hk
  ·exact⟨x,(EQ e).trans h1,h2⟩
 ·intro k v hk;show (Z8 bx b (.aI es) k).isSome=true;by_cases e:k=b
  ·subst e;rw[show Z8 bx k (.aI es) k=some (.aI es) from Ch rfl];rfl
  ·rw[show Z8 bx b (.aI es) k=bx k from EQ e];exact h.ho k v hk
 ·intro q hq;rcases hq with hq | hq
  ·exact h.fz q hq
  ·exact (h.dom b _ q hb (Oe q hq)).2.1
 ·intro q hq;rcases hq with hq | hq
  ·exact .inl hq
  ·exact .inr (h.dom b _ q hb (Oe q hq)).1
end
structure Inv (X:Nat→Prop) (n0:Nat) (w0:World×Mm) (ok0:Nat→Prop) (M:Mm) (nt:Nat) (tm:Nat→AV) (bx:Nat→Option Bx) (a:Act) (w:World):Prop where
 below:W9 X n0 w0.1 w
 le:n0≤w.heap.size
 defers:a.defers=[]
 size:a.tmps.size=nt
 tmps:∀t,RV M w (tm t) (a.tmps.getD t undef)
 I9:aa X n0 M bx w
 src:∀b,M.F b→b < n0→ok0 b∨X b
 iI:P5 X n0 w0.2 w0.1 M w
def nX:Value→AV
 |.slice none 0 0=>.nil
 |v=>.dt (.val v)
theorem Jz(M:Mm)(w:World)(v:Value):RV M w (nX v) v:=by
 unfold nX;split
 ·exact rfl
 ·exact .val _
theorem yP(M:Mm)(w:World):∀vs:List Value,RL M w (vs.map nX) vs
 |[]=>rfl
 |v::vs=>⟨v,vs,rfl,Jz M w v,yP M w vs⟩
def H7(tm:Nat→AV):Operand→AV
 |.tmp t=>tm t
 |.const v=>nX v
 |.global g=>.gl g 0
 |.func f=>.au f []
def Q6(tm:Nat→AV)(d:Option Nat)(r:AV):Nat→AV:=match d with
 |some d=>fun t=>if t=d then r else tm t
 |none=>tm
section
variable {X:Nat→Prop} {n0:Nat} {w0:World×Mm} {ok0:Nat→Prop} {M M':Mm} {nt:Nat} {tm:Nat→AV} {bx bx':Nat→Option Bx} {a:Act} {w w':World}
theorem Inv.ev(h:Inv X n0 w0 ok0 M nt tm bx a w)(x:Operand):RV M w (H7 tm x) (a.eval x):=by
 cases x with
 |tmp t=>exact h.tmps t
 |const v=>exact Jz M w v
 |global g=>exact rfl
 |func f=>exact⟨[],rfl,rfl⟩
theorem Inv.put(h:Inv X n0 w0 ok0 M nt tm bx a w)(g:P5 X n0 M w M' w')(hs:aa X n0 M' bx' w')(hF:∀b,M'.F b→M.F b∨n0≤b∨X b)(d:Option Nat)(hd:∀t,d=some t→t < nt){v:Value}{r:AV}(hr:RV M' w' r v) :
  Inv X n0 w0 ok0 M' nt (Q6 tm d r) bx' (a.put d v) w':=by
 refine⟨h.below.trans g.below,pu h.le g.below.size,?_,?_,?_,hs,fun b hb hl=>?_,h.iI.trans g⟩
 ·cases d <;> exact h.defers
 ·cases d with
  |none=>exact h.size
  |some d=>show (a.tmps.setIfInBounds d v).size=nt;rw[Array.size_setIfInBounds];exact h.size
 ·intro t;cases d with
  |none=>exact RV.go g _ _ (h.tmps t)
  |some d =>
   have hd':=hd d rfl;show RV M' w' (if t=d then r else tm t) ((a.tmps.setIfInBounds d v).getD t undef);by_cases e:t=d
   ·subst e;rw[Ch rfl];have:(a.tmps.setIfInBounds t v).getD t undef=v:=by
     have:=h.size;simp[show t < a.tmps.size by omega]
    rw[this];exact hr
   ·rw[EQ e];have:(a.tmps.setIfInBounds d v).getD t undef=a.tmps.getD t undef:=by
     simp[ZaJ e]
    rw[this];exact RV.go g _ _ (h.tmps t)
 ·rcases hF b hb with e | e | e
  ·exact h.src b e hl
  ·omega
  ·exact .inr e
theorem Inv.same(h:Inv X n0 w0 ok0 M nt tm bx a w)(g:P5 X n0 M w M' w')(hs:aa X n0 M' bx' w')(hF:∀b,M'.F b→M.F b∨n0≤b∨X b):Inv X n0 w0 ok0 M' nt tm bx' a w':=by
 have:=h.put g hs hF none (fun _ h=>by cases h) (v:=undef) (r:=.un) trivial;exact this
theorem Inv.val(h:Inv X n0 w0 ok0 M nt tm bx a w)(d:Option Nat)(hd:∀t,d=some t→t < nt){v:Value}{r:AV}(hr:RV M w r v):Inv X n0 w0 ok0 M nt (Q6 tm d r) bx (a.put d v) w :=
 h.put (P5.refl _ _ _ _) h.I9 (fun _ h=>.inl h) d hd hr
theorem Inv.grown(h:Inv X n0 w0 ok0 M nt tm bx a w)(hb:Below w.heap.size w w')(d:Option Nat)(hd:∀t,d=some t→t < nt){v:Value}{r:AV}
  (hr:RV ⟨M.m,fun b=>(M.F b∨w.heap.size≤b)∧b < w'.heap.size,M.o⟩ w' r v):∃M',Inv X n0 w0 ok0 M' nt (Q6 tm d r) bx (a.put d v) w':=by
 have g:P5 X n0 M w ⟨M.m,fun b=>(M.F b∨w.heap.size≤b)∧b < w'.heap.size,M.o⟩ w':=⟨W9.of (hb.mono h.le),fun b _ hl=>hb.block b hl,fun _ hb' hl=>⟨.inl hb',kw hl hb.size⟩,fun _ _ h=>h,fun _=>nI rfl⟩;refine⟨_,h.put g (h.I9.grow g rfl rfl (fun q k x hk hq=>hb.block q (h.I9.dom k x q hk hq).2.1) fun q hq=>⟨hq.2,hq.1⟩) (fun b hb'=>?_) d hd hr⟩;rcases hb'.1 with e | e
 ·exact .inl e
 ·have:=h.le;exact .inr (.inl J)
theorem Inv.new(h:Inv X n0 w0 ok0 M nt tm bx a w){k:Nat}(hk:bx k=none)(o:Obj){x':Bx}(hM:x'.qM=true)(hx:∀M',P5 X n0 M w M' (w.alloc o)→M'.m k=some w.heap.size→kT M' (w.alloc o) k x')(d:Option Nat)(hd:∀t,d=some t→t < nt){r:AV}{v:Value}
  (hr:∀M',M'.m k=some w.heap.size→RV M' (w.alloc o) r v):∃M',Inv X n0 w0 ok0 M' nt (Q6 tm d r) (Z8 bx k x') (a.put d v) (w.alloc o):=by
 have hm:=h.I9.yO hk
 let M':Mm:=⟨fun b=>if b=k then some w.heap.size else M.m b,M.F,M.o⟩
 have hne:∀b,b≠k→M'.m b=M.m b:=fun b hb=>EQ hb
 have hsz:(w.alloc o).heap.size=w.heap.size+1:=I;have g:P5 X n0 M w M' (w.alloc o):=⟨W9.of ((Below.refl _ _).alloc h.le _),fun b _ hl=>Below.heap_alloc _ _ _ hl,fun b hb _=>hb,(fun b q hb=>by
  by_cases e:b=k
  ·subst e;rw[hm]at hb;cases hb
  ·rw[hne b e,hb]),fun _=>nI rfl⟩
 have hk':M'.m k=some w.heap.size:=Ch rfl;refine⟨M',h.put g (h.I9.upd g h.le (fun b hb=>⟨hne b hb,rfl⟩) (fun q hq _=>Below.heap_alloc _ _ _ hq) (fun q hq=>⟨by rw[hsz];have:=h.I9.fz q hq;omega,.inl hq⟩) (hx M' g hk') (fun q hq=>?_) (fun _ _=>hM)) (fun _ h=>.inl h) d hd (hr M' hk')⟩
 have hq':M'.m k=some q:=by
  cases x' <;> first | exact hq | exact hq.elim | cases hM
 rw[hk']at hq';cases hq';exact⟨.inr (PP _),by rw[hsz];omega,fun hf=>by have:=h.I9.fz _ hf;omega⟩
theorem Inv.alloc(h:Inv X n0 w0 ok0 M nt tm bx a w){k:Nat}(hk:bx k=none)(T:TypeId){cs:List AV}{vs:List Value}(hv:RL M w cs vs)(d:Option Nat)(hd:∀t,d=some t→t < nt) :
  ∃M',Inv X n0 w0 ok0 M' nt (Q6 tm d (.ptr k 0)) (Z8 bx k (.cells cs)) (a.put d (.pointer (some ⟨w.heap.size,0,none⟩))) (w.alloc (.cells vs.toArray T)) :=
 h.new hk _ (x':=.cells cs) rfl (fun _M' g hk'=>⟨w.heap.size,T,vs,hk',D5.new w T vs.toArray,RL.go g _ _ hv⟩) d hd fun _M' hk'=>⟨_,hk',rfl⟩
theorem Inv.FX(h:Inv X n0 w0 ok0 M nt tm bx a w){b g:Nat}{x x':Bx}(hb:bx b=some x)(hg:Hx M b x g)(hM:x'.qM=true)(hmg:M.m b=some g)(h1:w'.os=w.os)(h2:w'.tape=w.tape)(h3:w'.output=w.output)(hsz:w'.heap.size=w.heap.size)
  (hother:∀q,q≠g→w'.heap[q]?=w.heap[q]?) (hx:P5 X n0 M w M w'→kT M w' b x') (d:Option Nat) (hd:∀t,d=some t→t < nt) {r:AV} {v:Value} (hr:RV M w' r v) :
  Inv X n0 w0 ok0 M nt (Q6 tm d r) (Z8 bx b x') (a.put d v) w':=by
 obtain⟨hg0,hg1,hg2⟩:=h.I9.dom b _ g hb hg;have gg:P5 X n0 M w M w':=⟨⟨h1,h2,h3,by rw[hsz];exact PP _,fun x hx hX=>hother x (fun e=>by
  subst e;rcases hg0 with h0 | h0
  ·omega
  ·exact hX h0)⟩,fun x hx _=>hother x (fun e=>hg2 (e ▸ hx)),fun _ h _=>h,fun _ _ h=>h,fun _=>nI rfl⟩
 refine h.put gg (h.I9.upd gg h.le (fun _ _=>⟨rfl,rfl⟩) (fun q hq hnq=>hother q (fun e=>hnq _ hb (e ▸ hg))) (fun q hq=>⟨by rw[hsz];exact h.I9.fz q hq,.inl hq⟩) (hx gg) (fun q hq=>?_) (fun _ _=>hM)) (fun _ h=>.inl h) d hd hr;have hq':M.m b=some q:=by
  cases x' <;> first | exact hq | exact hq.elim | cases hM
 rw[hmg]at hq';cases hq';exact⟨.inl ⟨_,hb,hg⟩,by rw[hsz];exact hg1,hg2⟩
theorem QG{w:World}{g x:Nat}{cs:Array Value}(hx:x≠g):(w.setRow g cs).heap[x]?=w.heap[x]?:=by
 unfold World.setRow;simp only[Array.getElem?_modify];rw[EQ (ZaJ hx)]
theorem D5.setRow{w:World}{g:Nat}{T:TypeId}{old cs:Array Value}(hB:D5 w g T old):D5 (w.setRow g cs) g T cs:=by
 unfold D5 at hB ⊢;unfold World.setRow;simp only[Array.getElem?_modify,ZaG,hB,Option.map_some]
theorem setRow_size(w:World)(g:Nat)(cs:Array Value):(w.setRow g cs).heap.size=w.heap.size:=by unfold World.setRow;simp
theorem Inv.store(h:Inv X n0 w0 ok0 M nt tm bx a w){b g:Nat}{T:TypeId}{cs0:List AV}(hb:bx b=some (.cells cs0))(hg:M.m b=some g){old new:List Value}(hB:D5 w g T old.toArray){cs:List AV}(hv:RL M w cs new)(d:Option Nat)(hd:∀t,d=some t→t < nt) :
  Inv X n0 w0 ok0 M nt (Q6 tm d (.dt (.val undef))) (Z8 bx b (.cells cs)) (a.put d undef) (w.setRow g new.toArray) :=
 h.FX (x':=.cells cs) (w':=w.setRow g new.toArray) hb hg rfl hg rfl rfl rfl (setRow_size _ _ _) (fun _q hq=>QG hq) (fun gg=>⟨g,T,new,hg,hB.setRow,RL.go gg _ _ hv⟩) d hd (r:=.dt (.val undef)) (Rd.val _)
end
def K7:List Prop→Prop
 |[]=>True
 |p::ps=>p∧K7 ps
theorem fO:∀{ps qs:List Prop},K7 (ps++qs)→K7 ps∧K7 qs
 |[],_,h=>⟨trivial,h⟩
 |_::_,_,h=>⟨⟨h.1,(fO h.2).1⟩,(fO h.2).2⟩
def aB(b:Nat):List Nat→Nat→Option Nat
 |[],_=>none
 |j::js,i=>match Nat.beq b j with
  |true=>some i
  |false=>aB b js (i+1)
theorem pU{b:Nat}:∀{js:List Nat} {k i:Nat},aB b js k=some i→k≤i∧js[i - k]?=some b
 |[],_,_,h=>by cases h
 |j::js,k,i,h=>by
  unfold aB at h;cases e:Nat.beq b j with
  |true =>
   rw[e]at h;cases h;exact⟨PP _,by simp[Zae e]⟩
  |false =>
   rw[e]at h;obtain⟨h1,h2⟩:=pU h;refine⟨J,?_⟩;rw[show i - k=(i - (k+1))+1 by omega]
   simpa using h2
mutual
def aM(js:List Nat)(kn:Bool)(bx:Nat→Option Bx)(rec:List AV→Option (List AV×List Prop)):AV→Option (AV×List Prop)
 |.dt d=>some (.dt d,[])
 |.nil=>match kn with
  |true=>some (.nil,[])
  |false=>some (.dt (.row []),[])
 |.ax es=>some (.dt (.row es),[])
 |.own b n=>match aB b js 0 with
  |some i=>some (.own i n,[])
  |none=>match bx b with
   |some (.buf _ _ es)=>some (.dt (.row es),[es.length=n])
   |some (.aI es)=>some (.dt (.row es),[es.length=n])
   |_=>none
 |.sl b n=>match aB b js 0 with
  |some i=>some (.sl i n,[])
  |none=>match bx b with
   |some (.rws _ _ es)=>some (.dt (.row es),[es.length=n])
   |some (.oF es)=>some (.dt (.row es),[es.length=n])
   |_=>none
 |.Q5 b=>match aB b js 0 with
  |some i=>some (.Q5 i,[])
  |none=>none
 |.ptr b off=>match aB b js 0 with
  |some i=>some (.ptr i off,[])
  |none=>match bx b with
   |some (.cells cs)=>match rec cs with
    |some (cs',ps)=>some (.pin (cs'.drop off),ps)
    |none=>none
   |some (.cst cs)=>some (.pin (cs.drop off),[])
   |_=>none
 |.df b i k=>match aB b js 0 with
  |some j=>some (.df j i k,[])
  |none=>none
 |.gl g o=>some (.gl g o,[])
 |.pin cs=>some (.pin cs,[])
 |.agg cs=>match gq js kn bx rec cs with
  |some (cs',ps)=>some (.agg cs',ps)
  |none=>none
 |.l7 cs=>match gq js kn bx rec cs with
  |some (cs',ps)=>some (.l7 cs',ps)
  |none=>none
 |.dm f cs=>match js with
  |[]=>match gq [] false bx rec cs with
   |some (cs',ps)=>some (.au f cs',ps)
   |none=>none
  |j::js=>match gq (j::js) kn bx rec cs with
   |some (cs',ps)=>some (.dm f cs',ps)
   |none=>none
 |.au f cs=>some (.au f cs,[])
 |.un=>none
def gq(js:List Nat)(kn:Bool)(bx:Nat→Option Bx)(rec:List AV→Option (List AV×List Prop)):List AV→Option (List AV×List Prop)
 |[]=>some ([],[])
 |c::cs=>match aM js kn bx rec c,gq js kn bx rec cs with
  |some (c',ps),some (cs',qs)=>some (c'::cs',ps++qs)
  |_,_=>none
end
mutual
def aP(js:List Nat)(bx:Nat→Option Bx)(rec:List AV→List Nat):AV→List Nat
 |.own b _=>match aB b js 0 with
  |some _=>[]
  |none=>[b]
 |.sl b _=>match aB b js 0 with
  |some _=>[]
  |none=>[b]
 |.ptr b _=>match aB b js 0 with
  |some _=>[]
  |none=>match bx b with
   |some (.cells cs)=>b::rec cs
   |_=>[b]
 |.agg cs=>dY js bx rec cs
 |.l7 cs=>dY js bx rec cs
 |.dm _ cs=>dY js bx rec cs
 |_=>[]
def dY(js:List Nat)(bx:Nat→Option Bx)(rec:List AV→List Nat):List AV→List Nat
 |[]=>[]
 |c::cs=>aP js bx rec c++dY js bx rec cs
end
def dM(bx:Nat→Option Bx):Nat→List AV→Option (List AV×List Prop)
 |0,_=>none
 |n+1,cs=>gq [] false bx (dM bx n) cs
def iw(bx:Nat→Option Bx):Nat→List AV→List Nat
 |0,_=>[]
 |n+1,cs=>dY [] bx (iw bx n) cs
theorem P5.same{M M':Mm}{w:World}(hF:∀b,M.F b→b < w.heap.size→M'.F b)(hm:∀k g,M.m k=some g→M'.m k=some g)(ho:∀k v,M.o k=some v→M'.o k=some v):P5 (fun _=>False) 0 M w M' w :=
 ⟨W9.refl _ _ _,fun _ _ _=>rfl,hF,hm,fun b A n c h=>⟨A,n,c,ho b _ h,PP _,fun _=>⟨rfl,rfl⟩⟩⟩
theorem RL.vI{F F':Nat→Prop}{w:World}(h:∀q,F q→q < w.heap.size→F' q){cs:List AV}{vs:List Value}(hr:RL (M0 F) w cs vs):RL (M0 F') w cs vs :=
 RL.go (P5.same (M:=M0 F) (M':=M0 F') h (fun _ _ h=>h) (fun _ _ h=>h)) cs vs hr
theorem qN.rd{F F':Nat→Prop}{w:World}{k:Nat}{es:aa0}{vs:List Value}{g:Nat}{T:TypeId}(hB:D5 w g T vs.toArray)(h:qN F w k es vs)(hF:∀q,F q→q < w.heap.size→F' q)(hg:F' g):Rd F' w (.slice (some ⟨g,0,none⟩) es.length es.length) (.row es):=by
 rcases Zaa es.length with h0 | h0
 ·obtain rfl:es=[]:=q9 h0;exact .nil _ _
 ·refine Rd.mk (k:=k) rfl (PP _) hB.lt hg (fun i hi=>(h.2 i hi).1) (fun i j hi hj=>?_);obtain⟨u,h1,_,h2⟩:=(h.2 i hi).2 j hj;refine⟨u,?_,h2.mono hF⟩;rw[Zau,hB.cell];simpa using h1
section
variable {X:Nat→Prop} {n0:Nat} {M:Mm} {w:World} {bx:Nat→Option Bx} {F1:Nat→Prop}
def Fz(M:Mm)(bx:Nat→Option Bx)(F1:Nat→Prop)(b:Nat):Prop:=∀x,bx b=some x→∀q,Hx M b x q→F1 q
mutual
theorem a6X(hS:aa X n0 M bx w)(hF:∀q,M.F q→q < w.heap.size→F1 q){rec:List AV→Option (List AV×List Prop)}{aY:List AV→List Nat}
  (hrec:∀cs cs' ps vs,rec cs=some (cs',ps)→K7 ps→(∀b∈aY cs,Fz M bx F1 b)→RL M w cs vs→RL (M0 F1) w cs' vs):∀(a:AV) (js:List Nat) (kn:Bool) (a':AV) (ps:List Prop) (v:Value) (Mc:Mm),Mc.F=F1→(∀b i,aB b js 0=some i→Mc.m i=M.m b∧Mc.o i=M.o b) →
  aM js kn bx rec a=some (a',ps)→K7 ps→(∀b∈aP js bx aY a,Fz M bx F1 b)→RV M w a v→RV Mc w a' v
 |.dt d,js,kn,a',ps,v,Mc,hc,hj,h,hp,ho,hr=>by
  cases h;show Rd Mc.F w v d;rw[hc];exact Rd.mono hr hF
 |.nil,js,kn,a',ps,v,Mc,hc,hj,h,hp,ho,hr=>by
  simp only[aM]at h;cases kn with
  |true=>cases h;exact hr
  |false =>
   cases h;rw[show v=_ from hr]
   exact Rd.nil _ _
 |.ax es,js,kn,a',ps,v,Mc,hc,hj,h,hp,ho,⟨A,h1,h2⟩=>by
  cases h;show Rd Mc.F w v (.row es);rw[hc];exact h2.mono hF
 |.own b n,js,kn,a',ps,v,Mc,hc,hj,h,hp,ho,⟨A,c,A',n',c',h1,h2,h3,h4⟩=>by
  simp only[aM]at h;simp only[aP]at ho;cases hi:aB b js 0 with
  |some i =>
   rw[hi]at h;cases h;exact⟨A,c,A',n',c',h1,(hj b i hi).2.trans h2,h3,h4⟩
  |none =>
   rw[hi]at h ho;simp only at h;split at h
   ·rename_i e k es hb;cases h;obtain⟨A2,n2,c2,e1,e2⟩:=hS.box b _ hb;rw[h2]at e1;cases e1;have hn:n=n':=hp.1.symm.trans e2.len;obtain⟨rfl,rfl⟩:=h4 hn;subst hn;show Rd Mc.F w v (.row es);rw[hc,h1];refine e2.Od.mono fun q hq hl=>?_
    rcases hq with hq | hq
    ·exact hF q hq hl
    ·exact ho b (Cf.2 rfl) _ hb q ⟨n,c,by rw[←hq];exact h2⟩
   ·rename_i es hb;cases h;obtain⟨A2,n2,c2,e1,e2⟩:=hS.box b _ hb;rw[h2]at e1;cases e1;have hn:n=n':=hp.1.symm.trans e2.len;obtain⟨rfl,rfl⟩:=h4 hn;subst hn;show Rd Mc.F w v (.row es);rw[hc,h1];exact e2.mono hF
   ·cases h
 |.sl b n,js,kn,a',ps,v,Mc,hc,hj,h,hp,ho,⟨g,h1,h2⟩=>by
  simp only[aM]at h;simp only[aP]at ho;cases hi:aB b js 0 with
  |some i =>
   rw[hi]at h;cases h;exact⟨g,(hj b i hi).1.trans h1,h2⟩
  |none =>
   rw[hi]at h ho;simp only at h;split at h
   ·rename_i e k es hb;cases h;obtain⟨g',vs,e1,e2,e3⟩:=hS.box b _ hb;rw[h1]at e1;cases e1;have hn:es.length=n:=hp.1;subst hn;show Rd Mc.F w v (.row es);rw[hc,h2];exact e3.rd e2 hF (ho b (Cf.2 rfl) _ hb g h1)
   ·rename_i es hb;cases h;obtain⟨g',e1,e2⟩:=hS.box b _ hb;rw[h1]at e1;cases e1;have hn:es.length=n:=hp.1;subst hn;show Rd Mc.F w v (.row es);rw[hc,h2];exact e2.mono hF
   ·cases h
 |.Q5 b,js,kn,a',ps,v,Mc,hc,hj,h,hp,ho,⟨g,h1,h2⟩=>by
  simp only[aM]at h;cases hi:aB b js 0 with
  |some i=>rw[hi]at h;cases h;exact⟨g,(hj b i hi).1.trans h1,h2⟩
  |none=>rw[hi]at h;cases h
 |.ptr b off,js,kn,a',ps,v,Mc,hc,hj,h,hp,ho,⟨g,h1,h2⟩=>by
  simp only[aM]at h;simp only[aP]at ho;cases hi:aB b js 0 with
  |some i=>rw[hi]at h;cases h;exact⟨g,(hj b i hi).1.trans h1,h2⟩
  |none =>
   rw[hi]at h ho;simp only at h;split at h
   ·rename_i cs hb;rw[hb]at ho;split at h
    ·rename_i cs' qs hcs;cases h;obtain⟨g',T,vs,e1,e2,e3⟩:=hS.box b _ hb;rw[h1]at e1;cases e1;have e4:=hrec cs cs' _ vs hcs hp (fun q hq=>ho q (Cg _ hq)) e3;refine⟨g,off,vs.drop off,h2,?_,e2.lt,fun j u hj=>?_,?_⟩
     ·rw[hc];exact ho b (NE ..) _ hb g h1
     ·rw[e2.cell];rw[List.getElem?_drop]at hj;simpa using hj
     ·rw[hc];exact e4.drop off
    ·cases h
   ·rename_i cs hb;cases h;obtain⟨g',vs,e1,e2,e3,e4,e5⟩:=hS.box b _ hb;rw[h1]at e1;cases e1;refine⟨g,off,vs.drop off,h2,?_,e3,fun j u hj=>?_,?_⟩
    ·rw[hc];exact hF g e2 e3
    ·rw[List.getElem?_drop]at hj;exact e4 _ u hj
    ·rw[hc];exact (e5.vI hF).drop off
   ·cases h
 |.df b i k,js,kn,a',ps,v,Mc,hc,hj,h,hp,ho,⟨g,h1,h2⟩=>by
  simp only[aM]at h;cases hi:aB b js 0 with
  |some i=>rw[hi]at h;cases h;exact⟨g,(hj b i hi).1.trans h1,h2⟩
  |none=>rw[hi]at h;cases h
 |.gl g o,js,kn,a',ps,v,Mc,hc,hj,h,hp,ho,hr=>by cases h;exact hr
 |.pin cs,js,kn,a',ps,v,Mc,hc,hj,h,hp,ho,⟨g,o,vs,h1,h2,h3,h4,h5⟩=>by
  cases h;refine⟨g,o,vs,h1,?_,h3,h4,?_⟩
  ·rw[hc];exact hF g h2 h3
  ·rw[hc];exact h5.vI hF
 |.agg cs,js,kn,a',ps,v,Mc,hc,hj,h,hp,ho,⟨vs,h1,h2⟩=>by
  simp only[aM]at h;split at h
  ·rename_i cs' qs hcs;cases h;exact⟨vs,h1,kC hS hF hrec cs js kn cs' _ vs Mc hc hj hcs hp ho h2⟩
  ·cases h
 |.l7 cs,js,kn,a',ps,v,Mc,hc,hj,h,hp,ho,⟨vs,h1,h2⟩=>by
  simp only[aM]at h;split at h
  ·rename_i cs' qs hcs;cases h;exact⟨vs,h1,kC hS hF hrec cs js kn cs' _ vs Mc hc hj hcs hp ho h2⟩
  ·cases h
 |.dm f cs,[],kn,a',ps,v,Mc,hc,hj,h,hp,ho,⟨vs,h1,h2⟩=>by
  simp only[aM]at h;split at h
  ·rename_i cs' qs hcs;cases h;refine⟨vs,h1,?_⟩;rw[hc];exact kC hS hF hrec cs [] false cs' _ vs (M0 F1) rfl (fun b i h=>by cases h) hcs hp ho h2
  ·cases h
 |.dm f cs,j::js,kn,a',ps,v,Mc,hc,hj,h,hp,ho,⟨vs,h1,h2⟩=>by
  simp only[aM]at h;split at h
  ·rename_i cs' qs hcs;cases h;exact⟨vs,h1,kC hS hF hrec cs (j::js) kn cs' _ vs Mc hc hj hcs hp ho h2⟩
  ·cases h
 |.au f cs,js,kn,a',ps,v,Mc,hc,hj,h,hp,ho,⟨vs,h1,h2⟩=>by
  cases h;refine⟨vs,h1,?_⟩;rw[hc];exact h2.vI hF
 |.un,js,kn,a',ps,v,Mc,hc,hj,h,hp,ho,hr=>by cases h
theorem kC(hS:aa X n0 M bx w)(hF:∀q,M.F q→q < w.heap.size→F1 q){rec:List AV→Option (List AV×List Prop)}{aY:List AV→List Nat}
  (hrec:∀cs cs' ps vs,rec cs=some (cs',ps)→K7 ps→(∀b∈aY cs,Fz M bx F1 b)→RL M w cs vs→RL (M0 F1) w cs' vs):∀(cs:List AV) (js:List Nat) (kn:Bool) (cs':List AV) (ps:List Prop) (vs:List Value) (Mc:Mm),Mc.F=F1→(∀b i,aB b js 0=some i→Mc.m i=M.m b∧Mc.o i=M.o b) →
  gq js kn bx rec cs=some (cs',ps)→K7 ps→(∀b∈dY js bx aY cs,Fz M bx F1 b)→RL M w cs vs→RL Mc w cs' vs
 |[],js,kn,cs',ps,vs,Mc,hc,hj,h,hp,ho,hr=>by cases h;exact hr
 |c::cs,js,kn,cs',ps,vs,Mc,hc,hj,h,hp,ho,⟨u,us,h1,h2,h3⟩=>by
  simp only[gq]at h;split at h
  ·rename_i c1 bJ cs1 mH e1 e2;cases h;obtain⟨hp1,hp2⟩:=fO hp;simp only[dY]at ho;exact⟨u,us,h1,a6X hS hF hrec c js kn c1 _ u Mc hc hj e1 hp1 (fun b hb=>ho b (Zan _ hb)) h2,kC hS hF hrec cs js kn cs1 _ us Mc hc hj e2 hp2 (fun b hb=>ho b (ZaE _ hb)) h3⟩
  ·cases h
end
theorem rY(hS:aa X n0 M bx w)(hF:∀q,M.F q→q < w.heap.size→F1 q):∀(n:Nat) (cs cs':List AV) (ps:List Prop) (vs:List Value),dM bx n cs=some (cs',ps)→K7 ps→(∀b∈iw bx n cs,Fz M bx F1 b)→RL M w cs vs→RL (M0 F1) w cs' vs
 |0,_,_,_,_,h,_,_,_=>by cases h
 |n+1,cs,cs',ps,vs,h,hp,ho,hr=>kC hS hF (rY hS hF n) cs [] false cs' ps vs (M0 F1) rfl (fun b i h=>by cases h) h hp ho hr
end
abbrev nQ:Nat:=1
abbrev bz(js:List Nat)(kn:Bool)(bx:Nat→Option Bx)(cs:List AV):Option (List AV×List Prop):=gq js kn bx (dM bx nQ) cs
abbrev K6(js:List Nat)(bx:Nat→Option Bx)(cs:List AV):List Nat:=dY js bx (iw bx nQ) cs
abbrev FY(bx:Nat→Option Bx)(cs:List AV):Option (List AV×List Prop):=gq [] false bx (dM bx 4) cs
abbrev Og(bx:Nat→Option Bx)(cs:List AV):List Nat:=dY [] bx (iw bx 4) cs
def kU(bx:Nat→Option Bx):Bx→Option Bx
 |.buf _ _ es=>some (.aI es)
 |.rws _ _ es=>some (.oF es)
 |.cells cs=>match dM bx nQ cs with
  |some (cs',_)=>some (.cst cs')
  |none=>none
 |_=>none
def O8(bx:Nat→Option Bx):List Nat→List (Nat×Bx)
 |[]=>[]
 |b::bs=>match bx b with
  |some x=>match kU bx x with
   |some x'=>(b,x')::O8 bx bs
   |none=>O8 bx bs
  |none=>O8 bx bs
theorem rZ{bx:Nat→Option Bx}:∀{ups:List (Nat×Bx)} {k:Nat},(∀x,(k,x) ∉ ups)→J2 bx ups k=bx k
 |[],_,_=>rfl
 | (b,x)::r,k,h=>by
  have h1:k≠b:=fun e=>h x (by rw[e];exact NE ..)
  show (if k=b then some x else J2 bx r k)=bx k;rw[EQ h1];exact rZ fun y hy=>h y (Cg _ hy)
theorem Dc{bx:Nat→Option Bx}:∀{ups:List (Nat×Bx)} {k:Nat} {x:Bx},J2 bx ups k=some x→(k,x)∈ups∨((∀y,(k,y) ∉ ups)∧bx k=some x)
 |[],_,_,h=>.inr ⟨(fun _ h=>by cases h),h⟩
 | (b,x0)::r,k,x,h=>by
  have h':(if k=b then some x0 else J2 bx r k)=some x:=h;by_cases e:k=b
  ·rw[Ch e]at h';cases h';exact .inl (by rw[e];exact NE ..)
  ·rw[EQ e]at h';rcases Dc h' with h1 | ⟨h1,h2⟩
   ·exact .inl (Cg _ h1)
   ·refine .inr ⟨fun y hy=>?_,h2⟩;rcases Za3.1 hy with hy | hy
    ·cases hy;exact e rfl
    ·exact h1 y hy
theorem jE{bx:Nat→Option Bx}:∀{bs:List Nat} {b:Nat} {x':Bx},(b,x')∈O8 bx bs→b∈bs∧∃x,bx b=some x∧kU bx x=some x'
 |[],_,_,h=>by cases h
 |b0::bs,b,x',h=>by
  unfold O8 at h;split at h
  ·rename_i x hx;split at h
   ·rename_i y hy;rcases Za3.1 h with h | h
    ·cases h;exact⟨NE ..,x,hx,hy⟩
    ·obtain⟨h1,h2⟩:=jE h;exact⟨Cg _ h1,h2⟩
   ·obtain⟨h1,h2⟩:=jE h;exact⟨Cg _ h1,h2⟩
  ·obtain⟨h1,h2⟩:=jE h;exact⟨Cg _ h1,h2⟩
theorem Dp{bx:Nat→Option Bx}:∀{bs:List Nat} {b:Nat} {x x':Bx},b∈bs→bx b=some x→kU bx x=some x'→(b,x')∈O8 bx bs
 |[],_,_,_,h,_,_=>by cases h
 |b0::bs,b,x,x',h,hx,hy=>by
  unfold O8;rcases Za3.1 h with rfl | h
  ·rw[hx];simp only;rw[hy];exact NE ..
  ·split
   ·split
    ·exact Cg _ (Dp h hx hy)
    ·exact Dp h hx hy
   ·exact Dp h hx hy
section
variable {X:Nat→Prop} {n0:Nat} {M:Mm} {w:World} {bx:Nat→Option Bx}
def eX(M:Mm)(bx:Nat→Option Bx)(bs:List Nat)(q:Nat):Prop:=M.F q∨∃b x,b∈bs∧bx b=some x∧(kU bx x).isSome=true∧Hx M b x q
theorem aa.O8(h:aa X n0 M bx w)(bs:List Nat)(hbs:∀b∈bs,∀cs,bx b=some (.cells cs)→∀cs' ps,dM bx nQ cs=some (cs',ps)→K7 ps∧∀b'∈iw bx nQ cs,Fz M bx (eX M bx bs) b') :
  P5 X n0 M w ⟨M.m,eX M bx bs,M.o⟩ w∧aa X n0 ⟨M.m,eX M bx bs,M.o⟩ (J2 bx (Go.Proofs.YtbpmpdadppamgaaGreatDoor.O8 bx bs)) w∧∀q,eX M bx bs q→M.F q∨n0≤q∨X q:=by
 have g:P5 X n0 M w ⟨M.m,eX M bx bs,M.o⟩ w:=⟨W9.refl _ _ _,fun _ _ _=>rfl,fun _ h _=>.inl h,fun _ _ h=>h,fun _=>nI rfl⟩;have hx:∀k x q,Hx (⟨M.m,eX M bx bs,M.o⟩:Mm) k x q↔Hx M k x q:=fun k x q=>Hx.eq rfl rfl
 have frozen:∀{b x' q},(b,x')∈Go.Proofs.YtbpmpdadppamgaaGreatDoor.O8 bx bs→¬Hx M b x' q:=by
  intro b x' q hm hq;obtain⟨_,x,_,h2⟩:=jE hm;cases x <;> simp only[kU]at h2 <;> first | (cases h2;exact hq) | (split at h2 <;> first | (cases h2;exact hq) | cases h2) | cases h2
 have old:∀{b x},J2 bx (Go.Proofs.YtbpmpdadppamgaaGreatDoor.O8 bx bs) b=some x→∀{q},Hx M b x q→bx b=some x∧∀y,(b,y) ∉ Go.Proofs.YtbpmpdadppamgaaGreatDoor.O8 bx bs:=by
  intro b x hb q hq;rcases Dc hb with h1 | ⟨h1,h2⟩
  ·exact absurd hq (frozen h1)
  ·exact⟨h2,h1⟩
 refine⟨g,⟨?_,?_,?_,?_,?_,?_⟩,?_⟩
 ·intro b x hb;rcases Dc hb with h1 | ⟨_,h2⟩
  ·obtain⟨hbm,x0,h2,h3⟩:=jE h1;have hF:∀q,Hx M b x0 q→eX M bx bs q:=fun q hq=>.inr ⟨b,x0,hbm,h2,by rw[h3];rfl,hq⟩
   have ho:=h.box b x0 h2;cases x0 with
   |buf e k es =>
    cases h3;obtain⟨A,n,c,e1,e2⟩:=ho;refine⟨A,n,c,e1,e2.Od.mono fun q hq _=>?_⟩;rcases hq with hq | hq
    ·exact .inl hq
    ·exact hF q ⟨n,c,by rw[←hq];exact e1⟩
   |rws e k es =>
    cases h3;obtain⟨g',vs,e1,e2,e3⟩:=ho;exact⟨g',e1,e3.rd e2 (fun q hq _=>.inl hq) (hF g' e1)⟩
   |cells cs =>
    simp only[kU]at h3;split at h3
    ·rename_i cs' ps hcs;cases h3;obtain⟨g',T,vs,e1,e2,e3⟩:=ho;obtain⟨hp,oG⟩:=hbs b hbm cs h2 cs' ps hcs;exact⟨g',vs,e1,hF g' e1,e2.lt,fun j u hj=>by rw[e2.cell];simpa using hj,rY h (fun q hq _=>.inl hq) _ cs cs' ps vs hcs hp oG e3⟩
    ·cases h3
   |aI es=>cases h3
   |mp y9=>cases h3
   |V3 y9=>cases h3
   |oF es=>cases h3
   |cst cs=>cases h3
  ·exact (h.box b x h2).go g rfl fun _ _=>rfl
 ·intro b x q hb hq;rw[hx]at hq;obtain⟨h1,h2⟩:=old hb hq;obtain⟨d1,d2,d3⟩:=h.dom b x q h1 hq;refine⟨d1,d2,fun hf=>?_⟩;rcases hf with hf | ⟨b',x',e1,e2,e3,e4⟩
  ·exact d3 hf
  ·obtain rfl:=h.inj _ _ _ _ q h1 e2 hq e4;obtain⟨y,hy⟩:=Option.isSome_iff_exists.1 e3;exact h2 y (Dp e1 e2 hy)
 ·intro b b' x x' q h1 h2 h3 h4;rw[hx]at h3 h4;exact h.inj _ _ _ _ q (old h1 h3).1 (old h2 h4).1 h3 h4
 ·intro b q hb;obtain⟨x,h1,h2⟩:=h.hm b q hb;cases hy:J2 bx (Go.Proofs.YtbpmpdadppamgaaGreatDoor.O8 bx bs) b with
  |none =>
   exfalso
   have:∀y,(b,y) ∉ Go.Proofs.YtbpmpdadppamgaaGreatDoor.O8 bx bs:=by
    have gen:∀{ups:List (Nat×Bx)},J2 bx ups b=none→∀y,(b,y) ∉ ups:=by
     intro ups
     induction ups with
     |nil=>intro _ y hy;cases hy
     |cons a r ih =>
      obtain⟨b0,x0⟩:=a;intro hn y hm;have hn':(if b=b0 then some x0 else J2 bx r b)=none:=hn;by_cases e:b=b0
      ·rw[Ch e]at hn';cases hn'
      ·rw[EQ e]at hn';rcases Za3.1 hm with hm | hm
       ·cases hm;exact e rfl
       ·exact ih hn' y hm
    exact gen hy
   rw[rZ this,h1]at hy;cases hy
  |some y =>
   refine⟨y,rfl,?_⟩;rcases Dc hy with h3 | ⟨_,h3⟩
   ·obtain⟨_,x0,h4,h5⟩:=jE h3;rw[h1]at h4;cases h4;cases x with
    |buf e k es=>cases h2
    |aI es=>cases h2
    |rws e k es=>cases h5;rfl
    |cells cs =>
     simp only[kU]at h5;split at h5
     ·cases h5;rfl
     ·cases h5
    |_=>cases h5
   ·rw[h1]at h3;cases h3;exact h2
 ·intro b v hb;have h1:=h.ho b v hb;cases hy:J2 bx (Go.Proofs.YtbpmpdadppamgaaGreatDoor.O8 bx bs) b with
  |some y=>rfl
  |none =>
   exfalso
   have gen:∀{ups:List (Nat×Bx)},J2 bx ups b=none→bx b=none:=by
    intro ups
    induction ups with
    |nil=>exact fun h=>h
    |cons a r ih =>
     obtain⟨b0,x0⟩:=a;intro hn;have hn':(if b=b0 then some x0 else J2 bx r b)=none:=hn;by_cases e:b=b0
     ·rw[Ch e]at hn';cases hn'
     ·rw[EQ e]at hn';exact ih hn'
   rw[gen hy]at h1;cases h1
 ·intro q hq;rcases hq with hq | ⟨b,x,_,e2,_,e4⟩
  ·exact h.fz q hq
  ·exact (h.dom b x q e2 e4).2.1
 ·intro q hq;rcases hq with hq | ⟨b,x,_,e2,_,e4⟩
  ·exact .inl hq
  ·exact .inr (h.dom b x q e2 e4).1
end
def Bx.Ae:Bx→Bool
 |.aI _=>true
 |.oF _=>true
 |.cst _=>true
 |_=>false
theorem Bx.a6Y{x:Bx}(h:x.Ae=true){M:Mm}{b q:Nat}:¬Hx M b x q:=by
 cases x <;> first | exact fun h=>h | cases h
section
variable {bx:Nat→Option Bx} {rec:List AV→Option (List AV×List Prop)} {aY:List AV→List Nat} {S:Nat→Prop}
def wU(Pq:List Prop→Prop)(bx:Nat→Option Bx)(rec:List AV→Option (List AV×List Prop))(aY:List AV→List Nat)(S:Nat→Prop)(b:Nat):Prop :=
 (∀x,bx b=some x→x.Ae=true∨(∃e k es,x=.buf e k es)∨(∃e k es,x=.rws e k es)∨∃cs,x=.cells cs) ∧
 ∀cs,bx b=some (.cells cs)→∃r,rec cs=some r∧Pq r.2∧∀b'∈aY cs,S b'
mutual
theorem a4u{Pq:List Prop→Prop}(mI:∀ps qs,Pq (ps++qs)→Pq ps∧Pq qs)(hrec:∀cs r,rec cs=some r→Pq r.2→∀b∈aY cs,∀x,bx b=some x→x.Ae=true∨(∃e k es,x=.buf e k es)∨(∃e k es,x=.rws e k es)):∀(a:AV) (js:List Nat) (kn:Bool) (a':AV) (ps:List Prop),
  aM js kn bx rec a=some (a',ps)→Pq ps→(∀b∈aP js bx aY a,S b)→∀b∈aP js bx aY a,wU Pq bx rec aY S b
 |.own b n,js,kn,a',ps,h,hp,hS,b',hb=>by
  simp only[aM]at h;simp only[aP]at hb;cases hi:aB b js 0 with
  |some i=>rw[hi]at hb;cases hb
  |none =>
   rw[hi]at h hb;obtain rfl:=Cf.1 hb;simp only at h;split at h
   ·rename_i e k es hx;refine⟨fun x hx'=>?_,fun cs hx'=>?_⟩
    ·rw[hx]at hx';cases hx';exact .inr (.inl ⟨_,_,_,rfl⟩)
    ·rw[hx]at hx';cases hx'
   ·rename_i es hx;refine⟨fun x hx'=>?_,fun cs hx'=>?_⟩
    ·rw[hx]at hx';cases hx';exact .inl rfl
    ·rw[hx]at hx';cases hx'
   ·cases h
 |.sl b n,js,kn,a',ps,h,hp,hS,b',hb=>by
  simp only[aM]at h;simp only[aP]at hb;cases hi:aB b js 0 with
  |some i=>rw[hi]at hb;cases hb
  |none =>
   rw[hi]at h hb;obtain rfl:=Cf.1 hb;simp only at h;split at h
   ·rename_i e k es hx;refine⟨fun x hx'=>?_,fun cs hx'=>?_⟩
    ·rw[hx]at hx';cases hx';exact .inr (.inr (.inl ⟨_,_,_,rfl⟩))
    ·rw[hx]at hx';cases hx'
   ·rename_i es hx;refine⟨fun x hx'=>?_,fun cs hx'=>?_⟩
    ·rw[hx]at hx';cases hx';exact .inl rfl
    ·rw[hx]at hx';cases hx'
   ·cases h
 |.ptr b off,js,kn,a',ps,h,hp,hS,b',hb=>by
  simp only[aM]at h;simp only[aP]at hb hS;cases hi:aB b js 0 with
  |some i=>rw[hi]at hb;cases hb
  |none =>
   rw[hi]at h hb hS;simp only at h hb hS;split at h
   ·rename_i cs hx;rw[hx]at hb hS;simp only at hb hS;split at h
    ·rename_i cs' qs hcs;cases h;rcases Za3.1 hb with rfl | hb
     ·refine⟨fun x hx'=>?_,fun c0 hx'=>?_⟩
      ·rw[hx]at hx';cases hx';exact .inr (.inr (.inr ⟨_,rfl⟩))
      ·rw[hx]at hx';cases hx';exact⟨_,hcs,hp,fun b2 hb2=>hS b2 (Cg _ hb2)⟩
     ·have:=hrec cs _ hcs hp b' hb;refine⟨fun x hx'=>?_,fun c0 hx'=>?_⟩
      ·rcases this x hx' with h1 | h1 | h1
       ·exact .inl h1
       ·exact .inr (.inl h1)
       ·exact .inr (.inr (.inl h1))
      ·rcases this _ hx' with h1 | ⟨_,_,_,h1⟩ | ⟨_,_,_,h1⟩
       ·cases h1
       ·cases h1
       ·cases h1
    ·cases h
   ·rename_i cs hx;rw[hx]at hb;obtain rfl:=Cf.1 hb;refine⟨fun x hx'=>?_,fun cs hx'=>?_⟩
    ·rw[hx]at hx';cases hx';exact .inl rfl
    ·rw[hx]at hx';cases hx'
   ·cases h
 |.agg cs,js,kn,a',ps,h,hp,hS,b',hb=>by
  simp only[aM]at h;split at h
  ·rename_i cs' qs hcs;cases h;exact pX mI hrec cs js kn cs' _ hcs hp hS b' hb
  ·cases h
 |.l7 cs,js,kn,a',ps,h,hp,hS,b',hb=>by
  simp only[aM]at h;split at h
  ·rename_i cs' qs hcs;cases h;exact pX mI hrec cs js kn cs' _ hcs hp hS b' hb
  ·cases h
 |.dm f cs,[],kn,a',ps,h,hp,hS,b',hb=>by
  simp only[aM]at h;split at h
  ·rename_i cs' qs hcs;cases h;exact pX mI hrec cs [] false cs' _ hcs hp hS b' hb
  ·cases h
 |.dm f cs,j::js,kn,a',ps,h,hp,hS,b',hb=>by
  simp only[aM]at h;split at h
  ·rename_i cs' qs hcs;cases h;exact pX mI hrec cs (j::js) kn cs' _ hcs hp hS b' hb
  ·cases h
 |.dt _,_,_,_,_,_,_,_,_,hb=>by simp[aP]at hb
 |.nil,_,_,_,_,_,_,_,_,hb=>by simp[aP]at hb
 |.ax _,_,_,_,_,_,_,_,_,hb=>by simp[aP]at hb
 |.Q5 _,_,_,_,_,_,_,_,_,hb=>by simp[aP]at hb
 |.df _ _ _,_,_,_,_,_,_,_,_,hb=>by simp[aP]at hb
 |.gl _ _,_,_,_,_,_,_,_,_,hb=>by simp[aP]at hb
 |.pin _,_,_,_,_,_,_,_,_,hb=>by simp[aP]at hb
 |.au _ _,_,_,_,_,_,_,_,_,hb=>by simp[aP]at hb
 |.un,_,_,_,_,_,_,_,_,hb=>by simp[aP]at hb
theorem pX{Pq:List Prop→Prop}(mI:∀ps qs,Pq (ps++qs)→Pq ps∧Pq qs)(hrec:∀cs r,rec cs=some r→Pq r.2→∀b∈aY cs,∀x,bx b=some x→x.Ae=true∨(∃e k es,x=.buf e k es)∨(∃e k es,x=.rws e k es)):∀(cs:List AV) (js:List Nat) (kn:Bool) (cs':List AV) (ps:List Prop),
  gq js kn bx rec cs=some (cs',ps)→Pq ps→(∀b∈dY js bx aY cs,S b)→∀b∈dY js bx aY cs,wU Pq bx rec aY S b
 |[],_,_,_,_,_,_,_,_,hb=>by simp[dY]at hb
 |c::cs,js,kn,cs',ps,h,hp,hS,b,hb=>by
  simp only[gq]at h;split at h
  ·rename_i c1 bJ cs1 mH e1 e2;cases h;obtain⟨hp1,hp2⟩:=mI _ _ hp;simp only[dY]at hb hS;rcases ZaA.1 hb with hb | hb
   ·exact a4u mI hrec c js kn c1 _ e1 hp1 (fun b hb=>hS b (Zan _ hb)) b hb
   ·exact pX mI hrec cs js kn cs1 _ e2 hp2 (fun b hb=>hS b (ZaE _ hb)) b hb
  ·cases h
end
end
structure En where
 P:Program
 G:World→Prop
 T:Nat→Nat→Option Value
 hT:∀w,G w→∀g i v,T g i=some v→w.cell? ⟨g,i,none⟩=some v
 hm:P.follows .mixedOrders=true
 nh:Nat
def sF(P:Program)(G:World→Prop)(f:FuncId)(args:List AV)(r:AV):Prop :=
 (∃fn,P.funcs[f]?=some fn∧fn.body.isNone=false∧(fn.name == "runtime.NumGoroutine")=false) ∧
 ∀(ok:Nat→Prop) (w:World) (vs:List Value),G w→RL (M0 ok) w args vs →
  Calls P f vs.toArray w (fun e w'=>∃v,e=.returned v∧Below w.heap.size w w'∧RV (M0 fun b=>ok b∨w.heap.size≤b) w' r v)
def lk(xs:List (Option Bx))(b:Nat):Option Bx:=match xs[b]? with
 |some x=>x
 |none=>none
def aV(P:Program)(G:World→Prop)(f:FuncId)(args:List AV)(xs:List (Option Bx))(r:AV)(xs':List (Option Bx)):Prop :=
 (∃fn,P.funcs[f]?=some fn∧fn.body.isNone=false∧(fn.name == "runtime.NumGoroutine")=false) ∧
 ∀(X:Nat→Prop) (M:Mm) (w:World) (vs:List Value),(∀w',W9 X w.heap.size w w'→G w')→aa X w.heap.size M (lk xs) w→RL M w args vs →
  Calls P f vs.toArray w (fun e w'=>∃v M',e=.returned v∧P5 X w.heap.size M w M' w'∧aa X w.heap.size M' (lk xs') w'∧(∀b,M'.F b→M.F b∨w.heap.size≤b∨X b)∧RV M' w' r v)
theorem Rx{P:Program}{f:FuncId}{args:Array Value}{w:World}(h:∃fn,P.funcs[f]?=some fn∧fn.body.isNone=false∧(fn.name == "runtime.NumGoroutine")=false):(callFunc f args).run P w=.ok (.enter f args) w:=by
 obtain⟨fn,h1,h2,h3⟩:=h;simp only[callFunc,program,lc,Sem.run,Result.andThen,h1,h2,h3,ZaL,Zav];rfl
def cu(P:Program)(t:TypeId):Option Nat:=match P.info? t with | some i=>some i.size | none=>none
def lg(P:Program)(t:TypeId):Option Bool:=match P.underlying t with
 |some (.struct _)=>some true
 |some (.array _ _)=>some true
 |some _=>some false
 |none=>none
theorem yh{P:Program}{t:TypeId}{b:Bool}(h:lg P t=some b)(w:World):(isAgg t).run P w=.ok b w:=by
 unfold lg at h;unfold isAgg underlying;cases hu:P.underlying t with
 |none=>rw[hu]at h;cases h
 |some d =>
  simp only[program,lc,Sem.run,hu,d9,Result.andThen];cases d <;> (rw[hu]at h;cases h;rfl)
theorem run_sizeOf{P:Program}{t:TypeId}{n:Nat}(h:cu P t=some n)(w:World):(sizeOf t).run P w=.ok n w:=by
 unfold cu at h;unfold sizeOf typeInfo;cases hu:P.info? t with
 |none=>rw[hu]at h;cases h
 |some d =>
  rw[hu]at h;cases h;simp only[program,lc,Sem.run,hu,d9,Result.andThen]
theorem rW(g o n:Nat):(⟨g,o,none⟩:Addr).add n=⟨g,o+n,none⟩:=by
 unfold Addr.add;split
 ·rename_i h;subst h;rfl
 ·rfl
mutual
def AV.fG:AV→Bool
 |.dt (.val _)=>true
 |.nil=>true
 |.agg cs=>AV.zA cs
 |.l7 cs=>AV.zA cs
 |_=>false
def AV.zA:List AV→Bool
 |[]=>true
 |c::cs=>AV.fG c && AV.zA cs
end
mutual
theorem RV.fG{w w':World}:∀{M M':Mm} (a:AV) (v:Value),a.fG=true→RV M w a v→RV M' w' a v
 |_,_,.dt (.val x),v,_,h=>by
  have e:v=x:=Rd.Q7 h;rw[e];exact Rd.val _
 |_,_,.nil,v,_,h=>h
 |_,_,.agg cs,v,hs,⟨vs,h1,h2⟩=>⟨vs,h1,RL.fG cs vs hs h2⟩
 |_,_,.l7 cs,v,hs,⟨vs,h1,h2⟩=>⟨vs,h1,RL.fG cs vs hs h2⟩
theorem RL.fG{w w':World}:∀{M M':Mm} (cs:List AV) (vs:List Value),AV.zA cs=true→RL M w cs vs→RL M' w' cs vs
 |_,_,[],_,_,h=>h
 |_,_,c::cs,_,hs,⟨u,us,h1,h2,h3⟩=>by
  have hs':(c.fG && AV.zA cs)=true:=hs;rw[Ce]at hs';exact⟨u,us,h1,RV.fG c u hs'.1 h2,RL.fG cs us hs'.2 h3⟩
end
mutual
def jd(ρ:Nat→Nat):AV→AV
 |.own b n=>.own (ρ b) n
 |.sl b n=>.sl (ρ b) n
 |.Q5 b=>.Q5 (ρ b)
 |.ptr b o=>.ptr (ρ b) o
 |.df b i k=>.df (ρ b) i k
 |.agg cs=>.agg (qA ρ cs)
 |.l7 cs=>.l7 (qA ρ cs)
 |.dm f cs=>.dm f (qA ρ cs)
 |.dt d=>.dt d
 |.nil=>.nil
 |.ax es=>.ax es
 |.gl g o=>.gl g o
 |.pin cs=>.pin cs
 |.au f cs=>.au f cs
 |.un=>.un
def qA(ρ:Nat→Nat):List AV→List AV
 |[]=>[]
 |c::cs=>jd ρ c::qA ρ cs
end
def mr(ρ:Nat→Nat):Bx→Bx
 |.cells cs=>.cells (qA ρ cs)
 |.mp y9=>.mp (y9.map fun x=>(x.1,jd ρ x.2))
 |x=>x
def b49(js:List Nat)(bx:Nat→Option Bx):List (Value×AV)→Option (List (Value×AV)×List Prop)
 |[]=>some ([],[])
 | (k,a)::r=>match aM js true bx (dM bx nQ) a,b49 js bx r with
  |some (a',ps),some (r',qs)=>some ((k,a')::r',ps++qs)
  |_,_=>none
def bA(js:List Nat)(k:Nat)(i:Nat):Nat:=match js[i]? with
 |some j=>j
 |none=>k+(i - js.length)
def nodupB:List Nat→Bool
 |[]=>true
 |j::js=>!js.contains j && nodupB js
def a4v:Nat→List (Option Bx)→Bool
 |0,_=>true
 |n+1,some _::xs=>a4v n xs
 |_+1,_=>false
def sP(bx:Nat→Option Bx):AV→Option (aa0×List Prop)
 |.dt (.row xs)=>some (xs,[])
 |.dt (.val (.slice _ 0 _))=>some ([],[])
 |.ax xs=>some (xs,[])
 |.nil=>some ([],[])
 |.own b n=>match bx b with
  |some (.buf _ _ es)=>some (es,[es.length=n])
  |some (.aI es)=>some (es,[es.length=n])
  |_=>none
 |.sl b n=>match bx b with
  |some (.rws _ _ es)=>some (es,[es.length=n])
  |some (.oF es)=>some (es,[es.length=n])
  |_=>none
 |_=>none
def L8(k:Nat)(xs:aa0):Prop:=∀x∈xs,x.length=k∧∀d∈x,d.one=true
def P7(bytes n:Nat):Prop:=n≤maxLen∧n * bytes≤140737488355328
def kV(bytes:Nat)(c:Int):Prop:=0≤c∧(bytes:Int) * c≤281474976710656∧c≤maxLen
def z8(es:aa0)(n:Int)(sz:Nat)(ds:List Dt):Prop:=0≤n∧es[n.toNat]?=some ds∧ds.length=sz
def gP(s:ByteArray)(n:Int)(r:Value):Prop:=∃b,0≤n∧s[n.toNat]?=some b∧r=.int .u8 b.toNat
def bV(es:aa0)(sz:Nat)(lo hi:Int)(rs:aa0):Prop:=0≤lo∧lo≤hi∧hi≤es.length∧rs=(es.take hi.toNat).drop lo.toNat∧(lo=0∨∀x∈es,x.length=sz)
def wV(s:ByteArray)(lo hi:Int)(r:Value):Prop:=0≤lo∧lo≤hi∧hi≤s.size∧r=.string (s.extract lo.toNat hi.toNat)
def zb(bytes n k:Nat)(xs:aa0):Bool:=Nat.ble n maxLen && Nat.ble (n * bytes) 140737488355328 && xs.all fun x=>Nat.beq x.length k && x.all Dt.one
theorem vk{bytes n k:Nat}{xs:aa0}(h:zb bytes n k xs=true):P7 bytes n∧L8 k xs:=by
 unfold zb at h;simp only[Ce,Zag]at h;exact⟨⟨Zap h.1.1,Zap h.1.2⟩,fun x hx=>⟨Zae (h.2 x hx).1,(h.2 x hx).2⟩⟩
def mg(P:Program)(kt:TypeId)(k:Value)(keys:List Value)(r:Option Nat):Prop :=
 ∀(es:List MapEntry) (w:World),es.map (·.key)=keys→Sem.run P (do Instr.checkKey es.isEmpty 10000 kt k;Instr.findKey kt k es) w=.ok (r.bind fun i=>(es[i]?).map fun e=>(i,e.val)) w
def Af(P:Program)(kt:TypeId)(k:Value)(keys:List Value):Prop :=
 ∀(es:List MapEntry) (w:World),es.map (·.key)=keys→Sem.run P (do Instr.checkKey false 10000 kt k;Instr.findKey kt k es) w=.ok none w
def cz:List AV→Option (List Dt)
 |[]=>some []
 |.dt d::cs=>match cz cs with
  |some ds=>some (d::ds)
  |none=>none
 |_::_=>none
theorem wh:∀{cs:List AV} {ds:List Dt},cz cs=some ds→cs=ds.map .dt
 |[],_,h=>by cases h;rfl
 |.dt d::cs,ds,h=>by
  unfold cz at h;split at h
  ·rename_i ds' h';cases h;rw[wh h'];rfl
  ·cases h
 |.nil::_,_,h=>by simp[cz]at h
 |.ax _::_,_,h=>by simp[cz]at h
 |.own _ _::_,_,h=>by simp[cz]at h
 |.sl _ _::_,_,h=>by simp[cz]at h
 |.Q5 _::_,_,h=>by simp[cz]at h
 |.ptr _ _::_,_,h=>by simp[cz]at h
 |.df _ _ _::_,_,h=>by simp[cz]at h
 |.gl _ _::_,_,h=>by simp[cz]at h
 |.pin _::_,_,h=>by simp[cz]at h
 |.agg _::_,_,h=>by simp[cz]at h
 |.l7 _::_,_,h=>by simp[cz]at h
 |.dm _ _::_,_,h=>by simp[cz]at h
 |.au _ _::_,_,h=>by simp[cz]at h
 |.un::_,_,h=>by simp[cz]at h
def chunks(ds:List Dt)(sz len:Nat):aa0:=(List.range len).map fun i=>(ds.drop (i * sz)).take sz
inductive I1 where
 |val (v:AV)
 |load (b off n:Nat) (ag:Bool)
 |wF (b i k:Nat) (ds:List Dt) (ag:Bool)
 |store (b off:Nat) (cs:List AV)
 |sG (b i k:Nat) (cs:List AV)
 |alloc (t:TypeId) (cs:List AV)
 |mk (e:TypeId) (sz len:Nat) (cs:List AV)
 |um (e:TypeId) (k bytes:Nat) (c:Int)
 |uo (e:TypeId) (k bytes n:Nat) (z:List Dt) (l c:Int)
 |app (e:TypeId) (k bytes:Nat) (s x:AV) (c:Bool)
 |idx (x:AV) (i:Int) (sz:Nat) (r:Option (List Dt))
 |qO (x:AV) (sz:Nat) (lo hi mx:Option Int) (r:Option (aa0))
 |call (f:FuncId) (args aZ:List AV) (r:AV)
 |wW
 |wG
 |ins (b:Nat) (kt:TypeId) (k:Value) (v:AV)
 |look (b:Nat) (kt:TypeId) (k:Value) (z:AV) (ok:Bool) (r:Option Nat)
 |wH (b:Nat) (kt:TypeId) (k:Value) (ok:Bool) (i:Nat) (v:AV)
 |prop (v:AV) (ps:List Prop)
 |uq (x:AV) (l:lw)
def I1.news(k:Nat):I1→List Nat
 |.alloc _ _=>[k]
 |.um _ _ _ _=>[k]
 |.uo _ _ _ _ _ _ _=>[k]
 |.app _ _ _ .nil _ _=>[k]
 |.app _ _ _ (.ax _) _ _=>[k]
 |.wW=>[k]
 |.wG=>[k]
 |_=>[]
def I1.bt(bx:Nat→Option Bx)(k:Nat):I1→List Nat
 |.val _=>[]
 |.prop _ _=>[]
 |.load b _ _ _=>[b]
 |.wF b _ _ _ _=>[b]
 |.store b _ _=>[b]
 |.sG b _ _ cs=>b::K6 [] bx cs
 |.alloc _ _=>[k]
 |.mk _ _ _ cs=>K6 [] bx cs
 |.um _ _ _ _=>[k]
 |.uo _ _ _ _ _ _ _=>[k]
 |.app _ _ _ s x _=>(match s with | .own b _=>[b] | _=>[k])++(match x with | .own b _=>[b] | .sl b _=>[b] | _=>[])
 |.idx x _ _ _=>K6 [] bx [x]
 |.qO x _ _ _ _ _=>K6 [] bx [x]
 |.uq x _=>K6 [] bx [x]
 |.call _ args _ r=>match r.fG with | true=>Og bx args | false=>K6 [] bx args
 |.wW=>[k]
 |.wG=>[k]
 |.ins b _ _ _=>[b]
 |.look b _ _ _ _ _=>[b]
 |.wH b _ _ _ _ _=>[b]
def rowAt(cs:List AV)(off n:Nat)(ag:Bool):Option AV:=match Nat.ble (off+n) cs.length with
 |true=>match ag with
  |true=>some (.agg ((cs.drop off).take n))
  |false=>cs[off]?
 |false=>none
def I1.run(E:En)(bx:Nat→Option Bx)(k:Nat):I1→Option (AV×List (Nat×Bx)×List Prop)
 |.val v=>some (v,[],[])
 |.prop v ps=>some (v,[],ps)
 |.load b off n ag=>match bx b with
  |some (.cells cs)=>match rowAt cs off n ag with
   |some r=>some (r,[],[])
   |none=>none
  |some (.cst cs)=>match rowAt cs off n ag with
   |some r=>some (r,[],[])
   |none=>none
  |_=>none
 |.wF b i k ds ag=>match bx b with
  |some (.rws _ k' es)=>match Nat.beq k k' with
   |true=>some (cond ag (.agg (ds.map .dt)) (.dt (ds.headD (.val undef))),[],[es[i]?=some ds,ds.length=cond ag k 1])
   |false=>none
  |_=>none
 |.store b off vs=>match bx b with
  |some (.cells cs)=>match Nat.ble (off+vs.length) cs.length && vs.all AV.one with
   |true=>some (.dt (.val undef),[(b,.cells (cs.take off++vs++cs.drop (off+vs.length)))],[])
   |false=>none
  |_=>none
 |.sG b i k vs=>match bx b with
  |some (.rws e k' es)=>match Nat.beq k k' && vs.all AV.one && Nat.beq vs.length k,bz [] false bx vs with
   |true,some (vs',ps)=>match cz vs',(K6 [] bx vs).contains b with
    |some ds,false=>some (.dt (.val undef),O8 bx (K6 [] bx vs)++[(b,.rws e k' (es.set i ds))],(i < es.length)::ps)
    |_,_=>none
   |_,_=>none
  |_=>none
 |.alloc _ cs=>match cs.all AV.one with
  |true=>some (.ptr k 0,[(k,.cells cs)],[])
  |false=>none
 |.mk _ sz len cs=>match bz [] false bx cs with
  |some (cs',ps)=>match cz cs',cs.all AV.one && Nat.beq cs'.length (len * sz) with
   |some ds,true=>some (.ax (chunks ds sz len),O8 bx (K6 [] bx cs),ps)
   |_,_=>none
  |none=>none
 |.um e kk bytes c=>some (.own k 0,[(k,.buf e kk [])],[kV bytes c])
 |.uo e kk bytes n z l c=>some (.sl k n,[(k,.rws e kk (List.replicate n z))],[l=n∧c=n∧kV bytes c])
 |.app e kk bytes s x c=>match sP bx x with
  |some (xs,ps)=>match s with
   |.nil=>match !c || zb bytes xs.length kk xs with
    |true=>some (.own k xs.length,[(k,.buf e kk xs)],cond c ps (P7 bytes xs.length::L8 kk xs::ps))
    |false=>none
   |.own b n=>match bx b with
    |some (.buf e' k' es)=>match Nat.beq e e' && Nat.beq kk k' && (match x with | .own b' _=>!Nat.beq b b' | .sl b' _=>!Nat.beq b b' | _=>true) && (!c || (Nat.beq es.length n && zb bytes (es++xs).length kk xs)) with
     |true=>some (.own b (es++xs).length,[(b,.buf e kk (es++xs))],cond c ps ((es.length=n)::P7 bytes (es++xs).length::L8 kk xs::ps))
     |false=>none
    |_=>none
   |.ax es=>match !c || (Nat.ble 1 xs.length && zb bytes (es++xs).length kk (es++xs)) with
    |true=>some (.own k (es++xs).length,[(k,.buf e kk (es++xs))],cond c ps ((1≤xs.length)::P7 bytes (es++xs).length::L8 kk (es++xs)::ps))
    |false=>none
   |_=>none
  |none=>none
 |.idx x i sz r=>match bz [] false bx [x] with
  |some ([.dt (.row es)],ps)=>match r with
   |some ds=>some (.pin (ds.map .dt),O8 bx (K6 [] bx [x]),z8 es i sz ds::ps)
   |none=>match decide (0≤i),es[i.toNat]? with
    |true,some ds=>match Nat.beq ds.length sz with
     |true=>some (.pin (ds.map .dt),O8 bx (K6 [] bx [x]),ps)
     |false=>none
    |_,_=>none
  |_=>none
 |.qO x sz lo hi mx r=>match bz [] false bx [x] with
  |some ([.dt (.row es)],ps)=>match r with
   |some rs=>some (cond mx.isSome (.ax rs) (.dt (.row rs)),O8 bx (K6 [] bx [x]),bV es sz (lo.getD 0) (hi.getD es.length) rs::(mx=none∨mx=hi)::ps)
   |none=>some (cond mx.isSome (.ax ((es.take (hi.getD es.length).toNat).drop (lo.getD 0).toNat)) (.dt (.row ((es.take (hi.getD es.length).toNat).drop (lo.getD 0).toNat))),O8 bx (K6 [] bx [x]),bV es sz (lo.getD 0) (hi.getD es.length) ((es.take (hi.getD es.length).toNat).drop (lo.getD 0).toNat)::(mx=none∨mx=hi)::ps)
  |_=>none
 |.uq x l=>match bz [] false bx [x] with
  |some ([.dt (.row es)],ps)=>some (.dt (.val (str l)),[],(es=l.map fun b=>[.val (.int .u8 b.toNat)])::ps)
  |_=>none
 |.call f args aZ r=>match r.fG with
  |true=>match FY bx args with
   |some (args',ps)=>some (r,[],sF E.P E.G f (args'++aZ) r::ps)
   |none=>none
  |false=>match bz [] false bx args with
   |some (args',ps)=>some (r,O8 bx (K6 [] bx args),sF E.P E.G f (args'++aZ) r::ps)
   |none=>none
 |.wW=>some (.Q5 k,[(k,.mp [])],[])
 |.wG=>some (.Q5 k,[(k,.V3 [])],[])
 |.ins b kt key v=>match bx b with
  |some (.mp y9)=>some (.dt (.val undef),[(b,.mp (y9++[(key,v)]))],[Af E.P kt key (y9.map (·.1))])
  |some (.V3 y9)=>match v with
   |.agg cs=>match cz cs with
    |some ds=>some (.dt (.val undef),[(b,.V3 (y9++[(key,ds)]))],[Af E.P kt key (y9.map (·.1))])
    |none=>none
   |_=>none
  |_=>none
 |.wH b kt key ok i v=>match bx b with
  |some (.mp y9)=>some (cond ok (.l7 [v,.dt (.val (.bool true))]) v,[],[mg E.P kt key (y9.map (·.1)) (some i),(y9.map (·.2))[i]?=some v])
  |some (.V3 y9)=>match v with
   |.agg cs=>match cz cs with
    |some ds=>some (cond ok (.l7 [v,.dt (.val (.bool true))]) v,[],[mg E.P kt key (y9.map (·.1)) (some i),(y9.map (·.2))[i]?=some ds])
    |none=>none
   |_=>none
  |_=>none
 |.look b kt key z ok r=>match bx b with
  |some (.V3 y9)=>match r with
   |some _=>none
   |none=>some (cond ok (.l7 [z,.dt (.val (.bool false))]) z,[],[mg E.P kt key (y9.map (·.1)) none])
  |some (.mp y9)=>match r with
   |some i=>match y9[i]? with
    |some (_,v)=>some (cond ok (.l7 [v,.dt (.val (.bool true))]) v,[],[mg E.P kt key (y9.map (·.1)) r])
    |none=>none
   |none=>some (cond ok (.l7 [z,.dt (.val (.bool false))]) z,[],[mg E.P kt key (y9.map (·.1)) none])
  |_=>none
end Go.Proofs.YtbpmpdadppamgaaGreatDoor
