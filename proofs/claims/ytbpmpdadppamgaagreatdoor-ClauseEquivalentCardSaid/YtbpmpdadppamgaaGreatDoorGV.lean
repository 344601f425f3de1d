/- Evaluation: the plain law. -/
import Derived.Test.YtbpmpdadppamgaaGreatDoorGU
import Derived.Test.YtbpmpdadppamgaaGreatDoorGS
import Derived.Test.YtbpmpdadppamgaaGreatDoorGQ
import Derived.Test.YtbpmpdadppamgaaGreatDoorGH
import Derived.Test.YtbpmpdadppamgaaGreatDoorGR
namespace Go.Proofs.YtbpmpdadppamgaaGreatDoor
open Go.Proofs.Tryz
open Go.RowKit
open Te
abbrev D7:=List ((lw×lw)×Tr)
def bf:D7→lw→lw→Option Tr
 |[],_,_=>none
 |x::r,p,n=>if x.1.1=p∧x.1.2=n then some x.2 else bf r p n
def dO:List (lw)→List Tr→D7
 |n::r,x::s=>((o9,n),x)::dO r s
 |_,_=>[]
def iK:List (lw×Nat)→Nat→lw→Option (Nat×Nat)
 |[],_,_=>none
 |x::r,i,n=>if x.1=n then some (i,x.2) else iK r (i+1) n
theorem SQ:∀{L:List (lw×Nat)} {i j a:Nat} {n:lw},iK L i n=some (j,a)→i≤j∧L[j - i]?=some (n,a)
 |[],_,_,_,_,h=>by cases h
 |x::r,i,j,a,n,h=>by
  rw[iK]at h;split at h
  ·rename_i hx;cases h;rw[Zb5,←hx];exact⟨PP _,rfl⟩
  ·obtain⟨h1,h2⟩:=SQ h;refine⟨J,?_⟩;rw[show j - i=(j - (i+1))+1 by omega,List.getElem?_cons_succ]
   exact h2
theorem SS:∀{L:List (lw×Nat)} {i:Nat} {n:lw},iK L i n=none→∀x∈L,n≠x.1
 |[],_,_,_,x,hx=>by cases hx
 |y::r,i,n,h,x,hx=>by
  rw[iK]at h;split at h
  ·cases h
  ·rename_i hy;rcases Za3.1 hx with rfl | hx
   ·exact fun e=>hy e.symm
   ·exact SS h x hx
noncomputable def Ag(o:Ob):Tr:=open Classical in if h:∃t:Tr,t.ob=o then h.choose else l6
theorem TJ(t:Tr):Ag t.ob=t:=by
 have h:∃t':Tr,t'.ob=t.ob:=⟨t,rfl⟩;unfold Ag;rw[dif_pos h];exact Tr.DR h.choose_spec
abbrev iM:=Except Int Tr×Nat
def aJ(g:Te→Nat→iM):List Te→Nat→Except Int (List Tr)×Nat
 |[],l=>(.ok [],l)
 |t::r,l=>match g t l with
  | (.error e,l')=>(.error e,l')
  | (.ok x,l')=>match aJ g r l' with
   | (.error e,l2)=>(.error e,l2)
   | (.ok xs,l2)=>(.ok (x::xs),l2)
def lh(i:Nat)(vs:List Tr):Except Int Tr:=match Tr.kept' (Tr.uu i vs) with
 |some x=>.ok x
 |none=>.error 2
def jS(W:List p9.F7)(e:D7→Te→Nat→iM)(env:D7)(t:Te)(l:Nat):iM :=
 if is t x8 3 then
  match e env (t.arg 0) l with
  | (.error c,l')=>(.error c,l')
  | (.ok x,l')=>if x=l6 then e env (t.arg 2) l' else e env (t.arg 1) l'
 else match aJ (e env) t.args l with
  | (.error c,l')=>(.error c,l')
  | (.ok vs,l')=>match iK I5 0 t.nn with
   |some (i,_)=>(lh i vs,l')
   |none=>match W.find? fun f=>f.nm == t.nn with
    |some fn=>e (dO fn.ps vs) fn.body l'
    |none=>(.error 7,l')
noncomputable def jX(env:D7)(t:Te)(l:Nat)(r:iM):iM :=
 if t.kind=1 then (match bf env t.np t.nn with | some x=>.ok x | none=>.error 6,l)
 else if t.kind=2 then (.ok (Ag t.val),l) else r
noncomputable def ev(W:List p9.F7):Nat→D7→Te→Nat→iM
 |0,env,t,l=>jX env t l (.error 9,l)
 |f+1,env,t,l=>jX env t l (if l=0 then (.error 9,l) else jS W (ev W f) env t (l - 1))
theorem zw{g:Te→Nat→iM}(hg:∀t l,(g t l).2≤l):∀(s:List Te) (l:Nat),(aJ g s l).2≤l
 |[],l=>PP _
 |t::r,l=>by
  rw[aJ];have h:=hg t l;split
  ·rename_i e l' hh;rw[hh]at h;exact h
  ·rename_i x l' hh;rw[hh]at h;have h2:=zw hg r l';split
   ·rename_i e l2 hk;rw[hk]at h2;exact pu h2 h
   ·rename_i xs l2 hk;rw[hk]at h2;exact pu h2 h
theorem b1u{W:List p9.F7}{e:D7→Te→Nat→iM}(he:∀env t l,(e env t l).2≤l)(env:D7)(t:Te)(l:Nat):(jS W e env t l).2≤l:=by
 unfold jS;split
 ·have h:=he env (t.arg 0) l;split
  ·rename_i c l' hh;rw[hh]at h;exact h
  ·rename_i x l' hh;rw[hh]at h;split
   ·exact pu (he ..) h
   ·exact pu (he ..) h
 ·have h:=zw (he env) t.args l;split
  ·rename_i c l' hh;rw[hh]at h;exact h
  ·rename_i vs l' hh;rw[hh]at h;split
   ·exact h
   ·split
    ·exact pu (he ..) h
    ·exact h
theorem WA{env:D7}{t:Te}{l:Nat}{r:iM}(h:r.2≤l):(jX env t l r).2≤l:=by
 unfold jX;split
 ·exact PP _
 ·split
  ·exact PP _
  ·exact h
theorem mq(W:List p9.F7):∀(f:Nat) (env:D7) (t:Te) (l:Nat),(ev W f env t l).2≤l
 |0,env,t,l=>by rw[ev];exact WA (PP _)
 |f+1,env,t,l=>by
  rw[ev];refine WA ?_;split
  ·exact PP _
  ·exact pu (b1u (mq W f) env t (l - 1)) (Nat.sub_le _ _)
theorem SV{g g':Te→Nat→iM}{L d:Nat}(hg:∀t l,(g t l).2≤l)(h:∀t l x l',l≤L→g t l=(.ok x,l')→g' t (l+d)=(.ok x,l'+d)):∀(s:List Te) (l:Nat) (xs:List Tr) (l':Nat),l≤L→aJ g s l=(.ok xs,l')→aJ g' s (l+d)=(.ok xs,l'+d)
 |[],l,xs,l',_,e=>by rw[aJ]at e ⊢;cases e;rfl
 |t::r,l,xs,l',hl,e=>by
  rw[aJ]at e ⊢
  have hle:=hg t l;split at e
  ·cases e
  ·rename_i x l1 hh;rw[hh]at hle;have hle:l1≤l:=hle;split at e
   ·cases e
   ·rename_i ys l2 hk;cases e;rw[h t l x l1 hl hh];dsimp only;rw[SV hg h r l1 ys l' J hk]
theorem a9l(W:List p9.F7):∀(f:Nat) (env:D7) (t:Te) (l:Nat) (x:Tr) (l' d f':Nat),l≤f→l+d≤f'→ev W f env t l=(.ok x,l')→ev W f' env t (l+d)=(.ok x,l'+d):=by
 have base:∀{env:D7} {t:Te} {l l' d:Nat} {x:Tr} {r r':iM},(r=(.ok x,l')→r'=(.ok x,l'+d))→jX env t l r=(.ok x,l')→jX env t (l+d) r'=(.ok x,l'+d):=by
  intro env t l l' d x r r' h e;unfold jX at e ⊢;split
  ·rename_i hk;rw[Ch hk]at e;cases hv:bf env t.np t.nn with
   |none=>rw[hv]at e;cases e
   |some y=>rw[hv]at e;cases e;rfl
  ·rename_i hk;rw[EQ hk]at e;split
   ·rename_i hk2;rw[Ch hk2]at e;cases e;rfl
   ·rename_i hk2;rw[EQ hk2]at e;exact h e
 intro f
 induction f with
 |zero =>
  intro env t l x l' d f' hl hl' e;rw[ev]at e;cases f' with
  |zero=>rw[ev];exact base (fun h=>by cases h) e
  |succ f'=>rw[ev];exact base (fun h=>by cases h) e
 |succ f ih =>
  intro env t l x l' d f' hl hl' e;rw[ev]at e;have hle:=mq W f;cases f' with
  |zero =>
   obtain rfl:l=0:=J;rw[ev];exact base (fun h=>by rw[Ch rfl]at h;cases h) e
  |succ f' =>
   rw[ev];refine base (fun h=>?_) e;by_cases h0:l=0
   ·rw[Ch h0]at h;cases h
   rw[EQ h0]at h;rw[EQ J,show l+d - 1=l - 1+d by omega]
   have key:∀env t l x l',l≤f→l+d≤f'→ev W f env t l=(.ok x,l')→ev W f' env t (l+d)=(.ok x,l'+d):=fun env t l x l' h1 h2=>ih env t l x l' d f' h1 h2
   unfold jS at h ⊢;split
   ·rename_i hi;rw[Ch hi]at h;have h1:=hle env (t.arg 0) (l - 1);split at h
    ·cases h
    ·rename_i y l1 hh;rw[hh]at h1;have h1:l1≤l - 1:=h1;rw[key env (t.arg 0) (l - 1) y l1 J J hh];dsimp only;split
     ·rename_i hy;rw[Ch hy]at h;exact key _ _ _ _ _ J J h
     ·rename_i hy;rw[EQ hy]at h;exact key _ _ _ _ _ J J h
   ·rename_i hi;rw[EQ hi]at h;have h1:=zw (hle env) t.args (l - 1);split at h
    ·cases h
    ·rename_i vs l1 hh;rw[hh]at h1;have h1:l1≤l - 1:=h1;rw[SV (g':=ev W f' env) (L:=l - 1) (d:=d) (hle env) (fun t l x l' hl=>key env t l x l' J J) t.args (l - 1) vs l1 (PP _) hh];dsimp only;split
     ·rename_i i a hp;rw[hp]at h;simp only[Zaz]at h;rw[h.1,h.2]
     ·rename_i hp;rw[hp]at h;dsimp only at h;split
      ·rename_i fn hf;rw[hf]at h;exact key _ _ _ _ _ J J h
      ·rename_i hf;rw[hf]at h;cases h
def dE(env:D7):Prop:=∀x∈env,x.2.valid=true
theorem Kn:∀{env:D7} {p n:lw} {x:Tr},bf env p n=some x→∃y∈env,y.2=x
 |[],_,_,_,h=>by cases h
 |y::r,p,n,x,h=>by
  rw[bf]at h;split at h
  ·cases h;exact⟨y,NE ..,rfl⟩
  ·obtain⟨z,h1,h2⟩:=Kn h;exact⟨z,Cg _ h1,h2⟩
theorem DL:∀(ps:List (lw)) (vs:List Tr),(∀x∈vs,x.valid=true)→dE (dO ps vs)
 |[],_,_=>by rw[dO];intro x hx;cases hx;all_goals simp
 |n::r,[],_=>by rw[dO];intro x hx;cases hx;all_goals simp
 |n::r,x::s,h=>by
  rw[dO];intro y hy;rcases Za3.1 hy with rfl | hy
  ·exact h x (NE ..)
  ·exact DL r s (fun z hz=>h z (Cg _ hz)) y hy
theorem b1v{i:Nat}{vs:List Tr}{x:Tr}(h:lh i vs=.ok x):x.valid=true:=by
 unfold lh at h;split at h
 ·rename_i y hy;cases h;unfold Tr.kept' at hy;split at hy
  ·rename_i hv;cases hy;exact hv
  ·cases hy
 ·cases h
inductive Wd:Te→Prop
 |var (p n:lw):Wd ⟨1,p,n,Q9,[]⟩
 |H9 (t:Tr) (h:t.valid=true):Wd (Te.H9 t.ob)
 |ap (n:lw) (l:List Te) (ha:fI G5 n=some l.length) (hl:l.length≤8) (h:∀x∈l,Wd x):Wd (Te.ap n l)
end Go.Proofs.YtbpmpdadppamgaaGreatDoor
namespace Go.Proofs.YtbpmpdadppamgaaGreatDoor
open Go.Proofs.Tryz
open Go.RowKit
theorem a3C:∀x∈vZ,R6 ⟨x.1,x.2⟩=true:=by decide +kernel
theorem a9m(n:Int):R6 ⟨(bN n).1,(bN n).2⟩=true:=by
 have hlt:(n % 13).toNat < vZ.length:=by show (n % 13).toNat < 13;omega
 unfold bN;rw[AC,ww hlt];exact a3C _ (Zaj hlt)
theorem QU:∀{l:List Tr},(∀t∈l,t.good=true)→(Tr.list l).good=true
 |[],_=>Tr.jB Tr.pO
 |a::r,h=>by
  show (a.good && (Tr.list r).good)=true;rw[h a (NE ..),QU fun t ht=>h t (Cg _ ht)];rfl
theorem a2G:kM.good=true:=Tr.vH.2 (Rb.mono (sw O) O)
theorem QV{l:List Tr}(h:∀t∈l,t.good=true)(i:Nat):(l.getD i kM).good=true:=by
 rw[AC];rcases Za5 i l.length with h1 | h1
 ·rw[ww h1];exact h _ (Zaj h1)
 ·rw[Za4 h1];exact a2G
theorem a6p(r:Raw):Fit r→(V8 r).good=true:=by
 induction r using Raw.ind with
 |step r ih =>
  intro h;have hl:∀t∈r.l.map V8,t.good=true:=by
   intro t ht;obtain⟨x,hx,rfl⟩:=Zaw.1 ht;exact ih x hx (h.kids hx)
  rw[DU];unfold mkK;split
  ·exact Tr.vH.2 ((sw J).mono O)
  ·split
   ·exact Tr.vH.2 ((Rt J (by have:=h.s;omega)).mono O)
   ·split
    ·exact a9m r.n
    ·split
     ·have:=h.s;exact Pi (by omega:r.s.length≤200)
     ·split
      ·show (((r.l.map V8).getD 0 kM).good && ((r.l.map V8).getD 1 kM).good)=true;rw[QV hl 0,QV hl 1];rfl
      ·exact QU hl
def eP(r:Raw):Prop:=Fit r∧r.size≤700
theorem eP.kids{r x:Raw}(h:eP r)(hx:x∈r.l):eP x:=⟨h.1.kids hx,by have:=Raw.nE hx;have:=h.2;omega⟩
theorem Ve{r:Raw}(h:eP r):(V8 r).valid=true:=Tr.ni.2 ⟨by have:=a4h r;have:=h.2;omega,a6p r h.1⟩
theorem a3D{r:Raw}{m:Int}(h0:0≤m)(h1:m≤700)(h:iy r m=true):eP r:=⟨a5g h0 J h,by have:=a3w h0 J h;omega⟩
theorem DN{n:Int}(h:n.natAbs < 10 ^ 4):(Tr.num (n:Rat)).valid=true:=Tr.ni.2 ⟨by show 1≤3000;omega,Tr.vH.2 ((sw h).mono O)⟩
end Go.Proofs.YtbpmpdadppamgaaGreatDoor
namespace Go.Proofs.YtbpmpdadppamgaaGreatDoor
open Go.Proofs.Tryz
open Go.RowKit
open Te
def Nc(o:Ob):Bool:=decide (o=K8) || decide (o=tO) || decide (o=(Tr.num 0).ob) || decide (o=(Tr.num 1).ob) || decide (o=(Tr.num (-1)).ob)
theorem a9n{o:Ob}(h:Nc o=true):∃t:Tr,t.ob=o∧t.valid=true:=by
 unfold Nc at h;simp only[Bool.or_eq_true,rE]at h;rcases h with (((rfl | rfl) | rfl) | rfl) | rfl
 ·exact⟨Tr.sym o9 R8,rfl,by decide +kernel⟩
 ·exact⟨Tr.sym o9 [116],rfl,by decide +kernel⟩
 ·exact⟨_,rfl,DN (n:=0) O⟩
 ·exact⟨_,rfl,DN (n:=1) O⟩
 ·exact⟨_,rfl,DN (n:=-1) O⟩
mutual
def Fs:Te→Bool
 |⟨k,p,n,o,l⟩=>if k=1 then decide (o=Q9) && l.isEmpty
  else if k=2 then p.isEmpty && (n.isEmpty && (l.isEmpty && Nc o))
  else decide (k=3) && (decide (p=o9) && (decide (o=Q9) && (decide (fI G5 n=some l.length) && (decide (l.length≤8) && Fu l))))
def Fu:List Te→Bool
 |[]=>true
 |x::r=>Fs x && Fu r
end
mutual
theorem Vf:∀t:Te,Fs t=true→Wd t
 |⟨k,p,n,o,l⟩,h=>by
  rw[Fs]at h;split at h
  ·rename_i hk;subst hk;simp only[Ce,rE,List.isEmpty_iff]at h;obtain⟨rfl,rfl⟩:=h;exact .var p n
  ·split at h
   ·rename_i hk;subst hk;simp only[Ce,List.isEmpty_iff]at h;obtain⟨rfl,rfl,rfl,h⟩:=h;obtain⟨t,rfl,hv⟩:=a9n h;exact .H9 t hv
   ·simp only[Ce,rE]at h;obtain⟨rfl,rfl,rfl,h1,h2,h3⟩:=h;exact .ap n l h1 h2 (Vg l h3)
theorem Vg:∀l:List Te,Fu l=true→∀x∈l,Wd x
 |[],_=>fun x hx=>by cases hx
 |y::r,h=>by
  rw[Fu,Ce]at h;have h1:=Vf y h.1;have h2:=Vg r h.2;intro x hx;rcases Za3.1 hx with e | hx
  ·rw[e];exact h1
  ·exact h2 x hx
end
theorem a3E:(G5.all fun f=>Fs f.body && decide (f.ps.length≤8))=true:=by decide +kernel
theorem Ko{f:p9.F7}(h:f∈G5):Wd f.body∧f.ps.length≤8:=by
 have:=Zag.1 a3E f h;rw[Ce]at this;exact⟨Vf _ this.1,bv this.2⟩
theorem a6q:(I5.all fun x=>(G5.find? fun f=>f.nm == x.1).isNone)=true:=by decide +kernel
theorem a9o{x:lw×Nat}(h:x∈I5):(G5.find? fun f=>f.nm == x.1)=none:=by
 have:=Zag.1 a6q x h;simpa using this
theorem Qh{n:lw}{k:Nat}(h:fI G5 n=some k):(∃i,I5[i]?=some (n,k)∧iK I5 0 n=some (i,k)∧(G5.find? fun f=>f.nm == n)=none)∨(∃f,f∈G5∧(G5.find? fun f=>f.nm == n)=some f∧f.ps.length=k∧iK I5 0 n=none∧∀x∈I5,n≠x.1):=by
 cases hp:iK I5 0 n with
 |some q =>
  obtain⟨i,a⟩:=q;obtain⟨_,h2⟩:=SQ hp;rw[Nat.sub_zero]at h2;have hm:=q8 h2;have hno:=a9o hm;have ha:fI G5 n=some a:=by
   have hall:(I5.all fun x=>decide (fI G5 x.1=some x.2))=true:=by decide +kernel
   exact bv (Zag.1 hall _ hm)
  rw[ha]at h;cases h;exact .inl ⟨i,h2,rfl,hno⟩
 |none =>
  have hne:=SS hp;have hpr:p9.nY I5 n=none:=by
   cases hq:p9.nY I5 n with
   |none=>rfl
   |some k' =>
    exfalso
    unfold p9.nY at hq;rw[ZaH]at hq;obtain⟨x,hx,_⟩:=hq;have h1:=List.find?_some hx;have h2:=List.mem_of_find?_eq_some hx;exact hne x h2 (by simpa using h1:x.1=n).symm
  unfold fI at h;rw[hpr]at h;dsimp only at h;rw[ZaH]at h;obtain⟨f,hf,hk⟩:=h;exact .inr ⟨f,List.mem_of_find?_eq_some hf,hf,hk,rfl,hne⟩
abbrev bY(nl:List (lw)):AV:=.dt (.row (nl.map H5))
abbrev Z5(vl:List (lw)):AV:=.dt (.row (vl.map aO))
theorem Zb(l:List (lw)):Value.int .i64 (l.length:Int)=Value.int .i64 ((l.map aO).length:Int):=by rw[Cc]
abbrev qL:List (lw):=[[120],[121],[122],[117]]
structure Mk (wr:aa0) (nl vl:List (lw)):Prop where
 hn:0 < nl.length
 hn1:nl.length≤1000
 hv:0 < vl.length
 hv1:vl.length≤4
 ar:∀n∈nl,n.length≤1000∧∃a:Nat,a≤8∧j5 93 [.dt (.row wr),p8 o9 n] (.l7 [j4 (a:Int),l5 true])∧fI G5 n=some a
 b6H:∀v∈vl,v∈qL
theorem ixA{l:List (lw)}(f:lw→List Dt)(hf:∀x,(f x).length=2)(n:Int)(h:0 < l.length):∃x∈l,z8 (l.map f) (n % l.length) 2 (f x):=by
 have h0:0≤n % (l.length:Int):=Int.emod_nonneg _ J;have h1:n % (l.length:Int) < l.length:=Int.emod_lt_of_pos _ J;have hk:(n % (l.length:Int)).toNat < l.length:=J;exact⟨l[(n % (l.length:Int)).toNat],Zaj hk,h0,by rw[bi,ww hk];rfl,hf _⟩
abbrev rwC(r:Raw):Option Bx:=some (.cells [j4 r.kind,j4 r.n,stA r.s,.dt (.row (r.l.map Raw.enc))])
abbrev FQ:Option Bx:=some (.cells [j4 0,stA [],stA [],j4 0,stA [],stA [],stA [],stA [],stA [],.nil,.nil])
theorem b6I{wr:aa0}{nl vl:List (lw)}{r:Raw}{k j:Int}{nm:lw}{t:Te}(h1:j5 54 [j4 r.kind,j4 6] (j4 k))(hk:k < 2)(hv:0 < vl.length)(h2:j5 54 [j4 r.n,j4 vl.length] (j4 j))(hx:z8 (vl.map aO) j 2 (aO nm))(ht:j5 26 [p8 I4 nm] (o6 t)):j5 74 [.dt (.row wr),bY nl,Z5 vl,F5 r] (o6 t) :=
 pV [.av (j4 k),yT,.av (j4 vl.length),yT,.av (j4 vl.length),.av (j4 j),.av (.pin [stA I4,stA nm]),.av (o6 t)] [_,Bk .lss 3 18 2 k bT,(vi ↑vl.length)=(vi (↑(List.map aO vl).length)),Bk .gtr 3 22 0 ↑vl.length bT,(vi ↑vl.length)=(vi (↑(List.map aO vl).length)),_,_,_] func74 ⟨h1,D8 (Pi hk),Zb _,K4 (Pi J),Zb _,h2,hx,ht,Z⟩
theorem b6J{wr:aa0}{nl vl:List (lw)}{r:Raw}{o:Ob}{t:Te}(h1:j5 54 [j4 r.kind,j4 6] (j4 2))(hl:r.l.length=0)(h2:j5 54 [j4 r.n,j4 7] (j4 (r.n % 7)))(ho:j5 55 [j4 (r.n % 7 - 2)] (o7 o))(hc:j5 51 [o7 o] (o6 t)):j5 74 [.dt (.row wr),bY nl,Z5 vl,F5 r] (o6 t) :=
 pV [.av (j4 2),.no,.no,.av (j4 r.l.length),yT,.av (j4 (r.n % 7)),.av (j4 (r.n % 7 - 2)),.av (o7 o),.av (o6 t)] [_,(vi ↑r.l.length)=(vi (↑(List.map Raw.enc r.l).length)),Bk .eql 3 38 0 ↑r.l.length bT,_,Bk .sub 3 42 2 (r.n % 7) (vi (r.n % 7 - 2)),_,_] func74 ⟨h1,O1 _,C9 (Pi J),h2,bL rfl J J,ho,hc,Z⟩
theorem b6K{wr:aa0}{nl vl:List (lw)}{r x:Raw}{o:Ob}{t:Te}(h1:j5 54 [j4 r.kind,j4 6] (j4 2))(hx:r.l[0]?=some x)(ho:j5 41 [F5 x] (o7 o))(hc:j5 51 [o7 o] (o6 t)):j5 74 [.dt (.row wr),bY nl,Z5 vl,F5 r] (o6 t) :=
 pV [.av (j4 2),.no,.no,.av (j4 r.l.length),yF,.av (.pin ((encR x).map .dt)),.av (o7 o),.av (o6 t)] [_,(vi ↑r.l.length)=(vi (↑(List.map Raw.enc r.l).length)),Bk .eql 3 38 0 ↑r.l.length bF,z8 (List.map Raw.enc r.l) 0 4 (encR x),_,_] func74 ⟨h1,O1 _,C9 (WF (by have:=(UV.1 hx).1;omega)),kI hx,ho,hc,Z⟩
abbrev bdX(r:Raw)(nm:lw):List (Option Bx):=[rwC r,FQ,some (.cells [stA o9,stA nm])]
abbrev pg(wr:aa0)(nl vl:List (lw))(r:Raw)(nm:lw)(n:Int)(es:aa0)(i:Int):AS:=⟨stt 84 [(0,.dt (.row wr)),(1,bY nl),(2,Z5 vl),(7,.ptr 0 0),(8,.ptr 1 0),(10,.ptr 2 0),(11,j4 n),(13,.own 3 es.length),(14,j4 i)],bdX r nm++[some (.buf 47 11 es)]⟩
abbrev bd0(wr:aa0)(nl vl:List (lw))(r:Raw)(nm:lw)(n:Int):AS:=⟨stt 84 [(0,.dt (.row wr)),(1,bY nl),(2,Z5 vl),(7,.ptr 0 0),(8,.ptr 1 0),(10,.ptr 2 0),(11,j4 n),(13,.nil),(14,j4 0)],bdX r nm⟩
noncomputable abbrev BV:Code:=M6 (O4 f74) [1,1,1,1,1,1,1,0,1,0,0]
theorem b6L{wr:aa0}{nl vl:List (lw)}{r x:Raw}{nm:lw}{n:Int}{es:aa0}{i:Nat}{t:Te}(hi:(i:Int) < n)(hn:n≤8)(he:es.length≤8)(h1:j5 82 [F5 r,j4 (i:Int)] (F5 x))(h2:j5 74 [.dt (.row wr),bY nl,Z5 vl,F5 x] (o6 t)):y7 EX BV (pg wr nl vl r nm n es i) .F6 (pg wr nl vl r nm n (es++[o8 t]) ((i+1:Nat):Int)) :=
 tW [yT,.av (F5 x),.av (o6 t),.av (.un),.av (j4 ((i+1:Nat):Int))] [] [0,1,2,7,8,10,11,13,14] 4 [Bt .lss 3 66 67 ↑i n bT,j5 82 [(F5 r),(j4 ↑i)] (F5 x),j5 74 [(.dt (.row wr)),(.dt (.row (List.map H5 nl))),(.dt (.row (List.map aO vl))),(F5 x)] (o6 t),(es.length)=(es.length),P7 176 ((es++[o8 t]).length),L8 11 [o8 t],Bk .add 3 69 1 ↑i (vi (↑(i+1)))]     ⟨D8 (Pi hi),h1,h2,rfl,bE J (by simp;omega),nC t,H6 J J J,Z⟩
theorem b6M{wr:aa0}{nl vl:List (lw)}{r:Raw}{nm:lw}{n:Int}{es:aa0}{i:Nat}(hi:¬(i:Int) < n):y7 EX BV (pg wr nl vl r nm n es i) (.out 0) (pg wr nl vl r nm n es i) :=
 tW [yF] [] [0,1,2,7,8,10,11,13,14] 4 [Bt .lss 3 66 67 ↑i n bF]     ⟨D8 (WF hi),Z⟩
inductive Te.L9:Te→Prop
 |var (n:lw) (h:n∈qL):L9 (X8 n)
 |H9 (t:Tr) (h:t.Ok 10000) (hv:t.valid=true):L9 (Te.H9 t.ob)
 |ap (n:lw) (l:List Te) (hn:n.length≤1000) (hl:l.length≤8) (ha:fI G5 n=some l.length) (h:∀x∈l,L9 x):L9 (Te.ap n l)
theorem a9p{n:Int}(h:n.natAbs < 10 ^ 4):(Tr.num (n:Rat)).Ok 10000:=Tr.Ok.mono (k:=4) O (sw h)
theorem a9q{wr:aa0}{nl vl:List (lw)}{r:Raw}{nm:lw}{n:Nat}(hn:n≤8)(h:∀i:Nat,∃x t,t.L9∧j5 82 [F5 r,j4 (i:Int)] (F5 x)∧j5 74 [.dt (.row wr),bY nl,Z5 vl,F5 x] (o6 t)):∀(j i:Nat) (ts:List Te),i+j=n→ts.length=i→(∀t∈ts,t.L9)→∃ts',ts'.length=n∧(∀t∈ts',t.L9)∧I7 EX BV (pg wr nl vl r nm n (K3 ts) i) (.out 0) (pg wr nl vl r nm n (K3 ts') n):=by
 intro j
 induction j with
 |zero =>
  intro i ts hi hl hb;obtain rfl:i=n:=J;exact⟨ts,hl,hb,.stop (b6M J) (fun h=>by cases h)⟩
 |succ j ih =>
  intro i ts hi hl hb;obtain⟨x,t,ht,h1,h2⟩:=h i;obtain⟨ts',k1,k2,k3⟩:=ih (i+1) (ts++[t]) J (by simp[hl]) (fun y hy=>by
   rcases ZaA.1 hy with hy | hy
   ·exact hb y hy
   ·rw[Cf]at hy;subst hy;exact ht)
  have hs:=b6L (wr:=wr) (nl:=nl) (vl:=vl) (nm:=nm) (n:=(n:Int)) (es:=K3 ts) (i:=i) J J (by rw[Cc];omega) h1 h2;have e:K3 ts++[o8 t]=K3 (ts++[t]):=by unfold K3;rw[Zam,gp]
  rw[e]at hs;exact⟨ts',k1,k2,.more hs k3⟩
theorem b6N{wr:aa0}{nl vl:List (lw)}{r:Raw}{k a j:Int}{nm:lw}{es:aa0}{t:Te}(h1:j5 54 [j4 r.kind,j4 6] (j4 k))(hk:3≤k)(h2:j5 54 [j4 r.n,j4 nl.length] (j4 j))(hx:z8 (nl.map H5) j 2 (H5 nm))(ha:j5 93 [.dt (.row wr),p8 o9 nm] (.l7 [j4 a,l5 true]))
  (ht:y7 EX (.loop BV) (bd0 wr nl vl r nm a) (.out 0) (pg wr nl vl r nm a es a)) (hp:j5 58 [p8 o9 nm,.dt (.row es)] (o6 t)):j5 74 [.dt (.row wr),bY nl,Z5 vl,F5 r] (o6 t) :=
 pW [.av (j4 k),yF,yF,.av (j4 nl.length),.av (j4 j),.av (.pin [stA o9,stA nm]),.av (.l7 [j4 a,l5 true]),.av (o6 t)] [.inv [0,1,2,7,8,10,11,13,14] 3 (.out 0) (pg wr nl vl r nm a es a)] [_,Bk .lss 3 18 2 k bF,Bk .lss 3 34 3 k bF,(vi ↑nl.length)=(vi (↑(List.map H5 nl).length)),_,_,_,_,_,(es.length)=(es.length)] func74 ⟨h1,D8 (WF J),D8 (WF J),Nb _,h2,hx,ha,ht,hp,rfl,Z⟩
theorem Jt{wr:aa0}{nl vl:List (lw)}(hm:Mk wr nl vl){r:Raw}(hk:r.kind % 6 < 2):∃t:Te,t.L9∧j5 74 [.dt (.row wr),bY nl,Z5 vl,F5 r] (o6 t):=by
 obtain⟨nm,h1,h2⟩:=ixA (l:=vl) aO (fun _=>rfl) r.n hm.hv;have hv:=hm.hv;have hv1:=hm.hv1;exact⟨_,.var nm (hm.b6H nm h1),b6I (Z0 _ _ J J) hk hm.hv (Z0 _ _ J J) h2 (sK _)⟩
theorem TD{wr:aa0}{nl vl:List (lw)}(hm:Mk wr nl vl):∀(N:Nat) (r:Raw),r.size≤N→eP r→∃t:Te,t.L9∧j5 74 [.dt (.row wr),bY nl,Z5 vl,F5 r] (o6 t):=by
 intro N
 induction N with
 |zero=>intro r h;have:=r.size_pos;omega
 |succ N ih =>
  intro r hN hf;by_cases h0:r.kind % 6 < 2
  ·exact Jt hm h0
  by_cases h2:r.kind % 6=2
  ·have hd:=Z0 r.kind 6 J J;rw[h2]at hd;cases hl:r.l with
   |nil=>exact⟨_,.H9 (Tr.num ((r.n % 7 - 2:Int):Rat)) (a9p J) (DN J),b6J hd (by rw[hl];rfl) (Z0 _ _ J J) (wy _ J J) (ku _)⟩
   |cons x s =>
    have hx:r.l[0]?=some x:=by rw[hl];rfl
    have hfx:=hf.kids (q8 hx);exact⟨_,.H9 _ (b3o hfx.1) (Ve hfx),b6K hd hx (VT _ x (PP _) hfx.1) (ku _)⟩
  ·have Mo:∀i:Nat,∃x t,t.L9∧j5 82 [F5 r,j4 (i:Int)] (F5 x)∧j5 74 [.dt (.row wr),bY nl,Z5 vl,F5 x] (o6 t):=fun i=>by
    cases hx:r.l[i]? with
    |some x =>
     obtain⟨t,k1,k2⟩:=ih x (by have:=Raw.nE (q8 hx);omega) (hf.kids (q8 hx));exact⟨x,t,k1,KP hx,k2⟩
    |none =>
     obtain⟨t,k1,k2⟩:=Jt hm (r:=⟨0,0,[],[]⟩) O;exact⟨_,t,k1,JM (List.getElem?_eq_none_iff.1 hx),k2⟩
   obtain⟨nm,m1,m2⟩:=ixA (l:=nl) H5 (fun _=>rfl) r.n hm.hn;obtain⟨g1,a,g2,g3,g4⟩:=hm.ar nm m1;have hn:=hm.hn;have hn1:=hm.hn1;obtain⟨ts,l1,l2,l3⟩:=a9q (nm:=nm) (n:=a) g2 Mo a 0 [] J rfl (fun t ht=>by cases ht);have ht:y7 EX (.loop BV) (bd0 wr nl vl r nm a) (.out 0) (pg wr nl vl r nm a (K3 ts) a):=y7.Z9 13 47 11 (by show 13 < 84;omega) rfl l3.I8;exact⟨Te.ap nm ts,.ap nm ts g1 J (by rw[g4,l1]) l2,b6N (Z0 _ _ J J) J (Z0 _ _ J J) m2 g3 ht (DV _ _ _)⟩
theorem WB{wr:aa0}{nl vl:List (lw)}{r:Raw}{t:Te}(hn:j5 75 [.dt (.row wr)] (bY nl))(h:j5 74 [.dt (.row wr),bY nl,Z5 vl,F5 r] (o6 t)):j5 38 [.dt (.row wr),Z5 vl,F5 r] (o6 t) :=
 pV [.av (bY nl),.av (o6 t)] [_,_] func38 ⟨hn,h,Z⟩
theorem b1w{wr:aa0}{vl:List (lw)}{r x:Raw}{t u:Te}(h1:j5 82 [F5 r,j4 0] (F5 x))(h2:j5 38 [.dt (.row wr),Z5 vl,F5 x] (o6 t))(h3:j5 54 [j4 r.kind,j4 2] (j4 1))(h4:j5 27 [stA D9,.dt (.row [o8 t])] (o6 u)):j5 72 [.dt (.row wr),Z5 vl,F5 r] (o6 u) :=
 pV [.av (F5 x),.av (o6 t),.av (j4 1),.no,.av (o6 u)] [_,_,_,_] func72 ⟨h1,h2,h3,h4,Z⟩
theorem b1x{wr:aa0}{vl:List (lw)}{r x:Raw}{t:Te}(h1:j5 82 [F5 r,j4 0] (F5 x))(h2:j5 38 [.dt (.row wr),Z5 vl,F5 x] (o6 t))(h3:j5 54 [j4 r.kind,j4 2] (j4 0)):j5 72 [.dt (.row wr),Z5 vl,F5 r] (o6 t) :=
 pV [.av (F5 x),.av (o6 t),.av (j4 0),.no] [_,_,_] func72 ⟨h1,h2,h3,Z⟩
theorem b3Y{wr:aa0}{nl vl:List (lw)}(hm:Mk wr nl vl)(hn:j5 75 [.dt (.row wr)] (bY nl)){r:Raw}(hf:eP r):∃t:Te,t.L9∧j5 72 [.dt (.row wr),Z5 vl,F5 r] (o6 t):=by
 obtain⟨x,t,hb,h1,h2⟩:∃x t,Te.L9 t∧j5 82 [F5 r,j4 0] (F5 x)∧j5 74 [.dt (.row wr),bY nl,Z5 vl,F5 x] (o6 t):=by
  cases hx:r.l[0]? with
  |some x =>
   obtain⟨t,k1,k2⟩:=TD hm _ x (PP _) (hf.kids (q8 hx));exact⟨x,t,k1,KP hx,k2⟩
  |none =>
   obtain⟨t,k1,k2⟩:=Jt hm (r:=⟨0,0,[],[]⟩) O;exact⟨_,t,k1,JM (List.getElem?_eq_none_iff.1 hx),k2⟩
 have h3:=Z0 r.kind 2 J J;have hm2:r.kind % 2=0∨r.kind % 2=1:=J;rcases hm2 with hm2 | hm2
 ·rw[hm2]at h3;exact⟨t,hb,b1x h1 (WB hn h2) h3⟩
 ·rw[hm2]at h3;exact⟨Te.ap D9 [t],.ap _ _ O (by show 1≤8;omega) (show fI G5 D9=some 1 by decide +kernel) (fun y hy=>by rw[Cf]at hy;subst hy;exact hb),b1w h1 (WB hn h2) h3 (Jp _ _)⟩
namespace Te
theorem b1y{t:Tr}(h:t.ob.kind=2∧t.ob.sp=o9∧t.ob.sn=R8):t.ob=K8:=by
 obtain⟨h1,h2,h3⟩:=h;cases t with
 |num q=>cases h1
 |txt s=>cases h1
 |cons a d=>cases h1
 |sym p n =>
  have e1:p=o9:=h2;have e2:n=R8:=h3;subst e1 e2;rfl
theorem L9.gd{t:Te}(h:t.L9):t.Gd:=by
 induction h with
 |var n h=>exact iY n
 |H9 t h _=>exact .H9 (h.wf O) b1y
 |ap n l hn hl _ h ih=>exact .ap J ih
theorem L9.wf{t:Te}(h:t.L9):t.Wf:=h.gd.wf
theorem L9.kids{t x:Te}(h:t.L9)(hx:x∈t.args):x.L9:=by
 cases h with
 |var m h=>cases hx
 |H9 t h hv=>cases hx
 |ap m l hn hl ha h=>exact h x hx
theorem L9.no:noT.L9:=.H9 (Tr.sym o9 R8) ⟨O,O⟩ (by decide +kernel)
end Te
theorem yC:∀(l out:List Te),(∀x∈out,x.L9)→(∀x∈l,x.L9)→∀x∈addN out l,x.L9
 |[],out,ho,_=>by rw[addN];exact ho
 |x::l,out,ho,hl=>by
  rw[addN];split
  ·exact yC l out ho fun y hy=>hl y (Cg _ hy)
  ·refine yC l _ (fun y hy=>?_) fun y hy=>hl y (Cg _ hy)
   rcases ZaA.1 hy with hy | hy
   ·exact ho y hy
   ·rw[Cf]at hy;subst hy;exact hl _ (NE ..)
theorem zy{p a n b:lw}(h:¬(p=a∧n=b)):(decide (p=a) && decide (n=b))=false:=by
 rw[←Bool.decide_and];exact WF h
theorem sD{p a n b:lw}(h:p=a∧n=b):(decide (p=a) && decide (n=b))=true:=by
 rw[←Bool.decide_and];exact Pi h
abbrev As:=List (Te×Te)
namespace Te
def aF:As→lw→lw→Option Te
 |[],_,_=>none
 |x::r,p,n=>if x.1.np=p∧x.1.nn=n then some x.2 else aF r p n
mutual
def sub(σ:As):Te→Te
 |⟨k,p,n,o,l⟩=>if k=1 then (aF σ p n).getD ⟨k,p,n,o,l⟩ else if k=3 then ⟨k,p,n,o,Fv σ l⟩ else ⟨k,p,n,o,l⟩
def Fv(σ:As):List Te→List Te
 |[]=>[]
 |x::r=>sub σ x::Fv σ r
end
theorem a6r(σ:As)(l:List Te):Fv σ l=l.map (sub σ):=by
 induction l with
 |nil=>rfl
 |cons x r ih=>rw[Fv,ih];rfl
mutual
def mt:Te→Te→As→Bool×As
 |⟨k,p,n,o,l⟩,t,s =>
  if k=1 then
   match aF s p n with
   |none=>(true,s++[(⟨k,p,n,o,l⟩,t)])
   |some x=>(decide (x=t),s)
  else if k=3∧t.kind=3 then
   if p=t.np∧n=t.nn∧l.length=t.args.length then dQ l t.args s else (false,s)
  else (decide ((⟨k,p,n,o,l⟩:Te)=t),s)
def dQ:List Te→List Te→As→Bool×As
 |x::r,y::r',s=>match mt x y s with
  | (true,s')=>dQ r r' s'
  | (false,s')=>(false,s')
 |_,_,s=>(true,s)
end
def tq:List Te→List Te→As→Bool
 |[],_,_=>true
 |x::r,b,s=>b.any fun l=>(mt x l s).1 && tq r b (mt x l s).2
structure aX (s:As):Prop where
 vars:∀x∈s,(∃n∈qL,x.1=X8 n)∧x.2.L9
 nd:(s.map fun x=>x.1.nn).Nodup
theorem SX{α:Type}[DecidableEq α]:∀(l V:List α),l.Nodup→(∀x∈l,x∈V)→l.length≤V.length
 |[],_,_,_=>Ci _
 |x::l,V,hn,hs=>by
  obtain⟨h1,h2⟩:=List.nodup_cons.1 hn;have hx:=hs x (NE ..);have:=SX l (V.erase x) h2 fun y hy=>(List.mem_erase_of_ne (fun e=>by subst e;exact h1 hy)).2 (hs y (Cg _ hy))
  rw[List.length_erase_of_mem hx]at this;have hp:=List.length_pos_of_mem hx;rw[yM];omega
theorem aX.len{s:As}(h:aX s):s.length≤4:=by
 have:=SX _ qL h.nd fun n hn=>by
  obtain⟨x,hx,rfl⟩:=Zaw.1 hn;obtain⟨⟨m,hm,e⟩,_⟩:=h.vars x hx;rw[e];exact hm
 rw[Cc]at this;exact this
def tN(σ s:As):Prop:=∀x∈s,(∃n,x.1=X8 n)∧x.2=sub σ x.1
theorem Ju:∀{s:As} {p n:lw} {t:Te},aF s p n=some t→∃x∈s,x.1.np=p∧x.1.nn=n∧x.2=t
 |[],_,_,_,h=>by cases h
 |x::r,p,n,t,h=>by
  rw[aF]at h;split at h
  ·rename_i hc;cases h;exact⟨x,NE ..,hc.1,hc.2,rfl⟩
  ·obtain⟨y,h1,h2⟩:=Ju h;exact⟨y,Cg _ h1,h2⟩
theorem aX.aF{s:As}(h:aX s){p n:lw}{t:Te}(hl:aF s p n=some t):t.L9:=by
 obtain⟨x,h1,_,_,rfl⟩:=Ju hl;exact (h.vars x h1).2
theorem QW:∀{s:As} {p n:lw},aF s p n=none→∀x∈s,¬(x.1.np=p∧x.1.nn=n)
 |[],_,_,_,x,hx=>by cases hx
 |y::r,p,n,h,x,hx=>by
  rw[aF]at h;split at h
  ·cases h
  ·rename_i hc;rcases Za3.1 hx with rfl | hx
   ·exact hc
   ·exact QW h x hx
theorem TB(σ:As)(n:lw):sub σ (X8 n)=(aF σ I4 n).getD (X8 n):=by
 show sub σ ⟨1,I4,n,Q9,[]⟩=_;rw[sub,Ch rfl]
theorem Jy(σ:As)(o:Ob):sub σ (Te.H9 o)=Te.H9 o:=by
 show sub σ ⟨2,[],[],o,[]⟩=_;rw[sub,EQ O,EQ O];rfl
theorem Kw(σ:As)(n:lw)(l:List Te):sub σ (Te.ap n l)=Te.ap n (l.map (sub σ)):=by
 show sub σ ⟨3,o9,n,Q9,l⟩=_;rw[sub,EQ O,Ch rfl,a6r];rfl
theorem TC{σ:As}(h:aX σ){t:Te}(ht:t.L9):(sub σ t).L9:=by
 induction ht with
 |var n hn =>
  rw[TB];cases hl:aF σ I4 n with
  |none=>exact .var n hn
  |some x=>exact h.aF hl
 |H9 t hk hv=>rw[Jy];exact .H9 t hk hv
 |ap n l hn hl ha hx ih =>
  rw[Kw];refine .ap n _ hn (by rw[Cc];exact hl) (by rw[Cc];exact ha) fun x hx=>?_
  obtain⟨y,hy,rfl⟩:=Zaw.1 hx;exact ih y hy
theorem Ku(n:lw)(t:Te)(s:As):mt (X8 n) t s=match aF s I4 n with
  |none=>(true,s++[(X8 n,t)])
  |some x=>(decide (x=t),s):=by
 show mt ⟨1,I4,n,Q9,[]⟩ t s=_;rw[mt,Ch rfl]
theorem Kv(o:Ob)(t:Te)(s:As):mt (Te.H9 o) t s=(decide (Te.H9 o=t),s):=by
 show mt ⟨2,[],[],o,[]⟩ t s=_;rw[mt,EQ O,EQ (fun h=>by have:=h.1;revert this;decide)]
 rfl
theorem LK(n:lw)(l:List Te)(t:Te)(s:As):mt (Te.ap n l) t s=if t.kind=3 then (if o9=t.np∧n=t.nn∧l.length=t.args.length then dQ l t.args s else (false,s)) else (false,s):=by
 show mt ⟨3,o9,n,Q9,l⟩ t s=_;rw[mt,EQ O];by_cases h:t.kind=3
 ·rw[Ch ⟨rfl,h⟩,Ch h]
 ·rw[EQ (fun e=>h e.2),EQ h,WF];intro e;exact h (by rw[←e])
theorem aX.nil:aX []:=⟨fun x hx=>(by cases hx),List.nodup_nil⟩
theorem aX.snoc{s:As}(h:aX s){n:lw}(hn:n∈qL)(hl:Te.aF s I4 n=none){t:Te}(ht:t.L9):aX (s++[(X8 n,t)]):=by
 refine⟨fun x hx=>?_,?_⟩
 ·rcases ZaA.1 hx with hx | hx
  ·exact h.vars x hx
  ·rw[Cf]at hx;subst hx;exact⟨⟨n,hn,rfl⟩,ht⟩
 ·rw[Zam,List.nodup_append];refine⟨h.nd,I,fun a ha b hb e=>?_⟩;obtain⟨x,hx,rfl⟩:=Zaw.1 ha;obtain rfl:b=n:=by simpa using hb
  obtain⟨⟨m,hm,e1⟩,_⟩:=h.vars x hx;exact QW hl x hx ⟨by rw[e1],e⟩
theorem b1z{l:List Te}(ih:∀x∈l,∀(t:Te) (s:As),t.L9→aX s→aX (mt x t s).2):∀(m:List Te) (s:As),(∀y∈m,y.L9)→aX s→aX (dQ l m s).2:=by
 induction l with
 |nil=>intro m s _ hs;cases m <;> (rw[dQ];exact hs;all_goals simp)
 |cons x r ih2 =>
  intro m s hm hs;cases m with
  |nil=>rw[dQ];exact hs;all_goals simp
  |cons y m =>
   rw[dQ];have h1:=ih x (NE ..) y s (hm y (NE ..)) hs;split
   ·rename_i s' he;rw[he]at h1;exact ih2 (fun z hz=>ih z (Cg _ hz)) m s' (fun z hz=>hm z (Cg _ hz)) h1
   ·rename_i s' he;rw[he]at h1;exact h1
theorem Xn{p:Te}(hp:p.L9):∀(t:Te) (s:As),t.L9→aX s→aX (mt p t s).2:=by
 induction hp with
 |var n hn =>
  intro t s ht hs;rw[Ku];split
  ·rename_i hl;exact hs.snoc hn hl ht
  ·exact hs
 |H9 o ho _=>intro t s _ hs;rw[Kv];exact hs
 |ap n l hn hl _ hx ih =>
  intro t s ht hs;rw[LK];split
  ·split
   ·exact b1z ih t.args s (fun y hy=>ht.kids hy) hs
   ·exact hs
  ·exact hs
theorem a6s{σ:As}{l:List Te}(ih:∀x∈l,∀s:As,tN σ s→(mt x (sub σ x) s).1=true∧tN σ (mt x (sub σ x) s).2):∀s:As,tN σ s→(dQ l (l.map (sub σ)) s).1=true∧tN σ (dQ l (l.map (sub σ)) s).2:=by
 induction l with
 |nil=>intro s hs;rw[List.map_nil,dQ];exact⟨rfl,hs⟩;all_goals simp
 |cons x r ih2 =>
  intro s hs;rw[Zaq,dQ];obtain⟨h1,h2⟩:=ih x (NE ..) s hs;split
  ·rename_i s' he;rw[he]at h2;exact ih2 (fun z hz=>ih z (Cg _ hz)) s' h2
  ·rename_i s' he;rw[he]at h1;cases h1
theorem a9r{σ:As}{p:Te}(hp:p.L9):∀s:As,tN σ s→(mt p (sub σ p) s).1=true∧tN σ (mt p (sub σ p) s).2:=by
 induction hp with
 |var n hn =>
  intro s hs;rw[Ku];cases hl:aF s I4 n with
  |none =>
   refine⟨rfl,fun x hx=>?_⟩;rcases ZaA.1 hx with hx | hx
   ·exact hs x hx
   ·rw[Cf]at hx;subst hx;exact⟨⟨n,rfl⟩,rfl⟩
  |some y =>
   refine⟨?_,hs⟩;obtain⟨x,h1,_,h3,rfl⟩:=Ju hl;obtain⟨⟨m,hm⟩,he⟩:=hs x h1;rw[hm]at h3;obtain rfl:m=n:=h3;rw[he,hm];exact Pi rfl
 |H9 o ho _=>intro s hs;rw[Jy,Kv];exact⟨Pi rfl,hs⟩
 |ap n l hn hl _ hx ih =>
  intro s hs;rw[Kw,LK,Ch (show (Te.ap n (l.map (sub σ))).kind=3 from rfl),Ch (show o9=(Te.ap n (l.map (sub σ))).np∧n=(Te.ap n (l.map (sub σ))).nn∧l.length=(Te.ap n (l.map (sub σ))).args.length from ⟨rfl,rfl,(Cc ..).symm⟩)]
  exact a6s ih s hs
theorem QH{σ:As}{b:List Te}:∀(a:List Te) (s:As),(∀x∈a,x.L9)→(∀x∈a,sub σ x∈b)→tN σ s→tq a b s=true
 |[],_,_,_,_=>rfl
 |x::r,s,hm,hb,hs=>by
  rw[tq,List.any_eq_true];obtain⟨h1,h2⟩:=a9r (hm x (NE ..)) s hs;refine⟨sub σ x,hb x (NE ..),?_⟩;rw[h1,QH r _ (fun y hy=>hm y (Cg _ hy)) (fun y hy=>hb y (Cg _ hy)) h2];rfl
end Te
abbrev gV(x:(lw×lw)×Tr):List Dt:=[.val (str x.1.1),.val (str x.1.2),.val (.int .i64 x.2.ob.kind),.val (str x.2.ob.num),.val (str x.2.ob.den),.val (str x.2.ob.sp),.val (str x.2.ob.sn),.val (str x.2.ob.text),.row (x.2.ob.pair.map Ob.enc)]
abbrev ai(env:D7):aa0:=env.map gV
abbrev E8(env:D7):AV:=.dt (.row (ai env))
theorem yZ(env:D7):(ai env).length=env.length:=by unfold ai;rw[Cc]
theorem zN{env:D7}{i:Nat}{x:(lw×lw)×Tr}(h:env[i]?=some x):z8 (ai env) (i:Int) 9 (gV x):=⟨Int.natCast_nonneg _,by
 rw[Int.toNat_natCast,bi,h];rfl,rfl⟩
theorem zP(env:D7):Value.int .i64 (env.length:Int)=Value.int .i64 ((ai env).length:Int):=by rw[yZ]
abbrev jY(e:D7)(a b:lw)(i:Int):AS:=⟨stt 26 [(0,E8 e),(3,.ptr 0 0),(4,.ptr 1 0),(6,j4 i)],[some (.cells [stA a,stA b]),uH]⟩
abbrev GQ(x:Tr)(a b:lw):AS:=⟨stt 26 [(4,.ptr 1 0),(5,l5 true)],[some (.cells [stA a,stA b]),some (.cells ((A9 x.ob).map .dt))]⟩
noncomputable abbrev uL:Code:=M6 (O4 f92) [1,0,1,0,0]
theorem Zc{e:D7}{a b:lw}{x:(lw×lw)×Tr}{i:Nat}(hx:e[i]?=some x)(hl:e.length≤1000)(h:¬(x.1.1=a∧x.1.2=b)):y7 EX uL (jY e a b i) .F6 (jY e a b ((i+1:Nat):Int)) :=
 have hi:=(UV.1 hx).1
 tW [.av (j4 e.length),yT,.av (.pin ((gV x).map .dt)),yF,.av (j4 ((i+1:Nat):Int))] [] [0,3,4,6] 2 [(vi (↑(List.length e)))=(vi (↑(ai e).length)),Bt .lss 3 7 9 ↑i (↑(List.length e)) bT,z8 (ai e) ↑i 9 ([(.val (str x.fst.fst)),(.val (str x.fst.snd)),(.val (vi x.snd.ob.kind)),(.val (str x.snd.ob.num)),(.val (str x.snd.ob.den)),(.val (str x.snd.ob.sp)),(.val (str x.snd.ob.sn)),(.val (str x.snd.ob.text)),(.row (List.map Ob.enc x.snd.ob.pair))]),Bn .eql 42 (.tmp 17) (.tmp 18) (Value.agg #[str x.fst.fst,str x.fst.snd]) (Value.agg #[str a,str b]) bF,Bk .add 3 11 1 ↑i (vi (↑(i+1)))] ⟨zP _,D8 (Pi J),zN hx,ae (zy h),H6 J J J,Z⟩
theorem b6O{e:D7}{a b:lw}{x:(lw×lw)×Tr}{i:Nat}(hx:e[i]?=some x)(h:x.1.1=a∧x.1.2=b):y7 EX uL (jY e a b i) .ret (GQ x.2 a b) :=
 have hi:=(UV.1 hx).1
 tW [.av (j4 e.length),yT,.av (.pin ((gV x).map .dt)),yT,.av (.pin ((gV x).map .dt))] [] [4,5] 2 [(vi (↑(List.length e)))=(vi (↑(ai e).length)),Bt .lss 3 7 9 ↑i (↑(List.length e)) bT,z8 (ai e) ↑i 9 ([(.val (str x.fst.fst)),(.val (str x.fst.snd)),(.val (vi x.snd.ob.kind)),(.val (str x.snd.ob.num)),(.val (str x.snd.ob.den)),(.val (str x.snd.ob.sp)),(.val (str x.snd.ob.sn)),(.val (str x.snd.ob.text)),(.row (List.map Ob.enc x.snd.ob.pair))]),Bn .eql 42 (.tmp 17) (.tmp 18) (Value.agg #[str x.fst.fst,str x.fst.snd]) (Value.agg #[str a,str b]) bT,z8 (ai e) ↑i 9 ([(.val (str x.fst.fst)),(.val (str x.fst.snd)),(.val (vi x.snd.ob.kind)),(.val (str x.snd.ob.num)),(.val (str x.snd.ob.den)),(.val (str x.snd.ob.sp)),(.val (str x.snd.ob.sn)),(.val (str x.snd.ob.text)),(.row (List.map Ob.enc x.snd.ob.pair))])] ⟨zP _,D8 (Pi J),zN hx,ae (sD h),zN hx,Z⟩
theorem b6P{e:D7}{a b:lw}{i:Nat}(hi:i=e.length):y7 EX uL (jY e a b i) (.out 0) (jY e a b i) :=
 tW [.av (j4 e.length),yF] [] [0,3,4,6] 2 [(vi (↑(List.length e)))=(vi (↑(ai e).length)),Bt .lss 3 7 9 ↑i (↑(List.length e)) bF] ⟨zP _,D8 (WF J),Z⟩
theorem b3Z{e:D7}{a b:lw}{x:Tr}(h:y7 EX (.loop uL) (jY e a b 0) .ret (GQ x a b)):j5 92 [E8 e,p8 a b] (.l7 [l9 x,l5 true]) :=
 pW [] [.inv [0,3,4,6] 2 (.ret) (GQ x a b)] [_] func92 ⟨h,Z⟩
theorem b30{e:D7}{a b:lw}{k:Int}(h:y7 EX (.loop uL) (jY e a b 0) (.out 0) (jY e a b k)):j5 92 [E8 e,p8 a b] (.l7 [o7 zO,l5 false]) :=
 pW [] [.inv [0,3,4,6] 2 (.out 0) (jY e a b k)] [_] func92 ⟨h,Z⟩
theorem a9s{L:D7}{a b:lw}(hl:L.length≤1000):∀(s:D7) (i:Nat),L.drop i=s→i≤L.length →
  (bf s a b=none→I7 EX uL (jY L a b i) (.out 0) (jY L a b L.length))∧(∀t,bf s a b=some t→I7 EX uL (jY L a b i) .ret (GQ t a b)):=by
 intro s
 induction s with
 |nil =>
  intro i hd hi;have e1:=congrArg List.length hd;rw[ut,List.length_nil]at e1;obtain rfl:i=L.length:=J;exact⟨fun _=>.stop (b6P rfl) (fun h=>by cases h),fun t h=>by cases h⟩
 |cons x s ih =>
  intro i hd hi;have hx:L[i]?=some x:=by rw[←Za1,hd];rfl
  have hlt:=(UV.1 hx).1;obtain⟨h1,h2⟩:=ih (i+1) (by rw[←Za0,hd];rfl) hlt;rw[bf];by_cases hc:x.1.1=a∧x.1.2=b
  ·rw[Ch hc];exact⟨fun h=>(by cases h),fun t h=>by cases h;exact .stop (b6O hx hc) (fun h=>by cases h)⟩
  ·rw[EQ hc];exact⟨fun h=>.more (Zc hx hl hc) (h1 h),fun t h=>.more (Zc hx hl hc) (h2 t h)⟩
theorem WC{e:D7}{a b:lw}(hl:e.length≤1000):(bf e a b=none→j5 92 [E8 e,p8 a b] (.l7 [o7 zO,l5 false]))∧(∀t,bf e a b=some t→j5 92 [E8 e,p8 a b] (.l7 [l9 t,l5 true])):=by
 obtain⟨h1,h2⟩:=a9s (a:=a) (b:=b) hl e 0 rfl (Ci _);exact⟨fun h=>b30 (h1 h).I8,fun t h=>b3Z (h2 t h).I8⟩
theorem Eg(x:(lw×lw)×Tr):L8 9 [gV x]:=by
 intro y hy;rw[Cf]at hy;subst hy;refine⟨rfl,fun d hd=>?_⟩;simp only[Za3,Zat,Zb4]at hd;rcases hd with rfl | rfl | rfl | rfl | rfl | rfl | rfl | rfl | rfl <;> rfl
abbrev ry(ps:List (lw))(vs:List Tr)(es:aa0)(i:Int):AS:=⟨stt 32 [(0,.dt (.row (ps.map H5))),(1,K5 vs),(5,.own 0 es.length),(6,j4 i)],[some (.buf 96 9 es)]⟩
abbrev bi0(ps:List (lw))(vs:List Tr):AS:=⟨stt 32 [(0,.dt (.row (ps.map H5))),(1,K5 vs),(5,.nil),(6,j4 0)],[]⟩
noncomputable abbrev GR:Code:=M6 (O4 f99) [1,1,0,1,0,0]
theorem XV{ps:List (lw)}{i:Nat}{n:lw}(h:ps[i]?=some n):z8 (ps.map H5) (i:Int) 2 (H5 n):=⟨Int.natCast_nonneg _,by
 rw[Int.toNat_natCast,bi,h];rfl,rfl⟩
theorem XW{vs:List Tr}{i:Nat}{x:Tr}(h:vs[i]?=some x):z8 (vs.map fun t=>A9 t.ob) (i:Int) 7 (A9 x.ob):=⟨Int.natCast_nonneg _,by
 rw[Int.toNat_natCast,bi,h];rfl,rfl⟩
theorem zQ(ps:List (lw)):Value.int .i64 (ps.length:Int)=Value.int .i64 ((ps.map H5).length:Int):=by rw[Cc]
theorem b31(vs:List Tr):Value.int .i64 (vs.length:Int)=Value.int .i64 ((vs.map fun t=>A9 t.ob).length:Int):=by rw[Cc]
theorem qo{b n:Nat}(hb:b≤1000)(h:n≤1000000):P7 b n:=⟨by show n≤2 ^ 63 - 1;omega,by
 have:=Nat.mul_le_mul h hb;omega⟩
theorem b6Q{ps:List (lw)}{vs:List Tr}{es:aa0}{n:lw}{x:Tr}{i:Nat}(hn:ps[i]?=some n)(hx:vs[i]?=some x)(hp:ps.length≤1000)(he:es.length≤1000):y7 EX GR (ry ps vs es i) .F6 (ry ps vs (es++[gV ((o9,n),x)]) ((i+1:Nat):Int)) :=
 have hi:=(UV.1 hn).1;have hj:=(UV.1 hx).1
 tW [.av (j4 ps.length),yT,.av (j4 vs.length),yT,.av (.pin ((H5 n).map .dt)),.av (.pin ((A9 x.ob).map .dt)),.av (.un),.av (j4 ((i+1:Nat):Int))] [] [0,1,5,6] 1 [(vi ↑ps.length)=(vi (↑(List.map H5 ps).length)),Bt .lss 3 7 9 ↑i ↑ps.length bT,(vi ↑vs.length)=(vi (↑(List.map (fun t=>A9 t.ob) vs).length)),Bt .lss 3 12 14 ↑i ↑vs.length bT,z8 (List.map H5 ps) ↑i 2 ([(.val (str o9)),(.val (str n))]),z8 (List.map (fun t=>A9 t.ob) vs) ↑i 7 (A9 x.ob),(es.length)=(es.length),P7 144 ((es++[[Dt.val (str o9),Dt.val (str n),Dt.val (vi x.ob.kind),Dt.val (str x.ob.num),Dt.val (str x.ob.den),Dt.val (str x.ob.sp),Dt.val (str x.ob.sn),Dt.val (str x.ob.text),Dt.row (List.map Ob.enc x.ob.pair)]]).length),L8 9 [[(.val (str o9)),(.val (str n)),(.val (vi x.ob.kind)),(.val (str x.ob.num)),(.val (str x.ob.den)),(.val (str x.ob.sp)),(.val (str x.ob.sn)),(.val (str x.ob.text)),(.row (List.map Ob.enc x.ob.pair))]],Bk .add 3 17 1 ↑i (vi (↑(i+1)))] ⟨zQ _,D8 (Pi J),b31 _,D8 (Pi J),XV hn,XW hx,rfl,qo J (by simp;omega),Eg ((o9,n),x),H6 J J J,Z⟩
theorem b6R{ps:List (lw)}{vs:List Tr}{es:aa0}{i:Nat}(hi:i=ps.length):y7 EX GR (ry ps vs es i) (.out 0) (ry ps vs es i) :=
 tW [.av (j4 ps.length),yF] [] [0,1,5,6] 1 [(vi ↑ps.length)=(vi (↑(List.map H5 ps).length)),Bt .lss 3 7 9 ↑i ↑ps.length bF] ⟨zQ _,D8 (WF J),Z⟩
theorem b6S{ps:List (lw)}{vs:List Tr}{rs:aa0}{k:Int}(h:y7 EX (.loop GR) (bi0 ps vs) (.out 0) (ry ps vs rs k)):j5 99 [.dt (.row (ps.map H5)),K5 vs] (.dt (.row rs)) :=
 pW [] [.inv [0,1,5,6] 0 (.out 0) (ry ps vs rs k)] [_,(rs.length)=(rs.length)] func99 ⟨h,rfl,Z⟩
theorem a9t{P:List (lw)}{V:List Tr}(hl:P.length≤500)(hv:V.length=P.length):∀(p:List (lw)) (v:List Tr) (i:Nat) (pre:D7),P.drop i=p→V.drop i=v→i≤P.length→pre.length=i→I7 EX GR (ry P V (ai pre) i) (.out 0) (ry P V (ai (pre++dO p v)) P.length):=by
 intro p
 induction p with
 |nil =>
  intro v i pre hd hm hi hp;have e1:=congrArg List.length hd;rw[ut,List.length_nil]at e1;obtain rfl:i=P.length:=J;have e:dO [] v=[]:=by cases v <;> rfl
  rw[e,ZaB];exact .stop (b6R rfl) (fun h=>by cases h)
 |cons n p ih =>
  intro v i pre hd hm hi hp;have hn:P[i]?=some n:=by rw[←Za1,hd];rfl
  have hlt:=(UV.1 hn).1;cases v with
  |nil =>
   have e1:=congrArg List.length hm;rw[ut,List.length_nil]at e1;omega
  |cons x v =>
   have hx:V[i]?=some x:=by rw[←Za1,hm];rfl
   have hs:=b6Q (es:=ai pre) hn hx J (by rw[yZ];omega);have e:ai pre++[gV ((o9,n),x)]=ai (pre++[((o9,n),x)]):=by unfold ai;rw[Zam];rfl
   rw[e]at hs;have k:=ih v (i+1) (pre++[((o9,n),x)]) (by rw[←Za0,hd];rfl) (by rw[←Za0,hm];rfl) hlt (by simp[hp]);rw[Zaf]at k;exact .more hs k
theorem a9u{ps:List (lw)}{vs:List Tr}(hl:ps.length≤500)(hv:vs.length=ps.length):j5 99 [.dt (.row (ps.map H5)),K5 vs] (E8 (dO ps vs)) :=
 b6S (y7.Z9 5 96 9 (by show 5 < 32;omega) rfl (a9t hl hv ps vs 0 [] rfl rfl (Ci _) rfl).I8)
theorem Lf{o:Ob}(h:o.kind≠2):j5 97 [o7 o] (l5 false) :=
 pV [yF] [Bk .eql 3 4 2 o.kind bF] func97 ⟨C9 (M8 h),Z⟩
theorem b1A{o:Ob}(h:o.kind=2)(h2:o.sp≠o9):j5 97 [o7 o] (l5 false) :=
 pV [yT,yF] [Bk .eql 3 4 2 o.kind bT,Bl .eql 9 9 [108,105,115,112] o.sp bF] func97 ⟨C9 (U5 h),I6 (M8 h2),Z⟩
theorem b1B{o:Ob}{b:Bool}(h:o.kind=2)(h2:o.sp=o9)(h3:decide (o.sn=R8)=b):j5 97 [o7 o] (l5 b) :=
 pV [yT,yT,.av (l5 b)] [Bk .eql 3 4 2 o.kind bT,Bl .eql 9 9 [108,105,115,112] o.sp bT,Bl .eql 9 15 [110,105,108] o.sn (Value.bool b)] func97 ⟨C9 (U5 h),I6 (U5 h2),I6 h3,Z⟩
theorem a9v(x:Tr):j5 97 [l9 x] (l5 (decide (x=l6))):=by
 cases x with
 |num q=>rw[WF (by intro h;cases h)];exact Lf (o:=(Tr.num q).ob) (by show (1:Int)≠2;decide)
 |txt s=>rw[WF (by intro h;cases h)];exact Lf (o:=(Tr.txt s).ob) (by show (3:Int)≠2;decide)
 |cons a d=>rw[WF (by intro h;cases h)];exact Lf (o:=(Tr.cons a d).ob) (by show (4:Int)≠2;decide)
 |sym p n =>
  by_cases hp:p=o9
  ·subst hp;exact b1B (o:=(Tr.sym o9 n).ob) rfl rfl (by
    by_cases hn:n=R8
    ·subst hn;rw[Pi (show (Tr.sym o9 R8).ob.sn=R8 from rfl),Pi (show Tr.sym o9 R8=l6 from rfl)]
    ·rw[WF (show ¬(Tr.sym o9 n).ob.sn=R8 from hn),WF (by intro h;cases h;exact hn rfl)])
  ·rw[WF (by intro h;cases h;exact hp rfl)];exact b1A (o:=(Tr.sym p n).ob) rfl hp
end Go.Proofs.YtbpmpdadppamgaaGreatDoor
