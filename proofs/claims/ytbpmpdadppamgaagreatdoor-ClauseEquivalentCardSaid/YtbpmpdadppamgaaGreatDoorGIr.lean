/- What formulas stand for: the plain law. -/
import Derived.Test.YtbpmpdadppamgaaGreatDoorGW
namespace Go.Proofs.YtbpmpdadppamgaaGreatDoor
open Go.RowKit
open Te
abbrev cB:Tr:=Tr.sym o9 [116]
def iJ(n:lw)(vs:List Tr):Tr :=
 if n=D9 then (if vs.getD 0 l6=l6 then cB else l6)
 else if n=dN then (if vs.getD 0 l6=l6 then cB else if vs.getD 1 l6=l6 then l6 else cB)
 else if n=fH then (if vs.getD 0 l6=l6 then (if vs.getD 1 l6=l6 then cB else l6) else (if vs.getD 1 l6=l6 then l6 else cB))
 else if n=x8 then (if vs.getD 0 l6=l6 then vs.getD 2 l6 else vs.getD 1 l6)
 else match iK I5 0 n with
  |some (i,_)=>Tr.uu i vs
  |none=>l6
mutual
noncomputable def den(env:D7):Te→Tr
 |⟨k,p,n,o,l⟩=>if k=1 then (bf env p n).getD l6 else if k=2 then Ag o else iJ n (ER env l)
noncomputable def ER(env:D7):List Te→List Tr
 |[]=>[]
 |t::r=>den env t::ER env r
end
theorem a4w(env:D7)(l:List Te):ER env l=l.map (den env):=by
 induction l with
 |nil=>rfl
 |cons t r ih=>rw[ER,ih];rfl
theorem vJ(env:D7)(p n:lw):den env ⟨1,p,n,Q9,[]⟩=(bf env p n).getD l6:=by rw[den,Ch rfl]
theorem Dv(env:D7)(t:Tr):den env (Te.H9 t.ob)=t:=by
 show den env ⟨2,[],[],t.ob,[]⟩=t;rw[den,EQ O,Ch rfl,TJ]
theorem De{env:D7}{t:Te}(h:t.kind=3):den env t=iJ t.nn (t.args.map (den env)):=by
 obtain⟨k,p,n,o,l⟩:=t;have h:k=3:=h;subst h;rw[den,EQ O,EQ O,a4w]
inductive M4:Te→Prop
 |var (p n:lw):M4 ⟨1,p,n,Q9,[]⟩
 |H9 (t:Tr) (hv:t.valid=true):M4 (Te.H9 t.ob)
 |ap (n:lw) (l:List Te) (hn:(n,l.length)∈[(D9,1),(dN,2),(fH,2),(x8,3),(iV,2),(lX,1)]) (h:∀x∈l,M4 x):M4 (Te.ap n l)
theorem TK:∀x∈[(D9,1),(dN,2),(fH,2),(x8,3),(iV,2),(lX,1)],fI G5 x.1=some x.2:=by decide +kernel
theorem a7d:∀x∈[(D9,1),(dN,2),(fH,2),(x8,3),(iV,2),(lX,1)],x.2≤8:=O
theorem M4.wd{t:Te}(h:M4 t):Wd t:=by
 induction h with
 |var p n=>exact .var p n
 |H9 t hv=>exact .H9 t hv
 |ap n l hn h ih=>exact .ap n l (TK _ hn) (a7d _ hn) ih
theorem zf(a:Tr):iJ D9 [a]=if a=l6 then cB else l6:=by unfold iJ;rw[Ch rfl];rfl
theorem Vt(a b:Tr):iJ dN [a,b]=if a=l6 then cB else if b=l6 then l6 else cB:=by unfold iJ;rw[EQ O,Ch rfl];rfl
theorem Vu(a b:Tr):iJ fH [a,b]=if a=l6 then (if b=l6 then cB else l6) else (if b=l6 then l6 else cB):=by unfold iJ;rw[EQ O,EQ O,Ch rfl];rfl
theorem LV(a b c:Tr):iJ x8 [a,b,c]=if a=l6 then c else b:=by unfold iJ;rw[EQ O,EQ O,EQ O,Ch rfl];rfl
theorem Ev(env:D7)(a:Te):den env (Te.ap D9 [a])=if den env a=l6 then cB else l6:=(De rfl).trans (zf _)
theorem dZ(env:D7)(a b c:Te):den env (Te.ap x8 [a,b,c])=if den env a=l6 then den env c else den env b:=(De rfl).trans (LV _ _ _)
theorem wX(env:D7):den env noT=l6:=Dv env l6
theorem wI(env:D7):den env r9=cB:=Dv env cB
theorem Ew:cB≠l6:=O
abbrev vP:Te:=⟨1,o9,[112],Q9,[]⟩
abbrev vQ:Te:=⟨1,o9,[113],Q9,[]⟩
theorem b2t:(G5.find? fun f=>f.nm == D9).map (fun f=>(f.ps,f.body))=some ([[112]],Te.ap x8 [vP,noT,r9]):=by decide +kernel
theorem b2u:(G5.find? fun f=>f.nm == dN).map (fun f=>(f.ps,f.body))=some ([[112],[113]],Te.ap x8 [vP,Te.ap x8 [vQ,r9,noT],r9]):=by decide +kernel
theorem b2v:(G5.find? fun f=>f.nm == fH).map (fun f=>(f.ps,f.body))=some ([[112],[113]],Te.ap x8 [vP,Te.ap x8 [vQ,r9,noT],Te.ap x8 [vQ,noT,r9]]):=by decide +kernel
theorem LW(v:Tr)(r:D7):bf (((o9,[112]),v)::r) o9 [112]=some v:=by rw[bf,Ch ⟨rfl,rfl⟩]
theorem Xq(v w:Tr):bf [((o9,[112]),v),((o9,[113]),w)] o9 [113]=some w:=by
 rw[bf,EQ (show ¬(o9=o9∧([112]:lw)=[113]) by decide),bf,Ch ⟨rfl,rfl⟩]
theorem bU{a b c:Te}(h1:M4 a)(h2:M4 b)(h3:M4 c):M4 (Te.ap x8 [a,b,c]):=.ap x8 _ (by show (x8,3)∈_;decide) fun x hx=>by
 simp only[Za3,Zat,Zb4]at hx;rcases hx with rfl | rfl | rfl
 ·exact h1
 ·exact h2
 ·exact h3
theorem qf:M4 noT:=.H9 l6 (by decide +kernel)
theorem lS:M4 r9:=.H9 cB (by decide +kernel)
theorem TL{g:Te→Nat→iM}{d:Te→Tr}:∀(s:List Te) (l:Nat) (xs:List Tr) (l':Nat),(∀t∈s,∀l x l',g t l=(.ok x,l')→x=d t)→aJ g s l=(.ok xs,l')→xs=s.map d
 |[],l,xs,l',_,h=>by rw[aJ]at h;cases h;rfl
 |t::r,l,xs,l',hg,h=>by
  rw[aJ]at h;split at h
  ·cases h
  ·rename_i x l1 hh;split at h
   ·cases h
   ·rename_i ys l2 hk;cases h;rw[Zaq,←hg t (NE ..) _ _ _ hh,←TL r l1 ys l' (fun t ht=>hg t (Cg _ ht)) hk]
theorem ES{α:Type}{l:List α}(h:l.length=1):∃a,l=[a]:=by
 match l,h with
 |[a],_=>exact⟨a,rfl⟩
theorem ET{α:Type}{l:List α}(h:l.length=2):∃a b,l=[a,b]:=by
 match l,h with
 |[a,b],_=>exact⟨a,b,rfl⟩
theorem MM{α:Type}{l:List α}(h:l.length=3):∃a b c,l=[a,b,c]:=by
 match l,h with
 |[a,b,c],_=>exact⟨a,b,c,rfl⟩
theorem a9R:∀(f:Nat) (env:D7) (t:Te) (l:Nat) (x:Tr) (l':Nat),M4 t→ev G5 f env t l=(.ok x,l')→x=den env t:=by
 intro f;have base:∀(f:Nat) (env:D7) (t:Te) (l:Nat) (x:Tr) (l':Nat),(∃p n,t=⟨1,p,n,Q9,[]⟩)∨(∃o:Tr,t=Te.H9 o.ob)→ev G5 f env t l=(.ok x,l')→x=den env t:=by
  intro f env t l x l' ht h;rcases ht with⟨p,n,rfl⟩ | ⟨o,rfl⟩
  ·rw[wm]at h;rw[vJ];cases hv:bf env p n with
   |none=>rw[hv]at h;cases h
   |some y=>rw[hv]at h;cases h;rfl
  ·rw[qg]at h;cases h;rw[Dv]
 induction f with
 |zero =>
  intro env t l x l' ht h;cases ht with
  |var p n=>exact base _ _ _ _ _ _ (.inl ⟨p,n,rfl⟩) h
  |H9 t hv=>exact base _ _ _ _ _ _ (.inr ⟨t,rfl⟩) h
  |ap n a hn hf=>rw[ev,zg]at h;cases h
 |succ f ih =>
  intro env t l x l' ht h;cases ht with
  |var p n=>exact base _ _ _ _ _ _ (.inl ⟨p,n,rfl⟩) h
  |H9 t hv=>exact base _ _ _ _ _ _ (.inr ⟨t,rfl⟩) h
  |ap n a hn hf =>
   cases l with
   |zero=>rw[wu]at h;cases h
   |succ l =>
    rw[zB]at h;unfold jS at h;have har:=TK _ hn;by_cases hif:is (Te.ap n a) x8 3
    ·rw[Ch hif]at h;obtain rfl:n=x8:=hif.2.2.1;obtain⟨a0,a1,a2,rfl⟩:=MM hif.2.2.2;have e0:(Te.ap x8 [a0,a1,a2]).arg 0=a0:=rfl;have e1:(Te.ap x8 [a0,a1,a2]).arg 1=a1:=rfl;have e2:(Te.ap x8 [a0,a1,a2]).arg 2=a2:=rfl;rw[e0,e1,e2]at h;rw[dZ];split at h
     ·cases h
     ·rename_i y l1 hy;have:=ih env a0 l y l1 (hf _ I) hy;rw[←this];split at h
      ·rename_i hn;rw[Ch hn];exact ih env a2 l1 x l' (hf _ I) h
      ·rename_i hn;rw[EQ hn];exact ih env a1 l1 x l' (hf _ I) h
    ·rw[EQ hif,show (Te.ap n a).args=a from rfl,show (Te.ap n a).nn=n from rfl]at h
     split at h
     ·cases h
     ·rename_i vs l1 hv;have hvs:=TL a l vs l1 (fun t ht l x l' hh=>ih env t l x l' (hf t ht) hh) hv;rw[De rfl,show (Te.ap n a).args=a from rfl,show (Te.ap n a).nn=n from rfl,←hvs]
      have hlen:vs.length=a.length:=by rw[hvs,Cc]
      have Oi:∀{ps:List (lw)} {body:Te},(G5.find? fun f=>f.nm == n).map (fun f=>(f.ps,f.body))=some (ps,body)→iK I5 0 n=none→M4 body→x=den (dO ps vs) body:=by
       intro ps body hb hp bZ;rw[ZaH]at hb;obtain⟨fn,h1,h2⟩:=hb;cases h2;rw[hp]at h;dsimp only at h;rw[h1]at h;exact ih _ _ _ _ _ bZ h
      have nY:∀{i k:Nat},iK I5 0 n=some (i,k)→x=Tr.uu i vs:=by
       intro i k hp;rw[hp]at h;dsimp only at h;simp only[Zaz]at h;have h1:=h.1;unfold lh at h1;split at h1
       ·rename_i y hy;cases h1;unfold Tr.kept' at hy;split at hy
        ·cases hy;rfl
        ·cases hy
       ·cases h1
      simp only[Za3,Zaz,Zat,Zb4]at hn;rcases hn with⟨rfl,hl⟩ | ⟨rfl,hl⟩ | ⟨rfl,hl⟩ | ⟨rfl,hl⟩ | ⟨rfl,hl⟩ | ⟨rfl,hl⟩
      ·obtain⟨v,rfl⟩:=ES (hlen.trans hl)
       ·rw[Oi b2t (by decide +kernel) (bU (.var _ _) qf lS),zf,dZ,wX,wI];show (if den [((o9,[112]),v)] vP=l6 then cB else l6)=_;rw[vJ,LW];rfl
      ·obtain⟨v,w,rfl⟩:=ET (hlen.trans hl)
       ·rw[Oi b2u (by decide +kernel) (bU (.var _ _) (bU (.var _ _) lS qf) lS),Vt,dZ,dZ,wX,wI];show (if den [((o9,[112]),v),((o9,[113]),w)] vP=l6 then cB else if den [((o9,[112]),v),((o9,[113]),w)] vQ=l6 then l6 else cB)=_;rw[vJ,vJ,LW,Xq];rfl
      ·obtain⟨v,w,rfl⟩:=ET (hlen.trans hl)
       ·rw[Oi b2v (by decide +kernel) (bU (.var _ _) (bU (.var _ _) lS qf) (bU (.var _ _) qf lS)),Vu,dZ,dZ,dZ,wX,wI];show (if den [((o9,[112]),v),((o9,[113]),w)] vP=l6 then (if den [((o9,[112]),v),((o9,[113]),w)] vQ=l6 then cB else l6) else (if den [((o9,[112]),v),((o9,[113]),w)] vQ=l6 then l6 else cB))=_;rw[vJ,vJ,LW,Xq];rfl
      ·exact absurd ⟨rfl,rfl,rfl,hl⟩ hif
      ·have hp:iK I5 0 iV=some (1,2):=by decide +kernel
       rw[nY hp];unfold iJ;rw[EQ O,EQ O,EQ O,EQ O,hp]
      ·have hp:iK I5 0 lX=some (5,1):=by decide +kernel
       rw[nY hp];unfold iJ;rw[EQ O,EQ O,EQ O,EQ O,hp]
end Go.Proofs.YtbpmpdadppamgaaGreatDoor
