/- The maker's terms and literals, over any world whose functions are known. -/
import Derived.Test.YtdkehabacmlegaaGreatDoorVO
import Derived.Test.YtdkehabacmlegaaGreatDoorVP
import Derived.Test.YtdkehabacmlegaaGreatDoorVQ
import Derived.Test.YtdkehabacmlegaaGreatDoorVS
import Derived.Test.YtdkehabacmlegaaGreatDoorVK
namespace Go.Proofs.YtdkehabacmlegaaGreatDoor
open Go.Proofs.Tryz
open Go.RowKit
open Te
abbrev dG(nl:List (bi)):AV:=.dt (.row (nl.map G5))
abbrev aJ(vl:List (bi)):AV:=.dt (.row (vl.map bP))
theorem UT(l:List (bi)):Value.int .i64 (l.length:Int)=Value.int .i64 ((l.map bP).length:Int):=by rw[List.length_map]
abbrev DL:List (bi):=[[120],[121],[122],[117]]
structure Mk (wr:bv) (nl vl:List (bi)):Prop where
 hn:0 < nl.length
 hn1:nl.length≤1000
 hv:0 < vl.length
 hv1:vl.length≤4
 ar:∀n∈nl,n.length≤1000∧∃a:Nat,a≤8∧j5 94 [.dt (.row wr),o9 o6 n] (.l7 [j3 (a:Int),j6 true])∧eY H8 n=some a
 b1F:∀v∈vl,v∈DL
theorem WI{l:List (bi)}(f:bi→List Dt)(hf:∀x,(f x).length=2)(n:Int)(h:0 < l.length):∃x∈l,z8 (l.map f) (n % l.length) 2 (f x):=by
 have h0:0≤n % (l.length:Int):=Int.emod_nonneg _ J;have h1:n % (l.length:Int) < l.length:=Int.emod_lt_of_pos _ J;have hk:(n % (l.length:Int)).toNat < l.length:=J;exact⟨l[(n % (l.length:Int)).toNat],List.getElem_mem hk,h0,by rw[List.getElem?_map,List.getElem?_eq_getElem hk];rfl,hf _⟩
abbrev rwC(r:Raw):Option Bx:=some (.cells [j3 r.kind,j3 r.n,stA r.s,.dt (.row (r.l.map Raw.enc))])
abbrev zTc:Option Bx:=some (.cells [j3 0,stA [],stA [],j3 0,stA [],stA [],stA [],stA [],stA [],.nil,.nil])
theorem b1G{wr:bv}{nl vl:List (bi)}{r:Raw}{k j:Int}{nm:bi}{t:Te}(h1:j5 10 [j3 r.kind,j3 6] (j3 k))(hk:k < 2)(hv:0 < vl.length)(h2:j5 10 [j3 r.n,j3 vl.length] (j3 j))(hx:z8 (vl.map bP) j 2 (bP nm))(ht:j5 28 [o9 O9 nm] (o7 t)):j5 84 [.dt (.row wr),dG nl,aJ vl,G9 r] (o7 t) :=
 pV [.av (j3 k),yT,.av (j3 vl.length),yT,.av (j3 vl.length),.av (j3 j),.av (.pin [stA O9,stA nm]),.av (o7 t)] [_,Bk .lss 3 18 2 k bT,(vi ↑vl.length)=(vi (↑(List.map bP vl).length)),Bk .gtr 3 22 0 ↑vl.length bT,(vi ↑vl.length)=(vi (↑(List.map bP vl).length)),_,_,_] func84 ⟨h1,C9 (decide_eq_true hk),UT _,Q0 (decide_eq_true J),UT _,h2,hx,ht,Z⟩
theorem b1H{wr:bv}{nl vl:List (bi)}{r:Raw}{o:Ob}{t:Te}(h1:j5 10 [j3 r.kind,j3 6] (j3 2))(hl:r.l.length=0)(h2:j5 10 [j3 r.n,j3 7] (j3 (r.n % 7)))(ho:j5 56 [j3 (r.n % 7 - 2)] (l9 o))(hc:j5 53 [l9 o] (o7 t)):j5 84 [.dt (.row wr),dG nl,aJ vl,G9 r] (o7 t) :=
 pV [.av (j3 2),.no,.no,.av (j3 r.l.length),yT,.av (j3 (r.n % 7)),.av (j3 (r.n % 7 - 2)),.av (l9 o),.av (o7 t)] [_,(vi ↑r.l.length)=(vi (↑(List.map Raw.enc r.l).length)),Bk .eql 3 38 0 ↑r.l.length bT,_,Bk .sub 3 42 2 (r.n % 7) (vi (r.n % 7 - 2)),_,_] func84 ⟨h1,Z7 _,A9 (decide_eq_true J),h2,bE rfl J J,ho,hc,Z⟩
theorem b1I{wr:bv}{nl vl:List (bi)}{r x:Raw}{o:Ob}{t:Te}(h1:j5 10 [j3 r.kind,j3 6] (j3 2))(hx:r.l[0]?=some x)(ho:j5 39 [G9 x] (l9 o))(hc:j5 53 [l9 o] (o7 t)):j5 84 [.dt (.row wr),dG nl,aJ vl,G9 r] (o7 t) :=
 pV [.av (j3 2),.no,.no,.av (j3 r.l.length),yF,.av (.pin ((encR x).map .dt)),.av (l9 o),.av (o7 t)] [_,(vi ↑r.l.length)=(vi (↑(List.map Raw.enc r.l).length)),Bk .eql 3 38 0 ↑r.l.length bF,z8 (List.map Raw.enc r.l) 0 4 (encR x),_,_] func84 ⟨h1,Z7 _,A9 (decide_eq_false (by have:=(List.getElem?_eq_some_iff.1 hx).1;omega)),lH hx,ho,hc,Z⟩
abbrev WJ(r:Raw)(nm:bi):List (Option Bx):=[rwC r,zTc,some (.cells [stA o6,stA nm])]
abbrev mZ(wr:bv)(nl vl:List (bi))(r:Raw)(nm:bi)(n:Int)(es:bv)(i:Int):AS:=⟨stt 84 [(0,.dt (.row wr)),(1,dG nl),(2,aJ vl),(7,.ptr 0 0),(8,.ptr 1 0),(10,.ptr 2 0),(11,j3 n),(13,.own 3 es.length),(14,j3 i)],WJ r nm++[some (.buf 50 11 es)]⟩
abbrev WK(wr:bv)(nl vl:List (bi))(r:Raw)(nm:bi)(n:Int):AS:=⟨stt 84 [(0,.dt (.row wr)),(1,dG nl),(2,aJ vl),(7,.ptr 0 0),(8,.ptr 1 0),(10,.ptr 2 0),(11,j3 n),(13,.nil),(14,j3 0)],WJ r nm⟩
noncomputable abbrev zG:Code:=M9 (P6 f84) [1,1,1,1,1,1,1,0,1,0,0]
theorem b1J{wr:bv}{nl vl:List (bi)}{r x:Raw}{nm:bi}{n:Int}{es:bv}{i:Nat}{t:Te}(hi:(i:Int) < n)(hn:n≤8)(he:es.length≤8)(h1:j5 79 [G9 r,j3 (i:Int)] (G9 x))(h2:j5 84 [.dt (.row wr),dG nl,aJ vl,G9 x] (o7 t)):y7 EX zG (mZ wr nl vl r nm n es i) .F4 (mZ wr nl vl r nm n (es++[p9 t]) ((i+1:Nat):Int)) :=
 tW [yT,.av (G9 x),.av (o7 t),.av (.un),.av (j3 ((i+1:Nat):Int))] [] [0,1,2,7,8,10,11,13,14] 4 [Bt .lss 3 66 67 ↑i n bT,j5 79 [(G9 r),(j3 ↑i)] (G9 x),j5 84 [(.dt (.row wr)),(.dt (.row (List.map G5 nl))),(.dt (.row (List.map bP vl))),(G9 x)] (o7 t),(es.length)=(es.length),P9 176 ((es++[p9 t]).length),L6 11 [p9 t],Bk .add 3 69 1 ↑i (vi (↑(i+1)))]     ⟨C9 (decide_eq_true hi),h1,h2,rfl,bG J (by simp;omega),sZ t,I4 J J J,Z⟩
theorem b1K{wr:bv}{nl vl:List (bi)}{r:Raw}{nm:bi}{n:Int}{es:bv}{i:Nat}(hi:¬(i:Int) < n):y7 EX zG (mZ wr nl vl r nm n es i) (.out 0) (mZ wr nl vl r nm n es i) :=
 tW [yF] [] [0,1,2,7,8,10,11,13,14] 4 [Bt .lss 3 66 67 ↑i n bF]     ⟨C9 (decide_eq_false hi),Z⟩
inductive Te.aF:Te→Prop
 |var (n:bi) (h:n∈DL):aF (kH n)
 |V8 (t:Tr) (h:t.Ok 10000) (hv:t.valid=true):aF (Te.V8 t.ob)
 |ap (n:bi) (l:List Te) (hn:n.length≤1000) (hl:l.length≤8) (ha:eY H8 n=some l.length) (h:∀x∈l,aF x):aF (Te.ap n l)
theorem a4Y{n:Int}(h:n.natAbs < 10 ^ 4):(Tr.num (n:Rat)).Ok 10000:=Tr.Ok.mono (k:=4) O (qi h)
theorem a4Z{wr:bv}{nl vl:List (bi)}{r:Raw}{nm:bi}{n:Nat}(hn:n≤8)(h:∀i:Nat,∃x t,t.aF∧j5 79 [G9 r,j3 (i:Int)] (G9 x)∧j5 84 [.dt (.row wr),dG nl,aJ vl,G9 x] (o7 t)):∀(j i:Nat) (ts:List Te),i+j=n→ts.length=i→(∀t∈ts,t.aF)→∃ts',ts'.length=n∧(∀t∈ts',t.aF)∧J7 EX zG (mZ wr nl vl r nm n (K4 ts) i) (.out 0) (mZ wr nl vl r nm n (K4 ts') n):=by
 intro j
 induction j with
 |zero =>
  intro i ts hi hl hb;obtain rfl:i=n:=J;exact⟨ts,hl,hb,.stop (b1K J) (fun h=>by cases h)⟩
 |succ j ih =>
  intro i ts hi hl hb;obtain⟨x,t,ht,h1,h2⟩:=h i;obtain⟨ts',k1,k2,k3⟩:=ih (i+1) (ts++[t]) J (by simp[hl]) (fun y hy=>by
   rcases List.mem_append.1 hy with hy | hy
   ·exact hb y hy
   ·rw[List.mem_singleton]at hy;subst hy;exact ht)
  have hs:=b1J (wr:=wr) (nl:=nl) (vl:=vl) (nm:=nm) (n:=(n:Int)) (es:=K4 ts) (i:=i) J J (by rw[List.length_map];omega) h1 h2;have e:K4 ts++[p9 t]=K4 (ts++[t]):=by unfold K4;rw[List.map_append,gW]
  rw[e]at hs;exact⟨ts',k1,k2,.more hs k3⟩
theorem b1L{wr:bv}{nl vl:List (bi)}{r:Raw}{k a j:Int}{nm:bi}{es:bv}{t:Te}(h1:j5 10 [j3 r.kind,j3 6] (j3 k))(hk:3≤k)(h2:j5 10 [j3 r.n,j3 nl.length] (j3 j))(hx:z8 (nl.map G5) j 2 (G5 nm))(ha:j5 94 [.dt (.row wr),o9 o6 nm] (.l7 [j3 a,j6 true]))
  (ht:y7 EX (.loop zG) (WK wr nl vl r nm a) (.out 0) (mZ wr nl vl r nm a es a)) (hp:j5 59 [o9 o6 nm,.dt (.row es)] (o7 t)):j5 84 [.dt (.row wr),dG nl,aJ vl,G9 r] (o7 t) :=
 pW [.av (j3 k),yF,yF,.av (j3 nl.length),.av (j3 j),.av (.pin [stA o6,stA nm]),.av (.l7 [j3 a,j6 true]),.av (o7 t)] [.inv [0,1,2,7,8,10,11,13,14] 3 (.out 0) (mZ wr nl vl r nm a es a)] [_,Bk .lss 3 18 2 k bF,Bk .lss 3 34 3 k bF,(vi ↑nl.length)=(vi (↑(List.map G5 nl).length)),_,_,_,_,_,(es.length)=(es.length)] func84 ⟨h1,C9 (decide_eq_false J),C9 (decide_eq_false J),Jt _,h2,hx,ha,ht,hp,rfl,Z⟩
theorem FJ{wr:bv}{nl vl:List (bi)}(hm:Mk wr nl vl){r:Raw}(hk:r.kind % 6 < 2):∃t:Te,t.aF∧j5 84 [.dt (.row wr),dG nl,aJ vl,G9 r] (o7 t):=by
 obtain⟨nm,h1,h2⟩:=WI (l:=vl) bP (fun _=>rfl) r.n hm.hv;have hv:=hm.hv;have hv1:=hm.hv1;exact⟨_,.var nm (hm.b1F nm h1),b1G (aB _ _ J J) hk hm.hv (aB _ _ J J) h2 (wY _)⟩
theorem a5a{wr:bv}{nl vl:List (bi)}(hm:Mk wr nl vl):∀(N:Nat) (r:Raw),r.size≤N→gY r→∃t:Te,t.aF∧j5 84 [.dt (.row wr),dG nl,aJ vl,G9 r] (o7 t):=by
 intro N
 induction N with
 |zero=>intro r h;have:=r.size_pos;omega
 |succ N ih =>
  intro r hN hf;by_cases h0:r.kind % 6 < 2
  ·exact FJ hm h0
  by_cases h2:r.kind % 6=2
  ·have hd:=aB r.kind 6 J J;rw[h2]at hd;cases hl:r.l with
   |nil=>exact⟨_,.V8 (Tr.num ((r.n % 7 - 2:Int):Rat)) (a4Y J) (Bb J),b1H hd (by rw[hl];rfl) (aB _ _ J J) (wV _ J J) (nN _)⟩
   |cons x s =>
    have hx:r.l[0]?=some x:=by rw[hl];rfl
    have hfx:=hf.kids (List.mem_of_getElem? hx);exact⟨_,.V8 _ (a8w hfx.1) (QK hfx),b1I hd hx (Rv _ x (Nat.le_refl _) hfx.1) (nN _)⟩
  ·have IQ:∀i:Nat,∃x t,t.aF∧j5 79 [G9 r,j3 (i:Int)] (G9 x)∧j5 84 [.dt (.row wr),dG nl,aJ vl,G9 x] (o7 t):=fun i=>by
    cases hx:r.l[i]? with
    |some x =>
     obtain⟨t,k1,k2⟩:=ih x (by have:=Raw.tK (List.mem_of_getElem? hx);omega) (hf.kids (List.mem_of_getElem? hx));exact⟨x,t,k1,Hd hx,k2⟩
    |none =>
     obtain⟨t,k1,k2⟩:=FJ hm (r:=⟨0,0,[],[]⟩) O;exact⟨_,t,k1,FY (List.getElem?_eq_none_iff.1 hx),k2⟩
   obtain⟨nm,m1,m2⟩:=WI (l:=nl) G5 (fun _=>rfl) r.n hm.hn;obtain⟨g1,a,g2,g3,g4⟩:=hm.ar nm m1;have hn:=hm.hn;have hn1:=hm.hn1;obtain⟨ts,l1,l2,l3⟩:=a4Z (nm:=nm) (n:=a) g2 IQ a 0 [] J rfl (fun t ht=>by cases ht);have ht:y7 EX (.loop zG) (WK wr nl vl r nm a) (.out 0) (mZ wr nl vl r nm a (K4 ts) a):=y7.Z4 13 50 11 (by show 13 < 84;omega) rfl l3.K3;exact⟨Te.ap nm ts,.ap nm ts g1 J (by rw[g4,l1]) l2,b1L (aB _ _ J J) J (aB _ _ J J) m2 g3 ht (GU _ _ _)⟩
theorem Sg{wr:bv}{nl vl:List (bi)}{r:Raw}{t:Te}(hn:j5 85 [.dt (.row wr)] (dG nl))(h:j5 84 [.dt (.row wr),dG nl,aJ vl,G9 r] (o7 t)):j5 44 [.dt (.row wr),aJ vl,G9 r] (o7 t) :=
 pV [.av (dG nl),.av (o7 t)] [_,_] func44 ⟨hn,h,Z⟩
theorem a7n{wr:bv}{vl:List (bi)}{r x:Raw}{t u:Te}(h1:j5 79 [G9 r,j3 0] (G9 x))(h2:j5 44 [.dt (.row wr),aJ vl,G9 x] (o7 t))(h3:j5 10 [j3 r.kind,j3 2] (j3 1))(h4:j5 29 [stA D5,.dt (.row [p9 t])] (o7 u)):j5 82 [.dt (.row wr),aJ vl,G9 r] (o7 u) :=
 pV [.av (G9 x),.av (o7 t),.av (j3 1),.no,.av (o7 u)] [_,_,_,_] func82 ⟨h1,h2,h3,h4,Z⟩
theorem a7o{wr:bv}{vl:List (bi)}{r x:Raw}{t:Te}(h1:j5 79 [G9 r,j3 0] (G9 x))(h2:j5 44 [.dt (.row wr),aJ vl,G9 x] (o7 t))(h3:j5 10 [j3 r.kind,j3 2] (j3 0)):j5 82 [.dt (.row wr),aJ vl,G9 r] (o7 t) :=
 pV [.av (G9 x),.av (o7 t),.av (j3 0),.no] [_,_,_] func82 ⟨h1,h2,h3,Z⟩
theorem a9e{wr:bv}{nl vl:List (bi)}(hm:Mk wr nl vl)(hn:j5 85 [.dt (.row wr)] (dG nl)){r:Raw}(hf:gY r):∃t:Te,t.aF∧j5 82 [.dt (.row wr),aJ vl,G9 r] (o7 t):=by
 obtain⟨x,t,hb,h1,h2⟩:∃x t,Te.aF t∧j5 79 [G9 r,j3 0] (G9 x)∧j5 84 [.dt (.row wr),dG nl,aJ vl,G9 x] (o7 t):=by
  cases hx:r.l[0]? with
  |some x =>
   obtain⟨t,k1,k2⟩:=a5a hm _ x (Nat.le_refl _) (hf.kids (List.mem_of_getElem? hx));exact⟨x,t,k1,Hd hx,k2⟩
  |none =>
   obtain⟨t,k1,k2⟩:=FJ hm (r:=⟨0,0,[],[]⟩) O;exact⟨_,t,k1,FY (List.getElem?_eq_none_iff.1 hx),k2⟩
 have h3:=aB r.kind 2 J J;have hm2:r.kind % 2=0∨r.kind % 2=1:=J;rcases hm2 with hm2 | hm2
 ·rw[hm2]at h3;exact⟨t,hb,a7o h1 (Sg hn h2) h3⟩
 ·rw[hm2]at h3;exact⟨Te.ap D5 [t],.ap _ _ O (by show 1≤8;omega) (show eY H8 D5=some 1 by decide +kernel) (fun y hy=>by rw[List.mem_singleton]at hy;subst hy;exact hb),a7n h1 (Sg hn h2) h3 (a1b _ _)⟩
namespace Te
theorem a7p{t:Tr}(h:t.ob.kind=2∧t.ob.sp=o6∧t.ob.sn=R4):t.ob=M5:=by
 obtain⟨h1,h2,h3⟩:=h;cases t with
 |num q=>cases h1
 |txt s=>cases h1
 |cons a d=>cases h1
 |sym p n =>
  have e1:p=o6:=h2;have e2:n=R4:=h3;subst e1 e2;rfl
theorem aF.gd{t:Te}(h:t.aF):t.Gd:=by
 induction h with
 |var n h=>exact jk n
 |V8 t h _=>exact .V8 (h.wf O) a7p
 |ap n l hn hl _ h ih=>exact .ap J ih
theorem aF.wf{t:Te}(h:t.aF):t.Wf:=h.gd.wf
end Te
theorem FK:∀(l out:List Te),(∀x∈out,x.aF)→(∀x∈l,x.aF)→∀x∈addN out l,x.aF
 |[],out,ho,_=>by rw[addN];exact ho
 |x::l,out,ho,hl=>by
  rw[addN];split
  ·exact FK l out ho fun y hy=>hl y (List.mem_cons_of_mem _ hy)
  ·refine FK l _ (fun y hy=>?_) fun y hy=>hl y (List.mem_cons_of_mem _ hy)
   rcases List.mem_append.1 hy with hy | hy
   ·exact ho y hy
   ·rw[List.mem_singleton]at hy;subst hy;exact hl _ (List.mem_cons_self ..)
theorem TQ{p a n b:bi}(h:¬(p=a∧n=b)):(decide (p=a) && decide (n=b))=false:=by
 rw[←Bool.decide_and];exact decide_eq_false h
theorem Si{p a n b:bi}(h:p=a∧n=b):(decide (p=a) && decide (n=b))=true:=by
 rw[←Bool.decide_and];exact decide_eq_true h
namespace Te
end Te
abbrev fH(x:(bi×bi)×Tr):List Dt:=[.val (str x.1.1),.val (str x.1.2),.val (.int .i64 x.2.ob.kind),.val (str x.2.ob.num),.val (str x.2.ob.den),.val (str x.2.ob.sp),.val (str x.2.ob.sn),.val (str x.2.ob.text),.row (x.2.ob.pair.map Ob.enc)]
abbrev U1(env:D6):bv:=env.map fH
abbrev F7(env:D6):AV:=.dt (.row (U1 env))
theorem tH(env:D6):(U1 env).length=env.length:=by unfold U1;rw[List.length_map]
theorem xE{env:D6}{i:Nat}{x:(bi×bi)×Tr}(h:env[i]?=some x):z8 (U1 env) (i:Int) 9 (fH x):=⟨Int.natCast_nonneg _,by
 rw[Int.toNat_natCast,List.getElem?_map,h];rfl,rfl⟩
theorem xG(env:D6):Value.int .i64 (env.length:Int)=Value.int .i64 ((U1 env).length:Int):=by rw[tH]
abbrev jb(e:D6)(a b:bi)(i:Int):AS:=⟨stt 26 [(0,F7 e),(3,.ptr 0 0),(4,.ptr 1 0),(6,j3 i)],[some (.cells [stA a,stA b]),rC]⟩
abbrev DN(x:Tr)(a b:bi):AS:=⟨stt 26 [(4,.ptr 1 0),(5,j6 true)],[some (.cells [stA a,stA b]),some (.cells ((y8 x.ob).map .dt))]⟩
noncomputable abbrev rG:Code:=M9 (P6 f93) [1,0,1,0,0]
theorem UU{e:D6}{a b:bi}{x:(bi×bi)×Tr}{i:Nat}(hx:e[i]?=some x)(hl:e.length≤1000)(h:¬(x.1.1=a∧x.1.2=b)):y7 EX rG (jb e a b i) .F4 (jb e a b ((i+1:Nat):Int)) :=
 have hi:=(List.getElem?_eq_some_iff.1 hx).1
 tW [.av (j3 e.length),yT,.av (.pin ((fH x).map .dt)),yF,.av (j3 ((i+1:Nat):Int))] [] [0,3,4,6] 2 [(vi (↑(List.length e)))=(vi (↑(U1 e).length)),Bt .lss 3 7 9 ↑i (↑(List.length e)) bT,z8 (U1 e) ↑i 9 ([(.val (str x.fst.fst)),(.val (str x.fst.snd)),(.val (vi x.snd.ob.kind)),(.val (str x.snd.ob.num)),(.val (str x.snd.ob.den)),(.val (str x.snd.ob.sp)),(.val (str x.snd.ob.sn)),(.val (str x.snd.ob.text)),(.row (List.map Ob.enc x.snd.ob.pair))]),Bn .eql 45 (.tmp 17) (.tmp 18) (Value.agg #[str x.fst.fst,str x.fst.snd]) (Value.agg #[str a,str b]) bF,Bk .add 3 11 1 ↑i (vi (↑(i+1)))] ⟨xG _,C9 (decide_eq_true J),xE hx,ah (TQ h),I4 J J J,Z⟩
theorem b1M{e:D6}{a b:bi}{x:(bi×bi)×Tr}{i:Nat}(hx:e[i]?=some x)(h:x.1.1=a∧x.1.2=b):y7 EX rG (jb e a b i) .ret (DN x.2 a b) :=
 have hi:=(List.getElem?_eq_some_iff.1 hx).1
 tW [.av (j3 e.length),yT,.av (.pin ((fH x).map .dt)),yT,.av (.pin ((fH x).map .dt))] [] [4,5] 2 [(vi (↑(List.length e)))=(vi (↑(U1 e).length)),Bt .lss 3 7 9 ↑i (↑(List.length e)) bT,z8 (U1 e) ↑i 9 ([(.val (str x.fst.fst)),(.val (str x.fst.snd)),(.val (vi x.snd.ob.kind)),(.val (str x.snd.ob.num)),(.val (str x.snd.ob.den)),(.val (str x.snd.ob.sp)),(.val (str x.snd.ob.sn)),(.val (str x.snd.ob.text)),(.row (List.map Ob.enc x.snd.ob.pair))]),Bn .eql 45 (.tmp 17) (.tmp 18) (Value.agg #[str x.fst.fst,str x.fst.snd]) (Value.agg #[str a,str b]) bT,z8 (U1 e) ↑i 9 ([(.val (str x.fst.fst)),(.val (str x.fst.snd)),(.val (vi x.snd.ob.kind)),(.val (str x.snd.ob.num)),(.val (str x.snd.ob.den)),(.val (str x.snd.ob.sp)),(.val (str x.snd.ob.sn)),(.val (str x.snd.ob.text)),(.row (List.map Ob.enc x.snd.ob.pair))])] ⟨xG _,C9 (decide_eq_true J),xE hx,ah (Si h),xE hx,Z⟩
theorem b1N{e:D6}{a b:bi}{i:Nat}(hi:i=e.length):y7 EX rG (jb e a b i) (.out 0) (jb e a b i) :=
 tW [.av (j3 e.length),yF] [] [0,3,4,6] 2 [(vi (↑(List.length e)))=(vi (↑(U1 e).length)),Bt .lss 3 7 9 ↑i (↑(List.length e)) bF] ⟨xG _,C9 (decide_eq_false J),Z⟩
theorem a9f{e:D6}{a b:bi}{x:Tr}(h:y7 EX (.loop rG) (jb e a b 0) .ret (DN x a b)):j5 93 [F7 e,o9 a b] (.l7 [l5 x,j6 true]) :=
 pW [] [.inv [0,3,4,6] 2 (.ret) (DN x a b)] [_] func93 ⟨h,Z⟩
theorem a9g{e:D6}{a b:bi}{k:Int}(h:y7 EX (.loop rG) (jb e a b 0) (.out 0) (jb e a b k)):j5 93 [F7 e,o9 a b] (.l7 [l9 zO,j6 false]) :=
 pW [] [.inv [0,3,4,6] 2 (.out 0) (jb e a b k)] [_] func93 ⟨h,Z⟩
theorem a5b{L:D6}{a b:bi}(hl:L.length≤1000):∀(s:D6) (i:Nat),L.drop i=s→i≤L.length →
  (dw s a b=none→J7 EX rG (jb L a b i) (.out 0) (jb L a b L.length))∧(∀t,dw s a b=some t→J7 EX rG (jb L a b i) .ret (DN t a b)):=by
 intro s
 induction s with
 |nil =>
  intro i hd hi;have e1:=congrArg List.length hd;rw[List.length_drop,List.length_nil]at e1;obtain rfl:i=L.length:=J;exact⟨fun _=>.stop (b1N rfl) (fun h=>by cases h),fun t h=>by cases h⟩
 |cons x s ih =>
  intro i hd hi;have hx:L[i]?=some x:=by rw[←List.head?_drop,hd];rfl
  have hlt:=(List.getElem?_eq_some_iff.1 hx).1;obtain⟨h1,h2⟩:=ih (i+1) (by rw[←List.drop_drop,hd];rfl) hlt;rw[dw];by_cases hc:x.1.1=a∧x.1.2=b
  ·rw[if_pos hc];exact⟨fun h=>(by cases h),fun t h=>by cases h;exact .stop (b1M hx hc) (fun h=>by cases h)⟩
  ·rw[if_neg hc];exact⟨fun h=>.more (UU hx hl hc) (h1 h),fun t h=>.more (UU hx hl hc) (h2 t h)⟩
theorem Sj{e:D6}{a b:bi}(hl:e.length≤1000):(dw e a b=none→j5 93 [F7 e,o9 a b] (.l7 [l9 zO,j6 false]))∧(∀t,dw e a b=some t→j5 93 [F7 e,o9 a b] (.l7 [l5 t,j6 true])):=by
 obtain⟨h1,h2⟩:=a5b (a:=a) (b:=b) hl e 0 rfl (Nat.zero_le _);exact⟨fun h=>a9g (h1 h).K3,fun t h=>a9f (h2 t h).K3⟩
theorem BC(x:(bi×bi)×Tr):L6 9 [fH x]:=by
 intro y hy;rw[List.mem_singleton]at hy;subst hy;refine⟨rfl,fun d hd=>?_⟩;simp only[List.mem_cons,List.not_mem_nil,or_false]at hd;rcases hd with rfl | rfl | rfl | rfl | rfl | rfl | rfl | rfl | rfl <;> rfl
abbrev pq(ps:List (bi))(vs:List Tr)(es:bv)(i:Int):AS:=⟨stt 32 [(0,.dt (.row (ps.map G5))),(1,J2 vs),(5,.own 0 es.length),(6,j3 i)],[some (.buf 93 9 es)]⟩
abbrev bi0(ps:List (bi))(vs:List Tr):AS:=⟨stt 32 [(0,.dt (.row (ps.map G5))),(1,J2 vs),(5,.nil),(6,j3 0)],[]⟩
noncomputable abbrev DR:Code:=M9 (P6 f100) [1,1,0,1,0,0]
theorem TR{ps:List (bi)}{i:Nat}{n:bi}(h:ps[i]?=some n):z8 (ps.map G5) (i:Int) 2 (G5 n):=⟨Int.natCast_nonneg _,by
 rw[Int.toNat_natCast,List.getElem?_map,h];rfl,rfl⟩
theorem TS{vs:List Tr}{i:Nat}{x:Tr}(h:vs[i]?=some x):z8 (vs.map fun t=>y8 t.ob) (i:Int) 7 (y8 x.ob):=⟨Int.natCast_nonneg _,by
 rw[Int.toNat_natCast,List.getElem?_map,h];rfl,rfl⟩
theorem xH(ps:List (bi)):Value.int .i64 (ps.length:Int)=Value.int .i64 ((ps.map G5).length:Int):=by rw[List.length_map]
theorem a9h(vs:List Tr):Value.int .i64 (vs.length:Int)=Value.int .i64 ((vs.map fun t=>y8 t.ob).length:Int):=by rw[List.length_map]
theorem nY{b n:Nat}(hb:b≤1000)(h:n≤1000000):P9 b n:=⟨by show n≤2 ^ 63 - 1;omega,by
 have:=Nat.mul_le_mul h hb;omega⟩
theorem b1O{ps:List (bi)}{vs:List Tr}{es:bv}{n:bi}{x:Tr}{i:Nat}(hn:ps[i]?=some n)(hx:vs[i]?=some x)(hp:ps.length≤1000)(he:es.length≤1000):y7 EX DR (pq ps vs es i) .F4 (pq ps vs (es++[fH ((o6,n),x)]) ((i+1:Nat):Int)) :=
 have hi:=(List.getElem?_eq_some_iff.1 hn).1;have hj:=(List.getElem?_eq_some_iff.1 hx).1
 tW [.av (j3 ps.length),yT,.av (j3 vs.length),yT,.av (.pin ((G5 n).map .dt)),.av (.pin ((y8 x.ob).map .dt)),.av (.un),.av (j3 ((i+1:Nat):Int))] [] [0,1,5,6] 1 [(vi ↑ps.length)=(vi (↑(List.map G5 ps).length)),Bt .lss 3 7 9 ↑i ↑ps.length bT,(vi ↑vs.length)=(vi (↑(List.map (fun t=>y8 t.ob) vs).length)),Bt .lss 3 12 14 ↑i ↑vs.length bT,z8 (List.map G5 ps) ↑i 2 ([(.val (str o6)),(.val (str n))]),z8 (List.map (fun t=>y8 t.ob) vs) ↑i 7 (y8 x.ob),(es.length)=(es.length),P9 144 ((es++[[Dt.val (str o6),Dt.val (str n),Dt.val (vi x.ob.kind),Dt.val (str x.ob.num),Dt.val (str x.ob.den),Dt.val (str x.ob.sp),Dt.val (str x.ob.sn),Dt.val (str x.ob.text),Dt.row (List.map Ob.enc x.ob.pair)]]).length),L6 9 [[(.val (str o6)),(.val (str n)),(.val (vi x.ob.kind)),(.val (str x.ob.num)),(.val (str x.ob.den)),(.val (str x.ob.sp)),(.val (str x.ob.sn)),(.val (str x.ob.text)),(.row (List.map Ob.enc x.ob.pair))]],Bk .add 3 17 1 ↑i (vi (↑(i+1)))] ⟨xH _,C9 (decide_eq_true J),a9h _,C9 (decide_eq_true J),TR hn,TS hx,rfl,nY J (by simp;omega),BC ((o6,n),x),I4 J J J,Z⟩
theorem b1P{ps:List (bi)}{vs:List Tr}{es:bv}{i:Nat}(hi:i=ps.length):y7 EX DR (pq ps vs es i) (.out 0) (pq ps vs es i) :=
 tW [.av (j3 ps.length),yF] [] [0,1,5,6] 1 [(vi ↑ps.length)=(vi (↑(List.map G5 ps).length)),Bt .lss 3 7 9 ↑i ↑ps.length bF] ⟨xH _,C9 (decide_eq_false J),Z⟩
theorem b1Q{ps:List (bi)}{vs:List Tr}{rs:bv}{k:Int}(h:y7 EX (.loop DR) (bi0 ps vs) (.out 0) (pq ps vs rs k)):j5 100 [.dt (.row (ps.map G5)),J2 vs] (.dt (.row rs)) :=
 pW [] [.inv [0,1,5,6] 0 (.out 0) (pq ps vs rs k)] [_,(rs.length)=(rs.length)] func100 ⟨h,rfl,Z⟩
theorem a5c{P:List (bi)}{V:List Tr}(hl:P.length≤500)(hv:V.length=P.length):∀(p:List (bi)) (v:List Tr) (i:Nat) (pre:D6),P.drop i=p→V.drop i=v→i≤P.length→pre.length=i→J7 EX DR (pq P V (U1 pre) i) (.out 0) (pq P V (U1 (pre++dm p v)) P.length):=by
 intro p
 induction p with
 |nil =>
  intro v i pre hd hm hi hp;have e1:=congrArg List.length hd;rw[List.length_drop,List.length_nil]at e1;obtain rfl:i=P.length:=J;have e:dm [] v=[]:=by cases v <;> rfl
  rw[e,List.append_nil];exact .stop (b1P rfl) (fun h=>by cases h)
 |cons n p ih =>
  intro v i pre hd hm hi hp;have hn:P[i]?=some n:=by rw[←List.head?_drop,hd];rfl
  have hlt:=(List.getElem?_eq_some_iff.1 hn).1;cases v with
  |nil =>
   have e1:=congrArg List.length hm;rw[List.length_drop,List.length_nil]at e1;omega
  |cons x v =>
   have hx:V[i]?=some x:=by rw[←List.head?_drop,hm];rfl
   have hs:=b1O (es:=U1 pre) hn hx J (by rw[tH];omega);have e:U1 pre++[fH ((o6,n),x)]=U1 (pre++[((o6,n),x)]):=by unfold U1;rw[List.map_append];rfl
   rw[e]at hs;have k:=ih v (i+1) (pre++[((o6,n),x)]) (by rw[←List.drop_drop,hd];rfl) (by rw[←List.drop_drop,hm];rfl) hlt (by simp[hp]);rw[List.append_assoc]at k;exact .more hs k
theorem a5d{ps:List (bi)}{vs:List Tr}(hl:ps.length≤500)(hv:vs.length=ps.length):j5 100 [.dt (.row (ps.map G5)),J2 vs] (F7 (dm ps vs)) :=
 b1Q (y7.Z4 5 93 9 (by show 5 < 32;omega) rfl (a5c hl hv ps vs 0 [] rfl rfl (Nat.zero_le _) rfl).K3)
theorem Ic{o:Ob}(h:o.kind≠2):j5 98 [l9 o] (j6 false) :=
 pV [yF] [Bk .eql 3 4 2 o.kind bF] func98 ⟨A9 (K9 h),Z⟩
theorem a7q{o:Ob}(h:o.kind=2)(h2:o.sp≠o6):j5 98 [l9 o] (j6 false) :=
 pV [yT,yF] [Bk .eql 3 4 2 o.kind bT,Bl .eql 9 9 [108,105,115,112] o.sp bF] func98 ⟨A9 (U4 h),H5 (K9 h2),Z⟩
theorem a7r{o:Ob}{b:Bool}(h:o.kind=2)(h2:o.sp=o6)(h3:decide (o.sn=R4)=b):j5 98 [l9 o] (j6 b) :=
 pV [yT,yT,.av (j6 b)] [Bk .eql 3 4 2 o.kind bT,Bl .eql 9 9 [108,105,115,112] o.sp bT,Bl .eql 9 15 [110,105,108] o.sn (Value.bool b)] func98 ⟨A9 (U4 h),H5 (U4 h2),H5 h3,Z⟩
theorem a5e(x:Tr):j5 98 [l5 x] (j6 (decide (x=l6))):=by
 cases x with
 |num q=>rw[decide_eq_false (by intro h;cases h)];exact Ic (o:=(Tr.num q).ob) (by show (1:Int)≠2;decide)
 |txt s=>rw[decide_eq_false (by intro h;cases h)];exact Ic (o:=(Tr.txt s).ob) (by show (3:Int)≠2;decide)
 |cons a d=>rw[decide_eq_false (by intro h;cases h)];exact Ic (o:=(Tr.cons a d).ob) (by show (4:Int)≠2;decide)
 |sym p n =>
  by_cases hp:p=o6
  ·subst hp;exact a7r (o:=(Tr.sym o6 n).ob) rfl rfl (by
    by_cases hn:n=R4
    ·subst hn;rw[decide_eq_true (show (Tr.sym o6 R4).ob.sn=R4 from rfl),decide_eq_true (show Tr.sym o6 R4=l6 from rfl)]
    ·rw[decide_eq_false (show ¬(Tr.sym o6 n).ob.sn=R4 from hn),decide_eq_false (by intro h;cases h;exact hn rfl)])
  ·rw[decide_eq_false (by intro h;cases h;exact hp rfl)];exact a7q (o:=(Tr.sym p n).ob) rfl hp
abbrev bu:FuncId:=50
abbrev P8(ws:bv)(l:Int):List (Option Bx):=[some (.cells [.dt (.row ws),j3 l])]
abbrev jM:List AV:=encZ.map .dt
abbrev pz:AV:=.agg jM
theorem BD(x:Tr):L6 7 [y8 x.ob]:=by
 intro y hy;rw[List.mem_singleton]at hy;subst hy;refine⟨rfl,fun d hd=>?_⟩;simp only[List.mem_cons,List.not_mem_nil,or_false]at hd;rcases hd with rfl | rfl | rfl | rfl | rfl | rfl | rfl <;> rfl
abbrev uO:Except Int Tr→AV
 |.ok x=>.l7 [l5 x,j3 0]
 |.error e=>.l7 [l9 zO,j3 e]
theorem a2v{es:bv}{n:bi}(h:j5 123 [.dt (.row es),o9 o6 n] (.l7 [j3 0,j3 0,j6 false])):j5 96 [.dt (.row es),o9 o6 n] (.l7 [pz,j6 false]) :=
 pV [.av (.l7 [j3 0,j3 0,j6 false])] [_] func96 ⟨h,Z⟩
theorem a2w{n:bi}(h:(H8.find? fun f=>f.nm == n)=none):j5 96 [.dt (.row Q3),o9 o6 n] (.l7 [pz,j6 false]):=by
 have hwl:=su;exact a2v (a6T (a8W (ws:=H8) (is:=lL) J H8 0 rfl (Nat.zero_le _) h).K3)
theorem aK.rv{P:Program}{G:World→Prop}{f:FuncId}{args:List AV}{xs xs':List (Option Bx)}{r r':AV}(h:aK P G f args xs r xs')(hr:∀M w v,RV M w r v→RV M w r' v):aK P G f args xs r' xs' :=
 ⟨h.1,fun X M w vs hG hS ha=>(h.2 X M w vs hG hS ha).mono fun _ _ ⟨v,M',h1,h2,h3,h4,h5⟩=>⟨v,M',h1,h2,h3,h4,hr _ _ _ h5⟩⟩
abbrev zOn:AV:=.agg [j3 0,stA [],stA [],stA [],stA [],stA [],.nil]
theorem lM{M:Mm}{w:World}{v:Value}{e:Int}(h:RV M w (.l7 [zOn,j3 e]) v):RV M w (.l7 [l9 zO,j3 e]) v:=by
 obtain⟨_,rfl,u,_,rfl,⟨_,rfl,u0,_,rfl,h0,u1,_,rfl,h1,u2,_,rfl,h2,u3,_,rfl,h3,u4,_,rfl,h4,u5,_,rfl,h5,u6,_,rfl,h6,rfl⟩,ub,_,rfl,hb,rfl⟩:=h;exact⟨_,rfl,_,_,rfl,⟨_,rfl,_,_,rfl,h0,_,_,rfl,h1,_,_,rfl,h2,_,_,rfl,h3,_,_,rfl,h4,_,_,rfl,h5,_,_,rfl,RV.Hu h6,rfl⟩,_,_,rfl,hb,rfl⟩
theorem TT{ws:bv}{l:Int}{t:Te}{env:D6}{x:Tr}(h:t.kind=1)(hv:j5 93 [F7 env,o9 t.np t.nn] (.l7 [l5 x,j6 true])):C8 bu [.ptr 0 0,o7 t,F7 env] (P8 ws l) (.l7 [l5 x,j3 0]) (P8 ws l) :=
 sW 1 [0] [yT,.av (.l7 [l5 x,j6 true])] [] [Bk .eql 3 23 1 t.kind bT,_] func50 ⟨A9 (U4 h),hv,Z⟩
theorem TU{ws:bv}{l:Int}{t:Te}{env:D6}(h:t.kind=1)(hv:j5 93 [F7 env,o9 t.np t.nn] (.l7 [l9 zO,j6 false])):C8 bu [.ptr 0 0,o7 t,F7 env] (P8 ws l) (.l7 [l9 zO,j3 6]) (P8 ws l) :=
 .rv (sW 1 [0] [yT,.av (.l7 [l9 zO,j6 false])] [] [Bk .eql 3 23 1 t.kind bT,_] func50 ⟨A9 (U4 h),hv,Z⟩) fun _ _ _ h=>lM h
theorem TV{ws:bv}{l:Int}{t:Te}{env:D6}(h:t.kind=2):C8 bu [.ptr 0 0,o7 t,F7 env] (P8 ws l) (.l7 [l9 t.val,j3 0]) (P8 ws l) :=
 sW 1 [0] [yF,yT] [] [Bk .eql 3 23 1 t.kind bF,Bk .eql 3 23 2 t.kind bT] func50 ⟨A9 (by simp[h]),A9 (by simp[h]),Z⟩
theorem TW{ws:bv}{l:Int}{t:Te}{env:D6}(h:t.kind=3)(hl:l < 1):C8 bu [.ptr 0 0,o7 t,F7 env] (P8 ws l) (.l7 [l9 zO,j3 9]) (P8 ws l) :=
 .rv (sW 1 [0] [yF,yF,yT] [] [Bk .eql 3 23 1 t.kind bF,Bk .eql 3 23 2 t.kind bF,Bk .lss 3 44 1 l bT] func50 ⟨A9 (by simp[h]),A9 (by simp[h]),C9 (decide_eq_true hl),Z⟩) fun _ _ _ h=>lM h
structure qJ (ws:bv) (t:Te) (l:Int) (b:Bool):Prop where
 k:t.kind=3
 l0:1≤l
 l1:l≤100000
 ar:j5 94 [.dt (.row ws),o9 t.np t.nn] (.l7 [j3 t.args.length,j6 true])
 pr:j5 95 [o9 t.np t.nn] (.l7 [j3 t.args.length,j6 true])
 fn:j5 96 [.dt (.row ws),o9 t.np t.nn] (.l7 [pz,j6 false])
 is:j5 97 [o7 t,stA x8,j3 3] (j6 b)
theorem a9i{ws:bv}{l m e:Int}{t a:Te}{env:D6}(hp:qJ ws t l true)(ha:t.args[0]?=some a)(he:e≠0)(h:C8 bu [.ptr 0 0,o7 a,F7 env] (P8 ws (l - 1)) (.l7 [l9 zO,j3 e]) (P8 ws m)):C8 bu [.ptr 0 0,o7 t,F7 env] (P8 ws l) (.l7 [l9 zO,j3 e]) (P8 ws m) :=
 have h0:=hp.l0;have h1:=hp.l1
 sW 1 [0] [yF,yF,yF,.av (j3 (l - 1)),.av (.l7 [j3 t.args.length,j6 true]),.av (j3 t.args.length),yF,.av (.l7 [j3 t.args.length,j6 true]),.av (.l7 [pz,j6 false]),yT,.av (.pin ((p9 a).map .dt)),yT] [.J6 22 6 [0] (.l7 [l9 zO,j3 e]) [some (.cells [.dt (.row ws),j3 m])]] [Bk .eql 3 23 1 t.kind bF,Bk .eql 3 23 2 t.kind bF,Bk .lss 3 44 1 l bF,Bk .sub 3 50 1 l (vi (l - 1)),_,(vi ↑t.args.length)=(vi (↑(List.map Te.enc t.args).length)),Bt .neq 3 67 70 ↑t.args.length ↑t.args.length bF,_,_,_,z8 (List.map Te.enc t.args) 0 11 (p9 a),_,Bk .neq 31 109 0 e bT] func50 ⟨A9 (by simp[hp.k]),A9 (by simp[hp.k]),C9 (decide_eq_false J),bE rfl J J,hp.ar,H7 _,E9 I,hp.pr,hp.fn,hp.is,L8 ha,h,E9 (by simp[he]),Z⟩
theorem a9j{ws:bv}{l m k e:Int}{t a b:Te}{env:D6}{x:Tr}{o:Ob}(hp:qJ ws t l true)(ha:t.args[0]?=some a)(hb:t.args[2]?=some b)(h:C8 bu [.ptr 0 0,o7 a,F7 env] (P8 ws (l - 1)) (.l7 [l5 x,j3 0]) (P8 ws m))(hn:j5 98 [l5 x] (j6 true))(h2:C8 bu [.ptr 0 0,o7 b,F7 env] (P8 ws m) (.l7 [l9 o,j3 e]) (P8 ws k)):C8 bu [.ptr 0 0,o7 t,F7 env] (P8 ws l) (.l7 [l9 o,j3 e]) (P8 ws k) :=
 have h0:=hp.l0;have h1:=hp.l1
 sW 1 [0] [yF,yF,yF,.av (j3 (l - 1)),.av (.l7 [j3 t.args.length,j6 true]),.av (j3 t.args.length),yF,.av (.l7 [j3 t.args.length,j6 true]),.av (.l7 [pz,j6 false]),yT,.av (.pin ((p9 a).map .dt)),yF,yT,.av (.pin ((p9 b).map .dt))] [.J6 22 6 [0] (.l7 [l5 x,j3 0]) [some (.cells [.dt (.row ws),j3 m])],.J6 26 6 [0] (.l7 [l9 o,j3 e]) [some (.cells [.dt (.row ws),j3 k])]] [Bk .eql 3 23 1 t.kind bF,Bk .eql 3 23 2 t.kind bF,Bk .lss 3 44 1 l bF,Bk .sub 3 50 1 l (vi (l - 1)),_,(vi ↑t.args.length)=(vi (↑(List.map Te.enc t.args).length)),Bt .neq 3 67 70 ↑t.args.length ↑t.args.length bF,_,_,_,z8 (List.map Te.enc t.args) 0 11 (p9 a),_,Bk .neq 31 109 0 0 bF,_,z8 (List.map Te.enc t.args) 2 11 (p9 b),_] func50 ⟨A9 (by simp[hp.k]),A9 (by simp[hp.k]),C9 (decide_eq_false J),bE rfl J J,hp.ar,H7 _,E9 I,hp.pr,hp.fn,hp.is,L8 ha,h,E9 I,hn,L8 hb,h2,Z⟩
theorem a9k{ws:bv}{l m k e:Int}{t a b:Te}{env:D6}{x:Tr}{o:Ob}(hp:qJ ws t l true)(ha:t.args[0]?=some a)(hb:t.args[1]?=some b)(h:C8 bu [.ptr 0 0,o7 a,F7 env] (P8 ws (l - 1)) (.l7 [l5 x,j3 0]) (P8 ws m))(hn:j5 98 [l5 x] (j6 false))(h2:C8 bu [.ptr 0 0,o7 b,F7 env] (P8 ws m) (.l7 [l9 o,j3 e]) (P8 ws k)):C8 bu [.ptr 0 0,o7 t,F7 env] (P8 ws l) (.l7 [l9 o,j3 e]) (P8 ws k) :=
 have h0:=hp.l0;have h1:=hp.l1
 sW 1 [0] [yF,yF,yF,.av (j3 (l - 1)),.av (.l7 [j3 t.args.length,j6 true]),.av (j3 t.args.length),yF,.av (.l7 [j3 t.args.length,j6 true]),.av (.l7 [pz,j6 false]),yT,.av (.pin ((p9 a).map .dt)),yF,yF,.av (.pin ((p9 b).map .dt))] [.J6 22 6 [0] (.l7 [l5 x,j3 0]) [some (.cells [.dt (.row ws),j3 m])],.J6 27 6 [0] (.l7 [l9 o,j3 e]) [some (.cells [.dt (.row ws),j3 k])]] [Bk .eql 3 23 1 t.kind bF,Bk .eql 3 23 2 t.kind bF,Bk .lss 3 44 1 l bF,Bk .sub 3 50 1 l (vi (l - 1)),_,(vi ↑t.args.length)=(vi (↑(List.map Te.enc t.args).length)),Bt .neq 3 67 70 ↑t.args.length ↑t.args.length bF,_,_,_,z8 (List.map Te.enc t.args) 0 11 (p9 a),_,Bk .neq 31 109 0 0 bF,_,z8 (List.map Te.enc t.args) 1 11 (p9 b),_] func50 ⟨A9 (by simp[hp.k]),A9 (by simp[hp.k]),C9 (decide_eq_false J),bE rfl J J,hp.ar,H7 _,E9 I,hp.pr,hp.fn,hp.is,L8 ha,h,E9 I,hn,L8 hb,h2,Z⟩
abbrev raX(ws:bv)(t:Te)(fc:List AV)(l:Int)(es:bv):List (Option Bx):=[some (.cells [.dt (.row ws),j3 l]),some (.cells ((p9 t).map .dt)),rC,some (.cells fc),some (.buf 48 7 es)]
abbrev bX(ws:bv)(t:Te)(env:D6)(fc:List AV)(p:Bool)(l:Int)(es:bv)(i:Int):AS:=⟨stt 176 [(0,.ptr 0 0),(2,F7 env),(4,.ptr 1 0),(6,.ptr 2 0),(13,j6 p),(14,.ptr 3 0),(18,.own 4 es.length),(19,j3 i)],raX ws t fc l es⟩
abbrev DT(ws:bv)(t:Te)(env:D6)(fc:List AV)(p:Bool)(l:Int):AS:=⟨stt 176 [(0,.ptr 0 0),(2,F7 env),(4,.ptr 1 0),(6,.ptr 2 0),(13,j6 p),(14,.ptr 3 0),(18,.nil),(19,j3 0)],[some (.cells [.dt (.row ws),j3 l]),some (.cells ((p9 t).map .dt)),rC,some (.cells fc)]⟩
abbrev vo(ws:bv)(t:Te)(e l:Int):AS:=⟨stt 176 [(6,.ptr 2 0),(7,j3 e)],[some (.cells [.dt (.row ws),j3 l]),some (.cells ((p9 t).map .dt)),some (.cells [j3 0,stA [],stA [],stA [],stA [],stA [],.nil])]⟩
noncomputable abbrev iw:Code:=M9 (P6 f50) [1,1,1,1,1,1,1,1,1,1,1,1,0,1,0,0]
theorem b1R{ws es:bv}{t x:Te}{env:D6}{fc:List AV}{p:Bool}{l m e:Int}{i:Nat}(hx:t.args[i]?=some x)(he:e≠0)(h:C8 bu [.ptr 0 0,o7 x,F7 env] (P8 ws l) (.l7 [l9 zO,j3 e]) (P8 ws m)):y7 (J5 1) iw (bX ws t env fc p l es i) .ret (vo ws t e m) :=
 have hi:=(List.getElem?_eq_some_iff.1 hx).1
 tW [.av (j3 t.args.length),yT,.av (.pin ((p9 x).map .dt)),yT] [.J6 32 7 [0] (.l7 [l9 zO,j3 e]) [some (.cells [.dt (.row ws),j3 m])]] [6,7] 3 [(vi ↑t.args.length)=(vi (↑(List.map Te.enc t.args).length)),Bt .lss 3 133 136 ↑i ↑t.args.length bT,z8 (List.map Te.enc t.args) ↑i 11 (p9 x),_,Bk .neq 31 151 0 e bT] ⟨H7 _,C9 (decide_eq_true J),L8 hx,h,E9 (by simp[he]),Z⟩
theorem a9l{ws es:bv}{t x:Te}{env:D6}{p:Bool}{l m:Int}{y:Tr}{i:Nat}(hx:t.args[i]?=some x)(hl:t.args.length≤1000)(he:es.length≤1000)(h:C8 bu [.ptr 0 0,o7 x,F7 env] (P8 ws l) (.l7 [l5 y,j3 0]) (P8 ws m)):y7 (J5 1) iw (bX ws t env jM p l es i) .F4 (bX ws t env jM p m (es++[y8 y.ob]) ((i+1:Nat):Int)) :=
 have hi:=(List.getElem?_eq_some_iff.1 hx).1
 tW [.av (j3 t.args.length),yT,.av (.pin ((p9 x).map .dt)),yF,.av (.un),.av (j3 ((i+1:Nat):Int))] [.J6 32 7 [0] (.l7 [l5 y,j3 0]) [some (.cells [.dt (.row ws),j3 m])]] [0,2,4,6,13,14,18,19] 5 [(vi ↑t.args.length)=(vi (↑(List.map Te.enc t.args).length)),Bt .lss 3 133 136 ↑i ↑t.args.length bT,z8 (List.map Te.enc t.args) ↑i 11 (p9 x),_,Bk .neq 31 151 0 0 bF,(es.length)=(es.length),P9 112 ((es++[[Dt.val (vi y.ob.kind),Dt.val (str y.ob.num),Dt.val (str y.ob.den),Dt.val (str y.ob.sp),Dt.val (str y.ob.sn),Dt.val (str y.ob.text),Dt.row (List.map Ob.enc y.ob.pair)]]).length),L6 7 [y8 y.ob],Bk .add 3 138 1 ↑i (vi (↑(i+1)))] ⟨H7 _,C9 (decide_eq_true J),L8 hx,h,E9 I,rfl,nY J (by simp;omega),BD y,I4 J J J,Z⟩
theorem a9m{ws es:bv}{t:Te}{env:D6}{p:Bool}{l:Int}{i:Nat}(hi:i=t.args.length):y7 (J5 1) iw (bX ws t env jM p l es i) (.out 1) (bX ws t env jM p l es i) :=
 tW [.av (j3 t.args.length),yF] [] [0,2,4,6,13,14,18,19] 5 [(vi ↑t.args.length)=(vi (↑(List.map Te.enc t.args).length)),Bt .lss 3 133 136 ↑i ↑t.args.length bF] ⟨H7 _,C9 (decide_eq_false J),Z⟩
theorem a9n{ws es:bv}{t x:Te}{env:D6}{f:o8.E8}{p:Bool}{l m:Int}{y:Tr}{i:Nat}(hx:t.args[i]?=some x)(hl:t.args.length≤1000)(he:es.length≤1000)(h:C8 bu [.ptr 0 0,o7 x,F7 env] (P8 ws l) (.l7 [l5 y,j3 0]) (P8 ws m)):y7 (J5 1) iw (bX ws t env ((F6 f).map .dt) p l es i) .F4 (bX ws t env ((F6 f).map .dt) p m (es++[y8 y.ob]) ((i+1:Nat):Int)) :=
 have hi:=(List.getElem?_eq_some_iff.1 hx).1
 tW [.av (j3 t.args.length),yT,.av (.pin ((p9 x).map .dt)),yF,.av (.un),.av (j3 ((i+1:Nat):Int))] [.J6 32 7 [0] (.l7 [l5 y,j3 0]) [some (.cells [.dt (.row ws),j3 m])]] [0,2,4,6,13,14,18,19] 5 [(vi ↑t.args.length)=(vi (↑(List.map Te.enc t.args).length)),Bt .lss 3 133 136 ↑i ↑t.args.length bT,z8 (List.map Te.enc t.args) ↑i 11 (p9 x),_,Bk .neq 31 151 0 0 bF,(es.length)=(es.length),P9 112 ((es++[[Dt.val (vi y.ob.kind),Dt.val (str y.ob.num),Dt.val (str y.ob.den),Dt.val (str y.ob.sp),Dt.val (str y.ob.sn),Dt.val (str y.ob.text),Dt.row (List.map Ob.enc y.ob.pair)]]).length),L6 7 [y8 y.ob],Bk .add 3 138 1 ↑i (vi (↑(i+1)))] ⟨H7 _,C9 (decide_eq_true J),L8 hx,h,E9 I,rfl,nY J (by simp;omega),BD y,I4 J J J,Z⟩
theorem a9o{ws es:bv}{t:Te}{env:D6}{f:o8.E8}{p:Bool}{l:Int}{i:Nat}(hi:i=t.args.length):y7 (J5 1) iw (bX ws t env ((F6 f).map .dt) p l es i) (.out 1) (bX ws t env ((F6 f).map .dt) p l es i) :=
 tW [.av (j3 t.args.length),yF] [] [0,2,4,6,13,14,18,19] 5 [(vi ↑t.args.length)=(vi (↑(List.map Te.enc t.args).length)),Bt .lss 3 133 136 ↑i ↑t.args.length bF] ⟨H7 _,C9 (decide_eq_false J),Z⟩
def DU(fc:List AV):Prop:=(∀(ws es:bv) (t x:Te) (env:D6) (p:Bool) (l m:Int) (y:Tr) (i:Nat),t.args[i]?=some x→t.args.length≤1000→es.length≤1000→C8 bu [.ptr 0 0,o7 x,F7 env] (P8 ws l) (.l7 [l5 y,j3 0]) (P8 ws m)→y7 (J5 1) iw (bX ws t env fc p l es i) .F4 (bX ws t env fc p m (es++[y8 y.ob]) ((i+1:Nat):Int)))∧(∀(ws es:bv) (t:Te) (env:D6) (p:Bool) (l:Int) (i:Nat),i=t.args.length→y7 (J5 1) iw (bX ws t env fc p l es i) (.out 1) (bX ws t env fc p l es i))
theorem a9p:DU jM:=⟨fun _ _ _ _ _ _ _ _ _ _ hx hl he h=>a9l hx hl he h,fun _ _ _ _ _ _ _ hi=>a9m hi⟩
theorem a9q(f:o8.E8):DU ((F6 f).map .dt):=⟨fun _ _ _ _ _ _ _ _ _ _ hx hl he h=>a9n hx hl he h,fun _ _ _ _ _ _ _ hi=>a9o hi⟩
theorem a9r{ws es:bv}{l m e:Int}{t:Te}{env:D6}{k:Int}{o:Ob}(hp:qJ ws t l false)(h:y7 (J5 1) (.loop iw) (DT ws t env jM true (l - 1)) (.out 1) (bX ws t env jM true m es k))(ha:j5 99 [o9 t.np t.nn,.dt (.row es)] (.l7 [l9 o,j3 e])):C8 bu [.ptr 0 0,o7 t,F7 env] (P8 ws l) (.l7 [l9 o,j3 e]) (P8 ws m) :=
 have h0:=hp.l0;have h1:=hp.l1
 sW 1 [0] [yF,yF,yF,.av (j3 (l - 1)),.av (.l7 [j3 t.args.length,j6 true]),.av (j3 t.args.length),yF,.av (.l7 [j3 t.args.length,j6 true]),.av (.l7 [pz,j6 false]),yF,.av (.l7 [l9 o,j3 e])] [.inv [0,2,4,6,13,14,18,19] 4 (.out 1) (bX ws t env jM true m es k)] [Bk .eql 3 23 1 t.kind bF,Bk .eql 3 23 2 t.kind bF,Bk .lss 3 44 1 l bF,Bk .sub 3 50 1 l (vi (l - 1)),_,(vi ↑t.args.length)=(vi (↑(List.map Te.enc t.args).length)),Bt .neq 3 67 70 ↑t.args.length ↑t.args.length bF,_,_,_,_,_,(es.length)=(es.length)] func50 ⟨A9 (by simp[hp.k]),A9 (by simp[hp.k]),C9 (decide_eq_false J),bE rfl J J,hp.ar,H7 _,E9 I,hp.pr,hp.fn,hp.is,h,ha,rfl,Z⟩
theorem a7s{ws:bv}{l m e:Int}{t:Te}{env:D6}(hp:qJ ws t l false)(h:y7 (J5 1) (.loop iw) (DT ws t env jM true (l - 1)) .ret (vo ws t e m)):C8 bu [.ptr 0 0,o7 t,F7 env] (P8 ws l) (.l7 [l9 zO,j3 e]) (P8 ws m) :=
 have h0:=hp.l0;have h1:=hp.l1
 .rv (sW 1 [0] [yF,yF,yF,.av (j3 (l - 1)),.av (.l7 [j3 t.args.length,j6 true]),.av (j3 t.args.length),yF,.av (.l7 [j3 t.args.length,j6 true]),.av (.l7 [pz,j6 false]),yF] [.inv [0,2,4,6,13,14,18,19] 4 (.ret) (vo ws t e m)] [Bk .eql 3 23 1 t.kind bF,Bk .eql 3 23 2 t.kind bF,Bk .lss 3 44 1 l bF,Bk .sub 3 50 1 l (vi (l - 1)),_,(vi ↑t.args.length)=(vi (↑(List.map Te.enc t.args).length)),Bt .neq 3 67 70 ↑t.args.length ↑t.args.length bF,_,_,_,_] func50 ⟨A9 (by simp[hp.k]),A9 (by simp[hp.k]),C9 (decide_eq_false J),bE rfl J J,hp.ar,H7 _,E9 I,hp.pr,hp.fn,hp.is,h,Z⟩) fun _ _ _ h=>lM h
structure IV (ws:bv) (t:Te) (l:Int) (f:o8.E8):Prop where
 k:t.kind=3
 l0:1≤l
 l1:l≤100000
 ar:j5 94 [.dt (.row ws),o9 t.np t.nn] (.l7 [j3 t.args.length,j6 true])
 pr:j5 95 [o9 t.np t.nn] (.l7 [j3 0,j6 false])
 fn:j5 96 [.dt (.row ws),o9 t.np t.nn] (.l7 [.agg ((F6 f).map .dt),j6 true])
 is:j5 97 [o7 t,stA x8,j3 3] (j6 false)
theorem a9s{ws es bs:bv}{l m n e:Int}{t:Te}{f:o8.E8}{env:D6}{k:Int}{o:Ob}(hp:IV ws t l f)(h:y7 (J5 1) (.loop iw) (DT ws t env ((F6 f).map .dt) false (l - 1)) (.out 1) (bX ws t env ((F6 f).map .dt) false m es k))(hb:j5 100 [.dt (.row (f.ps.map G5)),.dt (.row es)] (.dt (.row bs)))(ha:C8 bu [.ptr 0 0,o7 f.body,.dt (.row bs)] (P8 ws m) (.l7 [l9 o,j3 e]) (P8 ws n)):C8 bu [.ptr 0 0,o7 t,F7 env] (P8 ws l) (.l7 [l9 o,j3 e]) (P8 ws n) :=
 have h0:=hp.l0;have h1:=hp.l1
 sW 1 [0] [yF,yF,yF,.av (j3 (l - 1)),.av (.l7 [j3 t.args.length,j6 true]),.av (j3 t.args.length),yF,.av (.l7 [j3 0,j6 false]),.av (.l7 [.agg ((F6 f).map .dt),j6 true]),.no,yF,.av (.dt (.row bs))] [.inv [0,2,4,6,13,14,18,19] 4 (.out 1) (bX ws t env ((F6 f).map .dt) false m es k),.J6 38 7 [0] (.l7 [l9 o,j3 e]) [some (.cells [.dt (.row ws),j3 n])]] [Bk .eql 3 23 1 t.kind bF,Bk .eql 3 23 2 t.kind bF,Bk .lss 3 44 1 l bF,Bk .sub 3 50 1 l (vi (l - 1)),_,(vi ↑t.args.length)=(vi (↑(List.map Te.enc t.args).length)),Bt .neq 3 67 70 ↑t.args.length ↑t.args.length bF,_,_,_,_,_,(es.length)=(es.length),_] func50 ⟨A9 (by simp[hp.k]),A9 (by simp[hp.k]),C9 (decide_eq_false J),bE rfl J J,hp.ar,H7 _,E9 I,hp.pr,hp.fn,hp.is,h,hb,rfl,ha,Z⟩
theorem a7t{ws:bv}{l m e:Int}{t:Te}{f:o8.E8}{env:D6}(hp:IV ws t l f)(h:y7 (J5 1) (.loop iw) (DT ws t env ((F6 f).map .dt) false (l - 1)) .ret (vo ws t e m)):C8 bu [.ptr 0 0,o7 t,F7 env] (P8 ws l) (.l7 [l9 zO,j3 e]) (P8 ws m) :=
 have h0:=hp.l0;have h1:=hp.l1
 .rv (sW 1 [0] [yF,yF,yF,.av (j3 (l - 1)),.av (.l7 [j3 t.args.length,j6 true]),.av (j3 t.args.length),yF,.av (.l7 [j3 0,j6 false]),.av (.l7 [.agg ((F6 f).map .dt),j6 true]),.no,yF] [.inv [0,2,4,6,13,14,18,19] 4 (.ret) (vo ws t e m)] [Bk .eql 3 23 1 t.kind bF,Bk .eql 3 23 2 t.kind bF,Bk .lss 3 44 1 l bF,Bk .sub 3 50 1 l (vi (l - 1)),_,(vi ↑t.args.length)=(vi (↑(List.map Te.enc t.args).length)),Bt .neq 3 67 70 ↑t.args.length ↑t.args.length bF,_,_,_,_] func50 ⟨A9 (by simp[hp.k]),A9 (by simp[hp.k]),C9 (decide_eq_false J),bE rfl J J,hp.ar,H7 _,E9 I,hp.pr,hp.fn,hp.is,h,Z⟩) fun _ _ _ h=>lM h
theorem xe(W:List o8.E8)(f:Nat)(env:D6)(p n:bi)(l:Nat):ev W f env ⟨1,p,n,U0,[]⟩ l=(match dw env p n with | some x=>.ok x | none=>.error 6,l):=by
 cases f <;> (rw[ev];unfold mY;exact if_pos rfl)
theorem xg(W:List o8.E8)(f:Nat)(env:D6)(t:Tr)(l:Nat):ev W f env (Te.V8 t.ob) l=(.ok t,l):=by
 have key:∀r,mY env (Te.V8 t.ob) l r=(.ok t,l):=fun r=>by
  unfold mY;rw[if_neg (show ¬(Te.V8 t.ob).kind=1 from fun h=>absurd (show (2:Int)=1 from h) O),if_pos (show (Te.V8 t.ob).kind=2 from rfl)]
  show (Except.ok (Cy t.ob),l)=_;rw[a4U]
 cases f <;> (rw[ev];exact key _)
theorem BF(env:D6)(n:bi)(a:List Te)(l:Nat)(r:jL):mY env (Te.ap n a) l r=r:=by
 unfold mY;rw[if_neg (show ¬(Te.ap n a).kind=1 from fun h=>absurd (show (3:Int)=1 from h) O),if_neg (show ¬(Te.ap n a).kind=2 from fun h=>absurd (show (3:Int)=2 from h) O)]
theorem xh(W:List o8.E8)(f:Nat)(env:D6)(n:bi)(a:List Te):ev W f env (Te.ap n a) 0=(.error 9,0):=by
 cases f with
 |zero=>rw[ev,BF]
 |succ f=>rw[ev,BF,if_pos rfl]
theorem IW(W:List o8.E8)(f:Nat)(env:D6)(n:bi)(a:List Te)(l:Nat):ev W (f+1) env (Te.ap n a) (l+1)=mX W (ev W f) env (Te.ap n a) l:=by
 rw[ev,BF,if_neg J,Nat.add_sub_cancel]
theorem a7u:eY H8 x8=some 3:=by decide +kernel
theorem a9t{n:bi}{a:List Te}(h:eY H8 n=some a.length):is (Te.ap n a) x8 3↔n=x8:=by
 constructor
 ·exact fun hi=>hi.2.2.1
 ·intro hn;subst hn;rw[a7u]at h;exact⟨rfl,rfl,rfl,(Option.some.inj h).symm⟩
theorem uf{g:Te→Nat→jL}:∀(s:List Te) (l:Nat) (xs:List Tr) (l':Nat),(∀t∈s,∀l x l',g t l=(.ok x,l')→x.valid=true)→bn g s l=(.ok xs,l')→xs.length=s.length∧∀x∈xs,x.valid=true
 |[],l,xs,l',_,h=>by rw[bn]at h;cases h;exact⟨rfl,fun x hx=>by cases hx⟩
 |t::r,l,xs,l',hg,h=>by
  rw[bn]at h;split at h
  ·cases h
  ·rename_i x l1 hh;split at h
   ·cases h
   ·rename_i ys l2 hk;cases h;obtain⟨h1,h2⟩:=uf r l1 ys l' (fun t ht=>hg t (List.mem_cons_of_mem _ ht)) hk;refine⟨by rw[List.length_cons,List.length_cons,h1],fun y hy=>?_⟩;rcases List.mem_cons.1 hy with rfl | hy
    ·exact hg t (List.mem_cons_self ..) _ _ _ hh
    ·exact h2 y hy
theorem kD:∀(f:Nat) (env:D6) (t:Te) (l:Nat),Wd t→fU env→(∀x l',ev H8 f env t l=(.ok x,l')→x.valid=true)∧(∀e l',ev H8 f env t l=(.error e,l')→e≠0):=by
 intro f
 induction f with
 |zero =>
  intro env t l ht he;cases ht with
  |var p n =>
   rw[xe];cases hv:dw env p n with
   |none=>exact⟨fun x l' h=>(by cases h),fun e l' h=>by cases h;decide⟩
   |some y =>
    obtain⟨z,h1,rfl⟩:=GD hv;exact⟨fun x l' h=>(by cases h;exact he z h1),fun e l' h=>by cases h⟩
  |V8 t h=>rw[xg];exact⟨fun x l' e=>(by cases e;exact h),fun e l' h=>by cases h⟩
  |ap n a ha hl h=>rw[ev,BF];exact⟨fun x l' h=>(by cases h),fun e l' h=>by cases h;decide⟩
 |succ f ih =>
  intro env t l ht he;cases ht with
  |var p n =>
   rw[xe];cases hv:dw env p n with
   |none=>exact⟨fun x l' h=>(by cases h),fun e l' h=>by cases h;decide⟩
   |some y =>
    obtain⟨z,h1,rfl⟩:=GD hv;exact⟨fun x l' h=>(by cases h;exact he z h1),fun e l' h=>by cases h⟩
  |V8 t h=>rw[xg];exact⟨fun x l' e=>(by cases e;exact h),fun e l' h=>by cases h⟩
  |ap n a ha hl h =>
   cases l with
   |zero=>rw[xh];exact⟨fun x l' h=>(by cases h),fun e l' h=>by cases h;decide⟩
   |succ l =>
    rw[IW];unfold mX;by_cases hi:is (Te.ap n a) x8 3
    ·rw[if_pos hi];have hk:∀i,i < 3→Wd ((Te.ap n a).arg i):=fun i hi3=>h _ (List.mem_of_getElem? (Z8 hi hi3))
     obtain⟨k1,k2⟩:=ih env ((Te.ap n a).arg 0) l (hk 0 J) he;split
     ·rename_i c l' hc;exact⟨fun x l' h=>(by cases h),fun e l' h=>by cases h;exact k2 _ _ hc⟩
     ·rename_i x l' hc;split
      ·exact ih env _ l' (hk 2 J) he
      ·exact ih env _ l' (hk 1 J) he
    ·rw[if_neg hi];have hA:∀(s:List Te) (l:Nat),(∀x∈s,Wd x)→∀e l',bn (ev H8 f env) s l=(.error e,l')→e≠0:=by
      intro s
      induction s with
      |nil=>intro l _ e l' h;rw[bn]at h;cases h
      |cons t r zH =>
       intro l hs e l' h;rw[bn]at h;split at h
       ·rename_i c l1 hc;cases h;exact (ih env t l (hs t (List.mem_cons_self ..)) he).2 _ _ hc
       ·split at h
        ·rename_i c l2 hc;cases h;exact zH _ (fun x hx=>hs x (List.mem_cons_of_mem _ hx)) _ _ hc
        ·cases h
     split
     ·rename_i c l' hc;exact⟨fun x l' h=>(by cases h),fun e l' h'=>by cases h';exact hA _ _ h _ _ hc⟩
     ·rename_i vs l' hc;obtain⟨v1,v2⟩:=uf _ _ _ _ (fun t ht l x l' hh=>(ih env t l (h t ht) he).1 x l' hh) hc;split
      ·rename_i i k hp;refine⟨fun x l2 h=>?_,fun e l2 h=>?_⟩
       ·simp only[Prod.mk.injEq]at h;exact a7m h.1
       ·simp only[Prod.mk.injEq]at h;unfold kR at h;split at h
        ·cases h.1
        ·have:=h.1;cases this;decide
      ·split
       ·rename_i fn hf;exact ih _ fn.body l' (GG (List.mem_of_find?_eq_some hf)).1 (Ba _ _ v2)
       ·exact⟨fun x l' h=>(by cases h),fun e l' h=>by cases h;decide⟩
theorem nP(r:Except Int Tr):∃(o:Ob) (e:Int),uO r=.l7 [l9 o,j3 e]:=by
 cases r with
 |ok x=>exact⟨x.ob,0,rfl⟩
 |error e=>exact⟨zO,e,rfl⟩
abbrev gQ(vs:List Tr):bv:=vs.map fun t=>y8 t.ob
theorem Mw(vs:List Tr)(x:Tr):gQ vs++[y8 x.ob]=gQ (vs++[x]):=by unfold gQ;rw[List.map_append];rfl
theorem Nt(vs:List Tr):(gQ vs).length=vs.length:=by unfold gQ;rw[List.length_map]
def WL(f:Nat)(env:D6)(t:Te):Prop:=∀l:Nat,l≤f→l≤99999→C8 bu [.ptr 0 0,o7 t,F7 env] (P8 Q3 l) (uO (ev H8 f env t l).1) (P8 Q3 (ev H8 f env t l).2)
theorem a5f{f:Nat}{env:D6}{t:Te}{fc:List AV}{p:Bool}(hR:DU fc)(hl:t.args.length≤8)(hw:∀x∈t.args,Wd x)(he:fU env)(ih:∀x∈t.args,WL f env x):∀(s:List Te) (i:Nat) (out:List Tr) (l:Nat),t.args.drop i=s→i≤t.args.length→out.length=i→l≤f→l≤99999 →
  (∀xs l',bn (ev H8 f env) s l=(.ok xs,l')→J7 (J5 1) iw (bX Q3 t env fc p l (gQ out) i) (.out 1) (bX Q3 t env fc p l' (gQ (out++xs)) t.args.length))∧(∀e l',bn (ev H8 f env) s l=(.error e,l')→J7 (J5 1) iw (bX Q3 t env fc p l (gQ out) i) .ret (vo Q3 t e l')):=by
 intro s
 induction s with
 |nil =>
  intro i out l hd hi ho hf _;have e1:=congrArg List.length hd;rw[List.length_drop,List.length_nil]at e1;obtain rfl:i=t.args.length:=J;refine⟨fun xs l' h=>?_,fun e l' h=>by rw[bn]at h;cases h⟩;rw[bn]at h;cases h;rw[List.append_nil];exact .stop (hR.2 _ _ _ _ _ _ _ rfl) (fun h=>by cases h)
 |cons x s zH =>
  intro i out l hd hi ho hf hf2;have hx:t.args[i]?=some x:=by rw[←List.head?_drop,hd];rfl
  have hlt:=(List.getElem?_eq_some_iff.1 hx).1;have hxm:=List.mem_of_getElem? hx;have hs:=ih x hxm l hf hf2;have hle:=nX H8 f env x l;rw[bn];cases hv:ev H8 f env x l with
  |mk r l1 =>
   rw[hv]at hs hle;have hle:l1≤l:=hle;cases r with
   |error c =>
    have hc:=(kD f env x l (hw x hxm) he).2 c l1 hv;exact⟨fun xs l' h=>(by cases h),fun e l' h=>by cases h;exact .stop (b1R hx hc hs) (fun h=>by cases h)⟩
   |ok y =>
    have hst:=hR.1 _ (gQ out) _ _ _ p _ _ _ _ hx J (by rw[Nt];omega) hs;rw[Mw]at hst;obtain⟨k1,k2⟩:=zH (i+1) (out++[y]) l1 (by rw[←List.drop_drop,hd];rfl) hlt (by simp[ho]) J J;refine⟨fun xs l' h=>?_,fun e l' h=>?_⟩
    ·dsimp only at h;split at h
     ·cases h
     ·rename_i ys l2 hh;cases h;have:=k1 ys l' hh;rw[List.append_assoc]at this;exact .more hst this
    ·dsimp only at h;split at h
     ·rename_i c l2 hh;cases h;exact .more hst (k2 _ _ hh)
     ·cases h
theorem EZ:(H8.map F3++[aM lL]).length≤1000:=by rw[List.length_append,List.length_map,su];decide
theorem OV(i:Nat)(vs:List Tr):N7 (Tr.kept' (Tr.zF i vs))=uO (kR i vs):=by
 unfold kR;cases Tr.kept' (Tr.zF i vs) <;> rfl
theorem a9u:∀(f:Nat) (env:D6) (t:Te),Wd t→fU env→env.length≤1000→WL f env t:=by
 intro f
 induction f with
 |zero =>
  intro env t ht he hle l hl hl2;cases ht with
  |var p n =>
   rw[xe];obtain⟨k1,k2⟩:=Sj (e:=env) (a:=p) (b:=n) hle;cases hv:dw env p n with
   |none=>exact TU (t:=⟨1,p,n,U0,[]⟩) rfl (k1 hv)
   |some x=>exact TT (t:=⟨1,p,n,U0,[]⟩) rfl (k2 x hv)
  |V8 t h=>rw[xg];exact TV (t:=Te.V8 t.ob) rfl
  |ap n a ha hn h =>
   obtain rfl:l=0:=J;rw[xh];exact TW (t:=Te.ap n a) rfl O
 |succ f ih =>
  intro env t ht he hle l hl hl2;cases ht with
  |var p n =>
   rw[xe];obtain⟨k1,k2⟩:=Sj (e:=env) (a:=p) (b:=n) hle;cases hv:dw env p n with
   |none=>exact TU (t:=⟨1,p,n,U0,[]⟩) rfl (k1 hv)
   |some x=>exact TT (t:=⟨1,p,n,U0,[]⟩) rfl (k2 x hv)
  |V8 t h=>rw[xg];exact TV (t:=Te.V8 t.ob) rfl
  |ap n a ha hn h =>
   cases l with
   |zero=>rw[xh];exact TW (t:=Te.ap n a) rfl O
   |succ l =>
    rw[IW];have e1:((l+1:Nat):Int) - 1=(l:Int):=J;have har:j5 94 [.dt (.row Q3),o9 o6 n] (.l7 [j3 (a.length:Int),j6 true]):=Hz (ws:=H8) (r:=[aM lL]) EZ ha;have his:=a7S (Te.ap n a) x8 3;have hloop:=fun (fc:List AV) (p:Bool) (hR:DU fc)=>a5f (f:=f) (env:=env) (t:=Te.ap n a) (fc:=fc) (p:=p) hR hn h he (fun x hx=>ih env x (h x hx) he hle) a 0 [] l rfl (Nat.zero_le _) rfl J J
    rcases Mv ha with⟨i,hi,hp,hno⟩ | ⟨fn,hm,hf,hps,hp,hne⟩
    ·have hpr:j5 95 [o9 o6 n] (.l7 [j3 (a.length:Int),j6 true]):=Rw hi;have hfn:=a2w hno;unfold mX;by_cases hif:is (Te.ap n a) x8 3
     ·rw[if_pos hif];rw[decide_eq_true hif]at his;have pre:qJ Q3 (Te.ap n a) ((l+1:Nat):Int) true:=⟨rfl,J,J,har,hpr,hfn,his⟩;have w0:=h _ (List.mem_of_getElem? (Z8 hif (show 0 < 3 by omega)));have w1:=h _ (List.mem_of_getElem? (Z8 hif (show 1 < 3 by omega)));have w2:=h _ (List.mem_of_getElem? (Z8 hif (show 2 < 3 by omega)));have h0:=ih env _ w0 he hle l J J;have hle0:=nX H8 f env ((Te.ap n a).arg 0) l;have hok0:=kD f env ((Te.ap n a).arg 0) l w0 he;cases hv:ev H8 f env ((Te.ap n a).arg 0) l with
      |mk r l1 =>
       rw[hv]at h0 hle0;have hle0:l1≤l:=hle0;cases r with
       |error c=>exact a9i pre (Z8 hif (show 0 < 3 by omega)) (hok0.2 c l1 hv) (by rw[e1];exact h0)
       |ok x =>
        have hn:=a5e x;dsimp only;by_cases hx:x=l6
        ·rw[if_pos hx];rw[decide_eq_true hx]at hn;have h2:=ih env _ w2 he hle l1 J J;obtain⟨o,e,hr⟩:=nP (ev H8 f env ((Te.ap n a).arg 2) l1).1;rw[hr]at h2 ⊢
         exact a9j pre (Z8 hif (show 0 < 3 by omega)) (Z8 hif (show 2 < 3 by omega)) (by rw[e1];exact h0) hn h2
        ·rw[if_neg hx];rw[decide_eq_false hx]at hn;have h2:=ih env _ w1 he hle l1 J J;obtain⟨o,e,hr⟩:=nP (ev H8 f env ((Te.ap n a).arg 1) l1).1;rw[hr]at h2 ⊢
         exact a9k pre (Z8 hif (show 0 < 3 by omega)) (Z8 hif (show 1 < 3 by omega)) (by rw[e1];exact h0) hn h2
     ·rw[if_neg hif];rw[decide_eq_false hif]at his;have pre:qJ Q3 (Te.ap n a) ((l+1:Nat):Int) false:=⟨rfl,J,J,har,hpr,hfn,his⟩;obtain⟨k1,k2⟩:=hloop jM true a9p;rw[show (Te.ap n a).args=a from rfl]
      cases hv:bn (ev H8 f env) a l with
      |mk r l1 =>
       cases r with
       |error c=>exact a7s pre (by rw[e1];exact y7.Z4 18 48 7 (by show 18 < 176;omega) rfl (k2 c l1 hv).K3)
       |ok vs =>
        obtain⟨v1,v2⟩:=uf _ _ _ _ (fun t ht l x l' hh=>(kD f env t l (h t ht) he).1 x l' hh) hv;dsimp only;rw[show (Te.ap n a).nn=n from rfl,hp]
        dsimp only;have hap:j5 99 [o9 o6 n,J2 vs] (uO (kR i vs)):=by rw[←OV];exact a9d hi v2 v1
        obtain⟨o,e,hr⟩:=nP (kR i vs);rw[hr]at hap ⊢
        exact a9r pre (by rw[e1];exact y7.Z4 18 48 7 (by show 18 < 176;omega) rfl (k1 vs l1 hv).K3) hap
    ·have hpr:j5 95 [o9 o6 n] (.l7 [j3 0,j6 false]):=Ry hne;have hfn:j5 96 [.dt (.row Q3),o9 o6 n] (.l7 [.agg ((F6 fn).map .dt),j6 true]):=Rz (ws:=H8) (r:=[aM lL]) EZ hf;have hif:¬is (Te.ap n a) x8 3:=fun e=>by
      have e2:n=x8:=e.2.2.1;exact hne (x8,3) O e2
     rw[decide_eq_false hif]at his;have pre:IV Q3 (Te.ap n a) ((l+1:Nat):Int) fn:=⟨rfl,J,J,har,hpr,hfn,his⟩;unfold mX;rw[if_neg hif];obtain⟨k1,k2⟩:=hloop ((F6 fn).map .dt) false (a9q fn);rw[show (Te.ap n a).args=a from rfl]
     cases hv:bn (ev H8 f env) a l with
     |mk r l1 =>
      have hle1:=BB (g:=ev H8 f env) (fun t l=>nX H8 f env t l) a l;rw[hv]at hle1;have hle1:l1≤l:=hle1;cases r with
      |error c=>exact a7t pre (by rw[e1];exact y7.Z4 18 48 7 (by show 18 < 176;omega) rfl (k2 c l1 hv).K3)
      |ok vs =>
       obtain⟨v1,v2⟩:=uf _ _ _ _ (fun t ht l x l' hh=>(kD f env t l (h t ht) he).1 x l' hh) hv;dsimp only;rw[show (Te.ap n a).nn=n from rfl,hp]
       dsimp only;rw[hf];dsimp only;obtain⟨hwd,hpl⟩:=GG hm;have hbl:(dm fn.ps vs).length≤1000:=by
        have key:∀(p:List (bi)) (v:List Tr),(dm p v).length≤p.length:=by
         intro p
         induction p with
         |nil=>intro v;cases v <;> exact Nat.zero_le _
         |cons n p ihp=>intro v;cases v with
          |nil=>exact Nat.zero_le _
          |cons x v=>exact Nat.succ_le_succ (ihp v)
        have:=key fn.ps vs;omega
       have hb:=ih (dm fn.ps vs) fn.body hwd (Ba _ _ v2) hbl l1 J J;obtain⟨o,e,hr⟩:=nP (ev H8 f (dm fn.ps vs) fn.body l1).1;rw[hr]at hb ⊢
       exact a9s pre (by rw[e1];exact y7.Z4 18 48 7 (by show 18 < 176;omega) rfl (k1 vs l1 hv).K3) (a5d J J) hb
end Go.Proofs.YtdkehabacmlegaaGreatDoor
namespace Go.Proofs.YtdkehabacmlegaaGreatDoor
open Go.Proofs.Tryz
open Go.RowKit
abbrev dH(n:bi):Value:=.agg #[str o6,str n]
theorem LH(e:Bool)(p s:bi)(w:World):(Instr.checkKey e 10000 45 (.agg #[str p,str s])).run prog w=.ok () w:=by
 have h1:=fun (v:ByteArray)=>MapKept.run_checkKey (P:=prog) (w:=w) (k:=.string v) Tryz.underlying9 trivial e 9998
 unfold Instr.checkKey;simp only[Sem.run_bind,run_underlying Kz,Result.andThen_ok];simp[Uy,part,h1,Result.andThen]
def kS(n:bi):List (bi)→Option Nat
 |[]=>none
 |m::r=>if n=m then some 0 else (kS n r).map (·+1)
theorem Mx(n:bi)(w:World):∀(ks:List (bi)) (es:List MapEntry) (i:Nat),es.map (·.key)=ks.map dH→(Instr.findAsking 45 (dH n) es i).run prog w=.ok ((kS n ks).bind fun j=>(es[j]?).map fun e=>(i+j,e.val)) w
 |[],[],i,_=>rfl
 |[],_::_,_,h=>by cases h
 |_::_,[],_,h=>by cases h
 |m::ks,e::es,i,h=>by
  rw[List.map_cons,List.map_cons,List.cons.injEq]at h;obtain⟨h1,h2⟩:=h;have he:(Op.equal 45 (dH n) e.key).run prog w=.ok (decide (n=m)) w:=by
   rw[h1];have:=FD (p:=o6) (s:=n) (p':=o6) (s':=m) w;rw[decide_eq_true (rfl:o6=o6),Bool.true_and]at this;exact this
  unfold Instr.findAsking;simp only[Sem.run_bind,he,Result.andThen_ok];rw[kS];by_cases hn:n=m
  ·rw[if_pos hn,decide_eq_true hn];rfl
  ·rw[if_neg hn,decide_eq_false hn];have:=Mx n w ks es (i+1) h2;simp only[Bool.false_eq_true,if_false];rw[this];cases kS n ks with
   |none=>rfl
   |some j =>
    show Result.ok ((es[j]?).map fun e=>(i+1+j,e.val)) w=Result.ok ((es[j]?).map fun e=>(i+(j+1),e.val)) w;rw[show i+1+j=i+(j+1) by omega]
theorem MB(n:bi)(w:World)(ks:List (bi))(es:List MapEntry)(h:es.map (·.key)=ks.map dH):(Instr.findKey 45 (dH n) es).run prog w=.ok ((kS n ks).bind fun j=>(es[j]?).map fun e=>(j,e.val)) w:=by
 have ha:=Mx n w ks es 0 h;simp only[Nat.zero_add]at ha;unfold Instr.findKey;simp only[Sem.run_bind,run_underlying Kz,Result.andThen_ok];cases es with
 |nil =>
  cases ks with
  |nil=>rfl
  |cons m ks=>cases h
 |cons e es =>
  have hk:Instr.findNow (.struct (prog.fieldsOf 45)) (dH n) (e::es) 0=none:=by
   unfold Instr.findNow Instr.sameNow;rfl
  rw[hk];exact ha
theorem a2x(n:bi)(ks:List (bi)):ku prog 45 (dH n) (ks.map dH) (kS n ks):=fun es w h=>by
 simp only[Sem.run_bind,LH es.isEmpty o6 n w,Result.andThen_ok];exact MB n w ks es h
theorem a5g{n:bi}{ks:List (bi)}(hn:kS n ks=none):xW prog 45 (dH n) (ks.map dH):=fun es w h=>by
 simp only[Sem.run_bind,LH false o6 n w,Result.andThen_ok];have:=MB n w ks es h;rw[hn]at this;exact this
theorem OW{n:bi}:∀{ks:List (bi)} {i:Nat},kS n ks=some i→ks[i]?=some n
 |[],i,h=>by cases h
 |m::ks,i,h=>by
  rw[kS]at h;split at h
  ·rename_i e;cases h;rw[e];rfl
  ·rw[Option.map_eq_some_iff]at h;obtain⟨j,hj,rfl⟩:=h;rw[List.getElem?_cons_succ];exact OW hj
end Go.Proofs.YtdkehabacmlegaaGreatDoor
namespace Go.Proofs.YtdkehabacmlegaaGreatDoor
open Go.Proofs.Tryz
open Go.RowKit
open Te
abbrev dM(fs:List o8.E8):List (Value×List Dt):=fs.map fun f=>(dH f.nm,F6 f)
abbrev K6(ws:bv)(s u:Int)(x9:List (Value×List Dt)):List (Option Bx):=[some (.cells [.dt (.row ws),.O5 1,j3 s,j3 u]),some (.T9 x9)]
abbrev zI:FuncId:=151
theorem a9v{ws:bv}{s u:Int}{x9:List (Value×List Dt)}{n:bi}{i:Nat}{f:o8.E8}(h:ku EX.P 45 (dH n) (x9.map (·.1)) (some i))(hg:(x9.map (·.2))[i]?=some (F6 f)):C8 zI [.ptr 0 0,o9 o6 n] (K6 ws s u x9) (.l7 [.agg ((F6 f).map .dt),j6 true]) (K6 ws s u x9) :=
 sW 2 [0,1] [.av (.l7 [j3 i,.agg ((F6 f).map .dt)])] [] [_,_] func151 ⟨h,hg,Z⟩
theorem a9w{ws:bv}{s u:Int}{x9:List (Value×List Dt)}{n:bi}{f:o8.E8}(h:ku EX.P 45 (dH n) (x9.map (·.1)) none)(hf:j5 190 [.dt (.row ws),o9 o6 n] (.l7 [.agg ((F6 f).map .dt),j6 true]))(hn:xW EX.P 45 (dH n) (x9.map (·.1))):C8 zI [.ptr 0 0,o9 o6 n] (K6 ws s u x9) (.l7 [.agg ((F6 f).map .dt),j6 true]) (K6 ws s u (x9++[(dH n,F6 f)])) :=
 sW 2 [0,1] [.no,.av (.l7 [.agg ((F6 f).map .dt),j6 true])] [] [_,_,_] func151 ⟨h,hf,hn,Z⟩
abbrev dN:FuncId:=81
abbrev ni:FuncId:=119
theorem a9x{ws:bv}{s u:Int}{x9:List (Value×List Dt)}{t:Te}{env:D6}(h:t.kind=2):C8 dN [.ptr 0 0,o7 t,F7 env] (K6 ws s u x9) (.l7 [l9 t.val,j3 0]) (K6 ws s u x9) :=
 sW 2 [0,1] [yT] [] [Bk .eql 3 11 2 t.kind bT] func81 ⟨A9 (U4 h),Z⟩
theorem lS{ws:bv}{s u u' e:Int}{x9 U5:List (Value×List Dt)}{t:Te}{env:D6}{o:Ob}(h:t.kind=3)(hc:C8 ni [.ptr 0 0,o7 t,F7 env] (K6 ws s u x9) (.l7 [l9 o,j3 e]) (K6 ws s u' U5)):C8 dN [.ptr 0 0,o7 t,F7 env] (K6 ws s u x9) (.l7 [l9 o,j3 e]) (K6 ws s u' U5) :=
 sW 2 [0,1] [yF,yT] [.J6 5 3 [0,1] (.l7 [l9 o,j3 e]) [some (.cells [.dt (.row ws),.O5 1,j3 s,j3 u']),some (.T9 U5)]] [Bk .eql 3 11 2 t.kind bF,Bk .eql 3 11 3 t.kind bT,_] func81 ⟨A9 (by simp[h]),A9 (U4 h),hc,Z⟩
abbrev WM(ws:bv)(s u:Int)(x9:List (Value×List Dt))(t:Te)(z:Option Bx):List (Option Bx):=[some (.cells [.dt (.row ws),.O5 1,j3 s,j3 u]),some (.T9 x9),some (.cells ((p9 t).map .dt)),z]
abbrev jc(ws:bv)(s u:Int)(x9:List (Value×List Dt))(t:Te)(e:D6)(i:Int):AS:=⟨stt 39 [(4,.ptr 2 0),(6,.ptr 3 0),(7,j3 0),(24,F7 e),(25,j3 e.length),(26,j3 i)],WM ws s u x9 t rC⟩
abbrev DV(ws:bv)(s u:Int)(x9:List (Value×List Dt))(t:Te)(x:Tr):AS:=⟨stt 39 [(6,.ptr 3 0),(7,j3 0)],WM ws s u x9 t (some (.cells ((y8 x.ob).map .dt)))⟩
noncomputable abbrev rH:Code:=M9 (P6 f81) [1,1,0,1,0,0]
theorem UW{ws:bv}{s u:Int}{x9:List (Value×List Dt)}{t:Te}{e:D6}{x:(bi×bi)×Tr}{i:Nat}(hx:e[i]?=some x)(hl:e.length≤1000)(h:¬(x.1.1=t.np∧x.1.2=t.nn)):y7 (J5 2) rH (jc ws s u x9 t e i) .F4 (jc ws s u x9 t e ((i+1:Nat):Int)) :=
 have hi:=(List.getElem?_eq_some_iff.1 hx).1
 tW [yT,.av (.pin ((fH x).map .dt)),yF,.av (j3 ((i+1:Nat):Int))] [] [4,6,7,24,25,26] 4 [Bt .lss 3 26 25 ↑i (↑(List.length e)) bT,z8 (U1 e) ↑i 9 ([(.val (str x.fst.fst)),(.val (str x.fst.snd)),(.val (vi x.snd.ob.kind)),(.val (str x.snd.ob.num)),(.val (str x.snd.ob.den)),(.val (str x.snd.ob.sp)),(.val (str x.snd.ob.sn)),(.val (str x.snd.ob.text)),(.row (List.map Ob.enc x.snd.ob.pair))]),Bn .eql 45 (.tmp 31) (.tmp 33) (Value.agg #[str x.fst.fst,str x.fst.snd]) (Value.agg #[str t.np,str t.nn]) bF,Bk .add 3 26 1 ↑i (vi (↑(i+1)))] ⟨C9 (decide_eq_true J),xE hx,ah (TQ h),I4 J J J,Z⟩
theorem b1S{ws:bv}{s u:Int}{x9:List (Value×List Dt)}{t:Te}{e:D6}{x:(bi×bi)×Tr}{i:Nat}(hx:e[i]?=some x)(h:x.1.1=t.np∧x.1.2=t.nn):y7 (J5 2) rH (jc ws s u x9 t e i) .ret (DV ws s u x9 t x.2) :=
 have hi:=(List.getElem?_eq_some_iff.1 hx).1
 tW [yT,.av (.pin ((fH x).map .dt)),yT] [] [6,7] 4 [Bt .lss 3 26 25 ↑i (↑(List.length e)) bT,z8 (U1 e) ↑i 9 ([(.val (str x.fst.fst)),(.val (str x.fst.snd)),(.val (vi x.snd.ob.kind)),(.val (str x.snd.ob.num)),(.val (str x.snd.ob.den)),(.val (str x.snd.ob.sp)),(.val (str x.snd.ob.sn)),(.val (str x.snd.ob.text)),(.row (List.map Ob.enc x.snd.ob.pair))]),Bn .eql 45 (.tmp 31) (.tmp 33) (Value.agg #[str x.fst.fst,str x.fst.snd]) (Value.agg #[str t.np,str t.nn]) bT] ⟨C9 (decide_eq_true J),xE hx,ah (Si h),Z⟩
theorem b1T{ws:bv}{s u:Int}{x9:List (Value×List Dt)}{t:Te}{e:D6}{i:Nat}(hi:i=e.length):y7 (J5 2) rH (jc ws s u x9 t e i) (.out 1) (jc ws s u x9 t e i) :=
 tW [yF] [] [4,6,7,24,25,26] 4 [Bt .lss 3 26 25 ↑i (↑(List.length e)) bF] ⟨C9 (decide_eq_false J),Z⟩
theorem a9y{ws:bv}{s u:Int}{x9:List (Value×List Dt)}{t:Te}{e:D6}{x:Tr}(h:t.kind=1)(ht:y7 (J5 2) (.loop rH) (jc ws s u x9 t e 0) .ret (DV ws s u x9 t x)):C8 dN [.ptr 0 0,o7 t,F7 e] (K6 ws s u x9) (.l7 [l5 x,j3 0]) (K6 ws s u x9) :=
 sW 2 [0,1] [yF,yF,.av (j3 e.length)] [.inv [4,6,7,24,25,26] 4 (.ret) (DV ws s u x9 t x)] [Bk .eql 3 11 2 t.kind bF,Bk .eql 3 11 3 t.kind bF,(vi (↑(List.length e)))=(vi (↑(U1 e).length)),_] func81 ⟨A9 (by simp[h]),A9 (by simp[h]),xG _,ht,Z⟩
theorem a9z{ws:bv}{s u k:Int}{x9:List (Value×List Dt)}{t:Te}{e:D6}(h:t.kind=1)(ht:y7 (J5 2) (.loop rH) (jc ws s u x9 t e 0) (.out 1) (jc ws s u x9 t e k)):C8 dN [.ptr 0 0,o7 t,F7 e] (K6 ws s u x9) (.l7 [l9 zO,j3 6]) (K6 ws s u x9) :=
 .rv (sW 2 [0,1] [yF,yF,.av (j3 e.length)] [.inv [4,6,7,24,25,26] 4 (.out 1) (jc ws s u x9 t e k)] [Bk .eql 3 11 2 t.kind bF,Bk .eql 3 11 3 t.kind bF,(vi (↑(List.length e)))=(vi (↑(U1 e).length)),_] func81 ⟨A9 (by simp[h]),A9 (by simp[h]),xG _,ht,Z⟩) fun _ _ _ h=>lM h
theorem a5h{ws:bv}{s u:Int}{x9:List (Value×List Dt)}{t:Te}{L:D6}(hl:L.length≤1000):∀(q:D6) (i:Nat),L.drop i=q→i≤L.length →
  (dw q t.np t.nn=none→J7 (J5 2) rH (jc ws s u x9 t L i) (.out 1) (jc ws s u x9 t L L.length))∧(∀x,dw q t.np t.nn=some x→J7 (J5 2) rH (jc ws s u x9 t L i) .ret (DV ws s u x9 t x)):=by
 intro q
 induction q with
 |nil =>
  intro i hd hi;have e1:=congrArg List.length hd;rw[List.length_drop,List.length_nil]at e1;obtain rfl:i=L.length:=J;exact⟨fun _=>.stop (b1T rfl) (fun h=>by cases h),fun t h=>by cases h⟩
 |cons x q ih =>
  intro i hd hi;have hx:L[i]?=some x:=by rw[←List.head?_drop,hd];rfl
  have hlt:=(List.getElem?_eq_some_iff.1 hx).1;obtain⟨h1,h2⟩:=ih (i+1) (by rw[←List.drop_drop,hd];rfl) hlt;rw[dw];by_cases hc:x.1.1=t.np∧x.1.2=t.nn
  ·rw[if_pos hc];exact⟨fun h=>(by cases h),fun y h=>by cases h;exact .stop (b1S hx hc) (fun h=>by cases h)⟩
  ·rw[if_neg hc];exact⟨fun h=>.more (UW hx hl hc) (h1 h),fun y h=>.more (UW hx hl hc) (h2 y h)⟩
end Go.Proofs.YtdkehabacmlegaaGreatDoor
