/- ClauseEquivalent. -/
import Derived.Test.YtbpmpdadppamgaaGreatDoorGY
import Derived.Test.YtbpmpdadppamgaaGreatDoorGIs
import Derived.Test.YtbpmpdadppamgaaGreatDoorGO
namespace Go.Proofs.YtbpmpdadppamgaaGreatDoor
open Go.Proofs.Tryz
open Go.RowKit
open Te
theorem a3i:cB.valid=true:=by decide +kernel
theorem a9S(k:Int):M4 (H9 (c3 k)):=by
 unfold c3;split
 ·exact .H9 l6 Iw
 split
 ·exact .H9 cB a3i
 ·exact .H9 (Tr.num 0) (by decide +kernel)
theorem LX{a:Te}(h:M4 a):∀x∈[a],M4 x:=fun x hx=>by rw[Cf]at hx;rw[hx];exact h
theorem LY{a b:Te}(h:M4 a)(k:M4 b):∀x∈[a,b],M4 x:=fun x hx=>by
 simp only[Za3,Zat,Zb4]at hx;rcases hx with rfl | rfl
 ·exact h
 ·exact k
theorem a7g:∀(N:Nat) (r:Raw),r.size≤N→M4 (Y8 r):=by
 intro N
 induction N with
 |zero=>intro r h;have:=r.size_pos;omega
 |succ N ih =>
  intro r hN;have hk:∀i,M4 (fk r.n (r.l.map Y8) i):=fun i=>by
   unfold fk;rw[bi];cases hx:r.l[i]? with
   |some x=>exact ih x (by have:=Raw.nE (q8 hx);omega)
   |none=>exact .var _ _
  rw[KD];unfold Bo;split
  ·exact .var _ _
  split
  ·exact a9S _
  split
  ·exact .ap _ _ (by show (lX,1)∈_;decide) (LX (hk 0))
  split
  ·exact .ap _ _ (by show (D9,1)∈_;decide) (LX (hk 0))
  split
  ·exact .ap _ _ (by show (dN,2)∈_;decide) (LY (hk 0) (hk 1))
  split
  ·exact .ap _ _ (by show (fH,2)∈_;decide) (LY (hk 0) (hk 1))
  split
  ·exact .ap _ _ (by show (iV,2)∈_;decide) (LY (hk 0) (hk 1))
  ·exact bU (hk 0) (hk 1) (hk 2)
theorem TM{a:Te}(h:M4 a):M4 (ap D9 [a]):=.ap _ _ (by show (D9,1)∈_;decide) (LX h)
theorem a7h{t:Te}(h:M4 t):M4 (neg t):=by
 unfold neg;split
 ·rename_i hi;exact h.arg hi J
 ·exact TM h
theorem Ji{s:NS}(h:∀c∈s.out,∀x∈c,M4 x){c:List Te}(hc:∀x∈c,M4 x):∀d∈(s.fail id c).out,∀x∈d,M4 x:=by
 unfold NS.fail;split
 ·exact h
 ·intro d hd;rcases ZaA.1 hd with hd | hd
  ·exact h d hd
  ·rw[Cf]at hd;rw[hd];exact hc
theorem Jj{qs:List Te}(h:∀q∈qs,M4 q):∀x∈qs.map neg,M4 x:=fun x hx=>by
 obtain⟨q,hq,rfl⟩:=Zaw.1 hx;exact a7h (h q hq)
theorem Jk{qs:List Te}{t:Te}(h:∀q∈qs,M4 q)(ht:M4 t):∀x∈qs++[t],M4 x:=fun x hx=>by
 rcases ZaA.1 hx with hx | hx
 ·exact h x hx
 ·rw[Cf]at hx;rw[hx];exact ht
theorem kD:∀(f:Nat) (t:Te) (qs:List Te) (s:NS),M4 t→(∀q∈qs,M4 q)→(∀c∈s.out,∀x∈c,M4 x)→∀c∈(O0 id f t qs s).out,∀x∈c,M4 x
 |0,_,_,s,_,_,h=>by rw[O0];exact h
 |f+1,t,qs,s,ht,hq,h=>by
  rw[O0];split
  ·exact h
  have hto:∀c∈s.tick.out,∀x∈c,M4 x:=h;split
  ·split
   ·exact Ji hto (Jj hq)
   ·exact hto
  split
  ·rename_i t' ho;exact kD f t' qs _ (CG ht ho) hq hto
  split
  ·rename_i hi;have h0:M4 (t.arg 0):=ht.arg hi J;have h1:M4 (t.arg 1):=ht.arg hi J;have h2:M4 (t.arg 2):=ht.arg hi J;split
   ·exact kD f _ qs _ h2 hq hto
   split
   ·exact kD f _ qs _ h1 hq hto
   split
   ·rename_i hn;exact kD f _ qs _ (bU (h0.arg hn J) h2 h1) hq hto
   split
   ·rename_i hn;exact kD f _ qs _ (bU (h0.arg hn (show 0 < 3 by omega)) (bU (h0.arg hn (show 1 < 3 by omega)) h1 h2) (bU (h0.arg hn (show 2 < 3 by omega)) h1 h2)) hq hto
   split
   ·rename_i a' ho;exact kD f _ qs _ (bU (CG h0 ho) h1 h2) hq hto
   split
   ·exact kD f _ qs _ h1 hq hto
   split
   ·exact kD f _ qs _ h2 hq hto
   ·exact kD f _ _ _ h2 (Jk hq (TM h0)) (kD f _ _ _ h1 (Jk hq h0) hto)
  ·split
   ·exact hto
   split
   ·exact Ji hto (Jj hq)
   ·exact Ji hto (Jk (Jj hq) ht)
theorem TN{env:D7}{t:Te}{s:Nat}{y:Tr}(ht:M4 t)(h:bP env t s=.ok y):y=den env t:=by
 unfold bP at h;cases hv:ev G5 s env t s with
 |mk r l =>
  rw[hv]at h;dsimp only at h;subst h;exact a9R s env t s y l ht hv
theorem TP{env:D7}{s:Nat}(he:dE env):∀{c:List Te} {v:Bool},(∀x∈c,M4 x)→V5 env s c=(v,0)→(v=true↔CT env c)
 |[],v,_,h=>by
  rw[V5]at h;cases h;exact⟨fun h=>(by cases h),fun⟨x,hx,_⟩=>(by cases hx)⟩
 |t::r,v,hf,h=>by
  rw[V5]at h;have ht:=hf t (NE ..);cases hv:bP env t s with
  |error e =>
   rw[hv]at h;simp only[Zaz]at h;exact absurd h.2 (Du ht.wd he hv)
  |ok y =>
   rw[hv]at h;dsimp only at h;have hd:y=den env t:=TN ht hv;by_cases hy:y=l6
   ·rw[Ch hy]at h;rw[TP he (fun x hx=>hf x (Cg _ hx)) h];constructor
    ·rintro⟨x,hx,k⟩;exact⟨x,Cg _ hx,k⟩
    ·rintro⟨x,hx,k⟩;rcases Za3.1 hx with rfl | hx
     ·exact absurd (hd.symm.trans hy) k
     ·exact⟨x,hx,k⟩
   ·rw[EQ hy]at h;cases h;exact⟨fun _=>⟨t,NE ..,fun k=>hy (hd.trans k)⟩,fun _=>rfl⟩
noncomputable def uw(env:D7)(a:Bool):List (List Te)→Option Bool
 |[]=>some a
 |c::r=>if (V5 env 500 c).2=0 then uw env (a && (V5 env 500 c).1) r else none
theorem TQ{env:D7}(he:dE env):∀{l:List (List Te)} {a b:Bool},(∀c∈l,∀x∈c,M4 x)→uw env a l=some b→(b=true↔a=true∧∀c∈l,CT env c)
 |[],a,b,_,h=>by
  rw[uw]at h;cases h;exact⟨fun h=>⟨h,fun c hc=>by cases hc⟩,fun h=>h.1⟩
 |c::r,a,b,hf,h=>by
  rw[uw]at h;by_cases h0:(V5 env 500 c).2=0
  ·rw[Ch h0]at h;rw[TQ he (fun d hd=>hf d (Cg _ hd)) h,Ce,TP he (hf c (NE ..)) (show V5 env 500 c=((V5 env 500 c).1,0) by rw[←h0])]
   constructor
   ·rintro⟨⟨h1,h2⟩,h3⟩;refine⟨h1,fun d hd=>?_⟩;rcases Za3.1 hd with rfl | hd
    ·exact h2
    ·exact h3 d hd
   ·rintro⟨h1,h2⟩;exact⟨⟨h1,h2 c (NE ..)⟩,fun d hd=>h2 d (Cg _ hd)⟩
  ·rw[EQ h0]at h;cases h
abbrev rwQ(r:Raw):List AV:=[j4 r.kind,j4 r.n,stA r.s,.dt (.row (r.l.map Raw.enc))]
abbrev dR(r:Raw)(env:List Raw)(t:Te)(ws:aa0)(l:List (List Te))(a:Bool)(i:Int):AS:=⟨stt 78 [(1,V4 env),(5,.ptr 1 0),(6,wY l),(8,.dt (.row ws)),(9,l5 a),(10,j4 i)],[some (.cells (rwQ r)),some (.cells ((o8 t).map .dt))]⟩
abbrev Gb:AS:=⟨stt 78 [(4,l5 true)],[]⟩
noncomputable abbrev mJ:Code:=M6 (O4 f5) [1,1,1,1,1,1,1,1,0,1,0,0]
theorem b5a{r:Raw}{env:List Raw}{t:Te}{ws:aa0}{l:List (List Te)}{c:List Te}{e:D7}{b:Bool}{i:Nat}(hx:l[i]?=some c)(hl:l.length≤1000)(he:j5 13 [V4 env] (E8 e))(h:j5 15 [.dt (.row ws),C8 c,E8 e,j4 500] (.l7 [l5 b,j4 0])):y7 EX mJ (dR r env t ws l true i) .F6 (dR r env t ws l b ((i+1:Nat):Int)) :=
 have hi:=(UV.1 hx).1
 tW [.av (j4 l.length),yT,.av (.pin [C8 c]),.av (E8 e),.av (.l7 [l5 b,j4 0]),yF,.av (j4 ((i+1:Nat):Int))] [] [1,5,6,8,9,10] 2 [(vi ↑l.length)=(vi (↑(List.map dF l).length)),Bt .lss 3 37 39 ↑i ↑l.length bT,z8 (List.map dF l) ↑i 1 ([(.row (List.map Te.enc c))]),_,_,Bk .neq 37 54 0 0 bF,Bk .add 3 41 1 ↑i (vi (↑(i+1)))] ⟨EY _,D8 (Pi J),MN hx,he,h,E5 I,H6 J J J,Z⟩
theorem b5b{r:Raw}{env:List Raw}{t:Te}{ws:aa0}{l:List (List Te)}{c:List Te}{e:D7}{b:Bool}{i:Nat}(hx:l[i]?=some c)(hl:l.length≤1000)(he:j5 13 [V4 env] (E8 e))(h:j5 15 [.dt (.row ws),C8 c,E8 e,j4 500] (.l7 [l5 b,j4 0])):y7 EX mJ (dR r env t ws l false i) .F6 (dR r env t ws l false ((i+1:Nat):Int)) :=
 have hi:=(UV.1 hx).1
 tW [.av (j4 l.length),yT,.av (.pin [C8 c]),.av (E8 e),.av (.l7 [l5 b,j4 0]),yF,.av (j4 ((i+1:Nat):Int))] [] [1,5,6,8,9,10] 2 [(vi ↑l.length)=(vi (↑(List.map dF l).length)),Bt .lss 3 37 39 ↑i ↑l.length bT,z8 (List.map dF l) ↑i 1 ([(.row (List.map Te.enc c))]),_,_,Bk .neq 37 54 0 0 bF,Bk .add 3 41 1 ↑i (vi (↑(i+1)))] ⟨EY _,D8 (Pi J),MN hx,he,h,E5 I,H6 J J J,Z⟩
theorem b5c{r:Raw}{env:List Raw}{t:Te}{ws:aa0}{l:List (List Te)}{c:List Te}{e:D7}{a b:Bool}{i:Nat}{m:Int}(hx:l[i]?=some c)(hm:m≠0)(he:j5 13 [V4 env] (E8 e))(h:j5 15 [.dt (.row ws),C8 c,E8 e,j4 500] (.l7 [l5 b,j4 m])):y7 EX mJ (dR r env t ws l a i) .ret Gb :=
 have hi:=(UV.1 hx).1
 tW [.av (j4 l.length),yT,.av (.pin [C8 c]),.av (E8 e),.av (.l7 [l5 b,j4 m]),yT] [] [4] 0 [(vi ↑l.length)=(vi (↑(List.map dF l).length)),Bt .lss 3 37 39 ↑i ↑l.length bT,z8 (List.map dF l) ↑i 1 ([(.row (List.map Te.enc c))]),_,_,Bk .neq 37 54 0 m bT] ⟨EY _,D8 (Pi J),MN hx,he,h,E5 (by simp[hm]),Z⟩
theorem b5d{r:Raw}{env:List Raw}{t:Te}{ws:aa0}{l:List (List Te)}{a:Bool}{i:Nat}(hi:i=l.length):y7 EX mJ (dR r env t ws l a i) (.out 0) (dR r env t ws l a i) :=
 tW [.av (j4 l.length),yF] [] [1,5,6,8,9,10] 2 [(vi ↑l.length)=(vi (↑(List.map dF l).length)),Bt .lss 3 37 39 ↑i ↑l.length bF] ⟨EY _,D8 (WF J),Z⟩
theorem a7i{r:Raw}{env:List Raw}{t:Te}{L:List (List Te)}{e:D7}(he:dE e)(hle:e.length≤1000)(hl:L.length≤1000)(hc:∀c∈L,c.length≤1000)(hf:∀c∈L,∀x∈c,Wd x)(hE:j5 13 [V4 env] (E8 e)):∀(q:List (List Te)) (a:Bool) (i:Nat),L.drop i=q→i≤L.length →
  (uw e a q=none∧I7 EX mJ (dR r env t P6 L a i) .ret Gb)∨(∃b,uw e a q=some b∧I7 EX mJ (dR r env t P6 L a i) (.out 0) (dR r env t P6 L b L.length)):=by
 intro q
 induction q with
 |nil =>
  intro a i hd hi;have e1:=congrArg List.length hd;rw[ut,List.length_nil]at e1;obtain rfl:i=L.length:=J;exact .inr ⟨a,rfl,.stop (b5d rfl) (fun h=>by cases h)⟩
 |cons c q ih =>
  intro a i hd hi;have hx:L[i]?=some c:=by rw[←Za1,hd];rfl
  have hlt:=(UV.1 hx).1;have hm:=q8 hx;obtain⟨_,v1⟩:=Dq (c:=c) (env:=e) (s:=500) he hle J (hc c hm) (hf c hm);rw[uw];by_cases h0:(V5 e 500 c).2=0
  ·rw[Ch h0];rw[h0]at v1;have ih:=ih (a && (V5 e 500 c).1) (i+1) (by rw[←Za0,hd];rfl) hlt;have st:y7 EX mJ (dR r env t P6 L a i) .F6 (dR r env t P6 L (a && (V5 e 500 c).1) ((i+1:Nat):Int)):=by
    cases a with
    |true=>exact b5a hx hl hE v1
    |false=>exact b5b hx hl hE v1
   rcases ih with⟨j0,j1⟩ | ⟨b,j0,j1⟩
   ·exact .inl ⟨j0,.more st j1⟩
   ·exact .inr ⟨b,j0,.more st j1⟩
  ·rw[EQ h0];exact .inl ⟨rfl,.stop (b5c hx h0 hE v1) (fun h=>by cases h)⟩
structure Gc (r:Raw) (env:List Raw) (t:Te) (ws:aa0) (l:List (List Te)) (e:D7):Prop where
 few:j5 22 [F5 r,j4 12] (l5 true)
 MO:j5 7 [.dt (.row [[.row (env.map Raw.enc)]])] (l5 true)
 fm:j5 23 [F5 r] (o6 t)
 nm:j5 24 [o6 t] (.l7 [wY l,j4 0])
 w:j5 8 [] (.dt (.row ws))
 env:j5 13 [V4 env] (E8 e)
theorem b2w{r:Raw}{env:List Raw}{t:Te}{ws:aa0}{l:List (List Te)}{e:D7}(hp:Gc r env t ws l e)(h:y7 EX (.loop mJ) (dR r env t ws l true 0) .ret Gb):j5 5 [F5 r,V4 env] (l5 true) :=
 pW [yT,yT,yT,.av (o6 t),.av (.l7 [wY l,j4 0]),yF,.av (.dt (.row ws))] [.inv [1,5,6,8,9,10] 2 (.ret) (Gb)] [_,_,_,_,_,Bk .neq 37 34 0 0 bF,_,_] func5 ⟨fu,hp.few,hp.MO,hp.fm,hp.nm,E5 I,hp.w,h,Z⟩
theorem b2x{r:Raw}{env:List Raw}{t:Te}{ws:aa0}{l:List (List Te)}{e:D7}{a:Bool}{k n b:Int}{o:Ob}(hp:Gc r env t ws l e)(h:y7 EX (.loop mJ) (dR r env t ws l true 0) (.out 0) (dR r env t ws l a k))(ht:j5 18 [.dt (.row ws),o6 t,E8 e,j4 4000] (.l7 [o7 o,j4 n,j4 b]))(hb:b≠0):j5 5 [F5 r,V4 env] (l5 true) :=
 pW [yT,yT,yT,.av (o6 t),.av (.l7 [wY l,j4 0]),yF,.av (.dt (.row ws)),.av (E8 e),.av (.l7 [o7 o,j4 n,j4 b]),yT] [.inv [1,5,6,8,9,10] 2 (.out 0) (dR r env t ws l a k)] [_,_,_,_,_,Bk .neq 37 34 0 0 bF,_,_,_,_,Bk .neq 37 69 0 b bT] func5 ⟨fu,hp.few,hp.MO,hp.fm,hp.nm,E5 I,hp.w,h,hp.env,ht,E5 (by simp[hb]),Z⟩
theorem b2y{r:Raw}{env:List Raw}{t:Te}{ws:aa0}{l:List (List Te)}{e:D7}{a q:Bool}{k n:Int}{x:Tr}(hp:Gc r env t ws l e)(h:y7 EX (.loop mJ) (dR r env t ws l true 0) (.out 0) (dR r env t ws l a k))(ht:j5 18 [.dt (.row ws),o6 t,E8 e,j4 4000] (.l7 [l9 x,j4 n,j4 0]))(hn:j5 21 [l9 x] (l5 q))(ha:a=!q):j5 5 [F5 r,V4 env] (l5 true) :=
 pW [yT,yT,yT,.av (o6 t),.av (.l7 [wY l,j4 0]),yF,.av (.dt (.row ws)),.av (E8 e),.av (.l7 [l9 x,j4 n,j4 0]),yF,.av (l5 q),yT] [.inv [1,5,6,8,9,10] 2 (.out 0) (dR r env t ws l a k)] [_,_,_,_,_,Bk .neq 37 34 0 0 bF,_,_,_,_,Bk .neq 37 69 0 0 bF,_,Bn .eql 4 (.tmp 72) (.tmp 75) (Value.bool a) (Value.bool !q) bT] func5 ⟨fu,hp.few,hp.MO,hp.fm,hp.nm,E5 I,hp.w,h,hp.env,ht,E5 I,hn,TG (by kernel_rfl) (by rw[ha];simp),Z⟩
theorem b2z{r:Raw}{env:List Raw}{t:Te}{m:Int}(hf:j5 22 [F5 r,j4 12] (l5 true))(hf2:j5 7 [.dt (.row [[.row (env.map Raw.enc)]])] (l5 true))(h1:j5 23 [F5 r] (o6 t))(h2:j5 24 [o6 t] (.l7 [.dt (.row []),j4 m]))(hm:m≠0):j5 5 [F5 r,V4 env] (l5 true) :=
 pV [yT,yT,yT,.av (o6 t),.av (.l7 [.dt (.row []),j4 m]),yT] [_,_,_,_,_,Bk .neq 37 34 0 m bT] func5 ⟨fu,hf,hf2,h1,h2,E5 (by simp[hm]),Z⟩
theorem a7j(r:Raw){env:List Raw}(hle:env.length≤9223372036854775807):j5 5 [F5 r,V4 env] (l5 true):=by
 have hf:=LZ r 12;have hf2:=a9T env hle;cases b1:iy r 12 with
 |false =>
  rw[b1]at hf;exact pV [yT,yF] [_,_] func5 ⟨fu,hf,Z⟩
 |true =>
  rw[b1]at hf;cases b2:eQ env with
  |false =>
   rw[b2]at hf2;exact pV [yT,yT,yF] [_,_,_] func5 ⟨fu,hf,hf2,Z⟩
  |true =>
   rw[b2]at hf2;obtain⟨g3,g4⟩:=vD b2;obtain⟨e,e1,e2,e3⟩:=LQ J g4;have hg:=a9U _ r (PP _);have hF:=a7g _ r (PP _);have h2:=PE hg;have hc:=kE 20002 (Y8 r) [] ⟨[],0,0⟩ hg (fun q hq=>by cases hq) (fun c hc=>by cases hc);have hd:=kD 20002 (Y8 r) [] ⟨[],0,0⟩ hF (fun q hq=>by cases hq) (fun c hc=>by cases hc);have hl:=(yQ id 20002 (Y8 r) [] ⟨[],0,0⟩ O).2.2;have hs:=fun k=>JB e 20002 (Y8 r) [] ⟨[],0,0⟩ hF O O k
   generalize O0 id 20002 (Y8 r) [] ⟨[],0,0⟩=s at *;unfold MP at h2;by_cases he:s.er=0
   ·rw[Ch he]at h2;have hp:Gc r env (Y8 r) P6 s.out e:=⟨hf,hf2,QI r,h2,Dr,e3⟩;have hs:=(hs he).2.2;obtain⟨k1,k2⟩:=LU hF.wd e2 J (s:=4000) J;rcases a7i (r:=r) (t:=Y8 r) e2 J J (fun c h=>by have:=(hc c h).1;omega) (fun c h x hx=>(hd c h x hx).wd) e3 s.out true 0 rfl (Ci _) with⟨_,j⟩ | ⟨b,j0,j⟩
    ·exact b2w hp j.I8
    ·have hb:=TQ e2 hd j0;cases hv:bP e (Y8 r) 4000 with
     |error m =>
      obtain⟨h0,h1,_⟩:=k2 m hv;exact b2x hp j.I8 h1 h0
     |ok x =>
      obtain⟨n,m,h1,_⟩:=k1 x hv;refine b2y hp j.I8 h1 (rR (Tr.J8 (KA hF.wd e2 hv)).ok O) ?_;have hx:x=den e (Y8 r):=TN hF hv;have key:b=true↔x≠l6:=by
       rw[hb,hx];constructor
       ·intro h;exact (hs.1 h.2).2 fun q hq=>by cases hq
       ·intro h;exact⟨rfl,hs.2 ⟨fun c hc=>(by cases hc),fun _=>h⟩⟩
      cases b with
      |true=>rw[WF (key.1 rfl)];rfl
      |false=>rw[Pi (Classical.byContradiction fun h=>by cases key.2 h)];rfl
   ·rw[EQ he]at h2;exact b2z hf hf2 (QI r) h2 he
end Go.Proofs.YtbpmpdadppamgaaGreatDoor
