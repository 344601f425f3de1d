/- ClauseSound. -/
import Derived.Test.YtbpmpdadppamgaaGreatDoorGY
import Derived.Test.YtbpmpdadppamgaaGreatDoorGHk
namespace Go.Proofs.YtbpmpdadppamgaaGreatDoor
open Go.Proofs.Tryz
open Go.RowKit
open Te
theorem a7b(l m s:List Raw)(hl:l.length≤9223372036854775807)(hm:m.length≤9223372036854775807)(hs:s.length≤9223372036854775807):j5 7 [.dt (.row [[.row (l.map Raw.enc)],[.row (m.map Raw.enc)],[.row (s.map Raw.enc)]])] (l5 (eQ l && (eQ m && eQ s))):=by
 have f1:=vE l 10;have f2:=vE m 10;have f3:=vE s 10;unfold eQ;cases b1:decide (l.length≤6) with
 |false =>
  have e0:=ZaF b1;exact pW [.no,.no,.no,.av (j4 l.length),yT] [.run 1] [(vi ↑l.length)=(vi (↑(List.map Raw.enc l).length)),Bk .gtr 3 14 6 ↑l.length bT] func7 ⟨O1 _,K4 (Pi J),Z⟩
 |true =>
  have e0:=bv b1;cases b2:lQ l 10 with
  |false =>
   rw[b2]at f1;exact pW [.no,.no,.no,.av (j4 l.length),yF,.no,yF] [.run 1] [(vi ↑l.length)=(vi (↑(List.map Raw.enc l).length)),Bk .gtr 3 14 6 ↑l.length bF,_] func7 ⟨O1 _,K4 (WF J),f1,Z⟩
  |true =>
   rw[b2]at f1;cases b3:decide (m.length≤6) with
   |false =>
    have e1:=ZaF b3;exact pW ([.no,.no,.no,.av (j4 l.length),yF,.no,yT]++nK 4 [.av (j4 m.length),yT]) [.run 2] [(vi ↑l.length)=(vi (↑(List.map Raw.enc l).length)),Bk .gtr 3 14 6 ↑l.length bF,_,(vi ↑m.length)=(vi (↑(List.map Raw.enc m).length)),Bk .gtr 3 14 6 ↑m.length bT] func7 ⟨O1 _,K4 (WF J),f1,O1 _,K4 (Pi J),Z⟩
   |true =>
    have e1:=bv b3;cases b4:lQ m 10 with
    |false =>
     rw[b4]at f2;exact pW ([.no,.no,.no,.av (j4 l.length),yF,.no,yT]++nK 4 [.av (j4 m.length),yF,.no,yF]) [.run 2] [(vi ↑l.length)=(vi (↑(List.map Raw.enc l).length)),Bk .gtr 3 14 6 ↑l.length bF,_,(vi ↑m.length)=(vi (↑(List.map Raw.enc m).length)),Bk .gtr 3 14 6 ↑m.length bF,_] func7 ⟨O1 _,K4 (WF J),f1,O1 _,K4 (WF J),f2,Z⟩
    |true =>
     rw[b4]at f2;cases b5:decide (s.length≤6) with
     |false =>
      have e2:=ZaF b5;exact pW ([.no,.no,.no,.av (j4 l.length),yF,.no,yT]++nK 4 [.av (j4 m.length),yF,.no,yT]++nK 4 [.av (j4 s.length),yT]) [.run 3] [(vi ↑l.length)=(vi (↑(List.map Raw.enc l).length)),Bk .gtr 3 14 6 ↑l.length bF,_,(vi ↑m.length)=(vi (↑(List.map Raw.enc m).length)),Bk .gtr 3 14 6 ↑m.length bF,_,(vi ↑s.length)=(vi (↑(List.map Raw.enc s).length)),Bk .gtr 3 14 6 ↑s.length bT] func7 ⟨O1 _,K4 (WF J),f1,O1 _,K4 (WF J),f2,O1 _,K4 (Pi J),Z⟩
     |true =>
      have e2:=bv b5;cases b6:lQ s 10 with
      |false =>
       rw[b6]at f3;exact pW ([.no,.no,.no,.av (j4 l.length),yF,.no,yT]++nK 4 [.av (j4 m.length),yF,.no,yT]++nK 4 [.av (j4 s.length),yF,.no,yF]) [.run 3] [(vi ↑l.length)=(vi (↑(List.map Raw.enc l).length)),Bk .gtr 3 14 6 ↑l.length bF,_,(vi ↑m.length)=(vi (↑(List.map Raw.enc m).length)),Bk .gtr 3 14 6 ↑m.length bF,_,(vi ↑s.length)=(vi (↑(List.map Raw.enc s).length)),Bk .gtr 3 14 6 ↑s.length bF,_] func7 ⟨O1 _,K4 (WF J),f1,O1 _,K4 (WF J),f2,O1 _,K4 (WF J),f3,Z⟩
      |true =>
       rw[b6]at f3;exact pW ([.no,.no,.no,.av (j4 l.length),yF,.no,yT]++nK 4 [.av (j4 m.length),yF,.no,yT]++nK 4 [.av (j4 s.length),yF,.no,yT,.no,.no,.no]) [.run 4] [(vi ↑l.length)=(vi (↑(List.map Raw.enc l).length)),Bk .gtr 3 14 6 ↑l.length bF,_,(vi ↑m.length)=(vi (↑(List.map Raw.enc m).length)),Bk .gtr 3 14 6 ↑m.length bF,_,(vi ↑s.length)=(vi (↑(List.map Raw.enc s).length)),Bk .gtr 3 14 6 ↑s.length bF,_] func7 ⟨O1 _,K4 (WF J),f1,O1 _,K4 (WF J),f2,O1 _,K4 (WF J),f3,Z⟩
theorem CR:∀(l out:List Te) (x:Te),x∈out∨x∈l→x∈addN out l
 |[],out,x,h=>by
  rw[addN];rcases h with h | h
  ·exact h
  ·cases h
 |y::l,out,x,h=>by
  rw[addN];refine CR l _ x ?_;rcases h with h | h
  ·refine .inl ?_;split
   ·exact h
   ·exact Zan _ h
  ·rcases Za3.1 h with rfl | h
   ·refine .inl ?_;split
    ·assumption
    ·exact ZaE _ (Cf.2 rfl)
   ·exact .inr h
theorem RA{env:D7}{s:Nat}:∀{c:List Te},V5 env s c=(true,0)→∃t∈c,∃y,bP env t s=.ok y∧y≠l6
 |[],h=>by rw[V5]at h;cases h
 |t::r,h=>by
  rw[V5]at h;cases hv:bP env t s with
  |error e=>rw[hv]at h;simp only[Zaz]at h;exact absurd h.1 O
  |ok y =>
   rw[hv]at h;dsimp only at h;by_cases hy:y=l6
   ·rw[Ch hy]at h;obtain⟨u,h1,h2⟩:=RA h;exact⟨u,Cg _ h1,h2⟩
   ·exact⟨t,NE ..,y,hv,hy⟩
theorem TI{env:D7}{s:Nat}{t:Te}{y:Tr}(ht:bP env t s=.ok y)(hy:y≠l6):∀{c:List Te} {v:Bool},(∀x∈c,Wd x)→dE env→t∈c→V5 env s c=(v,0)→v=true
 |[],_,_,_,h,_=>by cases h
 |x::r,v,hw,he,h,hc=>by
  rw[V5]at hc;cases hv:bP env x s with
  |error e =>
   rw[hv]at hc;simp only[Zaz]at hc;exact absurd hc.2 (Du (hw x (NE ..)) he hv)
  |ok z =>
   rw[hv]at hc;dsimp only at hc;by_cases hz:z=l6
   ·rw[Ch hz]at hc;rcases Za3.1 h with e | h
    ·rw[←e,ht]at hv;cases hv;exact absurd hz hy
    ·exact TI ht hy (fun z hz=>hw z (Cg _ hz)) he h hc
   ·rw[EQ hz]at hc;cases hc;rfl
structure Bj (l s env:List Raw) (ws:aa0) (a d m b:List Te) (σ:As) (e:D7):Prop where
 ln:l.length≤3
 few:j5 7 [.dt (.row [[.row (l.map Raw.enc)],[.row (s.map Raw.enc)],[.row (env.map Raw.enc)]])] (l5 true)
 w:j5 8 [] (.dt (.row ws))
 m1:j5 9 [V4 l] (C8 a)
 sb:j5 11 [.dt (.row ws),V4 s] (.dt (.row (N9 σ)))
 is:j5 10 [C8 a,.dt (.row (N9 σ))] (C8 d)
 m2:j5 9 [V4 env] (C8 m)
 ad:j5 12 [C8 m,C8 d] (C8 b)
 en:j5 13 [dX env] (E8 e)
 su:j5 14 [C8 a,C8 b] (l5 true)
theorem b2p{l s env:List Raw}{ws:aa0}{a d m b:List Te}{σ:As}{e:D7}{v:Bool}{r:Int}(hp:Bj l s env ws a d m b σ e)(hv:j5 15 [.dt (.row ws),C8 d,E8 e,j4 500] (.l7 [l5 v,j4 r]))(hr:r≠0):j5 3 [V4 l,V4 s,V4 env] (l5 true) :=
 have hl:=hp.ln
 pV [yT,.av (j4 l.length),yF,yT,.av (.dt (.row ws)),.av (C8 a),.av (.dt (.row (N9 σ))),.av (C8 d),.av (C8 m),.av (C8 b),.av (E8 e),yT,.av (.l7 [l5 v,j4 r]),yT] [_,(vi ↑l.length)=(vi (↑(List.map Raw.enc l).length)),Bk .gtr 3 17 3 ↑l.length bF,_,_,_,_,_,_,_,_,_,_,Bk .neq 37 52 0 r bT] func3 ⟨fu,O1 _,K4 (WF J),hp.few,hp.w,hp.m1,hp.sb,hp.is,hp.m2,hp.ad,hp.en,hp.su,hv,E5 (by simp[hr]),Z⟩
theorem b2q{l s env:List Raw}{ws:aa0}{a d m b:List Te}{σ:As}{e:D7}(hp:Bj l s env ws a d m b σ e)(hv:j5 15 [.dt (.row ws),C8 d,E8 e,j4 500] (.l7 [l5 false,j4 0])):j5 3 [V4 l,V4 s,V4 env] (l5 true) :=
 have hl:=hp.ln
 pV [yT,.av (j4 l.length),yF,yT,.av (.dt (.row ws)),.av (C8 a),.av (.dt (.row (N9 σ))),.av (C8 d),.av (C8 m),.av (C8 b),.av (E8 e),yT,.av (.l7 [l5 false,j4 0]),yF] [_,(vi ↑l.length)=(vi (↑(List.map Raw.enc l).length)),Bk .gtr 3 17 3 ↑l.length bF,_,_,_,_,_,_,_,_,_,_,Bk .neq 37 52 0 0 bF] func3 ⟨fu,O1 _,K4 (WF J),hp.few,hp.w,hp.m1,hp.sb,hp.is,hp.m2,hp.ad,hp.en,hp.su,hv,E5 I,Z⟩
theorem b2r{l s env:List Raw}{ws:aa0}{a d m b:List Te}{σ:As}{e:D7}{v:Bool}{r:Int}(hp:Bj l s env ws a d m b σ e)(hv:j5 15 [.dt (.row ws),C8 d,E8 e,j4 500] (.l7 [l5 true,j4 0]))(h2:j5 16 [.dt (.row ws),C8 b,E8 e,j4 500] (.l7 [l5 v,j4 r]))(hr:r≠0):j5 3 [V4 l,V4 s,V4 env] (l5 true) :=
 have hl:=hp.ln
 pV [yT,.av (j4 l.length),yF,yT,.av (.dt (.row ws)),.av (C8 a),.av (.dt (.row (N9 σ))),.av (C8 d),.av (C8 m),.av (C8 b),.av (E8 e),yT,.av (.l7 [l5 true,j4 0]),yF,.av (.l7 [l5 v,j4 r]),yT] [_,(vi ↑l.length)=(vi (↑(List.map Raw.enc l).length)),Bk .gtr 3 17 3 ↑l.length bF,_,_,_,_,_,_,_,_,_,_,Bk .neq 37 52 0 0 bF,_,Bk .neq 37 65 0 r bT] func3 ⟨fu,O1 _,K4 (WF J),hp.few,hp.w,hp.m1,hp.sb,hp.is,hp.m2,hp.ad,hp.en,hp.su,hv,E5 I,h2,E5 (by simp[hr]),Z⟩
theorem b2s{l s env:List Raw}{ws:aa0}{a d m b:List Te}{σ:As}{e:D7}(hp:Bj l s env ws a d m b σ e)(hv:j5 15 [.dt (.row ws),C8 d,E8 e,j4 500] (.l7 [l5 true,j4 0]))(h2:j5 16 [.dt (.row ws),C8 b,E8 e,j4 500] (.l7 [l5 true,j4 0])):j5 3 [V4 l,V4 s,V4 env] (l5 true) :=
 have hl:=hp.ln
 pV [yT,.av (j4 l.length),yF,yT,.av (.dt (.row ws)),.av (C8 a),.av (.dt (.row (N9 σ))),.av (C8 d),.av (C8 m),.av (C8 b),.av (E8 e),yT,.av (.l7 [l5 true,j4 0]),yF,.av (.l7 [l5 true,j4 0]),yF] [_,(vi ↑l.length)=(vi (↑(List.map Raw.enc l).length)),Bk .gtr 3 17 3 ↑l.length bF,_,_,_,_,_,_,_,_,_,_,Bk .neq 37 52 0 0 bF,_,Bk .neq 37 65 0 0 bF] func3 ⟨fu,O1 _,K4 (WF J),hp.few,hp.w,hp.m1,hp.sb,hp.is,hp.m2,hp.ad,hp.en,hp.su,hv,E5 I,h2,E5 I,Z⟩
theorem a7c{l s env:List Raw}(hl:l.length≤9223372036854775807)(hs:s.length≤9223372036854775807)(hle:env.length≤9223372036854775807):j5 3 [V4 l,V4 s,V4 env] (l5 true):=by
 by_cases h3:l.length≤3
 ·have hf:=a7b l s env hl hs hle;cases b1:eQ l && (eQ s && eQ env) with
  |false =>
   rw[b1]at hf;exact pV [yT,.av (j4 l.length),yF,yF] [_,(vi ↑l.length)=(vi (↑(List.map Raw.enc l).length)),Bk .gtr 3 17 3 ↑l.length bF,_] func3 ⟨fu,O1 _,K4 (WF J),hf,Z⟩
  |true =>
   rw[b1]at hf;have b1:=Bool.and_eq_true_iff.1 b1;have b2:=Bool.and_eq_true_iff.1 b1.2;obtain⟨g1,g2⟩:=vD b1.1;obtain⟨_,g4⟩:=vD b2.1;obtain⟨g5,g6⟩:=vD b2.2;obtain⟨a,a1,a2,a3⟩:=Kz J g2;obtain⟨σ,s1,s2⟩:=a4t g4;have i2:=a6U s1 J a1;obtain⟨m,m1,m2,m3⟩:=Kz J g6;obtain⟨e,e1,e2,e3⟩:=LQ J g6;have Oh:∀y∈addN [] (a.map (sub σ)),y.L9:=yC _ _ (fun x hx=>by cases hx) fun y hy=>by
    obtain⟨x,hx,rfl⟩:=Zaw.1 hy;exact TC s1 (a1 x hx)
   have hdl:=Jh (a.map (sub σ)) [];rw[Cc,List.length_nil]at hdl;have hel:=Jh (addN [] (a.map (sub σ))) m;have hem:=yC (addN [] (a.map (sub σ))) m m1 Oh;have ha:=Ky (c:=m) (l:=addN [] (a.map (sub σ))) J J (fun y hy=>(m1 y hy).wf) (fun y hy=>(Oh y hy).wf);have k3:=a9N (show ¬8 < a.length by omega) (TA hem J a [] J a1 aX.nil);have ht:tq a (addN m (addN [] (a.map (sub σ)))) []=true:=by
    exact QH a [] a1 (fun x hx=>CR _ _ _ (.inr (CR _ _ _ (.inr (Zaw.2 ⟨x,hx,rfl⟩))))) (fun x hx=>by cases hx)
   rw[ht]at k3;have hp:Bj l s env P6 a (addN [] (a.map (sub σ))) m (addN m (addN [] (a.map (sub σ)))) σ e:=⟨h3,hf,Dr,a3,s2,i2,m3,ha,e3,k3⟩;have wd1:∀t∈addN [] (a.map (sub σ)),Wd t:=fun x hx=>(Oh x hx).wd
   have wd2:∀t∈addN m (addN [] (a.map (sub σ))),Wd t:=fun x hx=>(hem x hx).wd
   obtain⟨_,v1⟩:=Dq (c:=addN [] (a.map (sub σ))) (env:=e) (s:=500) e2 J J J wd1;obtain⟨v2,_⟩:=Dq (c:=addN m (addN [] (a.map (sub σ)))) (env:=e) (s:=500) e2 J J J wd2;by_cases hr:(V5 e 500 (addN [] (a.map (sub σ)))).2=0
   ·cases hb:(V5 e 500 (addN [] (a.map (sub σ)))).1 with
    |false=>rw[hr,hb]at v1;exact b2q hp v1
    |true =>
     obtain⟨t,t1,y,t2,t3⟩:=RA (show V5 e 500 (addN [] (a.map (sub σ)))=(true,0) by rw[←hr,←hb]);rw[hr,hb]at v1;by_cases hr2:(V5 e 500 (addN m (addN [] (a.map (sub σ))))).2=0
     ·have hm:=TI t2 t3 wd2 e2 (CR _ _ _ (.inr t1)) (show V5 e 500 (addN m (addN [] (a.map (sub σ))))=(_,0) by rw[←hr2]);rw[hr2,hm]at v2;exact b2s hp v1 v2
     ·exact b2r hp v1 v2 hr2
   ·exact b2p hp v1 hr
 ·exact pV [yT,.av (j4 l.length),yT] [_,(vi ↑l.length)=(vi (↑(List.map Raw.enc l).length)),Bk .gtr 3 17 3 ↑l.length bT] func3 ⟨fu,O1 _,K4 (Pi J),Z⟩
end Go.Proofs.YtbpmpdadppamgaaGreatDoor
