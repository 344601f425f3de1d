/- ClauseFormula. -/
import Derived.Test.YtbpmpdadppamgaaGreatDoorGY
namespace Go.Proofs.YtbpmpdadppamgaaGreatDoor
open Go.Proofs.Tryz
open Go.RowKit
open Te
structure FZ (l env:List Raw) (c:List Te) (t:Te) (ws:aa0) (e:D7) (a:Bool) (r:Int):Prop where
 few:j5 7 [.dt (.row [[.row (l.map Raw.enc)],[.row (env.map Raw.enc)]])] (l5 true)
 made:j5 9 [V4 l] (C8 c)
 fm:j5 17 [C8 c] (o6 t)
 w:j5 8 [] (.dt (.row ws))
 env:j5 13 [dX env] (E8 e)
 val:j5 16 [.dt (.row ws),C8 c,E8 e,j4 300] (.l7 [l5 a,j4 r])
 rf:j5 20 [C8 c] (o6 t)
 eq:j5 19 [o6 t,o6 t] (l5 true)
theorem Xo{l env:List Raw}{c:List Te}{t:Te}{ws:aa0}{e:D7}{a:Bool}{r n b:Int}{o:Ob}(hp:FZ l env c t ws e a r)(ht:j5 18 [.dt (.row ws),o6 t,E8 e,j4 4000] (.l7 [o7 o,j4 n,j4 b]))(hr:r≠0):j5 4 [V4 l,V4 env] (l5 true) :=
 pV [yT,yT,.av (C8 c),.av (o6 t),.av (.dt (.row ws)),.av (E8 e),.av (.l7 [l5 a,j4 r]),.av (E8 e),.av (.l7 [o7 o,j4 n,j4 b]),.av (o6 t),yT,yT] [_,_,_,_,_,_,_,_,_,_,_,Bk .neq 37 47 0 r bT] func4 ⟨fu,hp.few,hp.made,hp.fm,hp.w,hp.env,hp.val,hp.env,ht,hp.rf,hp.eq,E5 (by simp[hr]),Z⟩
theorem b2n{l env:List Raw}{c:List Te}{t:Te}{ws:aa0}{e:D7}{a:Bool}{n b:Int}{o:Ob}(hp:FZ l env c t ws e a 0)(ht:j5 18 [.dt (.row ws),o6 t,E8 e,j4 4000] (.l7 [o7 o,j4 n,j4 b]))(hb:b≠0):j5 4 [V4 l,V4 env] (l5 true) :=
 pV [yT,yT,.av (C8 c),.av (o6 t),.av (.dt (.row ws)),.av (E8 e),.av (.l7 [l5 a,j4 0]),.av (E8 e),.av (.l7 [o7 o,j4 n,j4 b]),.av (o6 t),yT,yF,yT] [_,_,_,_,_,_,_,_,_,_,_,Bk .neq 37 47 0 0 bF,Bk .neq 37 50 0 b bT] func4 ⟨fu,hp.few,hp.made,hp.fm,hp.w,hp.env,hp.val,hp.env,ht,hp.rf,hp.eq,E5 I,E5 (by simp[hb]),Z⟩
theorem b2o{l env:List Raw}{c:List Te}{t:Te}{ws:aa0}{e:D7}{a:Bool}{n:Int}{x:Tr}{q:Bool}(hp:FZ l env c t ws e a 0)(ht:j5 18 [.dt (.row ws),o6 t,E8 e,j4 4000] (.l7 [l9 x,j4 n,j4 0]))(hn:j5 21 [l9 x] (l5 q))(ha:a=!q):j5 4 [V4 l,V4 env] (l5 true) :=
 pV [yT,yT,.av (C8 c),.av (o6 t),.av (.dt (.row ws)),.av (E8 e),.av (.l7 [l5 a,j4 0]),.av (E8 e),.av (.l7 [l9 x,j4 n,j4 0]),.av (o6 t),yT,yF,yF,.av (l5 q),yT] [_,_,_,_,_,_,_,_,_,_,_,Bk .neq 37 47 0 0 bF,Bk .neq 37 50 0 0 bF,_,Bn .eql 4 (.tmp 54) (.tmp 57) (Value.bool a) (Value.bool !q) bT] func4 ⟨fu,hp.few,hp.made,hp.fm,hp.w,hp.env,hp.val,hp.env,ht,hp.rf,hp.eq,E5 I,E5 I,hn,TG (by kernel_rfl) (by rw[ha];simp),Z⟩
theorem Ry:Ga.valid=true:=by decide +kernel
theorem Vr:∀c:List Te,(∀t∈c,Wd t)→Wd (bB c)
 |[],_=>.H9 l6 Iw
 |[t],h=>h t (NE ..)
 |t::u::r,h=>.ap x8 _ Vs (by show 3≤8;omega) fun x hx=>by
  have ih:=Vr (u::r) fun z hz=>h z (Cg _ hz)
  simp only[Za3,Zat,Zb4]at hx;rcases hx with rfl | rfl | rfl
  ·exact h _ (NE ..)
  ·exact .H9 Ga Ry
  ·exact ih
theorem a9Q{l env:List Raw}(hl:l.length≤9223372036854775807)(hle:env.length≤9223372036854775807):j5 4 [V4 l,V4 env] (l5 true):=by
 have hf:=a6Z l env hl hle;cases b1:eQ l && eQ env with
 |false =>
  rw[b1]at hf;exact pV [yT,yF] [_,_] func4 ⟨fu,hf,Z⟩
 |true =>
  rw[b1]at hf;have b1:=Bool.and_eq_true_iff.1 b1;obtain⟨g1,g2⟩:=vD b1.1;obtain⟨g3,g4⟩:=vD b1.2;obtain⟨c,c1,c2,c3⟩:=Kz J g2;obtain⟨e,e1,e2,e3⟩:=LQ J g4;have hw:∀t∈c,Wd t:=fun x hx=>(c1 x hx).wd
  have hfw:=Vr c hw;obtain⟨v1,_⟩:=Dq (c:=c) (env:=e) (s:=300) e2 J J J hw;obtain⟨k1,k2⟩:=LU hfw e2 J (s:=4000) J;have hwf:(bB c).Wf:=by
   have key:∀d:List Te,(∀x∈d,x.L9)→(bB d).Wf:=by
    intro d
    induction d with
    |nil=>intro _;exact L9.no.wf
    |cons x d ih =>
     intro hd;cases d with
     |nil=>exact (hd x (NE ..)).wf
     |cons y r =>
      have h1:=(hd x (NE ..)).wf;have h2:=ih fun z hz=>hd z (Cg _ hz)
      refine .mk _ ze (by show 3≤_;omega) fun z hz=>?_
      have hz:z∈[x,r9,bB (y::r)]:=hz;simp only[Za3,Zat,Zb4]at hz;rcases hz with rfl | rfl | rfl
      ·exact h1
      ·exact (Te.L9.H9 Ga ⟨O,O⟩ Ry).wf
      ·exact h2
   exact key c c1
  have hp:FZ l env c (bB c) P6 e (V5 e 300 c).1 (V5 e 300 c).2:=⟨hf,c3,a7a J,Dr,e3,v1,TH c J,(Xp hwf (bB c)).b (U5 rfl)⟩;by_cases hr:(V5 e 300 c).2=0
  ·rw[hr]at hp;cases hv:bP e (bB c) 4000 with
   |error b =>
    obtain⟨h0,h1,_⟩:=k2 b hv;exact b2n hp h1 h0
   |ok x =>
    obtain⟨n,m,h1,_⟩:=k1 x hv;refine b2o hp h1 (rR (Tr.J8 (KA hfw e2 hv)).ok O) ?_;unfold bP at hv;cases hw2:ev G5 4000 e (bB c) 4000 with
    |mk r l' =>
     rw[hw2]at hv;dsimp only at hv;subst hv;exact Rz e2 c 4000 4000 _ x l' hw (PP _) J (by rw[←hr]) hw2
  ·cases hv:bP e (bB c) 4000 with
   |error b=>exact Xo hp (k2 b hv).2.1 hr
   |ok x=>obtain⟨n,m,h1,_⟩:=k1 x hv;exact Xo hp h1 hr
end Go.Proofs.YtbpmpdadppamgaaGreatDoor
