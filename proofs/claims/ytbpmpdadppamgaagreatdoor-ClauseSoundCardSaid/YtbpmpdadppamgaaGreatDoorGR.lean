/- Read of the reference, and the definitions of the built-in world. -/
import Derived.Test.YtbpmpdadppamgaaGreatDoorGQ
namespace Go.Proofs.YtbpmpdadppamgaaGreatDoor
open Go.Proofs.Tryz
open Go.RowKit
namespace p9
theorem b3t(f:Nat)(t:Tok)(r:List Tok):jk (f+1) (t::r)=(if t.kind=0 then some []
   else match jT f 0 (t::r) with
    |some (x,r1)=>match jk f r1 with
     |some l=>some (x::l)
     |none=>none
    |none=>none):=by rw[jk.eq_def];rfl
theorem b3u(f:Nat):jk f []=none:=by cases f <;> rw[jk.eq_def]
theorem b3v(ts:List Tok):jk 0 ts=none:=by rw[jk.eq_def]
def rq:Tr→Bool
 |.num q=>decide (q.num.natAbs < 10000) && decide (q.den < 10000)
 |.sym p n=>decide (p.length≤1000) && decide (n.length≤1000)
 |.txt s=>decide (s.length≤1000)
 |.cons a d=>rq a && rq d
theorem La:∀{t:Tr},rq t=true→t.Ok 10000
 |.num q,h=>by
  unfold rq at h;simp only[Ce,rE]at h;exact Tr.Ok.mono (k:=4) (t:=.num q) O ⟨h.1,h.2,O⟩
 |.sym p n,h=>by
  unfold rq at h;simp only[Ce,rE]at h;exact⟨J,J⟩
 |.txt s,h=>by
  unfold rq at h;simp only[rE]at h;show s.length≤100000;omega
 |.cons a d,h=>by
  unfold rq at h;simp only[Ce]at h;exact⟨La h.1,La h.2⟩
end p9
abbrev rfX(all:List p9.Tok)(i:Int):List (Option Bx):=[OB,OB,cK all i]
abbrev oO(all:List p9.Tok)(i:Int)(es:aa0):AS:=⟨stt 97 [(7,.ptr 0 0),(10,.ptr 2 0),(11,.own 3 es.length)],rfX all i++[some (.buf 45 7 es)]⟩
abbrev NY(all:List p9.Tok)(i:Int):AS:=⟨stt 97 [(7,.ptr 0 0),(10,.ptr 2 0),(11,.nil)],rfX all i⟩
noncomputable abbrev BN:Code:=M6 (O4 f65) [1,1,1,1,1,0,0,0]
theorem b6f{all:List p9.Tok}{i k:Nat}{n:Int}{es:aa0}{t:p9.Tok}{o:Ob}(h:all[i]?=some t)(h0:t.kind≠0)(he:es.length < 100)(ho:D6 110 [.ptr 0 0,j4 0] [cK all i] (.l7 [o7 o,aR]) [cK all k])(hn:j5 111 [o7 o] (j4 n))(gG:n≤3000):y7 EX BN (oO all i es) .F6 (oO all k (es++[A9 o])) :=
 tW [.av (mE t),yT,.av (mE t),.av (mE t),.av (j4 es.length),yF,.no,.av (j4 n),yF,.av (.un)] [.J5 11 1 [2] (.l7 [o7 o,aR]) [cK all k]] [7,10,11] 4 [z8 (List.map bI all) ↑i 5 ([(.val (vi t.kind)),(.val (vi ↑t.pos)),(.val (str [])),(.val (str t.text)),(.val (str t.den))]),Bk .neq 3 40 0 t.kind bT,z8 (List.map bI all) ↑i 5 ([(.val (vi t.kind)),(.val (vi ↑t.pos)),(.val (str [])),(.val (str t.text)),(.val (str t.den))]),z8 (List.map bI all) ↑i 5 ([(.val (vi t.kind)),(.val (vi ↑t.pos)),(.val (str [])),(.val (str t.text)),(.val (str t.den))]),(vi ↑es.length)=(vi ↑es.length),Bk .geq 3 65 100 ↑es.length bF,D6 110 [AV.ptr 0 0,AV.dt (Dt.val (vi 0))] [some (Bx.cells [AV.dt (Dt.row nZ),AV.dt (Dt.val (str o9)),AV.dt (Dt.row (List.map bI all)),AV.dt (Dt.val (vi ↑i))])] (AV.l7 [o7 o,aR]) [cK all ↑k],j5 111 [(o7 o)] (j4 n),Bk .gtr 3 87 3000 n bF,(es.length)=(es.length),P7 112 ((es++[[Dt.val (vi o.kind),Dt.val (str o.num),Dt.val (str o.den),Dt.val (str o.sp),Dt.val (str o.sn),Dt.val (str o.text),Dt.row (List.map Ob.enc o.pair)]]).length),L8 7 [A9 o]]     ⟨lZ h,E5 (by simp[h0]),lZ h,lZ h,rfl,U0 (WF J),ho,hn,K4 (WF J),rfl,bE J (by simp;omega),Ke o,Z⟩
theorem b6g{all:List p9.Tok}{i:Nat}{es:aa0}{t:p9.Tok}(h:all[i]?=some t)(h0:t.kind=0):y7 EX BN (oO all i es) (.out 0) (oO all i es) :=
 tW [.av (mE t),yF] [] [7,10,11] 4 [z8 (List.map bI all) ↑i 5 ([(.val (vi t.kind)),(.val (vi ↑t.pos)),(.val (str [])),(.val (str t.text)),(.val (str t.den))]),Bk .neq 3 40 0 t.kind bF]     ⟨lZ h,E5 (by simp[h0]),Z⟩
theorem a7Z{all:List p9.Tok}(hl:all.length≤5000)(hok:∀t∈all,wO t=true):∀(f i:Nat) (l:List Tr) (es:aa0),p9.jk f (all.drop i)=some l→(∀x∈l,x.Ok 10000∧x.ob.nodes≤3000)→es.length+l.length≤99→∃k:Nat,I7 EX BN (oO all i es) (.out 0) (oO all k (es++F3 l)):=by
 intro f
 induction f with
 |zero=>intro i l es h;rw[p9.b3v]at h;cases h
 |succ f ih =>
  intro i l es h hx hlen;cases hts:all.drop i with
  |nil=>rw[hts,p9.b3u]at h;cases h
  |cons t ts =>
   rw[hts,p9.b3t]at h;obtain⟨ht,hd1,hlt⟩:=drop_one hts;by_cases h0:t.kind=0
   ·rw[Ch h0]at h;cases h;refine⟨i,?_⟩;rw[show es++F3 []=es from ZaB _]
    exact .stop (b6g ht h0) (fun h=>by cases h)
   ·rw[EQ h0]at h;split at h
    ·rename_i x r1 hpo;split at h
     ·rename_i l' hpl;cases h;rw[←hts]at hpo;obtain⟨k1,a1,a2,a3,a4⟩:=(b6e hl hok f).1 0 i x r1 hpo J;rw[a3]at hpl;rw[yM]at hlen;obtain⟨g1,g2⟩:=hx x (NE ..);have hP:=Te.Iy x.ob;obtain⟨k,g5⟩:=ih k1 l' (es++[A9 x.ob]) hpl (fun y hy=>hx y (Cg _ hy)) (by rw[lm,Zak];omega);rw[Zaf]at g5;exact⟨k,.more (b6f ht h0 J a4 (QQ (g1.wf O)) J) g5⟩
     ·cases h
    ·cases h
theorem b0P{s:lw}{all:List p9.Tok}{k:Nat}{es:aa0}(ht:j5 108 [stA s] (.l7 [EH all,aR]))(hl:y7 EX (.loop BN) (NY all 0) (.out 0) (oO all k es)):j5 65 [.dt (.row nZ),stA o9,stA s] (.l7 [.dt (.row es),aR]) :=
 pW [.av (.l7 [EH all,aR]),.no] [.inv [7,10,11] 3 (.out 0) (oO all k es)] [_,_,(es.length)=(es.length)] func65 ⟨ht,hl,rfl,Z⟩
theorem b0Q{s:lw}{l:List Tr}{f:Nat}(hs:BG s)(hw:∀t∈p9.tk 0 s,t.kind=5∨t.kind=6→p9.qV t.text=true)(hok:∀t∈p9.tk 0 s,wO t=true)(hn:(p9.tk 0 s).length≤5000)(hp:p9.jk f (p9.tk 0 s)=some l)(hx:∀x∈l,x.Ok 10000∧x.ob.nodes≤3000)(hl:l.length≤99):j5 65 [.dt (.row nZ),stA o9,stA s] (.l7 [K5 l,aR]):=by
 obtain⟨k,g⟩:=a7Z hn hok f 0 l [] hp hx (by rw[List.length_nil];omega);have g6:y7 EX (.loop BN) (NY (p9.tk 0 s) 0) (.out 0) (oO (p9.tk 0 s) k (F3 l)):=y7.Z9 11 45 7 (by show 11 < 97;omega) rfl g.I8;exact b0P (a5d hs hw) g6
theorem b0R:j5 67 [] (stA jJ):=pV [] [] func67 trivial
def nW:List p9.Tok:=p9.tk 0 jJ
def forms:List Tr:=(p9.jk 3000 nW).getD []
theorem b6h:BG jJ:=⟨by decide +kernel,by
 have h:jJ.all p9.few=true:=by decide +kernel
 exact Zag.1 h⟩
theorem b0S:∀t∈p9.tk 0 jJ,t.kind=5∨t.kind=6→p9.qV t.text=true:=by
 have h:p9.b0a (p9.tk 0 jJ)=true:=by decide +kernel
 intro t ht hk;have:=Zag.1 h t ht
 rwa [Ch hk]at this
theorem a8a:∀t∈p9.tk 0 jJ,wO t=true:=by
 have h:(p9.tk 0 jJ).all wO=true:=by decide +kernel
 exact Zag.1 h
theorem a5i:(p9.tk 0 jJ).length≤5000:=by decide +kernel
theorem a5j:p9.jk 3000 (p9.tk 0 jJ)=some forms:=by
 have h:(p9.jk 3000 (p9.tk 0 jJ)).isSome=true:=by decide +kernel
 obtain⟨l,hl⟩:=Option.isSome_iff_exists.1 h;unfold forms nW;rw[hl];rfl
theorem QR:forms.length=28:=by decide +kernel
theorem a5k:∀x∈forms,x.Ok 10000∧x.ob.nodes≤3000:=by
 have h:(forms.all fun x=>p9.rq x && decide (x.ob.nodes≤3000))=true:=by decide +kernel
 intro x hx;have:=Zag.1 h x hx;simp only[Ce,rE]at this;exact⟨p9.La this.1,this.2⟩
theorem Pf:j5 32 [] (K5 forms):=by
 have h:=b0Q b6h b0S a8a a5i a5j a5k (by rw[QR];decide);generalize forms=l at *;exact pV [.av (.dt (.row nZ)),.av (stA jJ),.av (.l7 [K5 l,aR])] [_,_,_] func32 ⟨a3x,b0R,h,Z⟩
abbrev ru(o:Ob)(es:aa0):AS:=⟨stt 22 [(1,.ptr 0 0),(4,.own 1 es.length)],[OC o,some (.buf 45 7 es)]⟩
abbrev it0(o:Ob):AS:=⟨stt 22 [(1,.ptr 0 0),(4,.nil)],[OC o]⟩
noncomputable abbrev GJ:Code:=M6 (O4 f68) [1,1,0,0,0]
theorem b6i{o a d:Ob}{es:aa0}(hc:j5 112 [o7 o] (l5 true))(h0:z8 (o.pair.map Ob.enc) 0 7 (A9 a))(h1:z8 (o.pair.map Ob.enc) 1 7 (A9 d))(he:es.length≤10000):y7 EX GJ (ru o es) .F6 (ru d (es++[A9 a])) :=
 tW [yT,.av (.pin ((A9 a).map .dt)),.av (.un),.av (.pin ((A9 d).map .dt))] [] [1,4] 2 [j5 112 [(o7 o)] (l5 true),z8 (List.map Ob.enc o.pair) 0 7 (A9 a),(es.length)=(es.length),P7 112 ((es++[[Dt.val (vi a.kind),Dt.val (str a.num),Dt.val (str a.den),Dt.val (str a.sp),Dt.val (str a.sn),Dt.val (str a.text),Dt.row (List.map Ob.enc a.pair)]]).length),L8 7 [A9 a],z8 (List.map Ob.enc o.pair) 1 7 (A9 d)]     ⟨hc,h0,rfl,bE J (by simp;omega),Ke a,h1,Z⟩
theorem b6j{o:Ob}{es:aa0}(hc:j5 112 [o7 o] (l5 false)):y7 EX GJ (ru o es) (.out 0) (ru o es) :=
 tW [yF] [] [1,4] 2 [j5 112 [(o7 o)] (l5 false)]     ⟨hc,Z⟩
theorem a8b(a d:Tr):z8 ((Tr.cons a d).ob.pair.map Ob.enc) 0 7 (A9 a.ob)∧z8 ((Tr.cons a d).ob.pair.map Ob.enc) 1 7 (A9 d.ob) :=
 ⟨⟨O,congrArg some (ED a.ob),rfl⟩,⟨O,congrArg some (ED d.ob),rfl⟩⟩
theorem Uw:∀(l:List Tr) (es:aa0),es.length+l.length≤10000→I7 EX GJ (ru (Tr.list l).ob es) (.out 0) (ru K8 (es++F3 l))
 |[],es,_=>by
  rw[show es++F3 []=es from ZaB _]
  exact .stop (b6j ((vo K8 O).b O)) (fun h=>by cases h)
 |a::l,es,h=>by
  rw[yM]at h;have ih:=Uw l (es++[A9 a.ob]) (by rw[lm,Zak];omega);rw[Zaf]at ih;obtain⟨h0,h1⟩:=a8b a (Tr.list l);exact .more (b6i ((vo (Tr.cons a (Tr.list l)).ob (by show 2≤_;omega)).b (Pi ⟨rfl,rfl⟩)) h0 h1 J) ih
theorem a8c:K8.Wf:=.mk _ O O O O O O O O (fun x hx=>by cases hx)
theorem vF{l:List Tr}(hl:l.length≤10000):j5 68 [l9 (Tr.list l)] (.l7 [K5 l,l5 true]):=by
 have h:=(Uw l [] (by rw[List.length_nil];omega)).I8;have ht:y7 EX (.loop GJ) (it0 (Tr.list l).ob) (.out 0) (ru K8 (F3 l)):=y7.Z9 4 45 7 (by show 4 < 22;omega) rfl h;have hn:=(a4R a8c).b (U5 rfl);show j5 _ [o7 (Tr.list l).ob] (.l7 [.dt (.row (F3 l)),l5 true]);generalize (Tr.list l).ob=o at *;generalize F3 l=es at *;exact pW [yT] [.inv [1,4] 1 (.out 0) (ru K8 es)] [_,_,(es.length)=(es.length)] func68 ⟨ht,hn,rfl,Z⟩
theorem rP:∀{x:Tr} {l:List Tr},p9.items x=some l→x=Tr.list l
 |.num _,_,h=>by cases h
 |.txt _,_,h=>by cases h
 |.sym p n,l,h=>by
  rw[p9.items]at h;split at h
  ·rename_i e;cases h;rw[e.1,e.2];rfl
  ·cases h
 |.cons a d,l,h=>by
  rw[p9.items]at h;split at h
  ·rename_i l' hd;cases h;rw[rP hd];rfl
  ·cases h
theorem a8d(n:lw):j5 211 [stA n] (l9 (.sym o9 n)) :=
 pV [.av (p8 o9 n),.av (l9 (.sym o9 n))] [j5 34 [(stA n)] (p8 o9 n),j5 76 [(p8 o9 n)] (l9 (Tr.sym o9 n))] func211 ⟨Q8 n,zo o9 n,Z⟩
theorem b0T{n:lw}{l:aa0}{a d o:Ob}(h1:j5 211 [stA n] (o7 a))(h2:j5 83 [.dt (.row l)] (o7 d))(h3:j5 81 [o7 a,o7 d] (o7 o)):j5 180 [stA n,.dt (.row l)] (o7 o) :=
 pV [.av (o7 a),.av (o7 d),.av (o7 o)] [_,_,_] func180 ⟨h1,h2,h3,Z⟩
theorem qi(n:lw){l:List Tr}(hl:l.length≤10000):j5 180 [stA n,K5 l] (l9 (p9.call n l)) :=
 b0T (a8d n) (yV J) (DC (Tr.sym o9 n).ob (Tr.list l).ob)
theorem vG(n:lw){l:List Tr}(hl:l.length≤10000):j5 212 [stA n,K5 l] (l9 (p9.call n l)):=by
 have h:=qi n hl;show j5 _ [stA n,.dt (.row (F3 l))] (o7 (p9.call n l).ob);have h:j5 _ [stA n,.dt (.row (F3 l))] (o7 (p9.call n l).ob):=h;generalize (p9.call n l).ob=o at *;generalize F3 l=es at *;exact pV [.av (o7 o)] [_] func212 ⟨h,Z⟩
theorem nL(x:Tr)(r:List Tr):bV (F3 (x::r)) 7 1 ((F3 (x::r)).length:Int) (F3 r):=by
 refine⟨O,?_,Int.le_refl _,?_,.inr fun y hy=>?_⟩
 ·simp only[F3,Zaq,yM];omega
 ·rw[Int.toNat_natCast,List.take_length];rfl
 ·obtain⟨t,_,rfl⟩:=Zaw.1 hy;rfl
theorem nM(x:Tr)(r:List Tr):z8 (F3 (x::r)) 0 7 (A9 x.ob):=⟨O,rfl,rfl⟩
theorem b0U(x y:Tr)(r:List Tr):z8 (F3 (x::y::r)) 1 7 (A9 y.ob):=⟨O,rfl,rfl⟩
abbrev fJ:FuncId:=181
abbrev xm:FuncId:=212
abbrev tK:FuncId:=180
abbrev N8(n:lw):Ob:=⟨2,[],[],o9,n,[],[]⟩
theorem b3w{es rs:aa0}{a b o:Ob}(n0:es.length≠0)(n1:es.length≠1)(h0:z8 es 0 7 (A9 a))(hs:bV es 7 1 (es.length:Int) rs)(hr:j5 xm [stA [97,112,112,101,110,100],.dt (.row rs)] (o7 b))(hc:j5 tK [stA [98,105,110,97,114,121,45,97,112,112,101,110,100],.dt (.row [A9 a,A9 b])] (o7 o)):j5 fJ [stA [97,112,112,101,110,100],.dt (.row es)] (.l7 [o7 o,l5 true]) :=
 pV [.av (j4 es.length),.no,.no,.no,yF,yF,.no,.av (.pin ((A9 a).map .dt)),.av (.dt (.row rs)),.av (o7 b),.av (o7 o)] [(vi ↑es.length)=(vi ↑es.length),Bk .eql 3 29 0 ↑es.length bF,Bk .eql 3 34 1 ↑es.length bF,_,_,(none:Option Int)=none∨(none:Option Int)=none,_,_] func181 ⟨rfl,C9 (WF J),C9 (WF J),h0,hs,.inl rfl,hr,hc,Z⟩
theorem b3x{es rs:aa0}{a b o:Ob}(n0:es.length≠0)(n1:es.length≠1)(h0:z8 es 0 7 (A9 a))(hs:bV es 7 1 (es.length:Int) rs)(hr:j5 xm [stA [97,110,100],.dt (.row rs)] (o7 b))(hc:j5 tK [stA [105,102],.dt (.row [A9 a,A9 b,A9 K8])] (o7 o)):j5 fJ [stA [97,110,100],.dt (.row es)] (.l7 [o7 o,l5 true]) :=
 pV (.av (j4 es.length)::nK 4 [yF,yF,.no,.av (.pin ((A9 a).map .dt)),.av (.dt (.row rs)),.av (o7 b),.av (o7 K8),.av (o7 o)]) [(vi ↑es.length)=(vi ↑es.length),Bk .eql 3 62 0 ↑es.length bF,Bk .eql 3 67 1 ↑es.length bF,_,_,(none:Option Int)=none∨(none:Option Int)=none,_,_,_] func181 ⟨rfl,C9 (WF J),C9 (WF J),h0,hs,.inl rfl,hr,lY,hc,Z⟩
theorem b6k{es rs:aa0}{a b o:Ob}(n0:es.length≠0)(n1:es.length≠1)(h0:z8 es 0 7 (A9 a))(hs:bV es 7 1 (es.length:Int) rs)(hr:j5 xm [stA [111,114],.dt (.row rs)] (o7 b))(hc:j5 tK [stA [105,102],.dt (.row [A9 a,A9 a,A9 b])] (o7 o)):j5 fJ [stA [111,114],.dt (.row es)] (.l7 [o7 o,l5 true]) :=
 pV (.av (j4 es.length)::nK 5 [yF,yF,.no,.av (.pin ((A9 a).map .dt)),.av (.pin ((A9 a).map .dt)),.av (.dt (.row rs)),.av (o7 b),.av (o7 o)]) [(vi ↑es.length)=(vi ↑es.length),Bk .eql 3 62 0 ↑es.length bF,Bk .eql 3 67 1 ↑es.length bF,_,_,_,(none:Option Int)=none∨(none:Option Int)=none,_,_] func181 ⟨rfl,C9 (WF J),C9 (WF J),h0,h0,hs,.inl rfl,hr,hc,Z⟩
theorem b3y{es rs:aa0}{a b o:Ob}(n0:es.length≠0)(h0:z8 es 0 7 (A9 a))(hs:bV es 7 1 (es.length:Int) rs)(hr:j5 xm [stA [108,105,115,116],.dt (.row rs)] (o7 b))(hc:j5 tK [stA [99,111,110,115],.dt (.row [A9 a,A9 b])] (o7 o)):j5 fJ [stA [108,105,115,116],.dt (.row es)] (.l7 [o7 o,l5 true]) :=
 pV [.av (j4 es.length),.no,yF,.av (.pin ((A9 a).map .dt)),.av (.dt (.row rs)),.av (o7 b),.av (o7 o)] [(vi ↑es.length)=(vi ↑es.length),Bk .eql 3 14 0 ↑es.length bF,_,_,(none:Option Int)=none∨(none:Option Int)=none,_,_] func181 ⟨rfl,C9 (WF J),h0,hs,.inl rfl,hr,hc,Z⟩
theorem b0V:j5 fJ [stA [108,105,115,116],.dt (.row [])] (.l7 [o7 K8,l5 true]) :=
 pV [.no,.no,.no,.av (o7 K8)] [_] func181 ⟨lY,Z⟩
theorem a5l:j5 155 [l5 true] (o7 tO):=pV [.av (o7 tO)] [_] func155 ⟨tH,Z⟩
theorem a5m:j5 155 [l5 false] (o7 K8):=pV [.av (o7 K8)] [_] func155 ⟨lY,Z⟩
theorem b0W:j5 fJ [stA [97,112,112,101,110,100],.dt (.row [])] (.l7 [o7 K8,l5 true]) :=
 pV (nK 5 [.av (o7 K8),.no]) [_] func181 ⟨lY,Z⟩
theorem b0X:j5 fJ [stA [97,110,100],.dt (.row [])] (.l7 [o7 tO,l5 true]) :=
 pV (nK 7 [.av (o7 tO)]) [_] func181 ⟨a5l,Z⟩
theorem b3z:j5 fJ [stA [111,114],.dt (.row [])] (.l7 [o7 K8,l5 true]) :=
 pV (nK 8 [.av (o7 K8)]) [_] func181 ⟨a5m,Z⟩
theorem b0Y(a:Ob):j5 fJ [stA [97,112,112,101,110,100],.dt (.row [A9 a])] (.l7 [o7 a,l5 true]) :=
 pV (nK 7 []) [] func181 trivial
theorem b0Z(a:Ob):j5 fJ [stA [97,110,100],.dt (.row [A9 a])] (.l7 [o7 a,l5 true]) :=
 pV (nK 8 []) [] func181 trivial
theorem b3A(a:Ob):j5 fJ [stA [111,114],.dt (.row [A9 a])] (.l7 [o7 a,l5 true]) :=
 pV (nK 9 []) [] func181 trivial
theorem b03{es rs:aa0}{x a b c o:Ob}(n0:es.length≠0)(h0:z8 es 0 7 (A9 x))(hi:j5 68 [o7 x] (.l7 [.dt (.row [A9 a,A9 b]),l5 true]))(hs:bV es 7 1 (es.length:Int) rs)(hr:j5 xm [stA [99,111,110,100],.dt (.row rs)] (o7 c))(hc:j5 tK [stA [105,102],.dt (.row [A9 a,A9 b,A9 c])] (o7 o)):j5 fJ [stA [99,111,110,100],.dt (.row es)] (.l7 [o7 o,l5 true]) :=
 pV (.av (j4 es.length)::nK 6 (yF::.av (.pin ((A9 x).map .dt))::.av (.l7 [.dt (.row [A9 a,A9 b]),l5 true])::nK 4 [.av (.dt (.row rs)),.av (o7 c),.av (o7 o)])) [(vi ↑es.length)=(vi ↑es.length),Bk .eql 3 98 0 ↑es.length bF,_,_,_,(none:Option Int)=none∨(none:Option Int)=none,_,_] func181 ⟨rfl,C9 (WF J),h0,hi,hs,.inl rfl,hr,hc,Z⟩
theorem a8e:j5 fJ [stA [99,111,110,100],.dt (.row [])] (.l7 [o7 K8,l5 true]) :=
 pV (nK 8 [.av (o7 K8)]) [_] func181 ⟨lY,Z⟩
theorem b04{a b o:Ob}(hc:j5 tK [stA [98,105,110,97,114,121,45,43],.dt (.row [A9 a,A9 b])] (o7 o)):j5 213 [stA [43],stA [98,105,110,97,114,121,45,43],j4 0,.dt (.row [A9 a,A9 b])] (o7 o) :=
 pV (nK 6 [.av (o7 o)]) [_] func213 ⟨hc,Z⟩
theorem b05{es rs:aa0}{a b o:Ob}(n0:3≤es.length)(h0:z8 es 0 7 (A9 a))(hs:bV es 7 1 (es.length:Int) rs)(hr:j5 xm [stA [43],.dt (.row rs)] (o7 b))(hc:j5 tK [stA [98,105,110,97,114,121,45,43],.dt (.row [A9 a,A9 b])] (o7 o)):j5 213 [stA [43],stA [98,105,110,97,114,121,45,43],j4 0,.dt (.row es)] (o7 o) :=
 pV [.av (j4 es.length),yF,yF,yF,.av (.pin ((A9 a).map .dt)),.av (.dt (.row rs)),.av (o7 b),.av (o7 o)] [(vi ↑es.length)=(vi ↑es.length),Bk .eql 3 10 0 ↑es.length bF,Bk .eql 3 10 1 ↑es.length bF,Bk .eql 3 10 2 ↑es.length bF,_,_,(none:Option Int)=none∨(none:Option Int)=none,_,_] func213 ⟨rfl,C9 (WF J),C9 (WF J),C9 (WF J),h0,hs,.inl rfl,hr,hc,Z⟩
theorem VW{es:aa0}{o:Ob}(h:j5 213 [stA [43],stA [98,105,110,97,114,121,45,43],j4 0,.dt (.row es)] (o7 o)):j5 fJ [stA [43],.dt (.row es)] (.l7 [o7 o,l5 true]) :=
 pV (.av (j4 es.length)::nK 7 [.av (o7 o)]) [(vi ↑es.length)=(vi ↑es.length),_] func181 ⟨rfl,h,Z⟩
theorem a5n{n:lw}{l:List Tr}{o:Tr}(h:p9.expand n l=some o)(hl:l.length≤1000):j5 fJ [stA n,K5 l] (.l7 [l9 o,l5 true]):=by
 have hln:∀l:List Tr,(F3 l).length=l.length:=fun l=>Cc ..
 unfold p9.expand at h;split at h
 ·rename_i e;subst e;split at h
  ·cases h;exact b0V
  ·rename_i x r;cases h;rw[yM]at hl;exact b3y (es:=F3 (x::r)) (rs:=F3 r) (by rw[hln,yM];omega) (nM x r) (nL x r) (vG _ J) (qi _ (l:=[x,p9.call [108,105,115,116] r]) (by show 2≤10000;omega))
 split at h
 ·rename_i e;subst e;split at h
  ·cases h;exact b0W
  ·cases h;exact b0Y _
  ·rename_i x r hne;cases h;rw[yM]at hl;have:r.length≠0:=fun e=>by
    obtain rfl:=q9 e;exact hne rfl
   exact b3w (es:=F3 (x::r)) (rs:=F3 r) (by rw[hln,yM];omega) (by rw[hln,yM];omega) (nM x r) (nL x r) (vG _ J) (qi _ (l:=[x,p9.call [97,112,112,101,110,100] r]) (by show 2≤10000;omega))
 split at h
 ·rename_i e;subst e;split at h
  ·cases h;exact b0X
  ·cases h;exact b0Z _
  ·rename_i x r hne;cases h;rw[yM]at hl;have:r.length≠0:=fun e=>by
    obtain rfl:=q9 e;exact hne rfl
   exact b3x (es:=F3 (x::r)) (rs:=F3 r) (by rw[hln,yM];omega) (by rw[hln,yM];omega) (nM x r) (nL x r) (vG _ J) (qi _ (l:=[x,p9.call [97,110,100] r,p9.xg]) (by show 3≤10000;omega))
 split at h
 ·rename_i e;subst e;split at h
  ·cases h;exact b3z
  ·cases h;exact b3A _
  ·rename_i x r hne;cases h;rw[yM]at hl;have:r.length≠0:=fun e=>by
    obtain rfl:=q9 e;exact hne rfl
   exact b6k (es:=F3 (x::r)) (rs:=F3 r) (by rw[hln,yM];omega) (by rw[hln,yM];omega) (nM x r) (nL x r) (vG _ J) (qi _ (l:=[x,x,p9.call [111,114] r]) (by show 3≤10000;omega))
 split at h
 ·rename_i e;subst e;split at h
  ·cases h;exact a8e
  ·rename_i x r;split at h
   ·rename_i a c hi;cases h;rw[yM]at hl;have hx:=rP hi;subst hx;exact b03 (es:=F3 (Tr.list [a,c]::r)) (rs:=F3 r) (by rw[hln,yM];omega) (nM _ r) (vF (l:=[a,c]) (by show 2≤10000;omega)) (nL _ r) (vG _ J) (qi _ (l:=[a,c,p9.call [99,111,110,100] r]) (by show 3≤10000;omega))
   ·cases h
 split at h
 ·rename_i e;subst e;split at h
  ·rename_i x y;cases h;exact VW (b04 (qi _ (l:=[x,y]) (by show 2≤10000;omega)))
  ·rename_i x y z r;cases h;simp only[yM]at hl;exact VW (b05 (es:=F3 (x::y::z::r)) (rs:=F3 (y::z::r)) (by rw[hln];simp only[yM];omega) (nM x _) (nL x _) (vG _ (by simp only[yM];omega)) (qi _ (l:=[x,p9.call [43] (y::z::r)]) (by show 2≤10000;omega)))
  ·cases h
 ·cases h
theorem b3B:j5 138 [p8 o9 [108,105,115,116]] (l5 true):=pV [.no,.no] [] func138 trivial
theorem b3C:j5 138 [p8 o9 [97,110,100]] (l5 true):=pV (nK 4 []) [] func138 trivial
theorem b3D:j5 138 [p8 o9 [111,114]] (l5 true):=pV (nK 5 []) [] func138 trivial
theorem b3E:j5 138 [p8 o9 [99,111,110,100]] (l5 true):=pV (nK 6 []) [] func138 trivial
theorem b3F:j5 138 [p8 o9 [43]] (l5 true):=pV (nK 7 []) [] func138 trivial
theorem b06:j5 138 [p8 o9 [97,112,112,101,110,100]] (l5 true):=pV (nK 14 []) [] func138 trivial
theorem b3G{n:lw}(h:n ∉ p9.KJ):j5 138 [p8 o9 n] (l5 false):=by
 have ne:∀m∈p9.KJ,decide (n=m)=false:=fun m hm=>WF fun e=>h (e ▸ hm)
 exact pV [.no,yF,yF,yF,yF,yF,yF,yF,yF,yF,yF,yF,yF,yF] [Bl .eql 9 7 [108,105,115,116] n bF,Bl .eql 9 7 [108,105,115,116,42] n bF,Bl .eql 9 7 [97,110,100] n bF,Bl .eql 9 7 [111,114] n bF,Bl .eql 9 7 [99,111,110,100] n bF,Bl .eql 9 7 [43] n bF,Bl .eql 9 7 [42] n bF,Bl .eql 9 7 [45] n bF,Bl .eql 9 7 [47] n bF,Bl .eql 9 7 [60,61] n bF,Bl .eql 9 7 [62] n bF,Bl .eql 9 7 [62,61] n bF,Bl .eql 9 7 [97,112,112,101,110,100] n bF] func138 ⟨I6 (ne _ O),I6 (ne _ O),I6 (ne _ O),I6 (ne _ O),I6 (ne _ O),I6 (ne _ O),I6 (ne _ O),I6 (ne _ O),I6 (ne _ O),I6 (ne _ O),I6 (ne _ O),I6 (ne _ O),I6 (ne _ O),Z⟩
abbrev H5(n:lw):List Dt:=[.val (str o9),.val (str n)]
abbrev G7(f:p9.F7):List Dt:=[.val (str o9),.val (str f.nm),.row (f.ps.map H5),.val (.int .i64 1),.val (.int .i64 f.guard.kind),.val (str f.guard.np),.val (str f.guard.nn),.val (.int .i64 f.guard.val.kind),.val (str f.guard.val.num),.val (str f.guard.val.den),.val (str f.guard.val.sp),.val (str f.guard.val.sn),.val (str f.guard.val.text),.row (f.guard.val.pair.map Ob.enc),.row (f.guard.args.map Te.enc),.val (.int .i64 f.body.kind),.val (str f.body.np),.val (str f.body.nn),.val (.int .i64 f.body.val.kind),.val (str f.body.val.num),.val (str f.body.val.den),.val (str f.body.val.sp),.val (str f.body.val.sn),.val (str f.body.val.text),.row (f.body.val.pair.map Ob.enc),.row (f.body.args.map Te.enc),.val (.int .i64 f.measure.kind),.val (str f.measure.np),.val (str f.measure.nn),.val (.int .i64 f.measure.val.kind),.val (str f.measure.val.num),.val (str f.measure.val.den),.val (str f.measure.val.sp),.val (str f.measure.val.sn),.val (str f.measure.val.text),.row (f.measure.val.pair.map Ob.enc),.row (f.measure.args.map Te.enc)]
abbrev F8(f:p9.F7):List Dt:=[.val (.int .i64 3),.val (str o9),.val (str f.nm),.val (str []),.row [],.val (str []),.val (str []),.row [],.val (.bool false),.val (.int .i64 0),.val (str []),.val (str []),.val (.int .i64 0),.val (str []),.val (str []),.val (str []),.val (str []),.val (str []),.row [],.row [],.row [G7 f],.row [],.row [],.row [],.val (str []),.val (str []),.row [],.row [],.row [],.row [],.val (str []),.val (.int .u64 0)]
abbrev bu(is:aa0):List Dt:=[.val (.int .i64 1),.val (str o9),.val (str [117,115,101,114,45,112,97,99,107,97,103,101]),.val (str [117,115,101,114]),.row is,.val (str []),.val (str []),.row [],.val (.bool false),.val (.int .i64 0),.val (str []),.val (str []),.val (.int .i64 0),.val (str []),.val (str []),.val (str []),.val (str []),.val (str []),.row [],.row [],.row [],.row [],.row [],.row [],.val (str []),.val (str []),.row [],.row [],.row [],.row [],.val (str []),.val (.int .u64 0)]
theorem oh{ws:List p9.F7}{r:aa0}{i:Nat}{f:p9.F7}(h:ws[i]?=some f):z8 (ws.map F8++r) (i:Int) 32 (F8 f):=⟨Int.natCast_nonneg _,by
 have hl:=(UV.1 h).1;rw[Int.toNat_natCast,ZaD (by rw[Cc];exact hl),bi,h];rfl,rfl⟩
theorem Nb(l:List (lw)):Value.int .i64 (l.length:Int)=Value.int .i64 ((l.map H5).length:Int):=by rw[Cc]
theorem VX{n:lw}(hn:∀x∈I5,n≠x.1):j5 94 [p8 o9 n] (.l7 [j4 0,l5 false]):=pV ([.no,.av (.dt (.row (I5.map aT))),.no,.no,.no,yF]++nK 4 (yF::nK 4 (yF::nK 4 (yF::nK 4 (yF::nK 4 (yF::nK 4 (yF::nK 4 (yF::nK 4 (yF::nK 4 (yF::nK 4 (yF::nK 4 (yF::nK 4 (yF::nK 4 (yF::nK 4 (yF::nK 4 (yF::nK 4 (yF::nK 4 (yF::nK 4 (yF::nK 4 (yF::nK 4 (yF::nK 4 (yF::nK 4 (yF::nK 4 (yF::nK 4 [yF,.no])))))))))))))))))))))))) [_,Bs .eql 9 20 22 (([105,102],3).fst) n bF,Bs .eql 9 20 22 (([101,113,117,97,108],2).fst) n bF,Bs .eql 9 20 22 (([99,111,110,115],2).fst) n bF,Bs .eql 9 20 22 (([99,97,114],1).fst) n bF,Bs .eql 9 20 22 (([99,100,114],1).fst) n bF,Bs .eql 9 20 22 (([99,111,110,115,112],1).fst) n bF,Bs .eql 9 20 22 (([115,121,109,98,111,108,112],1).fst) n bF,Bs .eql 9 20 22 (([115,116,114,105,110,103,112],1).fst) n bF,Bs .eql 9 20 22 (([114,97,116,105,111,110,97,108,112],1).fst) n bF,Bs .eql 9 20 22 (([105,110,116,101,103,101,114,112],1).fst) n bF,Bs .eql 9 20 22 (([98,105,110,97,114,121,45,43],2).fst) n bF,Bs .eql 9 20 22 (([98,105,110,97,114,121,45,42],2).fst) n bF,Bs .eql 9 20 22 (([117,110,97,114,121,45,45],1).fst) n bF,Bs .eql 9 20 22 (([117,110,97,114,121,45,47],1).fst) n bF,Bs .eql 9 20 22 (([60],2).fst) n bF,Bs .eql 9 20 22 (([110,117,109,101,114,97,116,111,114],1).fst) n bF,Bs .eql 9 20 22 (([100,101,110,111,109,105,110,97,116,111,114],1).fst) n bF,Bs .eql 9 20 22 (([102,108,111,111,114],1).fst) n bF,Bs .eql 9 20 22 (([115,121,109,98,111,108,45,110,97,109,101],1).fst) n bF,Bs .eql 9 20 22 (([115,121,109,98,111,108,45,112,97,99,107,97,103,101,45,110,97,109,101],1).fst) n bF,Bs .eql 9 20 22 (([105,110,116,101,114,110],2).fst) n bF,Bs .eql 9 20 22 (([115,116,114,105,110,103,45,97,112,112,101,110,100],2).fst) n bF,Bs .eql 9 20 22 (([115,116,114,105,110,103,45,108,101,110,103,116,104],1).fst) n bF,Bs .eql 9 20 22 (([115,116,114,105,110,103,45,98,121,116,101],2).fst) n bF,Bs .eql 9 20 22 (([98,121,116,101,45,115,116,114,105,110,103],1).fst) n bF] func94 ⟨aW,I6 (WF (ZaJ (hn ([105,102],3) O))),I6 (WF (ZaJ (hn ([101,113,117,97,108],2) O))),I6 (WF (ZaJ (hn ([99,111,110,115],2) O))),I6 (WF (ZaJ (hn ([99,97,114],1) O))),I6 (WF (ZaJ (hn ([99,100,114],1) O))),I6 (WF (ZaJ (hn ([99,111,110,115,112],1) O))),I6 (WF (ZaJ (hn ([115,121,109,98,111,108,112],1) O))),I6 (WF (ZaJ (hn ([115,116,114,105,110,103,112],1) O))),I6 (WF (ZaJ (hn ([114,97,116,105,111,110,97,108,112],1) O))),I6 (WF (ZaJ (hn ([105,110,116,101,103,101,114,112],1) O))),I6 (WF (ZaJ (hn ([98,105,110,97,114,121,45,43],2) O))),I6 (WF (ZaJ (hn ([98,105,110,97,114,121,45,42],2) O))),I6 (WF (ZaJ (hn ([117,110,97,114,121,45,45],1) O))),I6 (WF (ZaJ (hn ([117,110,97,114,121,45,47],1) O))),I6 (WF (ZaJ (hn ([60],2) O))),I6 (WF (ZaJ (hn ([110,117,109,101,114,97,116,111,114],1) O))),I6 (WF (ZaJ (hn ([100,101,110,111,109,105,110,97,116,111,114],1) O))),I6 (WF (ZaJ (hn ([102,108,111,111,114],1) O))),I6 (WF (ZaJ (hn ([115,121,109,98,111,108,45,110,97,109,101],1) O))),I6 (WF (ZaJ (hn ([115,121,109,98,111,108,45,112,97,99,107,97,103,101,45,110,97,109,101],1) O))),I6 (WF (ZaJ (hn ([105,110,116,101,114,110],2) O))),I6 (WF (ZaJ (hn ([115,116,114,105,110,103,45,97,112,112,101,110,100],2) O))),I6 (WF (ZaJ (hn ([115,116,114,105,110,103,45,108,101,110,103,116,104],1) O))),I6 (WF (ZaJ (hn ([115,116,114,105,110,103,45,98,121,116,101],2) O))),I6 (WF (ZaJ (hn ([98,121,116,101,45,115,116,114,105,110,103],1) O))),Z⟩
theorem Lb(f:p9.F7):j5 123 [.agg ((F8 f).map .dt)] (.dt (.row [G7 f])) :=
 pV [.no] [] func123 trivial
theorem a8f(is:aa0):j5 123 [.agg ((bu is).map .dt)] (.dt (.row [])) :=
 pV (nK 4 []) [] func123 trivial
abbrev jo(es:aa0)(n:lw)(i:Int):AS:=⟨stt 36 [(0,.dt (.row es)),(3,.ptr 0 0),(7,j4 i)],[some (.cells [stA o9,stA n])]⟩
abbrev OH(n:lw)(i:Int):AS:=⟨stt 36 [(4,j4 i),(5,j4 0),(6,l5 true)],[some (.cells [stA o9,stA n])]⟩
noncomputable abbrev uJ:Code:=M6 (O4 f122) [1,0,1,0,0]
theorem YW{es:aa0}{n:lw}{i:Nat}{f:p9.F7}(h:z8 es (i:Int) 32 (F8 f))(hi:i < es.length)(hl:es.length≤1000)(hn:(decide (f.nm=n))=false):y7 EX uJ (jo es n i) .F6 (jo es n ((i+1:Nat):Int)) :=
 tW [.av (j4 es.length),yT,.av (.pin ((F8 f).map .dt)),.av (.dt (.row [G7 f])),.no,.no,.no,yF,.no,.no,.no,.av (j4 ((i+1:Nat):Int))] [.run 2] [0,3,7] 1 [(vi ↑es.length)=(vi ↑es.length),Bt .lss 3 10 12 ↑i ↑es.length bT,z8 es ↑i 32 (F8 f),j5 123 [(.agg ((F8 f).map .dt))] (.dt (.row [G7 f])),Bn .eql 42 (.tmp 31) (.tmp 32) (Value.agg #[str o9,str f.nm]) (Value.agg #[str o9,str n]) bF,Bk .add 3 14 1 ↑i (vi (↑(i+1)))]     ⟨rfl,D8 (Pi J),h,Lb f,ae (by rw[hn];rfl),H6 J J J,Z⟩
theorem b6l{es:aa0}{n:lw}{i:Nat}{f:p9.F7}(h:z8 es (i:Int) 32 (F8 f))(hi:i < es.length)(hn:f.nm=n):y7 EX uJ (jo es n i) .ret (OH n i) :=
 tW [.av (j4 es.length),yT,.av (.pin ((F8 f).map .dt)),.av (.dt (.row [G7 f])),.no,.no,.no,yT] [.run 2] [4,5,6] 1 [(vi ↑es.length)=(vi ↑es.length),Bt .lss 3 10 12 ↑i ↑es.length bT,z8 es ↑i 32 (F8 f),j5 123 [(.agg ((F8 f).map .dt))] (.dt (.row [G7 f])),Bn .eql 42 (.tmp 31) (.tmp 32) (Value.agg #[str o9,str f.nm]) (Value.agg #[str o9,str n]) bT]     ⟨rfl,D8 (Pi J),h,Lb f,ae (by rw[Pi hn];rfl),Z⟩
theorem a8g{ws:List p9.F7}{r:aa0}{n:lw}{f:p9.F7}(hl:(ws.map F8++r).length≤1000):∀(s:List p9.F7) (i:Nat),ws.drop i=s→(s.find? fun f=>f.nm == n)=some f→∃j:Nat,ws[j]?=some f∧I7 EX uJ (jo (ws.map F8++r) n i) .ret (OH n j):=by
 intro s
 induction s with
 |nil=>intro i _ h;cases h
 |cons x s ih =>
  intro i hd h;have hx:ws[i]?=some x:=by rw[←Za1,hd];rfl
  have hlt:=(UV.1 hx).1;have hi:i < (ws.map F8++r).length:=by rw[lm,Cc];omega
  rw[List.find?_cons]at h;split at h
  ·rename_i e;cases h;exact⟨i,hx,.stop (b6l (oh hx) hi (by simpa using e)) (fun h=>by cases h)⟩
  ·rename_i e;obtain⟨j,k1,k2⟩:=ih (i+1) (by rw[←Za0,hd];rfl) h;exact⟨j,k1,.more (YW (oh hx) hi hl (WF (by simpa using e))) k2⟩
theorem b07{es:aa0}{n:lw}{j:Nat}{f:p9.F7}(ht:j5 122 [.dt (.row es),p8 o9 n] (.l7 [j4 j,j4 0,l5 true]))(h:z8 es (j:Int) 32 (F8 f)):j5 95 [.dt (.row es),p8 o9 n] (.l7 [.agg ((G7 f).map .dt),l5 true]) :=
 pV [.av (.l7 [j4 j,j4 0,l5 true]),.av (.pin ((F8 f).map .dt)),.av (.dt (.row [G7 f])),.no] [_,_,j5 123 [(.agg ((F8 f).map .dt))] (.dt (.row [G7 f]))] func95 ⟨ht,h,Lb f,Z⟩
theorem VY{ws:List p9.F7}{r:aa0}{n:lw}{f:p9.F7}(hl:(ws.map F8++r).length≤1000)(hf:(ws.find? fun f=>f.nm == n)=some f):j5 95 [.dt (.row (ws.map F8++r)),p8 o9 n] (.l7 [.agg ((G7 f).map .dt),l5 true]):=by
 obtain⟨j,hj,h⟩:=a8g (r:=r) hl ws 0 rfl hf;have ht:=h.I8;refine b07 (j:=j) ?_ (oh hj);generalize ws.map F8++r=es at *;exact pW [] [.inv [0,3,7] 1 (.ret) (OH n j)] [_] func122 ⟨ht,Z⟩
theorem b3H{es:aa0}{n:lw}{f:p9.F7}(h1:j5 94 [p8 o9 n] (.l7 [j4 0,l5 false]))(h2:j5 95 [.dt (.row es),p8 o9 n] (.l7 [.agg ((G7 f).map .dt),l5 true])):j5 93 [.dt (.row es),p8 o9 n] (.l7 [j4 f.ps.length,l5 true]) :=
 pV [.av (.l7 [j4 0,l5 false]),.av (.l7 [.agg ((G7 f).map .dt),l5 true]),.av (j4 f.ps.length)] [_,_,(vi ↑f.ps.length)=(vi (↑(List.map H5 f.ps).length))] func93 ⟨h1,h2,Nb _,Z⟩
theorem b08{es:aa0}{n:lw}{k:Nat}(h1:j5 94 [p8 o9 n] (.l7 [j4 k,l5 true])):j5 93 [.dt (.row es),p8 o9 n] (.l7 [j4 k,l5 true]) :=
 pV [.av (.l7 [j4 k,l5 true])] [_] func93 ⟨h1,Z⟩
def fI(ws:List p9.F7)(n:lw):Option Nat:=match p9.nY I5 n with
 |some k=>some k
 |none=>(ws.find? fun f=>f.nm == n).map (·.ps.length)
theorem Lc{ws:List p9.F7}{r:aa0}{n:lw}{k:Nat}(hl:(ws.map F8++r).length≤1000)(h:fI ws n=some k):j5 93 [.dt (.row (ws.map F8++r)),p8 o9 n] (.l7 [j4 (k:Int),l5 true]):=by
 unfold fI p9.nY at h;split at h
 ·rename_i k' hp;cases h;rw[ZaH]at hp;obtain⟨x,hx,rfl⟩:=hp;have e:=List.find?_some hx;have hm:=List.mem_of_find?_eq_some hx;obtain⟨i,hi⟩:=List.mem_iff_getElem?.1 hm;obtain⟨s,a⟩:=x;have e:s=n:=by simpa using e
  subst e;exact b08 (VU hi)
 ·rename_i hp;rw[ZaH]at h;obtain⟨f,hf,rfl⟩:=h;rw[Option.map_eq_none_iff,List.find?_eq_none]at hp;exact b3H (VX fun x hx e=>hp x hx (by simp[e])) (VY hl hf)
abbrev Ay:AV:=.agg [stA [],stA [],.nil,l5 false,j4 0,stA [],stA [],j4 0,stA [],stA [],stA [],stA [],stA [],.nil,.nil]
theorem aV.pure{P:Program}{G:World→Prop}{f:FuncId}{args:List AV}{r:AV}(hG:∀w w',G w→Below w.heap.size w w'→G w')(h:aV P G f args [] r [])(hr:r.fG=true):sF P G f args r :=
 ⟨h.1,fun ok w vs hw ha=>by
  refine (h.2 (fun _=>False) (M0 fun b=>ok b∧b < w.heap.size) w vs (fun w' hb=>hG w w' hw hb.below) ?_ (RL.vI (fun b hb hl=>⟨hb,hl⟩) ha)).mono ?_
  ·have kX:∀b x,lk [] b≠some x:=fun b x h=>by simp[lk]at h
   exact⟨fun b x h=>absurd h (kX b x),fun b x _ h=>absurd h (kX b x),fun b _ x _ _ h=>absurd h (kX b x),(fun b g h=>by cases h),(fun b v h=>by cases h),fun b hb=>hb.2⟩
  ·rintro e w' ⟨v,M',h1,h2,_,_,h5⟩;exact⟨v,h1,h2.below.below,RV.fG _ _ hr h5⟩⟩
abbrev mcX(p n:lw):List (Option Bx):=[some (.cells [stA p,stA n]),some (.cells [stA [],stA [],.nil,l5 false,j4 0,stA [],stA [],j4 0,stA [],stA [],stA [],stA [],stA [],.nil,.nil])]
abbrev uK(es:aa0)(p n:lw)(i:Int):AS:=⟨stt 35 [(0,.dt (.row es)),(3,.ptr 0 0),(4,.ptr 1 0),(6,j4 i)],mcX p n⟩
noncomputable abbrev OI:Code:=M6 (O4 f137) [1,0,1,0,0]
theorem b6m{es:aa0}{p n:lw}{i:Nat}{f:p9.F7}(h:z8 es (i:Int) 32 (F8 f))(hi:i < es.length)(hl:es.length≤1000):y7 EX OI (uK es p n i) .F6 (uK es p n ((i+1:Nat):Int)) :=
 tW [.av (j4 es.length),yT,.av (.pin ((F8 f).map .dt)),.no,.av (j4 ((i+1:Nat):Int))] [] [0,3,4,6] 2 [(vi ↑es.length)=(vi ↑es.length),Bt .lss 3 7 9 ↑i ↑es.length bT,z8 es ↑i 32 (F8 f),Bk .add 3 11 1 ↑i (vi (↑(i+1)))]     ⟨rfl,D8 (Pi J),h,H6 J J J,Z⟩
theorem b6n{es:aa0}{p n:lw}{i:Nat}(hi:i=es.length):y7 EX OI (uK es p n i) (.out 0) (uK es p n i) :=
 tW [.av (j4 es.length),yF] [] [0,3,4,6] 2 [(vi ↑es.length)=(vi ↑es.length),Bt .lss 3 7 9 ↑i ↑es.length bF]     ⟨rfl,D8 (WF J),Z⟩
theorem a8h{ws:List p9.F7}{p n:lw}(hl:(ws.map F8).length≤1000):∀(s:List p9.F7) (i:Nat),ws.drop i=s→i≤ws.length→I7 EX OI (uK (ws.map F8) p n i) (.out 0) (uK (ws.map F8) p n ws.length):=by
 intro s
 induction s with
 |nil =>
  intro i hd hi;have e1:=congrArg List.length hd;rw[ut,List.length_nil]at e1;obtain rfl:i=ws.length:=J;exact .stop (b6n (by rw[Cc])) (fun h=>by cases h)
 |cons x s ih =>
  intro i hd hi;have hx:ws[i]?=some x:=by rw[←Za1,hd];rfl
  have hlt:=(UV.1 hx).1;have h:=oh (r:=[]) hx;rw[ZaB]at h;exact .more (b6m h (by rw[Cc];exact hlt) hl) (ih (i+1) (by rw[←Za0,hd];rfl) J)
theorem Ux{ws:List p9.F7}{p n:lw}(hl:(ws.map F8).length≤1000):j5 137 [.dt (.row (ws.map F8)),p8 p n] (.l7 [Ay,l5 false]):=by
 refine aV.pure (fun w w' h hb=>h.below hb) ?_ rfl;have ht:=(a8h (p:=p) (n:=n) hl ws 0 rfl (Ci _)).I8;generalize ws.map F8=es at *;generalize ((ws.length:Nat):Int)=k at *;exact sW 0 [] [] [.inv [0,3,4,6] 2 (.out 0) (uK es p n k)] [_] func137 ⟨ht,Z⟩
abbrev bQ(es ex:aa0)(m:Int):List (Option Bx):=[some (.cells [.own 1 es.length,.dt (.row ex),j4 m]),some (.buf 84 32 es)]
theorem a8i{es ex:aa0}{m:Int}(h0:1≤m)(h1:m≤500):D6 136 [.ptr 0 0] (bQ es ex m) (l5 true) (bQ es ex (m - 1)) :=
 sW 2 [0,1] [.av (j4 (m - 1)),yT] [] [Bk .sub 3 6 1 m (vi (m - 1)),Bk .geq 3 13 0 (m - 1) bT] func136 ⟨bL rfl J J,U0 (Pi J),Z⟩
theorem b09{es:aa0}{n:lw}{m:Int}{f:p9.F7}(h:f.nm=n):j5 140 [.pin [.dt (.row es),.dt (.row [G7 f]),j4 m],p8 o9 n] (.l7 [j4 f.ps.length,l5 true]) :=
 pW [.no,.no,.no,yT,.no,.av (j4 f.ps.length)] [.run 1] [Bn .eql 42 (.tmp 23) (.tmp 24) (Value.agg #[str o9,str f.nm]) (Value.agg #[str o9,str n]) bT,(vi ↑f.ps.length)=(vi (↑(List.map H5 f.ps).length))] func140 ⟨ae (by rw[Pi h];rfl),Nb _,Z⟩
theorem b1a{es:aa0}{n:lw}{m k:Int}{f:p9.F7}(h:f.nm≠n)(ha:j5 93 [.dt (.row es),p8 o9 n] (.l7 [j4 k,l5 true])):j5 140 [.pin [.dt (.row es),.dt (.row [G7 f]),j4 m],p8 o9 n] (.l7 [j4 k,l5 true]) :=
 pW [.no,.no,.no,yF,.no,.no,.no,.av (.l7 [j4 k,l5 true])] [.run 2] [Bn .eql 42 (.tmp 23) (.tmp 24) (Value.agg #[str o9,str f.nm]) (Value.agg #[str o9,str n]) bF,_] func140 ⟨ae (by rw[WF h];rfl),ha,Z⟩
theorem a8j{ws:List p9.F7}{n:lw}{m:Int}{f:p9.F7}{k:Nat}(hl:(ws.map F8).length≤1000)(h:p9.arity I5 ws f.nm f.ps n=some k):j5 140 [.pin [.dt (.row (ws.map F8)),.dt (.row [G7 f]),j4 m],p8 o9 n] (.l7 [j4 (k:Int),l5 true]):=by
 unfold p9.arity at h;split at h
 ·rename_i e;cases h;exact b09 e
 ·rename_i e;have ha:=Lc (ws:=ws) (r:=[]) (n:=n) (k:=k) (by rw[ZaB];exact hl) h;rw[ZaB]at ha;exact b1a e ha
end Go.Proofs.YtbpmpdadppamgaaGreatDoor
namespace Go.Proofs.YtbpmpdadppamgaaGreatDoor
open Go.Proofs.Tryz
open Go.RowKit
open Te
abbrev wB(es:aa0):Option Bx:=some (.buf 84 32 es)
theorem a5o{es os rs:aa0}{n:lw}{form o:Ob}(h1:j5 68 [o7 form] (.l7 [.dt (.row os),l5 true]))(n0:os.length≠0)(h0:z8 os 0 7 (A9 (N8 n)))(hs:bV os 7 1 (os.length:Int) rs)(hb:j5 138 [p8 o9 n] (l5 true))(he:j5 fJ [stA n,.dt (.row rs)] (.l7 [o7 o,l5 true])):D6 139 [.own 0 es.length,o7 form] [wB es] (.l7 [o7 o,l5 true,j4 0]) [wB es] :=
 sW 1 [0] [.av (.l7 [.dt (.row os),l5 true]),.av (j4 os.length),yF,.av (.pin ((A9 (N8 n)).map .dt)),.no,.av (.pin ((A9 (N8 n)).map .dt)),.av (.dt (.row rs)),yT,.av (.l7 [o7 o,l5 true])] [] [_,(vi ↑os.length)=(vi ↑os.length),Bk .eql 3 28 0 ↑os.length bF,_,_,_,(none:Option Int)=none∨(none:Option Int)=none,_,_] func139 ⟨h1,rfl,C9 (WF J),h0,h0,hs,.inl rfl,hb,he,Z⟩
theorem b1b(p n:lw):j5 26 [p8 p n] (o6 ⟨1,p,n,Q9,[]⟩):=pV [] [] func26 trivial
theorem a2b(p n:lw):j5 116 [.dt (.row []),p8 p n] (.l7 [o6 F4,l5 false]):=pW [.no,.no] [.run 1] [] func116 trivial
abbrev oP:FuncId:=113
theorem b3I{es ex:aa0}{m:Int}{o:Ob}{t:Te}(hk:o.kind=1)(hc:j5 51 [o7 o] (o6 t)):D6 oP [.ptr 0 0,o7 o,.dt (.row [])] (bQ es ex m) (.l7 [o6 t,j4 0]) (bQ es ex m) :=
 sW 2 [0,1] [yT,.av (o6 t)] [] [Bk .eql 3 29 1 o.kind bT,_] func113 ⟨C9 (U5 hk),hc,Z⟩
theorem b3J{es ex:aa0}{m:Int}{o:Ob}{t:Te}(hk:o.kind=2)(hv:j5 133 [p8 o.sp o.sn] (l5 false))(hc:j5 51 [o7 o] (o6 t)):D6 oP [.ptr 0 0,o7 o,.dt (.row [])] (bQ es ex m) (.l7 [o6 t,j4 0]) (bQ es ex m) :=
 sW 2 [0,1] [yF,yF,yT,yF,.av (o6 t)] [] [Bk .eql 3 29 1 o.kind bF,Bk .eql 3 29 3 o.kind bF,Bk .eql 3 29 2 o.kind bT,_,_] func113 ⟨C9 (M8 J),C9 (M8 J),C9 (U5 hk),hv,hc,Z⟩
theorem b3K{es ex:aa0}{m:Int}{o:Ob}{t:Te}(hk:o.kind=2)(hv:j5 133 [p8 o.sp o.sn] (l5 true))(ha:j5 116 [.dt (.row []),p8 o.sp o.sn] (.l7 [o6 F4,l5 false]))(hc:j5 26 [p8 o.sp o.sn] (o6 t)):D6 oP [.ptr 0 0,o7 o,.dt (.row [])] (bQ es ex m) (.l7 [o6 t,j4 0]) (bQ es ex m) :=
 sW 2 [0,1] [yF,yF,yT,yT,.av (.l7 [o6 F4,l5 false]),.av (o6 t)] [] [Bk .eql 3 29 1 o.kind bF,Bk .eql 3 29 3 o.kind bF,Bk .eql 3 29 2 o.kind bT,_,_,_] func113 ⟨C9 (M8 J),C9 (M8 J),C9 (U5 hk),hv,ha,hc,Z⟩
theorem b3L{es ex os rs:aa0}{m m':Int}{n:lw}{form o:Ob}{t:Te}(hk:form.kind=4)(h1:j5 68 [o7 form] (.l7 [.dt (.row os),l5 true]))(n0:os.length≠0)(h0:z8 os 0 7 (A9 (N8 n)))(hs:bV os 7 1 (os.length:Int) rs)
  (hq:n ∉ p9.yS) (hm:j5 137 [.dt (.row es),p8 o9 n] (.l7 [Ay,l5 false])) (hb:j5 138 [p8 o9 n] (l5 true)) (hsp:D6 136 [.ptr 0 0] (bQ es ex m) (l5 true) (bQ es ex (m - 1))) (he:D6 139 [.own 0 es.length,o7 form] [wB es] (.l7 [o7 o,l5 true,j4 0]) [wB es]) (ht:D6 oP [.ptr 0 0,o7 o,.dt (.row [])] (bQ es ex (m - 1)) (.l7 [o6 t,j4 0]) (bQ es ex m')):D6 oP [.ptr 0 0,o7 form,.dt (.row [])] (bQ es ex m) (.l7 [o6 t,j4 0]) (bQ es ex m'):=by
 have ne:∀x∈p9.yS,(decide (o9=o9) && decide (n=x))=false:=fun x hx=>by
  rw[WF (fun e:n=x=>hq (e.symm ▸ hx)),Bool.and_false]
 exact sW 2 [0,1] [yF,yF,yF,.av (.l7 [.dt (.row os),l5 true]),.av (j4 os.length),yF,.av (.pin ((A9 (N8 n)).map .dt)),.no,.av (.pin ((A9 (N8 n)).map .dt)),.av (.dt (.row rs)),.av (p8 o9 [113,117,111,116,101]),yF,.av (p8 o9 [108,101,116]),yF,.av (p8 o9 [108,101,116,42]),yF,.av (.l7 [Ay,l5 false]),yT,.no] [.J5 33 1 [0,1] (l5 true) [some (.cells [.own 1 es.length,.dt (.row ex),j4 (m - 1)]),some (.buf 84 32 es)],.J5 35 5 [1] (.l7 [o7 o,l5 true,j4 0]) [some (.buf 84 32 es)],.J5 38 3 [0,1] (.l7 [o6 t,j4 0]) [some (.cells [.own 1 es.length,.dt (.row ex),j4 m']),some (.buf 84 32 es)]] [Bk .eql 3 29 1 form.kind bF,Bk .eql 3 29 3 form.kind bF,Bk .eql 3 29 2 form.kind bF,j5 68 [(o7 form)] (.l7 [(.dt (.row os)),(l5 true)]),(vi ↑os.length)=(vi ↑os.length),Bk .eql 3 64 0 ↑os.length bF,z8 os 0 7 (A9 (N8 n)),z8 os 0 7 (A9 (N8 n)),bV os 7 ((some 1).getD 0) (none.getD ↑os.length) rs,(none:Option Int)=none∨(none:Option Int)=none,j5 34 [(stA [113,117,111,116,101])] (p8 o9 [113,117,111,116,101]),Bn .eql 42 (.tmp 81) (.tmp 83) (Value.agg #[str (N8 n).sp,str (N8 n).sn]) (Value.agg #[str o9,str [113,117,111,116,101]]) bF,j5 34 [(stA [108,101,116])] (p8 o9 [108,101,116]),Bn .eql 42 (.tmp 81) (.tmp 94) (Value.agg #[str (N8 n).sp,str (N8 n).sn]) (Value.agg #[str o9,str [108,101,116]]) bF,j5 34 [(stA [108,101,116,42])] (p8 o9 [108,101,116,42]),Bn .eql 42 (.tmp 81) (.tmp 103) (Value.agg #[str (N8 n).sp,str (N8 n).sn]) (Value.agg #[str o9,str [108,101,116,42]]) bF,j5 137 [(.dt (.row es)),(p8 (N8 n).sp (N8 n).sn)] (.l7 [(.agg [(stA []),(stA []),.nil,(l5 false),(j4 0),(stA []),(stA []),(j4 0),(stA []),(stA []),(stA []),(stA []),(stA []),.nil,.nil]),(l5 false)]),(es.length)=(es.length),j5 138 [(p8 (N8 n).sp (N8 n).sn)] (l5 true),D6 136 [AV.ptr 0 0] [some (Bx.cells [AV.own 1 es.length,AV.dt (Dt.row ex),AV.dt (Dt.val (vi m))]),some (Bx.buf 84 32 es)] (l5 true) [some (Bx.cells [AV.own 1 es.length,AV.dt (Dt.row ex),j4 (m - 1)]),some (Bx.buf 84 32 es)],D6 139 [AV.own 0 es.length,AV.agg [AV.dt (Dt.val (vi form.kind)),AV.dt (Dt.val (str form.num)),AV.dt (Dt.val (str form.den)),AV.dt (Dt.val (str form.sp)),AV.dt (Dt.val (str form.sn)),AV.dt (Dt.val (str form.text)),AV.dt (Dt.row (List.map Ob.enc form.pair))]] [some (Bx.buf 84 32 es)] (AV.l7 [o7 o,l5 true,j4 0]) [some (Bx.buf 84 32 es)],D6 113 [AV.ptr 0 0,AV.agg [AV.dt (Dt.val (vi o.kind)),AV.dt (Dt.val (str o.num)),AV.dt (Dt.val (str o.den)),AV.dt (Dt.val (str o.sp)),AV.dt (Dt.val (str o.sn)),AV.dt (Dt.val (str o.text)),AV.dt (Dt.row (List.map Ob.enc o.pair))],AV.dt (Dt.row [])] [some (Bx.cells [AV.own 1 es.length,AV.dt (Dt.row ex),AV.dt (Dt.val (vi (m - 1)))]),some (Bx.buf 84 32 es)] (AV.l7 [o6 t,j4 0]) [some (Bx.cells [AV.own 1 es.length,AV.dt (Dt.row ex),j4 m']),some (Bx.buf 84 32 es)]] func113     ⟨C9 (M8 J),C9 (M8 J),C9 (M8 J),h1,rfl,C9 (WF J),h0,h0,hs,.inl rfl,Q8 _,ae (ne _ O),Q8 _,ae (ne _ O),Q8 _,ae (ne _ O),hm,rfl,hb,hsp,he,ht,Z⟩
abbrev trC(form:Ob)(n:lw):List (Option Bx):=[some (.cells ((A9 form).map .dt)),some (.cells [j4 0,stA [],stA [],j4 0,stA [],stA [],stA [],stA [],stA [],.nil,.nil]),some (.cells [stA o9,stA n]),some (.cells [stA [],stA [],.nil,l5 false,j4 0,stA [],stA [],j4 0,stA [],stA [],stA [],stA [],stA [],.nil,.nil])]
abbrev mQ(es ex:aa0)(m:Int)(form:Ob)(n:lw)(os ts:aa0)(i:Int):AS:=⟨stt 214 [(0,.ptr 0 0),(2,.dt (.row [])),(4,.ptr 2 0),(6,.ptr 3 0),(12,.ptr 4 0),(13,.dt (.row os)),(23,.own 6 ts.length),(24,j4 i)],bQ es ex m++(trC form n++[some (.buf 47 11 ts)])⟩
abbrev OJ(es ex:aa0)(m:Int)(form:Ob)(n:lw)(os:aa0):AS:=⟨stt 214 [(0,.ptr 0 0),(2,.dt (.row [])),(4,.ptr 2 0),(6,.ptr 3 0),(12,.ptr 4 0),(13,.dt (.row os)),(23,.nil),(24,j4 0)],bQ es ex m++trC form n⟩
noncomputable abbrev BO:Code:=M6 (O4 f113) [1,1,1,1,1,1,1,1,0,1,0,0]
theorem b6o{es ex os ts:aa0}{m m':Int}{form o:Ob}{n:lw}{i:Nat}{t:Te}(hi:i < os.length)(hl:os.length≤1000)(he:ts.length≤1000)(hx:z8 os (i:Int) 7 (A9 o))(ht:D6 oP [.ptr 0 0,o7 o,.dt (.row [])] (bQ es ex m) (.l7 [o6 t,j4 0]) (bQ es ex m')):y7 (J3 2) BO (mQ es ex m form n os ts i) .F6 (mQ es ex m' form n os (ts++[o8 t]) ((i+1:Nat):Int)) :=
 tW [.av (j4 os.length),yT,.av (.pin ((A9 o).map .dt)),.no,.av (.un),.av (j4 ((i+1:Nat):Int))] [.J5 43 6 [0,1] (.l7 [o6 t,j4 0]) [some (.cells [.own 1 es.length,.dt (.row ex),j4 m']),some (.buf 84 32 es)]] [0,2,4,6,12,13,23,24] 7 [(vi ↑os.length)=(vi ↑os.length),Bt .lss 3 173 175 ↑i ↑os.length bT,z8 os ↑i 7 (A9 o),D6 113 [AV.ptr 0 0,AV.agg [AV.dt (Dt.val (vi o.kind)),AV.dt (Dt.val (str o.num)),AV.dt (Dt.val (str o.den)),AV.dt (Dt.val (str o.sp)),AV.dt (Dt.val (str o.sn)),AV.dt (Dt.val (str o.text)),AV.dt (Dt.row (List.map Ob.enc o.pair))],AV.dt (Dt.row [])] [some (Bx.cells [AV.own 1 es.length,AV.dt (Dt.row ex),AV.dt (Dt.val (vi m))]),some (Bx.buf 84 32 es)] (AV.l7 [o6 t,j4 0]) [some (Bx.cells [AV.own 1 es.length,AV.dt (Dt.row ex),j4 m']),some (Bx.buf 84 32 es)],(ts.length)=(ts.length),P7 176 ((ts++[o8 t]).length),L8 11 [o8 t],Bk .add 3 177 1 ↑i (vi (↑(i+1)))]     ⟨rfl,D8 (Pi J),hx,ht,rfl,bE J (by simp;omega),nC t,H6 J J J,Z⟩
theorem b6p{es ex os ts:aa0}{m:Int}{form:Ob}{n:lw}{i:Nat}(hi:i=os.length):y7 (J3 2) BO (mQ es ex m form n os ts i) (.out 2) (mQ es ex m form n os ts i) :=
 tW [.av (j4 os.length),yF] [] [0,2,4,6,12,13,23,24] 7 [(vi ↑os.length)=(vi ↑os.length),Bt .lss 3 173 175 ↑i ↑os.length bF]     ⟨rfl,D8 (WF J),Z⟩
theorem b3M{es ex os rs ts:aa0}{m m' k:Int}{n:lw}{form:Ob}{t:Te}(hk:form.kind=4)(h1:j5 68 [o7 form] (.l7 [.dt (.row os),l5 true]))(n0:os.length≠0)(h0:z8 os 0 7 (A9 (N8 n)))(hs:bV os 7 1 (os.length:Int) rs)
  (hq:n ∉ p9.yS) (hm:j5 137 [.dt (.row es),p8 o9 n] (.l7 [Ay,l5 false])) (hb:j5 138 [p8 o9 n] (l5 false)) (hlp:y7 (J3 2) (.loop BO) (OJ es ex m form n rs) (.out 2) (mQ es ex m' form n rs ts k)) (ha:j5 140 [.pin [.dt (.row es),.dt (.row ex),j4 m'],p8 o9 n] (.l7 [j4 ts.length,l5 true])) (hp:j5 58 [p8 o9 n,.dt (.row ts)] (o6 t)):D6 oP [.ptr 0 0,o7 form,.dt (.row [])] (bQ es ex m) (.l7 [o6 t,j4 0]) (bQ es ex m'):=by
 have ne:∀x∈p9.yS,(decide (o9=o9) && decide (n=x))=false:=fun x hx=>by
  rw[WF (fun e:n=x=>hq (e.symm ▸ hx)),Bool.and_false]
 exact sW 2 [0,1] [yF,yF,yF,.av (.l7 [.dt (.row os),l5 true]),.av (j4 os.length),yF,.av (.pin ((A9 (N8 n)).map .dt)),.no,.av (.pin ((A9 (N8 n)).map .dt)),.av (.dt (.row rs)),.av (p8 o9 [113,117,111,116,101]),yF,.av (p8 o9 [108,101,116]),yF,.av (p8 o9 [108,101,116,42]),yF,.av (.l7 [Ay,l5 false]),yF,.av (.l7 [j4 ts.length,l5 true]),.av (j4 ts.length),yF,.av (o6 t)] [.inv [0,2,4,6,12,13,23,24] 6 (.out 2) (mQ es ex m' form n rs ts k)] [Bk .eql 3 29 1 form.kind bF,Bk .eql 3 29 3 form.kind bF,Bk .eql 3 29 2 form.kind bF,j5 68 [(o7 form)] (.l7 [(.dt (.row os)),(l5 true)]),(vi ↑os.length)=(vi ↑os.length),Bk .eql 3 64 0 ↑os.length bF,z8 os 0 7 (A9 (N8 n)),z8 os 0 7 (A9 (N8 n)),bV os 7 ((some 1).getD 0) (none.getD ↑os.length) rs,(none:Option Int)=none∨(none:Option Int)=none,j5 34 [(stA [113,117,111,116,101])] (p8 o9 [113,117,111,116,101]),Bn .eql 42 (.tmp 81) (.tmp 83) (Value.agg #[str (N8 n).sp,str (N8 n).sn]) (Value.agg #[str o9,str [113,117,111,116,101]]) bF,j5 34 [(stA [108,101,116])] (p8 o9 [108,101,116]),Bn .eql 42 (.tmp 81) (.tmp 94) (Value.agg #[str (N8 n).sp,str (N8 n).sn]) (Value.agg #[str o9,str [108,101,116]]) bF,j5 34 [(stA [108,101,116,42])] (p8 o9 [108,101,116,42]),Bn .eql 42 (.tmp 81) (.tmp 103) (Value.agg #[str (N8 n).sp,str (N8 n).sn]) (Value.agg #[str o9,str [108,101,116,42]]) bF,j5 137 [(.dt (.row es)),(p8 (N8 n).sp (N8 n).sn)] (.l7 [(.agg [(stA []),(stA []),.nil,(l5 false),(j4 0),(stA []),(stA []),(j4 0),(stA []),(stA []),(stA []),(stA []),(stA []),.nil,.nil]),(l5 false)]),(es.length)=(es.length),j5 138 [(p8 (N8 n).sp (N8 n).sn)] (l5 false),y7 (J3 2) (.loop (M6 (O4 f113) [1,1,1,1,1,1,1,1,0,1,0,0])) (OJ es ex m form n rs) (.out 2) (mQ es ex m' form n rs ts k),j5 140 [(.pin [(.dt (.row es)),(.dt (.row ex)),(j4 m')]),(p8 o9 n)] (.l7 [(j4 ↑ts.length),(l5 true)]),(es.length)=(es.length),(vi ↑ts.length)=(vi ↑ts.length),Bt .neq 3 206 208 ↑ts.length ↑ts.length bF,j5 58 [(p8 o9 n),(.dt (.row ts))] (o6 t),(ts.length)=(ts.length)] func113     ⟨C9 (M8 J),C9 (M8 J),C9 (M8 J),h1,rfl,C9 (WF J),h0,h0,hs,.inl rfl,Q8 _,ae (ne _ O),Q8 _,ae (ne _ O),Q8 _,ae (ne _ O),hm,rfl,hb,hlp,ha,rfl,rfl,E5 (Pi rfl),hp,rfl,Z⟩
theorem b3N{n:lw}{l:List Tr}{o:Tr}(h:p9.expand n l=some o):j5 138 [p8 o9 n] (l5 true):=by
 unfold p9.expand at h;split at h
 ·rename_i e;subst e;exact b3B
 split at h
 ·rename_i e;subst e;exact b06
 split at h
 ·rename_i e;subst e;exact b3C
 split at h
 ·rename_i e;subst e;exact b3D
 split at h
 ·rename_i e;subst e;exact b3E
 split at h
 ·rename_i e;subst e;exact b3F
 ·cases h
theorem Kg{n:Int}(h:n.natAbs < 10 ^ 4):(Tr.num (n:Rat)).Ok 10000:=Tr.Ok.mono (k:=4) O (sw h)
theorem a8k{ws:List p9.F7}{f:p9.F7}(hw:(ws.map F8).length≤1000):∀(fuel:Nat),
  (∀(x:Tr) (m m':Int) (t:Te),p9.oI (p9.arity I5 ws f.nm f.ps) fuel m x=some (t,m')→0≤m→m≤500→(0≤m'∧m'≤m)∧t.Bd∧D6 oP [.ptr 0 0,l9 x,.dt (.row [])] (bQ (ws.map F8) [G7 f] m) (.l7 [o6 t,j4 0]) (bQ (ws.map F8) [G7 f] m')) ∧
  (∀(l:List Tr) (m m':Int) (ts:List Te),p9.xh (p9.arity I5 ws f.nm f.ps) fuel m l=some (ts,m')→0≤m→m≤500→(0≤m'∧m'≤m)∧ts.length=l.length∧(∀t∈ts,t.Bd)∧∀(form:Ob) (n:lw) (os:List Tr) (i:Nat) (us:List Te),os.length≤500→us.length=i→i≤os.length→os.drop i=l →
   I7 (J3 2) BO (mQ (ws.map F8) [G7 f] m form n (F3 os) (K3 us) i) (.out 2) (mQ (ws.map F8) [G7 f] m' form n (F3 os) (K3 (us++ts)) os.length)):=by
 intro fuel
 induction fuel with
 |zero=>exact⟨fun x m m' t h=>by simp[p9.oI]at h,fun l m m' ts h=>by simp[p9.xh]at h⟩
 |succ fuel ih =>
  obtain⟨ih1,ih2⟩:=ih;refine⟨?_,?_⟩
  ·intro x m m' t h h0 h5;cases x with
   |num q =>
    rw[p9.oI]at h;split at h
    ·rename_i hq;cases h;refine⟨⟨h0,Int.le_refl _⟩,?_,b3I rfl (ku _)⟩;have hok:(Tr.num q).Ok 10000:=by
      rcases hq with rfl | rfl | rfl
      ·exact Kg (n:=0) O
      ·exact Kg (n:=1) O
      ·exact Kg (n:=-1) O
     exact .mk _ (hok.wf O) (hok.sm O) (Ci _) (Ci _) (Ci _) (fun x hx=>by cases hx)
    ·cases h
   |txt s=>simp[p9.oI]at h
   |sym p n =>
    rw[p9.oI]at h;split at h
    ·rename_i hl;have hv:=Qg p n J J;split at h
     ·rename_i e;cases h;rw[e]at hv;exact⟨⟨h0,Int.le_refl _⟩,.mk _ ze (.mk _ (Ci _) (Ci _) (fun x hx=>by cases hx)) (by show p.length≤_;omega) (by show n.length≤_;omega) (Ci _) (fun x hx=>by cases hx),b3K rfl hv (a2b _ _) (b1b _ _)⟩
     ·rename_i e;cases h;rw[Za8.2 e]at hv;have hok:(Tr.sym p n).Ok 10000:=⟨J,J⟩;exact⟨⟨h0,Int.le_refl _⟩,.mk _ (hok.wf O) (hok.sm O) (Ci _) (Ci _) (Ci _) (fun x hx=>by cases hx),b3J rfl hv (ku _)⟩
    ·cases h
   |cons a d =>
    rw[p9.oI]at h;split at h
    case h_2=>cases h
    rename_i p n l hi;have hx:=rP hi;split at h
    case isFalse=>cases h
    rename_i hc;obtain⟨rfl,hn,hs,hl⟩:=hc;rw[hx];have hk:(Tr.list (Tr.sym o9 n::l)).ob.kind=4:=rfl;have hlen:(F3 (Tr.sym o9 n::l)).length≠0:=by unfold F3;rw[Cc];simp
    have hit:=vF (l:=Tr.sym o9 n::l) (by rw[yM];omega);split at h
    ·rename_i hm;split at h
     case h_2=>cases h
     rename_i o ho;split at h
     case isFalse=>cases h
     rename_i h1;obtain⟨⟨g1,g2⟩,g3,g4⟩:=ih1 o (m - 1) m' t h J J;have hb:=b3N ho;exact⟨⟨g1,J⟩,g3,b3L hk hit hlen (nM _ _) (nL _ _) hs (Ux hw) hb (a8i h1 h5) (a5o hit hlen (nM _ _) (nL _ _) hb (a5n ho J)) g4⟩
    ·rename_i hm;split at h
     case h_2=>cases h
     rename_i ts m1 hts;split at h
     case isFalse=>cases h
     rename_i har;cases h;obtain⟨⟨g1,g2⟩,g3,g4,g5⟩:=ih2 l m m' ts hts h0 h5;have hlp:=g5 (Tr.list (Tr.sym o9 n::l)).ob n l 0 [] hl rfl (Ci _) rfl;have ht:y7 (J3 2) (.loop BO) (OJ (ws.map F8) [G7 f] m (Tr.list (Tr.sym o9 n::l)).ob n (F3 l)) (.out 2) (mQ (ws.map F8) [G7 f] m' (Tr.list (Tr.sym o9 n::l)).ob n (F3 l) (K3 ts) l.length):=y7.Z9 23 47 11 (by show 23 < 214;omega) rfl hlp.I8;refine⟨⟨g1,g2⟩,.mk _ ze (.mk _ (Ci _) (Ci _) (fun x hx=>by cases hx)) (by show o9.length≤_;decide) (by show n.length≤_;omega) (by show ts.length≤_;omega) g4,b3M hk hit hlen (nM _ _) (nL _ _) hs (Ux hw) (b3G hm) ht ?_ (DV _ _ _)⟩
     have hay:=a8j (m:=m') hw har;unfold K3;rw[Cc];exact hay
  ·intro l m m' ts h h0 h5;cases l with
   |nil =>
    rw[p9.xh]at h;cases h;refine⟨⟨h0,Int.le_refl _⟩,rfl,(fun t ht=>by cases ht),fun form n os i us ho hu hi hd=>?_⟩;have e1:=congrArg List.length hd;rw[ut,List.length_nil]at e1;obtain rfl:i=os.length:=J;rw[ZaB];exact .stop (b6p (by unfold F3;rw[Cc])) (fun h=>by cases h)
   |cons x r =>
    rw[p9.xh]at h;split at h
    case h_2=>cases h
    rename_i t m1 ht;split at h
    case h_2=>cases h
    rename_i ts' m2 hts;cases h;obtain⟨⟨g1,g2⟩,g3,g4⟩:=ih1 x m m1 t ht h0 h5;obtain⟨⟨k1,k2⟩,k3,k4,k5⟩:=ih2 r m1 m' ts' hts g1 J;refine⟨⟨k1,J⟩,by rw[yM,yM,k3],fun y hy=>?_,fun form n os i us ho hu hi hd=>?_⟩
    ·rcases Za3.1 hy with rfl | hy
     ·exact g3
     ·exact k4 y hy
    ·have hx:os[i]?=some x:=by rw[←Za1,hd];rfl
     have hlt:=(UV.1 hx).1;have hix:z8 (F3 os) (i:Int) 7 (A9 x.ob):=⟨Int.natCast_nonneg _,by rw[Int.toNat_natCast];unfold F3;rw[bi,hx];rfl,rfl⟩;have hs:=b6o (form:=form) (n:=n) (ts:=K3 us) (by unfold F3;rw[Cc];exact hlt) (by unfold F3;rw[Cc];omega) (by rw[Cc];omega) hix g4;have e:K3 us++[o8 t]=K3 (us++[t]):=by unfold K3;rw[Zam,gp]
     rw[e]at hs;have hn:=k5 form n os (i+1) (us++[t]) ho (by simp[hu]) hlt (by rw[←Za0,hd];rfl);rw[Zaf,List.singleton_append]at hn;exact .more hs hn
theorem a5p{es ex:aa0}{m':Int}{form:Ob}{t:Te}(h:D6 oP [.ptr 0 0,o7 form,.dt (.row [])] (bQ es ex 500) (.l7 [o6 t,j4 0]) (bQ es ex m'))(hv:j5 114 [o6 t] (l5 true)):D6 69 [.own 0 es.length,.dt (.row ex),o7 form] [wB es] (.l7 [o6 t,j4 0]) [wB es] :=
 sW 1 [0] [.no,yT] [.J5 2 2 [3,0] (.l7 [o6 t,j4 0]) [some (.cells [.own 1 es.length,.dt (.row ex),j4 m']),some (.buf 84 32 es)]] [_,_] func69 ⟨h,hv,Z⟩
theorem a5q{ws:List p9.F7}{f:p9.F7}(hw:ws.length≤1000){x:Tr}{t:Te}(h:p9.Bv (p9.arity I5 ws f.nm f.ps) x=some t):D6 69 [.own 0 (ws.map F8).length,.dt (.row [G7 f]),l9 x] [wB (ws.map F8)] (.l7 [o6 t,j4 0]) [wB (ws.map F8)]:=by
 unfold p9.Bv at h;split at h
 case h_2=>cases h
 rename_i t' m' ht;split at h
 case isFalse=>cases h
 rename_i hv;cases h;obtain⟨_,hb,hs⟩:=(a8k (by rw[Cc];exact hw) 100).1 x 500 m' t ht O O;have h8:=a3v hb;rw[hv]at h8;exact a5p hs h8
abbrev oQ(os:aa0)(nm:lw)(i:Int):AS:=⟨stt 43 [(0,.dt (.row os)),(1,stA nm),(4,.ptr 0 0),(6,j4 i)],[some (.cells [j4 0,stA [],stA [],stA [],stA [],stA [],.nil])]⟩
abbrev OL(b:Ob):AS:=⟨stt 43 [(4,.ptr 0 0),(5,l5 true)],[some (.cells ((A9 b).map .dt))]⟩
noncomputable abbrev BP:Code:=M6 (O4 f70) [1,0,1,0,0]
theorem b6q{os:aa0}{nm p n:lw}{i:Nat}{x b:Ob}(hi:i+1 < os.length)(hl:os.length≤1000)(hx:z8 os (i:Int) 7 (A9 x))(h:j5 68 [o7 x] (.l7 [.dt (.row [A9 (Tr.sym p n).ob,A9 b]),l5 true]))(hn:(decide (p=o9) && decide (n=nm))=false):y7 EX BP (oQ os nm i) .F6 (oQ os nm ((i+1:Nat):Int)) :=
 tW [.av (j4 ((i+1:Nat):Int)),.av (j4 os.length),yT,.av (.pin ((A9 x).map .dt)),.av (.l7 [.dt (.row [A9 (Tr.sym p n).ob,A9 b]),l5 true]),.no,.no,.no,.av (p8 o9 nm),yF,.av (j4 ((i+1:Nat):Int))] [] [0,1,4,6] 1 [Bk .add 3 9 1 ↑i (vi (↑(i+1))),(vi ↑os.length)=(vi ↑os.length),Bt .lss 3 10 12 (↑(i+1)) ↑os.length bT,_,_,j5 34 [(stA nm)] (p8 o9 nm),Bn .eql 42 (.tmp 34) (.tmp 36) (Value.agg #[str (Tr.sym p n).ob.sp,str (Tr.sym p n).ob.sn]) (Value.agg #[str o9,str nm]) bF,Bk .add 3 14 1 ↑i (vi (↑(i+1)))] ⟨H6 J J J,rfl,D8 (Pi J),hx,h,Q8 _,ae hn,H6 J J J,Z⟩
theorem b6r{os:aa0}{nm p n:lw}{i:Nat}{x b:Ob}(hi:i+1 < os.length)(hl:os.length≤1000)(hx:z8 os (i:Int) 7 (A9 x))(h:j5 68 [o7 x] (.l7 [.dt (.row [A9 (Tr.sym p n).ob,A9 b]),l5 true]))(hn:(decide (p=o9) && decide (n=nm))=true):y7 EX BP (oQ os nm i) .ret (OL b) :=
 tW [.av (j4 ((i+1:Nat):Int)),.av (j4 os.length),yT,.av (.pin ((A9 x).map .dt)),.av (.l7 [.dt (.row [A9 (Tr.sym p n).ob,A9 b]),l5 true]),.no,.no,.no,.av (p8 o9 nm),yT] [] [4,5] 1 [Bk .add 3 9 1 ↑i (vi (↑(i+1))),(vi ↑os.length)=(vi ↑os.length),Bt .lss 3 10 12 (↑(i+1)) ↑os.length bT,_,_,j5 34 [(stA nm)] (p8 o9 nm),Bn .eql 42 (.tmp 34) (.tmp 36) (Value.agg #[str (Tr.sym p n).ob.sp,str (Tr.sym p n).ob.sn]) (Value.agg #[str o9,str nm]) bT] ⟨H6 J J J,rfl,D8 (Pi J),hx,h,Q8 _,ae hn,Z⟩
theorem YX{os:aa0}{nm:lw}{i:Nat}(hi:¬i+1 < os.length)(hl:i≤1000):y7 EX BP (oQ os nm i) (.out 0) (oQ os nm i) :=
 tW [.av (j4 ((i+1:Nat):Int)),.av (j4 os.length),yF] [] [0,1,4,6] 1 [Bk .add 3 9 1 ↑i (vi (↑(i+1))),(vi ↑os.length)=(vi ↑os.length),Bt .lss 3 10 12 (↑(i+1)) ↑os.length bF] ⟨H6 J J J,rfl,D8 (WF J),Z⟩
theorem Uy{os:List Tr}{nm:lw}(hl:os.length≤1000):∀(s:List Tr) (i:Nat),os.drop i=s→i≤os.length→∀res,p9.option nm s=some res→(∀b:Tr,res=some b→I7 EX BP (oQ (F3 os) nm i) .ret (OL b.ob))∧(res=none→∃j:Nat,I7 EX BP (oQ (F3 os) nm i) (.out 0) (oQ (F3 os) nm j)):=by
 have hlo:(F3 os).length=os.length:=by unfold F3;rw[Cc]
 intro s
 induction s with
 |nil =>
  intro i hd hi res h;cases h;have e1:=congrArg List.length hd;rw[ut,List.length_nil]at e1;exact⟨(fun b e=>by cases e),fun _=>⟨i,.stop (YX J J) (fun h=>by cases h)⟩⟩
 |cons x s ih =>
  intro i hd hi res h;have e1:=congrArg List.length hd;rw[ut,yM]at e1;cases s with
  |nil =>
   cases h;rw[List.length_nil]at e1;exact⟨(fun b e=>by cases e),fun _=>⟨i,.stop (YX J J) (fun h=>by cases h)⟩⟩
  |cons y r =>
   rw[yM]at e1;have hx:os[i]?=some x:=by rw[←Za1,hd];rfl
   have hix:z8 (F3 os) (i:Int) 7 (A9 x.ob):=⟨Int.natCast_nonneg _,by rw[Int.toNat_natCast];unfold F3;rw[bi,hx];rfl,rfl⟩;rw[p9.option]at h;split at h
   case h_2=>cases h
   rename_i p n b hit;have hxe:=rP hit;have hI:=vF (l:=[Tr.sym p n,b]) (by show 2≤10000;decide);rw[←hxe]at hI;split at h
   ·rename_i c;cases h;refine⟨fun b' e=>?_,fun e=>by cases e⟩;cases e;exact .stop (b6r J J hix hI (by simp[c.1,c.2])) (fun h=>by cases h)
   ·rename_i c;obtain⟨k1,k2⟩:=ih (i+1) (by rw[←Za0,hd];rfl) J res h;have hs:=b6q (nm:=nm) (b:=b.ob) J J hix hI (by
     by_cases a1:p=o9
     ·have:n≠nm:=fun a2=>c ⟨a1,a2⟩
      simp[this]
     ·simp[a1])
    exact⟨fun b' e=>.more hs (k1 b' e),fun e=>by
     obtain⟨j,k3⟩:=k2 e;exact⟨j,.more hs k3⟩⟩
theorem IM{os:List Tr}{nm:lw}{b:Tr}(hl:os.length≤1000)(h3:3≤os.length)(h:p9.option nm (os.drop 3)=some (some b)):j5 70 [K5 os,stA nm] (.l7 [l9 b,l5 true]):=by
 have ht:=((Uy hl _ 3 rfl h3 _ h).1 b rfl).I8;generalize F3 os=rs at *;exact pW [] [.inv [0,1,4,6] 1 (.ret) (OL b.ob)] [_] func70 ⟨ht,Z⟩
theorem IP{os:List Tr}{nm:lw}(hl:os.length≤1000)(h3:3≤os.length)(h:p9.option nm (os.drop 3)=some none):j5 70 [K5 os,stA nm] (.l7 [o7 Q9,l5 false]):=by
 obtain⟨j,hj⟩:=(Uy hl _ 3 rfl h3 _ h).2 rfl;have ht:=hj.I8;generalize F3 os=rs at *;exact pW [] [.inv [0,1,4,6] 1 (.out 0) (oQ rs nm j)] [_] func70 ⟨ht,Z⟩
end Go.Proofs.YtbpmpdadppamgaaGreatDoor
