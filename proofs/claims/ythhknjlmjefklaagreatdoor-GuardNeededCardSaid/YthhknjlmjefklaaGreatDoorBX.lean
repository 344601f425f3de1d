/- GuardNeeded: the law. -/
import Derived.Test.YthhknjlmjefklaaGreatDoorBW
import Derived.Test.YthhknjlmjefklaaGreatDoorBM
namespace Go.Proofs.YthhknjlmjefklaaGreatDoor
open Go.Proofs.Tryz
open Go.RowKit
open Te
abbrev vY:FuncId:=4
theorem b7c{r g:Raw}{l:List Raw}(h1:l7 5 [] (o6 true))(h2:l7 18 [J3 r,inA 12] (o6 false)):l7 vY [J3 r,J3 g,lC l] (o6 true) :=
 pV [yT,yF] [_,_] func4 ⟨h1,h2,Z⟩
theorem b7d{r g:Raw}{l:List Raw}(h1:l7 5 [] (o6 true))(h2:l7 18 [J3 r,inA 12] (o6 true))(h3:l7 18 [J3 g,inA 6] (o6 false)):l7 vY [J3 r,J3 g,lC l] (o6 true) :=
 pV [yT,yT,yF] [_,_,_] func4 ⟨h1,h2,h3,Z⟩
theorem b7e{r g:Raw}{l:List Raw}(h1:l7 5 [] (o6 true))(h2:l7 18 [J3 r,inA 12] (o6 true))(h3:l7 18 [J3 g,inA 6] (o6 true))(h4:l7 6 [lC l,inA 8] (o6 false)):l7 vY [J3 r,J3 g,lC l] (o6 true) :=
 pV [yT,yT,yT,yF] [_,_,_,_] func4 ⟨h1,h2,h3,h4,Z⟩
structure GN (r g:Raw) (l:List Raw) (ws er:aa1) (x y:Tr) (tg tb:Te) (o o2:Ob) (n n2 e e2:Int):Prop where
 f:l7 5 [] (o6 true)
 a1:l7 18 [J3 r,inA 12] (o6 true)
 a2:l7 18 [J3 g,inA 6] (o6 true)
 a3:l7 6 [lC l,inA 8] (o6 true)
 w:zy prog Gx 7 [] 70 32 ws
 v:l7 19 [inA 2] (fA jQ)
 u:l7 20 [stA fB] (y7 G6 fB)
 MB:l7 21 [.dt (.row []),fA jQ,J3 g] (y9 tg)
 MC:l7 21 [.dt (.row []),fA jQ,J3 r] (y9 tb)
 wl:ws.length≤1000
 src:S9 32 [Z4 (P7 tg tb)]
 en:l7 22 [lC l] (.dt (.row (Q8 ((G6,[120]),x)::Q8 ((G6,[121]),y)::er)))
 sl:fU (Q8 ((G6,[120]),x)::Q8 ((G6,[121]),y)::er) 9 ((none:Option Int).getD 0) ((some (2:Int)).getD ((Q8 ((G6,[120]),x)::Q8 ((G6,[121]),y)::er).length:Int)) [Q8 ((G6,[120]),x),Q8 ((G6,[121]),y)]
 c1:l7 13 [x9 x.ob] (y9 (G9 x.ob))
 c2:l7 13 [x9 y.ob] (y9 (G9 y.ob))
 ap:l7 23 [y7 G6 fB,.dt (.row [C9 (G9 x.ob),C9 (G9 y.ob)])] (y9 (cU x y))
 t1:l7 24 [.dt (.row (ws++[Z4 (P7 tg tb)])),y9 (cU x y),.dt (.row []),inA 500] (.o7 [x9 o,inA n,inA e])
 t2:l7 15 [.dt (.row (ws++[Z4 (P7 tg tb)])),y9 tg,.dt (.row [Q8 ((G6,[120]),x),Q8 ((G6,[121]),y)]),inA 400] (.o7 [x9 o2,inA n2,inA e2])
theorem a2d{r g:Raw}{l:List Raw}{ws er:aa1}{x y:Tr}{tg tb:Te}{o o2:Ob}{n n2 e e2:Int}(h:GN r g l ws er x y tg tb o o2 n n2 e e2)(he:e≠10):l7 vY [J3 r,J3 g,lC l] (o6 true) :=
 have hw:=h.wl
 pV [yT,yT,yT,yT,.av (.o7 [.own 70 32,.dt (.row ws)]),.av (fA jQ),.av (y7 G6 fB),.av (y9 tg),.av (y9 tb),.av (.un),.av (.dt (.row (Q8 ((G6,[120]),x)::Q8 ((G6,[121]),y)::er))),.av (.dt (.row [Q8 ((G6,[120]),x),Q8 ((G6,[121]),y)])),.no,.av (y9 (G9 x.ob)),.no,.av (y9 (G9 y.ob)),.av (y9 (cU x y)),.av (.o7 [x9 o,inA n,inA e]),.av (.o7 [x9 o2,inA n2,inA e2]),yT] [_,_,_,_,_,_,_,_,_,(ws.length)=(ws.length),X8 568 (ws++[Z4 (P7 tg tb)]).length,_,_,_,(none:Option Int)=none∨(none:Option Int)=some 2,_,_,_,_,(ws++[Z4 (P7 tg tb)]).length=(ws++[Z4 (P7 tg tb)]).length,_,(ws++[Z4 (P7 tg tb)]).length=(ws++[Z4 (P7 tg tb)]).length,Bk .neq 44 90 10 e bT] func4 ⟨h.f,h.a1,h.a2,h.a3,h.w,h.v,h.u,h.MB,h.MC,rfl,jA J (by simp;omega),h.src,h.en,h.sl,.inl rfl,h.c1,h.c2,h.ap,h.t1,rfl,h.t2,rfl,H7 (by simp[he]),Z⟩
theorem b7f{r g:Raw}{l:List Raw}{ws er:aa1}{x y:Tr}{tg tb:Te}{o o2:Ob}{n n2 e2:Int}(h:GN r g l ws er x y tg tb o o2 n n2 10 e2)(he:e2≠0):l7 vY [J3 r,J3 g,lC l] (o6 true) :=
 have hw:=h.wl
 pV [yT,yT,yT,yT,.av (.o7 [.own 70 32,.dt (.row ws)]),.av (fA jQ),.av (y7 G6 fB),.av (y9 tg),.av (y9 tb),.av (.un),.av (.dt (.row (Q8 ((G6,[120]),x)::Q8 ((G6,[121]),y)::er))),.av (.dt (.row [Q8 ((G6,[120]),x),Q8 ((G6,[121]),y)])),.no,.av (y9 (G9 x.ob)),.no,.av (y9 (G9 y.ob)),.av (y9 (cU x y)),.av (.o7 [x9 o,inA n,inA 10]),.av (.o7 [x9 o2,inA n2,inA e2]),yF,yT] [_,_,_,_,_,_,_,_,_,(ws.length)=(ws.length),X8 568 (ws++[Z4 (P7 tg tb)]).length,_,_,_,(none:Option Int)=none∨(none:Option Int)=some 2,_,_,_,_,(ws++[Z4 (P7 tg tb)]).length=(ws++[Z4 (P7 tg tb)]).length,_,(ws++[Z4 (P7 tg tb)]).length=(ws++[Z4 (P7 tg tb)]).length,Bk .neq 44 90 10 10 bF,Bk .neq 44 93 0 e2 bT] func4 ⟨h.f,h.a1,h.a2,h.a3,h.w,h.v,h.u,h.MB,h.MC,rfl,jA J (by simp;omega),h.src,h.en,h.sl,.inl rfl,h.c1,h.c2,h.ap,h.t1,rfl,h.t2,rfl,H7 I,H7 (by simp[he]),Z⟩
theorem b7g{r g:Raw}{l:List Raw}{ws er:aa1}{x y:Tr}{tg tb:Te}{o o2:Ob}{n n2:Int}(h:GN r g l ws er x y tg tb o o2 n n2 10 0)(hn:l7 16 [x9 o2] (o6 true)):l7 vY [J3 r,J3 g,lC l] (o6 true) :=
 have hw:=h.wl
 pV [yT,yT,yT,yT,.av (.o7 [.own 70 32,.dt (.row ws)]),.av (fA jQ),.av (y7 G6 fB),.av (y9 tg),.av (y9 tb),.av (.un),.av (.dt (.row (Q8 ((G6,[120]),x)::Q8 ((G6,[121]),y)::er))),.av (.dt (.row [Q8 ((G6,[120]),x),Q8 ((G6,[121]),y)])),.no,.av (y9 (G9 x.ob)),.no,.av (y9 (G9 y.ob)),.av (y9 (cU x y)),.av (.o7 [x9 o,inA n,inA 10]),.av (.o7 [x9 o2,inA n2,inA 0]),yF,yF,yT] [_,_,_,_,_,_,_,_,_,(ws.length)=(ws.length),X8 568 (ws++[Z4 (P7 tg tb)]).length,_,_,_,(none:Option Int)=none∨(none:Option Int)=some 2,_,_,_,_,(ws++[Z4 (P7 tg tb)]).length=(ws++[Z4 (P7 tg tb)]).length,_,(ws++[Z4 (P7 tg tb)]).length=(ws++[Z4 (P7 tg tb)]).length,Bk .neq 44 90 10 10 bF,Bk .neq 44 93 0 0 bF,_] func4 ⟨h.f,h.a1,h.a2,h.a3,h.w,h.v,h.u,h.MB,h.MC,rfl,jA J (by simp;omega),h.src,h.en,h.sl,.inl rfl,h.c1,h.c2,h.ap,h.t1,rfl,h.t2,rfl,H7 I,H7 I,hn,Z⟩
theorem b7h{r g:Raw}{l:List Raw}{ws er:aa1}{x y:Tr}{tg tb:Te}{o o2:Ob}{n n2:Int}{L:List (List Te)}(h:GN r g l ws er x y tg tb o o2 n n2 10 0)(hn:l7 16 [x9 o2] (o6 false))(hO:l7 25 [.dt (.row (ws++[Z4 (P7 tg tb)])),y7 G6 fB] (.o7 [xE L,inA 0]))(hL:D7 EX (.loop Gm) (yH (ws++[Z4 (P7 tg tb)]) 0 (ws++[Z4 (P7 tg tb)]).length [Q8 ((G6,[120]),x),Q8 ((G6,[121]),y)] r g L 0) .ret (Me r g)):l7 vY [J3 r,J3 g,lC l] (o6 true) :=
 have hw:=h.wl
 pW [yT,yT,yT,yT,.av (.o7 [.own 70 32,.dt (.row ws)]),.av (fA jQ),.av (y7 G6 fB),.av (y9 tg),.av (y9 tb),.av (.un),.av (.dt (.row (Q8 ((G6,[120]),x)::Q8 ((G6,[121]),y)::er))),.av (.dt (.row [Q8 ((G6,[120]),x),Q8 ((G6,[121]),y)])),.no,.av (y9 (G9 x.ob)),.no,.av (y9 (G9 y.ob)),.av (y9 (cU x y)),.av (.o7 [x9 o,inA n,inA 10]),.av (.o7 [x9 o2,inA n2,inA 0]),yF,yF,yF,.av (.o7 [xE L,inA 0])] [.inv [7,10,18,19,20] 3 (.ret) (Me r g)] [_,_,_,_,_,_,_,_,_,(ws.length)=(ws.length),X8 568 (ws++[Z4 (P7 tg tb)]).length,_,_,_,(none:Option Int)=none∨(none:Option Int)=some 2,_,_,_,_,(ws++[Z4 (P7 tg tb)]).length=(ws++[Z4 (P7 tg tb)]).length,_,(ws++[Z4 (P7 tg tb)]).length=(ws++[Z4 (P7 tg tb)]).length,Bk .neq 44 90 10 10 bF,Bk .neq 44 93 0 0 bF,_,_,(ws++[Z4 (P7 tg tb)]).length=(ws++[Z4 (P7 tg tb)]).length,_] func4 ⟨h.f,h.a1,h.a2,h.a3,h.w,h.v,h.u,h.MB,h.MC,rfl,jA J (by simp;omega),h.src,h.en,h.sl,.inl rfl,h.c1,h.c2,h.ap,h.t1,rfl,h.t2,rfl,H7 I,H7 I,hn,hO,rfl,hL,Z⟩
theorem b7i:Gj fJ:=fun n i a hp=>by
 have h:(F9.find? fun f=>f.nm == n)=none:=PY (x:=(n,a)) (Za5 (jU hp));exact a9K h
abbrev vZ:aa0:=[122,112]
abbrev fZ:aa0:=[99,97,114]
abbrev vX:Te:=⟨1,x8,[120],V9,[]⟩
abbrev Gn:Te:=ap [110,97,116,112] [vX]
abbrev BH:Te:=ap Q7 [ap lG [vX],ap O8 [ap aV [G9 (Tr.num 0).ob,vX]],G8]
theorem b9w:(F9.find? fun f=>f.nm == vZ).map (fun f=>(f.guard,f.body))=some (Gn,BH):=by decide +kernel
theorem b4Q:(F9.find? fun f=>f.nm == O8).map (fun f=>(f.guard,f.ps.length))=some (G8,1):=by decide +kernel
theorem b4R{ws:aa1}{n:aa0}{f:y8.H8}(hp:l7 38 [y7 x8 n] (.o7 [inA 0,o6 false]))(hf:l7 39 [.dt (.row ws),y7 x8 n] (.o7 [.agg ((I8 f).map .dt),o6 true])):l7 37 [.dt (.row ws),y7 x8 n] (.o7 [inA f.ps.length,o6 true]) :=
 pV [.av (.o7 [inA 0,o6 false]),.av (.o7 [.agg ((I8 f).map .dt),o6 true]),.av (inA f.ps.length)] [_,_,(vi ↑f.ps.length)=(vi (↑(List.map L9 f.ps).length))] func37 ⟨hp,hf,Ko _,Z⟩
theorem b7j{ws:aa1}{n:aa0}{f:y8.H8}{l:List Te}(hw:l7 37 [.dt (.row ws),y7 x8 n] (.o7 [inA l.length,o6 true]))(hp:l7 38 [y7 x8 n] (.o7 [inA 0,o6 false]))(hf:l7 39 [.dt (.row ws),y7 x8 n] (.o7 [.agg ((I8 f).map .dt),o6 true]))(hu:l7 40 [y9 f.guard] (o6 true)):l7 bQ [.dt (.row ws),y7 x8 n,O3 l] (O3 []) :=
 pV [.av (.o7 [inA l.length,o6 true]),.av (inA l.length),yF,.av (.o7 [inA 0,o6 false]),.av (.o7 [.agg ((I8 f).map .dt),o6 true]),yT] [_,(vi ↑l.length)=(vi (↑(List.map Te.enc l).length)),Bt .neq 3 27 29 ↑l.length ↑l.length bF,_,_,_] func14 ⟨hw,O6 _,H7 I,hp,hf,hu,Z⟩
theorem b4S{a:Te}(hw:a.Wf)(h:Vt fJ a):Vt fJ (Te.ap O8 [a]):=by
 have hb:=b4Q;rw[ZaG]at hb;obtain⟨f,h1,h2⟩:=hb;have g1:f.guard=G8:=congrArg Prod.fst h2;have g2:f.ps.length=1:=congrArg Prod.snd h2;have hne:∀x∈I7,O8≠x.1:=O;have hp:=a0t hne;have hf:=OB (ws:=F9) (r:=[bG kZ]) NU h1;have hw2:=b4R hp hf;rw[g2]at hw2;have hu:=RX (t:=f.guard) (by rw[g1];exact Jf);rw[g1,show sameD G8 G8=true from UV rfl]at hu
 have e:mV (Te.ap O8 [a])=[]:=by
  unfold mV;rw[show (Te.ap O8 [a]).nn=O8 from rfl,ZC]
 refine .ap O8 [a] (DW a hw) (by show 1≤8;omega) ?_ ?_ ?_ (fun x hx=>by rw[ut]at hx;subst hx;exact h)
 ·rw[e];exact b7j (l:=[a]) hw2 hp hf (by rw[g1];exact hu)
 ·rw[e];intro c hc;cases hc
 ·rw[e];exact ww _
theorem Jg:Pd (Te.ap aV [G9 (Tr.num 0).ob,vX]):=.ap _ _ 14 (by decide +kernel) fun x hx=>by
 simp only[Zao,ZaO,or_false]at hx;rcases hx with rfl | rfl
 ·exact .G9 _ (uB (n:=0) O)
 ·exact .var _ _
theorem QR:Pd (Te.ap lG [vX]):=.ap _ _ 9 (by decide +kernel) fun x hx=>by
 rw[ut]at hx;subst hx;exact .var _ _
theorem b7k:vX.Wf:=(Wd.var x8 [120]).wf
theorem b4T:BH.Wf:=a3a _ QR.wd.wf (DW _ Jg.wd.wf) Jf
theorem b4U:Vt fJ BH:=ZH (i:=0) (by decide +kernel) (fun x hx=>by
  simp only[Zao,ZaO,or_false]at hx;rcases hx with rfl | rfl | rfl
  ·exact QR.wd.wf
  ·exact DW _ Jg.wd.wf
  ·exact Jf) fun x hx=>by
 simp only[Zao,ZaO,or_false]at hx;rcases hx with rfl | rfl | rfl
 ·exact QR.vt
 ·exact b4S Jg.wd.wf Jg.vt
 ·exact .leaf _ (by show (2:Int)≠3;decide)
abbrev MF:List (List Te):=vis [neg Gn] 8 BH []
theorem b4V:decide (0 < MF.length) && decide ((MF.getD 0 []).length=3)=true:=by decide +kernel
theorem b9x:∃(c:List Te) (r:List (List Te)),c.length=3∧l7 25 [.dt (.row fJ),y7 x8 vZ] (.o7 [xE (c::r),inA 0]):=by
 have hb:=b9w;rw[ZaG]at hb;obtain⟨f,h1,h2⟩:=hb;have g1:f.guard=Gn:=congrArg Prod.fst h2;have g2:f.body=BH:=congrArg Prod.snd h2;have hf:l7 39 [.dt (.row fJ),y7 x8 vZ] (.o7 [.agg ((mW x8 f.nm (f.ps.map L9) f.guard f.body f.measure).map .dt),o6 true]):=OB (ws:=F9) (r:=[bG kZ]) NU h1;have h:=a14 hf (by rw[g1];exact qw _ b7k) (by rw[g2];exact b4U) (by rw[g2];exact b4T) (by rw[g2];decide);rw[g1,g2,show oZ Gn=[neg Gn] from lw (by decide +kernel),show BH.size=8 by decide]at h
 have hl:=b4V;rw[AC,decide_eq_true_iff,decide_eq_true_iff]at hl;obtain⟨hl1,hl2⟩:=hl
 replace h:l7 25 [.dt (.row fJ),y7 x8 vZ] (.o7 [xE MF,inA 0]):=h
 generalize MF=L at h hl1 hl2;cases L with
 |nil=>cases hl1
 |cons c r=>exact⟨c,r,Zad hl2,h⟩
abbrev rY(x:Tr):Te:=ap fZ [G9 x.ob]
theorem ZM(x:Tr):ve fJ (rY x) 10 0 false :=
 have h:=DT (i:=3) (s:=fZ) (a:=1) rfl
 ⟨O,O,O,h,b7i fZ 3 1 (by decide +kernel),RZ h,by show decide (fZ=Q7)=false;decide⟩
theorem a0T(x:Tr):D7 (H9 1) (.loop kP) (Gi fJ 10 (0+1) (rY x) []) (.out 2) (iw fJ 10 1 (rY x) [] dL true (gG [x]) ((1:Nat):Int)):=by
 have h1:F7 gX [.ptr 0 0,y9 (G9 x.ob),H5 []] (O5 fJ 10 1) (.o7 [o9 x,inA 0]) (O5 fJ 10 1):=JH (t:=G9 x.ob) rfl;have h2:=a2X (ws:=fJ) (es:=[]) (t:=rY x) (x:=G9 x.ob) (env:=[]) (b:=true) (i:=0) rfl (by show 1≤1000;omega) (by show 0≤1000;omega) h1;have h3:=a2Y (ws:=fJ) (es:=[D9 x.ob]) (s:=10) (u:=1) (t:=rY x) (env:=[]) (b:=true) (i:=1) rfl;exact D7.aS 16 37 7 (by show 16 < 204;omega) rfl (Lps.more h2 (.stop h3 (fun h=>by cases h))).tri
theorem b2y:l7 24 [.dt (.row fJ),y9 (rY (Tr.num ((5:Int):Rat))),.dt (.row []),inA 10] (.o7 [x9 zO,inA 0,inA 10]):=by
 have hg:=(QL (x:=Tr.num ((5:Int):Rat)) (Tr.H6 (uB O))).b (show Tr.gd 3 (Tr.num ((5:Int):Rat)) o8=false by decide +kernel);exact Je (env:=[]) (s:=10) O (kz (t:=rY (Tr.num ((5:Int):Rat))) rfl (a1Z (ZM _) (a0T _) hg))
theorem b2z:l7 24 [.dt (.row fJ),y9 (rY o8),.dt (.row []),inA 10] (.o7 [o9 o8,inA 1,inA 0]):=by
 have hg:=(QL (x:=o8) (Tr.H6 Tr.gu)).b (show Tr.gd 3 o8 o8=true by decide +kernel);have hl:∀t∈[o8],t.valid=true:=fun t ht=>by rw[ut]at ht;subst ht;exact Tr.gu
 have ha:=(Zv (Tr.H6 Tr.gu)).r (Tr.dB (O0 hl 0) (O0 hl 1) (O0 hl 2) 3);rw[show Tr.ap 3 ([o8].getD 0 o8) ([o8].getD 1 o8) ([o8].getD 2 o8)=o8 from rfl,aP Tr.gu]at ha
 exact a0P (env:=[]) (s:=10) (kz (t:=rY o8) rfl (a13 (ZM _) (a0T _) hg ha))
structure F14 (ws:aa1) (c:List Te) (r:List (List Te)) (t5:Te) (o5:Ob):Prop where
 w:l7 7 [] (.dt (.row ws))
 i:l7 12 [inA 5] (x9 o5)
 t:l7 13 [x9 o5] (y9 t5)
 e:l7 24 [.dt (.row ws),y9 (ap fZ [t5]),.dt (.row []),inA 10] (.o7 [x9 zO,inA 0,inA 10])
 k:l7 24 [.dt (.row ws),y9 (ap fZ [noT]),.dt (.row []),inA 10] (.o7 [x9 U6,inA 1,inA 0])
 z:l7 25 [.dt (.row ws),y7 x8 vZ] (.o7 [xE (c::r),inA 0])
 n:l7 16 [x9 U6] (o6 true)
 c3:c.length=3
theorem a7p{ws:aa1}{c:List Te}{r:List (List Te)}{t5:Te}{o5:Ob}(h:F14 ws c r t5 o5):l7 5 [] (o6 true) :=
 pV [.av (.dt (.row ws)),.av (x9 o5),.av (y9 t5),.av (y9 (ap fZ [t5])),.av (.o7 [x9 zO,inA 0,inA 10]),.av (x9 U6),.av (y9 noT),.av (y9 (ap fZ [noT])),.av (.o7 [x9 U6,inA 1,inA 0]),.av (y7 x8 vZ),.av (.o7 [.dt (.row (df c::r.map df)),inA 0]),.no,.no,.no,yT,.no,.av (inA (r.length+1:Nat)),yT,.av (.pin [.dt (.row (c.map Te.enc))]),.av (inA 3),.no] [_,_,_,l7 27 [(stA [99,97,114]),(.dt (.row [C9 t5]))] (y9 (ap fZ [t5])),_,_,l7 13 [(x9 U6)] (.agg [(inA 2),(stA noT.np),(stA noT.nn),(inA 2),(stA noT.val.num),(stA noT.val.den),(stA noT.val.sp),(stA noT.val.sn),(stA noT.val.text),(.dt (.row (List.map Ob.enc noT.val.pair))),(.dt (.row (List.map Te.enc noT.args)))]),l7 27 [(stA [99,97,114]),(.dt (.row [[(.val (vi 2)),(.val (str noT.np)),(.val (str noT.nn)),(.val (vi 2)),(.val (str noT.val.num)),(.val (str noT.val.den)),(.val (str noT.val.sp)),(.val (str noT.val.sn)),(.val (str noT.val.text)),(.row (List.map Ob.enc noT.val.pair)),(.row (List.map Te.enc noT.args))]]))] (.agg [(inA 3),(stA (ap fZ [noT]).np),(stA (ap fZ [noT]).nn),(inA 0),(stA (ap fZ [noT]).val.num),(stA (ap fZ [noT]).val.den),(stA (ap fZ [noT]).val.sp),(stA (ap fZ [noT]).val.sn),(stA (ap fZ [noT]).val.text),(.dt (.row (List.map Ob.enc (ap fZ [noT]).val.pair))),(.dt (.row (List.map Te.enc (ap fZ [noT]).args)))]),_,l7 29 [(stA [122,112])] (y7 x8 vZ),_,_,(vi (↑(r.length+1)))=(vi (↑(df c::List.map df r).length)),Bk .gtr 3 59 0 (↑(r.length+1)) bT,E5 (df c::List.map df r) 0 1 ([(.row (List.map Te.enc c))]),(vi 3)=(vi (↑(List.map Te.enc c).length))] func5 ⟨h.w,h.i,h.t,XA fZ t5,h.e,ry,lZ U6,XA fZ noT,h.k,O1 vZ,h.z,h.n,congrArg vi I,dA (UV J),⟨Int.le_refl _,rfl,rfl⟩,congrArg vi (by rw[EQ,h.c3];rfl),Z⟩
theorem Hl:l7 5 [] (o6 true):=by
 obtain⟨c,r,hc,hz⟩:=b9x;exact a7p ⟨b05,zQ 5 O O,lZ _,b2y,b2z,hz,wK (t:=o8) (Tr.H6 Tr.gu).ok O,hc⟩
theorem qx{n:aa0}(ha:bH F9 n=some 1){x:Te}(h:Wd x):Wd (Te.ap n [x]):=.ap n [x] ha (by show 1≤8;omega) fun y hy=>by rw[ut]at hy;subst hy;exact h
theorem Bc{n:aa0}(ha:bH F9 n=some 2){x y:Te}(h:Wd x)(k:Wd y):Wd (Te.ap n [x,y]):=.ap n [x,y] ha (by show 2≤8;omega) fun z hz=>by
 simp only[Zao,ZaO,or_false]at hz;rcases hz with rfl | rfl
 ·exact h
 ·exact k
theorem b9y{n:aa0}(ha:bH F9 n=some 3){x y z:Te}(h:Wd x)(k:Wd y)(m:Wd z):Wd (Te.ap n [x,y,z]):=.ap n [x,y,z] ha (by show 3≤8;omega) fun u hu=>by
 simp only[Zao,ZaO,or_false]at hu;rcases hu with rfl | rfl | rfl
 ·exact h
 ·exact k
 ·exact m
theorem cO:bH F9 V6=some 1∧bH F9 mQ=some 1∧bH F9 di=some 1∧bH F9 lG=some 1∧bH F9 lH=some 1∧bH F9 kY=some 1∧bH F9 O8=some 1∧bH F9 eH=some 2∧bH F9 aV=some 2:=by decide +kernel
theorem JL{k:Int}(h:k.natAbs < 10 ^ 4):Wd (kT k):=.G9 _ (uB h)
theorem a0U{x:Te}(h:Wd x):Wd (oK x):=b9y a0E (qx cO.2.2.2.2.2.1 h) (.G9 vT Tr.Dp) (Bc cO.2.2.2.2.2.2.2.1 h (.G9 o8 Tr.gu))
theorem DY{a:Te}(h:Wd a):∀c∈[a],Wd c:=fun c hc=>by rw[ut]at hc;subst hc;exact h
theorem Dv{a:Te}{l:List Te}(h:Wd a)(k:∀c∈l,Wd c):∀c∈a::l,Wd c:=fun c hc=>by
 rcases Zao.1 hc with rfl | hc
 ·exact h
 ·exact k c hc
theorem lh{n:aa0}(ha:bH F9 n=some 1){l:List Te}(h:∀x∈l,Wd x):∀c∈l.map fun x=>Te.ap n [x],Wd c:=fun c hc=>by
 obtain⟨x,hx,rfl⟩:=List.mem_map.1 hc;exact qx ha (h x hx)
theorem nS{l:List Te}{i:Nat}(hi:i < l.length)(h:∀x∈l,Wd x):Wd (l.getD i N9):=by
 rw[bi,Za2 hi];exact h _ (Zay hi)
theorem b4W:∀{i:Nat} {s:aa0} {a:Nat} {l:List Te},I7[i]?=some (s,a)→l.length=a→(∀x∈l,Wd x)→∀c∈cnd i l,Wd c:=by
 intro i s a l hp ha h;have hi:i < 25:=(Pi.1 hp).1
 match i,hi with
 |0,_=>intro c hc;cases hc
 |1,_=>intro c hc;cases hc
 |2,_=>intro c hc;cases hc
 |3,_=>cases hp;exact DY (a0U (nS (i:=0) J h))
 |4,_=>cases hp;exact DY (a0U (nS (i:=0) J h))
 |5,_=>intro c hc;cases hc
 |6,_=>intro c hc;cases hc
 |7,_=>intro c hc;cases hc
 |8,_=>intro c hc;cases hc
 |9,_=>intro c hc;cases hc
 |10,_=>exact lh cO.1 h
 |11,_=>exact lh cO.1 h
 |12,_=>exact lh cO.1 h
 |13,_=>cases hp;exact fun c hc=>(ZaA.1 hc).elim (lh cO.1 h c) (DY (qx cO.2.2.2.2.2.2.1 (Bc cO.2.2.2.2.2.2.2.1 (nS (i:=0) J h) (JL (k:=0) O))) c)
 |14,_=>exact lh cO.1 h
 |15,_=>exact lh cO.1 h
 |16,_=>exact lh cO.1 h
 |17,_=>exact lh cO.1 h
 |18,_=>exact lh cO.2.1 h
 |19,_=>exact lh cO.2.1 h
 |20,_=>exact lh cO.2.2.1 h
 |21,_=>exact lh cO.2.2.1 h
 |22,_=>exact lh cO.2.2.1 h
 |23,_=>cases hp;exact Dv (qx cO.2.2.1 (nS (i:=0) J h)) (Dv (qx cO.2.2.2.1 (nS (i:=1) J h)) (Dv (qx cO.2.2.2.2.2.2.1 (Bc cO.2.2.2.2.2.2.2.2 (nS (i:=1) J h) (JL (k:=0) O))) (DY (Bc cO.2.2.2.2.2.2.2.2 (nS (i:=1) J h) (qx cO.2.2.2.2.1 (nS (i:=0) J h))))))
 |24,_=>cases hp;exact Dv (qx cO.2.2.2.1 (nS (i:=0) J h)) (Dv (qx cO.2.2.2.2.2.2.1 (Bc cO.2.2.2.2.2.2.2.2 (nS (i:=0) J h) (JL (k:=0) O))) (DY (Bc cO.2.2.2.2.2.2.2.2 (nS (i:=0) J h) (JL (k:=256) O))))
theorem a0V{t:Te}(h:Pd t):Wd (neg t):=by
 rw[QN h];exact qx cO.2.2.2.2.2.2.1 h.wd
theorem b4X{hd:List Te}(hh:∀y∈hd,Wd y):∀(f:Nat) (t:Te) (ts:List Te),Pd t→(∀y∈ts,Wd (neg y))→∀c∈vis hd f t ts,c.length≤hd.length+ts.length+f∧∀y∈c,Wd y:=by
 intro f
 induction f with
 |zero=>intro t ts _ _ c hc;rw[vis]at hc;cases hc
 |succ f ih =>
  intro t ts ht hts c hc;cases ht with
  |var p n=>rw[vis,lw (show ¬(1:Int)=3 by decide)]at hc;cases hc
  |G9 t ht=>rw[vis,lw (show ¬(Te.G9 t.ob).kind=3 from fun h=>absurd (show (2:Int)=3 from h) O)]at hc;cases hc
  |ap n a i hp ha =>
   rw[vis,Za0 (show (Te.ap n a).kind=3 from rfl)]at hc
   by_cases hif:is (Te.ap n a) Q7 3
   ·rw[Za0 hif]at hc;have w:=fun j (hj:j < 3)=>ha _ (uC hif hj)
    rcases ZaA.1 hc with hc | hc
    ·rcases ZaA.1 hc with hc | hc
     ·obtain⟨h1,h2⟩:=ih _ ts (w 0 J) hts c hc;exact⟨J,h2⟩
     ·obtain⟨h1,h2⟩:=ih _ (ts++[(Te.ap n a).arg 0]) (w 1 J) (fun z hz=>by
       rcases ZaA.1 hz with hz | hz
       ·exact hts z hz
       ·rw[ut]at hz;subst hz;exact a0V (w 0 J)) c hc
      rw[Za4,Zaw]at h1;exact⟨J,h2⟩
    ·obtain⟨h1,h2⟩:=ih _ (ts++[ap O8 [(Te.ap n a).arg 0]]) (w 2 J) (fun z hz=>by
      rcases ZaA.1 hz with hz | hz
      ·exact hts z hz
      ·rw[ut]at hz;subst hz;rw[Yh];exact (w 0 J).wd) c hc
     rw[Za4,Zaw]at h1;exact⟨J,h2⟩
   ·rw[lw hif]at hc;rcases ZaA.1 hc with hc | hc
    ·obtain⟨l,hl,hc⟩:=List.mem_flatten.1 hc;obtain⟨x,hx,rfl⟩:=List.mem_map.1 hl;obtain⟨h1,h2⟩:=ih x ts (ha x hx) hts c hc;exact⟨J,h2⟩
    ·obtain⟨d,hcd,rfl⟩:=List.mem_map.1 hc;refine⟨?_,fun y hy=>?_⟩
     ·have h:=XC (hd++ts.map neg++[d]) [];rw[List.length_nil,Za4,Za4,EQ,Zaw]at h;omega
     ·rcases OE _ _ _ hy with hy | hy
      ·cases hy
      ·rcases ZaA.1 hy with hy | hy
       ·rcases ZaA.1 hy with hy | hy
        ·exact hh y hy
        ·obtain⟨z,hz,rfl⟩:=List.mem_map.1 hy;exact hts z hz
       ·rw[ut]at hy;subst hy;unfold mV at hcd;rw[show (Te.ap n a).nn=n from rfl,hp]at hcd
        exact b4W (jU hp) rfl (fun x hx=>(ha x hx).wd) y hcd
theorem WW{env:E8}:∀{c:List Te},(∀y∈c,Es env y o8 300)→oW env 400 c=(false,0)
 |[],_=>rfl
 |t::r,h=>by
  obtain⟨l',h1,h2⟩:=h t (PP ..) 400 400 O (NE _);rw[oW];unfold UH;rw[h2];dsimp only;rw[Za0 rfl];exact WW fun y hy=>h y (lm _ hy)
theorem b2A{ws:aa1}(hW:vS ws){env:E8}(he:ku env)(hle:env.length≤1000){r g:Raw}{L:List (List Te)}(hl:L.length≤100000)(hw:∀c∈L,c.length≤1000∧∀y∈c,Wd y):∀(q:List (List Te)) (i:Nat),L.drop i=q→(∃c∈q,∀y∈c,Es env y o8 300)→Lps EX Gm (yH ws 0 ws.length (bC env) r g L i) .ret (Me r g):=by
 intro q
 induction q with
 |nil=>intro i _ ⟨c,hc,_⟩;cases hc
 |cons x q ih =>
  intro i hd ⟨c,hc,hc2⟩;have hx:L[i]?=some x:=by rw[←Zak,hd];rfl
  obtain⟨w1,w2⟩:=hw x (Za5 hx);have k:=a9S hW (c:=x) he hle (s:=400) O w1 w2;have nx:oW env 400 x≠(false,0)→∃c∈q,∀y∈c,Es env y o8 300:=fun h=>by
   rcases Zao.1 hc with rfl | hc
   ·exact absurd (WW hc2) h
   ·exact⟨c,hc,hc2⟩
  have hd':L.drop (i+1)=q:=by rw[←Zaj,hd];rfl
  cases hv:oW env 400 x with
  |mk b e =>
   rw[hv]at k nx;by_cases h0:e=0
   ·subst h0;cases b with
    |true=>exact .more (b9t hx hl rfl k rfl) (ih (i+1) hd' (nx (fun h=>by cases h)))
    |false=>exact .stop (b9v hx rfl k) (fun h=>by cases h)
   ·exact .more (b9u hx hl rfl h0 k) (ih (i+1) hd' (nx (fun h=>h0 (congrArg Prod.snd h))))
theorem a9T(g b:Te):S9 32 [Z4 (P7 g b)]:=by
 intro x hx;rw[ut]at hx;subst hx;exact⟨rfl,fun d hd=>by
  have h:(Z4 (P7 g b)).all Dt.one=true:=rfl;exact Zav.1 h d hd⟩
theorem b2B{a b:List Dt}{r:aa1}:fU (a::b::r) 9 ((none:Option Int).getD 0) ((some (2:Int)).getD ((a::b::r).length:Int)) [a,b] :=
 ⟨Int.le_refl _,by show (0:Int)≤2;decide,by show (2:Int)≤((r.length+1+1:Nat):Int);omega,rfl,.inl rfl⟩
theorem b4Y{env:E8}{g:Te}{z:Tr}(hg:Pd g)(hc:g.calls≤200)(he:Es env g z g.calls)(hz:z≠o8):∀w∈oZ g,Es env w o8 300∧Wd w:=fun w hw=>by
 by_cases hy:g=G8
 ·rw[show oZ g=[] from Za0 hy]at hw
  cases hw
 ·rw[show oZ g=[neg g] from lw hy,ut]at hw
  subst hw;refine⟨?_,a0V hg⟩;rw[QN hg];have h:=he.not;rw[lw hz]at h;exact h.mono J
theorem b2C(g:Te):(oZ g).length≤1:=by
 by_cases hy:g=G8
 ·rw[show oZ g=[] from Za0 hy];decide
 ·rw[show oZ g=[neg g] from lw hy];exact NE _
theorem a9U{r g:Raw}{l:List Raw}:l7 vY [J3 r,J3 g,lC l] (o6 true):=by
 have hR:=Jz r 12;cases hr:jI r 12 with
 |false=>rw[hr]at hR;exact b7c Hl hR
 |true =>
 rw[hr]at hR;have hG:=Jz g 6;cases hg:jI g 6 with
 |false=>rw[hg]at hG;exact b7d Hl hR hG
 |true =>
 rw[hg]at hG;have hF:=a8B l 8;cases hf:Ip l 8 with
 |false=>rw[hf]at hF;exact b7e Hl hR hG hF
 |true =>
 rw[hf]at hF;have szr:=NL (m:=12) O O hr;have szg:=NL (m:=6) O O hg;obtain⟨tb,pb,cb,hTb⟩:=ZJ (NS (m:=12) O O hr);obtain⟨tg,pg,cg,hTg⟩:=ZJ (NS (m:=6) O O hg);unfold Ip at hf;simp only[AC,Za3,Zav]at hf;have hl8:l.length≤1000:=Za6 hf.1 O;obtain⟨x,y,er,hx,hy,hE⟩:=b4P hl8 (fun r hr=>NS (m:=8) O O (hf.2 r hr));have hbe:=Sr hx hy;obtain⟨o,n,e,hT1,b9z⟩:=b9p hx hy pg pb;have k:=a1T (Sj tg tb) 400 (eU x y) tg pg.wd hbe (by show 2≤1000;omega) 400 (NE _) O;have hle:=jy F9 400 (eU x y) tg 400;have hok:=mF 400 (eU x y) tg 400 pg.wd hbe;have mk:∀{o2:Ob} {n2 e2:Int},l7 15 [.dt (.row (aU tg tb)),y9 tg,H5 (eU x y),inA 400] (.o7 [x9 o2,inA n2,inA e2])→GN r g l fJ er x y tg tb o o2 n n2 e e2:=fun h=>⟨Hl,hR,hG,hF,a9R,b2s,DK fB,hTg,hTb,NU,a9T tg tb,hE,b2B,lZ _,lZ _,IQ _ _ _,hT1,h⟩
 cases hv:ev F9 400 (eU x y) tg 400 with
 |mk rr l' =>
  rw[hv]at k hle;have hle:l'≤400:=hle;cases rr with
  |error c =>
   have hc:=hok.2 c l' hv;have h:=mk (a0O (s:=400) hc O k);by_cases he:e=10
   ·subst he;exact b7f h hc
   ·exact a2d h he
  |ok z =>
   have hz:=hok.1 z l' hv;have h:=mk (a0N (s:=400) hle O k);by_cases he:e=10
   ·subst he;have hN:=wK (Tr.H6 hz).ok O;by_cases hzn:z=o8
    ·rw[UV hzn]at hN;exact b7g h hN
    ·rw[WF hzn]at hN;have hgl:∃l l',gv 499 (eU x y) tb l=(.error 10,l'):=by
      rcases b9z rfl with h | ⟨_,h⟩
      ·exact h
      ·exact absurd (h z _ (b1K F9 400 (eU x y) tg 400 z l' 99 499 O O hv)) hzn
     obtain⟨l1,l2,hgv⟩:=hgl;have hes:Es (eU x y) tg z tg.calls:=RU 400 (eU x y) tg 400 z l' pg hv;have hhd:=b4Y pg J hes hzn;have hlen:=b2C tg;obtain⟨c,hc1,hc2⟩:=b4l hbe (fun w hw=>(hhd w hw).1) 499 tb l1 l2 tb.size [] pb J (NE _) (fun _ h=>by cases h) hgv;have hwd:=b4X (fun w hw=>(hhd w hw).2) tb.size tb [] pb (fun _ h=>by cases h);have hsz:=pb.size;have hvl:=Dq (ws:=aU tg tb) (oZ tg) tb.size tb [] pb.vt;have hO:=a14 (ws:=aU tg tb) a0R pg.wd.wf pb.vt pb.wd.wf J;have hL:=b2A (Sj tg tb) hbe (by show 2≤1000;omega) (r:=r) (g:=g) J (fun c hc=>⟨by
      have h:=(hwd c hc).1;rw[List.length_nil]at h;omega,(hwd c hc).2⟩) _ 0 rfl ⟨c,hc1,hc2⟩
     exact b7h h hN hO hL.tri
   ·exact a2d h he
theorem a5s(W:World)(hG:Gx W)(r:Raw)(_:r.Wf)(A:Option Addr)(n c:Nat)(hr:Rd (fun _=>True) W (.slice A n c) (.row (r.l.map Raw.enc)))
  (s:Raw) (_:s.Wf) (A2:Option Addr) (n2 c2:Nat) (hs:Rd (fun _=>True) W (.slice A2 n2 c2) (.row (s.l.map Raw.enc)))
  (l:List Raw) (_:∀s∈l,s.Wf) (A3:Option Addr) (n3 c3:Nat) (_:n3≤9223372036854775807) (hl:Rd (fun _=>True) W (.slice A3 n3 c3) (.row (l.map Raw.enc))):Says 4 #[JM r (.slice A n c),JM s (.slice A2 n2 c2),.slice A3 n3 c3] W :=
 a9U.law (ok:=fun _=>True) hG ⟨_,_,rfl,RV.ofRaw hr,_,_,rfl,RV.ofRaw hs,_,[],rfl,hl,rfl⟩
end Go.Proofs.YthhknjlmjefklaaGreatDoor
