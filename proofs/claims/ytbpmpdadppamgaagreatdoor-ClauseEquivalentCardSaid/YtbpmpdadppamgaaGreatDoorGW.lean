/- The reference's evaluator: term. -/
import Derived.Test.YtbpmpdadppamgaaGreatDoorGV
import Derived.Test.YtbpmpdadppamgaaGreatDoorGN
namespace Go.Proofs.YtbpmpdadppamgaaGreatDoor
open Go.Proofs.Tryz
open Go.RowKit
open Te
abbrev bS:FuncId:=48
abbrev R7(ws:aa0)(l:Int):List (Option Bx):=[some (.cells [.dt (.row ws),j4 l])]
abbrev lD:List AV:=encZ.map .dt
abbrev rz:AV:=.agg lD
theorem Eh(x:Tr):L8 7 [A9 x.ob]:=by
 intro y hy;rw[Cf]at hy;subst hy;refine⟨rfl,fun d hd=>?_⟩;simp only[Za3,Zat,Zb4]at hd;rcases hd with rfl | rfl | rfl | rfl | rfl | rfl | rfl <;> rfl
abbrev xu:Except Int Tr→AV
 |.ok x=>.l7 [l9 x,j4 0]
 |.error e=>.l7 [o7 zO,j4 e]
theorem a6t{es:aa0}{n:lw}(h:j5 122 [.dt (.row es),p8 o9 n] (.l7 [j4 0,j4 0,l5 false])):j5 95 [.dt (.row es),p8 o9 n] (.l7 [rz,l5 false]) :=
 pV [.av (.l7 [j4 0,j4 0,l5 false])] [_] func95 ⟨h,Z⟩
theorem a6u{n:lw}(h:(G5.find? fun f=>f.nm == n)=none):j5 95 [.dt (.row P6),p8 o9 n] (.l7 [rz,l5 false]):=by
 have hwl:=ve;exact a6t (b1c (b3O (ws:=G5) (is:=nN) J G5 0 rfl (Ci _) h).I8)
theorem aV.rv{P:Program}{G:World→Prop}{f:FuncId}{args:List AV}{xs xs':List (Option Bx)}{r r':AV}(h:aV P G f args xs r xs')(hr:∀M w v,RV M w r v→RV M w r' v):aV P G f args xs r' xs' :=
 ⟨h.1,fun X M w vs hG hS ha=>(h.2 X M w vs hG hS ha).mono fun _ _ ⟨v,M',h1,h2,h3,h4,h5⟩=>⟨v,M',h1,h2,h3,h4,hr _ _ _ h5⟩⟩
abbrev zOn:AV:=.agg [j4 0,stA [],stA [],stA [],stA [],stA [],.nil]
theorem nO{M:Mm}{w:World}{v:Value}{e:Int}(h:RV M w (.l7 [zOn,j4 e]) v):RV M w (.l7 [o7 zO,j4 e]) v:=by
 obtain⟨_,rfl,u,_,rfl,⟨_,rfl,u0,_,rfl,h0,u1,_,rfl,h1,u2,_,rfl,h2,u3,_,rfl,h3,u4,_,rfl,h4,u5,_,rfl,h5,u6,_,rfl,h6,rfl⟩,ub,_,rfl,hb,rfl⟩:=h;exact⟨_,rfl,_,_,rfl,⟨_,rfl,_,_,rfl,h0,_,_,rfl,h1,_,_,rfl,h2,_,_,rfl,h3,_,_,rfl,h4,_,_,rfl,h5,_,_,rfl,RV.KZ h6,rfl⟩,_,_,rfl,hb,rfl⟩
theorem XX{ws:aa0}{l:Int}{t:Te}{env:D7}{x:Tr}(h:t.kind=1)(hv:j5 92 [E8 env,p8 t.np t.nn] (.l7 [l9 x,l5 true])):D6 bS [.ptr 0 0,o6 t,E8 env] (R7 ws l) (.l7 [l9 x,j4 0]) (R7 ws l) :=
 sW 1 [0] [yT,.av (.l7 [l9 x,l5 true])] [] [Bk .eql 3 23 1 t.kind bT,_] func48 ⟨C9 (U5 h),hv,Z⟩
theorem XY{ws:aa0}{l:Int}{t:Te}{env:D7}(h:t.kind=1)(hv:j5 92 [E8 env,p8 t.np t.nn] (.l7 [o7 zO,l5 false])):D6 bS [.ptr 0 0,o6 t,E8 env] (R7 ws l) (.l7 [o7 zO,j4 6]) (R7 ws l) :=
 .rv (sW 1 [0] [yT,.av (.l7 [o7 zO,l5 false])] [] [Bk .eql 3 23 1 t.kind bT,_] func48 ⟨C9 (U5 h),hv,Z⟩) fun _ _ _ h=>nO h
theorem XZ{ws:aa0}{l:Int}{t:Te}{env:D7}(h:t.kind=2):D6 bS [.ptr 0 0,o6 t,E8 env] (R7 ws l) (.l7 [o7 t.val,j4 0]) (R7 ws l) :=
 sW 1 [0] [yF,yT] [] [Bk .eql 3 23 1 t.kind bF,Bk .eql 3 23 2 t.kind bT] func48 ⟨C9 (by simp[h]),C9 (by simp[h]),Z⟩
theorem Ya{ws:aa0}{l:Int}{t:Te}{env:D7}(h:t.kind=3)(hl:l < 1):D6 bS [.ptr 0 0,o6 t,E8 env] (R7 ws l) (.l7 [o7 zO,j4 9]) (R7 ws l) :=
 .rv (sW 1 [0] [yF,yF,yT] [] [Bk .eql 3 23 1 t.kind bF,Bk .eql 3 23 2 t.kind bF,Bk .lss 3 44 1 l bT] func48 ⟨C9 (by simp[h]),C9 (by simp[h]),D8 (Pi hl),Z⟩) fun _ _ _ h=>nO h
structure tQ (ws:aa0) (t:Te) (l:Int) (b:Bool):Prop where
 k:t.kind=3
 l0:1≤l
 l1:l≤100000
 ar:j5 93 [.dt (.row ws),p8 t.np t.nn] (.l7 [j4 t.args.length,l5 true])
 pr:j5 94 [p8 t.np t.nn] (.l7 [j4 t.args.length,l5 true])
 fn:j5 95 [.dt (.row ws),p8 t.np t.nn] (.l7 [rz,l5 false])
 is:j5 96 [o6 t,stA x8,j4 3] (l5 b)
theorem b33{ws:aa0}{l m e:Int}{t a:Te}{env:D7}(hp:tQ ws t l true)(ha:t.args[0]?=some a)(he:e≠0)(h:D6 bS [.ptr 0 0,o6 a,E8 env] (R7 ws (l - 1)) (.l7 [o7 zO,j4 e]) (R7 ws m)):D6 bS [.ptr 0 0,o6 t,E8 env] (R7 ws l) (.l7 [o7 zO,j4 e]) (R7 ws m) :=
 have h0:=hp.l0;have h1:=hp.l1
 sW 1 [0] [yF,yF,yF,.av (j4 (l - 1)),.av (.l7 [j4 t.args.length,l5 true]),.av (j4 t.args.length),yF,.av (.l7 [j4 t.args.length,l5 true]),.av (.l7 [rz,l5 false]),yT,.av (.pin ((o8 a).map .dt)),yT] [.J5 22 6 [0] (.l7 [o7 zO,j4 e]) [some (.cells [.dt (.row ws),j4 m])]] [Bk .eql 3 23 1 t.kind bF,Bk .eql 3 23 2 t.kind bF,Bk .lss 3 44 1 l bF,Bk .sub 3 50 1 l (vi (l - 1)),_,(vi ↑t.args.length)=(vi (↑(List.map Te.enc t.args).length)),Bt .neq 3 67 70 ↑t.args.length ↑t.args.length bF,_,_,_,z8 (List.map Te.enc t.args) 0 11 (o8 a),_,Bk .neq 37 109 0 e bT] func48 ⟨C9 (by simp[hp.k]),C9 (by simp[hp.k]),D8 (WF J),bL rfl J J,hp.ar,F9 _,E5 I,hp.pr,hp.fn,hp.is,M5 ha,h,E5 (by simp[he]),Z⟩
theorem b34{ws:aa0}{l m k e:Int}{t a b:Te}{env:D7}{x:Tr}{o:Ob}(hp:tQ ws t l true)(ha:t.args[0]?=some a)(hb:t.args[2]?=some b)(h:D6 bS [.ptr 0 0,o6 a,E8 env] (R7 ws (l - 1)) (.l7 [l9 x,j4 0]) (R7 ws m))(hn:j5 97 [l9 x] (l5 true))(h2:D6 bS [.ptr 0 0,o6 b,E8 env] (R7 ws m) (.l7 [o7 o,j4 e]) (R7 ws k)):D6 bS [.ptr 0 0,o6 t,E8 env] (R7 ws l) (.l7 [o7 o,j4 e]) (R7 ws k) :=
 have h0:=hp.l0;have h1:=hp.l1
 sW 1 [0] [yF,yF,yF,.av (j4 (l - 1)),.av (.l7 [j4 t.args.length,l5 true]),.av (j4 t.args.length),yF,.av (.l7 [j4 t.args.length,l5 true]),.av (.l7 [rz,l5 false]),yT,.av (.pin ((o8 a).map .dt)),yF,yT,.av (.pin ((o8 b).map .dt))] [.J5 22 6 [0] (.l7 [l9 x,j4 0]) [some (.cells [.dt (.row ws),j4 m])],.J5 26 6 [0] (.l7 [o7 o,j4 e]) [some (.cells [.dt (.row ws),j4 k])]] [Bk .eql 3 23 1 t.kind bF,Bk .eql 3 23 2 t.kind bF,Bk .lss 3 44 1 l bF,Bk .sub 3 50 1 l (vi (l - 1)),_,(vi ↑t.args.length)=(vi (↑(List.map Te.enc t.args).length)),Bt .neq 3 67 70 ↑t.args.length ↑t.args.length bF,_,_,_,z8 (List.map Te.enc t.args) 0 11 (o8 a),_,Bk .neq 37 109 0 0 bF,_,z8 (List.map Te.enc t.args) 2 11 (o8 b),_] func48 ⟨C9 (by simp[hp.k]),C9 (by simp[hp.k]),D8 (WF J),bL rfl J J,hp.ar,F9 _,E5 I,hp.pr,hp.fn,hp.is,M5 ha,h,E5 I,hn,M5 hb,h2,Z⟩
theorem b35{ws:aa0}{l m k e:Int}{t a b:Te}{env:D7}{x:Tr}{o:Ob}(hp:tQ ws t l true)(ha:t.args[0]?=some a)(hb:t.args[1]?=some b)(h:D6 bS [.ptr 0 0,o6 a,E8 env] (R7 ws (l - 1)) (.l7 [l9 x,j4 0]) (R7 ws m))(hn:j5 97 [l9 x] (l5 false))(h2:D6 bS [.ptr 0 0,o6 b,E8 env] (R7 ws m) (.l7 [o7 o,j4 e]) (R7 ws k)):D6 bS [.ptr 0 0,o6 t,E8 env] (R7 ws l) (.l7 [o7 o,j4 e]) (R7 ws k) :=
 have h0:=hp.l0;have h1:=hp.l1
 sW 1 [0] [yF,yF,yF,.av (j4 (l - 1)),.av (.l7 [j4 t.args.length,l5 true]),.av (j4 t.args.length),yF,.av (.l7 [j4 t.args.length,l5 true]),.av (.l7 [rz,l5 false]),yT,.av (.pin ((o8 a).map .dt)),yF,yF,.av (.pin ((o8 b).map .dt))] [.J5 22 6 [0] (.l7 [l9 x,j4 0]) [some (.cells [.dt (.row ws),j4 m])],.J5 27 6 [0] (.l7 [o7 o,j4 e]) [some (.cells [.dt (.row ws),j4 k])]] [Bk .eql 3 23 1 t.kind bF,Bk .eql 3 23 2 t.kind bF,Bk .lss 3 44 1 l bF,Bk .sub 3 50 1 l (vi (l - 1)),_,(vi ↑t.args.length)=(vi (↑(List.map Te.enc t.args).length)),Bt .neq 3 67 70 ↑t.args.length ↑t.args.length bF,_,_,_,z8 (List.map Te.enc t.args) 0 11 (o8 a),_,Bk .neq 37 109 0 0 bF,_,z8 (List.map Te.enc t.args) 1 11 (o8 b),_] func48 ⟨C9 (by simp[hp.k]),C9 (by simp[hp.k]),D8 (WF J),bL rfl J J,hp.ar,F9 _,E5 I,hp.pr,hp.fn,hp.is,M5 ha,h,E5 I,hn,M5 hb,h2,Z⟩
abbrev raX(ws:aa0)(t:Te)(fc:List AV)(l:Int)(es:aa0):List (Option Bx):=[some (.cells [.dt (.row ws),j4 l]),some (.cells ((o8 t).map .dt)),uH,some (.cells fc),some (.buf 45 7 es)]
abbrev dG(ws:aa0)(t:Te)(env:D7)(fc:List AV)(p:Bool)(l:Int)(es:aa0)(i:Int):AS:=⟨stt 176 [(0,.ptr 0 0),(2,E8 env),(4,.ptr 1 0),(6,.ptr 2 0),(13,l5 p),(14,.ptr 3 0),(18,.own 4 es.length),(19,j4 i)],raX ws t fc l es⟩
abbrev GU(ws:aa0)(t:Te)(env:D7)(fc:List AV)(p:Bool)(l:Int):AS:=⟨stt 176 [(0,.ptr 0 0),(2,E8 env),(4,.ptr 1 0),(6,.ptr 2 0),(13,l5 p),(14,.ptr 3 0),(18,.nil),(19,j4 0)],[some (.cells [.dt (.row ws),j4 l]),some (.cells ((o8 t).map .dt)),uH,some (.cells fc)]⟩
abbrev xK(ws:aa0)(t:Te)(e l:Int):AS:=⟨stt 176 [(6,.ptr 2 0),(7,j4 e)],[some (.cells [.dt (.row ws),j4 l]),some (.cells ((o8 t).map .dt)),some (.cells [j4 0,stA [],stA [],stA [],stA [],stA [],.nil])]⟩
noncomputable abbrev jq:Code:=M6 (O4 f48) [1,1,1,1,1,1,1,1,1,1,1,1,0,1,0,0]
theorem b6T{ws es:aa0}{t x:Te}{env:D7}{fc:List AV}{p:Bool}{l m e:Int}{i:Nat}(hx:t.args[i]?=some x)(he:e≠0)(h:D6 bS [.ptr 0 0,o6 x,E8 env] (R7 ws l) (.l7 [o7 zO,j4 e]) (R7 ws m)):y7 (J3 1) jq (dG ws t env fc p l es i) .ret (xK ws t e m) :=
 have hi:=(UV.1 hx).1
 tW [.av (j4 t.args.length),yT,.av (.pin ((o8 x).map .dt)),yT] [.J5 32 7 [0] (.l7 [o7 zO,j4 e]) [some (.cells [.dt (.row ws),j4 m])]] [6,7] 3 [(vi ↑t.args.length)=(vi (↑(List.map Te.enc t.args).length)),Bt .lss 3 133 136 ↑i ↑t.args.length bT,z8 (List.map Te.enc t.args) ↑i 11 (o8 x),_,Bk .neq 37 151 0 e bT] ⟨F9 _,D8 (Pi J),M5 hx,h,E5 (by simp[he]),Z⟩
theorem b36{ws es:aa0}{t x:Te}{env:D7}{p:Bool}{l m:Int}{y:Tr}{i:Nat}(hx:t.args[i]?=some x)(hl:t.args.length≤1000)(he:es.length≤1000)(h:D6 bS [.ptr 0 0,o6 x,E8 env] (R7 ws l) (.l7 [l9 y,j4 0]) (R7 ws m)):y7 (J3 1) jq (dG ws t env lD p l es i) .F6 (dG ws t env lD p m (es++[A9 y.ob]) ((i+1:Nat):Int)) :=
 have hi:=(UV.1 hx).1
 tW [.av (j4 t.args.length),yT,.av (.pin ((o8 x).map .dt)),yF,.av (.un),.av (j4 ((i+1:Nat):Int))] [.J5 32 7 [0] (.l7 [l9 y,j4 0]) [some (.cells [.dt (.row ws),j4 m])]] [0,2,4,6,13,14,18,19] 5 [(vi ↑t.args.length)=(vi (↑(List.map Te.enc t.args).length)),Bt .lss 3 133 136 ↑i ↑t.args.length bT,z8 (List.map Te.enc t.args) ↑i 11 (o8 x),_,Bk .neq 37 151 0 0 bF,(es.length)=(es.length),P7 112 ((es++[[Dt.val (vi y.ob.kind),Dt.val (str y.ob.num),Dt.val (str y.ob.den),Dt.val (str y.ob.sp),Dt.val (str y.ob.sn),Dt.val (str y.ob.text),Dt.row (List.map Ob.enc y.ob.pair)]]).length),L8 7 [A9 y.ob],Bk .add 3 138 1 ↑i (vi (↑(i+1)))] ⟨F9 _,D8 (Pi J),M5 hx,h,E5 I,rfl,qo J (by simp;omega),Eh y,H6 J J J,Z⟩
theorem b37{ws es:aa0}{t:Te}{env:D7}{p:Bool}{l:Int}{i:Nat}(hi:i=t.args.length):y7 (J3 1) jq (dG ws t env lD p l es i) (.out 1) (dG ws t env lD p l es i) :=
 tW [.av (j4 t.args.length),yF] [] [0,2,4,6,13,14,18,19] 5 [(vi ↑t.args.length)=(vi (↑(List.map Te.enc t.args).length)),Bt .lss 3 133 136 ↑i ↑t.args.length bF] ⟨F9 _,D8 (WF J),Z⟩
theorem b38{ws es:aa0}{t x:Te}{env:D7}{f:p9.F7}{p:Bool}{l m:Int}{y:Tr}{i:Nat}(hx:t.args[i]?=some x)(hl:t.args.length≤1000)(he:es.length≤1000)(h:D6 bS [.ptr 0 0,o6 x,E8 env] (R7 ws l) (.l7 [l9 y,j4 0]) (R7 ws m)):y7 (J3 1) jq (dG ws t env ((G7 f).map .dt) p l es i) .F6 (dG ws t env ((G7 f).map .dt) p m (es++[A9 y.ob]) ((i+1:Nat):Int)) :=
 have hi:=(UV.1 hx).1
 tW [.av (j4 t.args.length),yT,.av (.pin ((o8 x).map .dt)),yF,.av (.un),.av (j4 ((i+1:Nat):Int))] [.J5 32 7 [0] (.l7 [l9 y,j4 0]) [some (.cells [.dt (.row ws),j4 m])]] [0,2,4,6,13,14,18,19] 5 [(vi ↑t.args.length)=(vi (↑(List.map Te.enc t.args).length)),Bt .lss 3 133 136 ↑i ↑t.args.length bT,z8 (List.map Te.enc t.args) ↑i 11 (o8 x),_,Bk .neq 37 151 0 0 bF,(es.length)=(es.length),P7 112 ((es++[[Dt.val (vi y.ob.kind),Dt.val (str y.ob.num),Dt.val (str y.ob.den),Dt.val (str y.ob.sp),Dt.val (str y.ob.sn),Dt.val (str y.ob.text),Dt.row (List.map Ob.enc y.ob.pair)]]).length),L8 7 [A9 y.ob],Bk .add 3 138 1 ↑i (vi (↑(i+1)))] ⟨F9 _,D8 (Pi J),M5 hx,h,E5 I,rfl,qo J (by simp;omega),Eh y,H6 J J J,Z⟩
theorem b39{ws es:aa0}{t:Te}{env:D7}{f:p9.F7}{p:Bool}{l:Int}{i:Nat}(hi:i=t.args.length):y7 (J3 1) jq (dG ws t env ((G7 f).map .dt) p l es i) (.out 1) (dG ws t env ((G7 f).map .dt) p l es i) :=
 tW [.av (j4 t.args.length),yF] [] [0,2,4,6,13,14,18,19] 5 [(vi ↑t.args.length)=(vi (↑(List.map Te.enc t.args).length)),Bt .lss 3 133 136 ↑i ↑t.args.length bF] ⟨F9 _,D8 (WF J),Z⟩
def GV(fc:List AV):Prop:=(∀(ws es:aa0) (t x:Te) (env:D7) (p:Bool) (l m:Int) (y:Tr) (i:Nat),t.args[i]?=some x→t.args.length≤1000→es.length≤1000→D6 bS [.ptr 0 0,o6 x,E8 env] (R7 ws l) (.l7 [l9 y,j4 0]) (R7 ws m)→y7 (J3 1) jq (dG ws t env fc p l es i) .F6 (dG ws t env fc p m (es++[A9 y.ob]) ((i+1:Nat):Int)))∧(∀(ws es:aa0) (t:Te) (env:D7) (p:Bool) (l:Int) (i:Nat),i=t.args.length→y7 (J3 1) jq (dG ws t env fc p l es i) (.out 1) (dG ws t env fc p l es i))
theorem b4a:GV lD:=⟨fun _ _ _ _ _ _ _ _ _ _ hx hl he h=>b36 hx hl he h,fun _ _ _ _ _ _ _ hi=>b37 hi⟩
theorem b4b(f:p9.F7):GV ((G7 f).map .dt):=⟨fun _ _ _ _ _ _ _ _ _ _ hx hl he h=>b38 hx hl he h,fun _ _ _ _ _ _ _ hi=>b39 hi⟩
theorem b4c{ws es:aa0}{l m e:Int}{t:Te}{env:D7}{k:Int}{o:Ob}(hp:tQ ws t l false)(h:y7 (J3 1) (.loop jq) (GU ws t env lD true (l - 1)) (.out 1) (dG ws t env lD true m es k))(ha:j5 98 [p8 t.np t.nn,.dt (.row es)] (.l7 [o7 o,j4 e])):D6 bS [.ptr 0 0,o6 t,E8 env] (R7 ws l) (.l7 [o7 o,j4 e]) (R7 ws m) :=
 have h0:=hp.l0;have h1:=hp.l1
 sW 1 [0] [yF,yF,yF,.av (j4 (l - 1)),.av (.l7 [j4 t.args.length,l5 true]),.av (j4 t.args.length),yF,.av (.l7 [j4 t.args.length,l5 true]),.av (.l7 [rz,l5 false]),yF,.av (.l7 [o7 o,j4 e])] [.inv [0,2,4,6,13,14,18,19] 4 (.out 1) (dG ws t env lD true m es k)] [Bk .eql 3 23 1 t.kind bF,Bk .eql 3 23 2 t.kind bF,Bk .lss 3 44 1 l bF,Bk .sub 3 50 1 l (vi (l - 1)),_,(vi ↑t.args.length)=(vi (↑(List.map Te.enc t.args).length)),Bt .neq 3 67 70 ↑t.args.length ↑t.args.length bF,_,_,_,_,_,(es.length)=(es.length)] func48 ⟨C9 (by simp[hp.k]),C9 (by simp[hp.k]),D8 (WF J),bL rfl J J,hp.ar,F9 _,E5 I,hp.pr,hp.fn,hp.is,h,ha,rfl,Z⟩
theorem b1C{ws:aa0}{l m e:Int}{t:Te}{env:D7}(hp:tQ ws t l false)(h:y7 (J3 1) (.loop jq) (GU ws t env lD true (l - 1)) .ret (xK ws t e m)):D6 bS [.ptr 0 0,o6 t,E8 env] (R7 ws l) (.l7 [o7 zO,j4 e]) (R7 ws m) :=
 have h0:=hp.l0;have h1:=hp.l1
 .rv (sW 1 [0] [yF,yF,yF,.av (j4 (l - 1)),.av (.l7 [j4 t.args.length,l5 true]),.av (j4 t.args.length),yF,.av (.l7 [j4 t.args.length,l5 true]),.av (.l7 [rz,l5 false]),yF] [.inv [0,2,4,6,13,14,18,19] 4 (.ret) (xK ws t e m)] [Bk .eql 3 23 1 t.kind bF,Bk .eql 3 23 2 t.kind bF,Bk .lss 3 44 1 l bF,Bk .sub 3 50 1 l (vi (l - 1)),_,(vi ↑t.args.length)=(vi (↑(List.map Te.enc t.args).length)),Bt .neq 3 67 70 ↑t.args.length ↑t.args.length bF,_,_,_,_] func48 ⟨C9 (by simp[hp.k]),C9 (by simp[hp.k]),D8 (WF J),bL rfl J J,hp.ar,F9 _,E5 I,hp.pr,hp.fn,hp.is,h,Z⟩) fun _ _ _ h=>nO h
structure Mr (ws:aa0) (t:Te) (l:Int) (f:p9.F7):Prop where
 k:t.kind=3
 l0:1≤l
 l1:l≤100000
 ar:j5 93 [.dt (.row ws),p8 t.np t.nn] (.l7 [j4 t.args.length,l5 true])
 pr:j5 94 [p8 t.np t.nn] (.l7 [j4 0,l5 false])
 fn:j5 95 [.dt (.row ws),p8 t.np t.nn] (.l7 [.agg ((G7 f).map .dt),l5 true])
 is:j5 96 [o6 t,stA x8,j4 3] (l5 false)
theorem b4d{ws es bs:aa0}{l m n e:Int}{t:Te}{f:p9.F7}{env:D7}{k:Int}{o:Ob}(hp:Mr ws t l f)(h:y7 (J3 1) (.loop jq) (GU ws t env ((G7 f).map .dt) false (l - 1)) (.out 1) (dG ws t env ((G7 f).map .dt) false m es k))(hb:j5 99 [.dt (.row (f.ps.map H5)),.dt (.row es)] (.dt (.row bs)))(ha:D6 bS [.ptr 0 0,o6 f.body,.dt (.row bs)] (R7 ws m) (.l7 [o7 o,j4 e]) (R7 ws n)):D6 bS [.ptr 0 0,o6 t,E8 env] (R7 ws l) (.l7 [o7 o,j4 e]) (R7 ws n) :=
 have h0:=hp.l0;have h1:=hp.l1
 sW 1 [0] [yF,yF,yF,.av (j4 (l - 1)),.av (.l7 [j4 t.args.length,l5 true]),.av (j4 t.args.length),yF,.av (.l7 [j4 0,l5 false]),.av (.l7 [.agg ((G7 f).map .dt),l5 true]),.no,yF,.av (.dt (.row bs))] [.inv [0,2,4,6,13,14,18,19] 4 (.out 1) (dG ws t env ((G7 f).map .dt) false m es k),.J5 38 7 [0] (.l7 [o7 o,j4 e]) [some (.cells [.dt (.row ws),j4 n])]] [Bk .eql 3 23 1 t.kind bF,Bk .eql 3 23 2 t.kind bF,Bk .lss 3 44 1 l bF,Bk .sub 3 50 1 l (vi (l - 1)),_,(vi ↑t.args.length)=(vi (↑(List.map Te.enc t.args).length)),Bt .neq 3 67 70 ↑t.args.length ↑t.args.length bF,_,_,_,_,_,(es.length)=(es.length),_] func48 ⟨C9 (by simp[hp.k]),C9 (by simp[hp.k]),D8 (WF J),bL rfl J J,hp.ar,F9 _,E5 I,hp.pr,hp.fn,hp.is,h,hb,rfl,ha,Z⟩
theorem b1D{ws:aa0}{l m e:Int}{t:Te}{f:p9.F7}{env:D7}(hp:Mr ws t l f)(h:y7 (J3 1) (.loop jq) (GU ws t env ((G7 f).map .dt) false (l - 1)) .ret (xK ws t e m)):D6 bS [.ptr 0 0,o6 t,E8 env] (R7 ws l) (.l7 [o7 zO,j4 e]) (R7 ws m) :=
 have h0:=hp.l0;have h1:=hp.l1
 .rv (sW 1 [0] [yF,yF,yF,.av (j4 (l - 1)),.av (.l7 [j4 t.args.length,l5 true]),.av (j4 t.args.length),yF,.av (.l7 [j4 0,l5 false]),.av (.l7 [.agg ((G7 f).map .dt),l5 true]),.no,yF] [.inv [0,2,4,6,13,14,18,19] 4 (.ret) (xK ws t e m)] [Bk .eql 3 23 1 t.kind bF,Bk .eql 3 23 2 t.kind bF,Bk .lss 3 44 1 l bF,Bk .sub 3 50 1 l (vi (l - 1)),_,(vi ↑t.args.length)=(vi (↑(List.map Te.enc t.args).length)),Bt .neq 3 67 70 ↑t.args.length ↑t.args.length bF,_,_,_,_] func48 ⟨C9 (by simp[hp.k]),C9 (by simp[hp.k]),D8 (WF J),bL rfl J J,hp.ar,F9 _,E5 I,hp.pr,hp.fn,hp.is,h,Z⟩) fun _ _ _ h=>nO h
theorem wm(W:List p9.F7)(f:Nat)(env:D7)(p n:lw)(l:Nat):ev W f env ⟨1,p,n,Q9,[]⟩ l=(match bf env p n with | some x=>.ok x | none=>.error 6,l):=by
 cases f <;> (rw[ev];unfold jX;exact Ch rfl)
theorem qg(W:List p9.F7)(f:Nat)(env:D7)(t:Tr)(l:Nat):ev W f env (Te.H9 t.ob) l=(.ok t,l):=by
 have key:∀r,jX env (Te.H9 t.ob) l r=(.ok t,l):=fun r=>by
  unfold jX;rw[EQ (show ¬(Te.H9 t.ob).kind=1 from fun h=>absurd (show (2:Int)=1 from h) O),Ch (show (Te.H9 t.ob).kind=2 from rfl)]
  show (Except.ok (Ag t.ob),l)=_;rw[TJ]
 cases f <;> (rw[ev];exact key _)
theorem zg(env:D7)(n:lw)(a:List Te)(l:Nat)(r:iM):jX env (Te.ap n a) l r=r:=by
 unfold jX;rw[EQ (show ¬(Te.ap n a).kind=1 from fun h=>absurd (show (3:Int)=1 from h) O),EQ (show ¬(Te.ap n a).kind=2 from fun h=>absurd (show (3:Int)=2 from h) O)]
theorem wu(W:List p9.F7)(f:Nat)(env:D7)(n:lw)(a:List Te):ev W f env (Te.ap n a) 0=(.error 9,0):=by
 cases f with
 |zero=>rw[ev,zg]
 |succ f=>rw[ev,zg,Ch rfl]
theorem zB(W:List p9.F7)(f:Nat)(env:D7)(n:lw)(a:List Te)(l:Nat):ev W (f+1) env (Te.ap n a) (l+1)=jS W (ev W f) env (Te.ap n a) l:=by
 rw[ev,zg,EQ J,Zb1]
theorem Vs:fI G5 x8=some 3:=by decide +kernel
theorem b4e{n:lw}{a:List Te}(h:fI G5 n=some a.length):is (Te.ap n a) x8 3↔n=x8:=by
 constructor
 ·exact fun hi=>hi.2.2.1
 ·intro hn;subst hn;rw[Vs]at h;exact⟨rfl,rfl,rfl,(Zao h).symm⟩
theorem wD{g:Te→Nat→iM}:∀(s:List Te) (l:Nat) (xs:List Tr) (l':Nat),(∀t∈s,∀l x l',g t l=(.ok x,l')→x.valid=true)→aJ g s l=(.ok xs,l')→xs.length=s.length∧∀x∈xs,x.valid=true
 |[],l,xs,l',_,h=>by rw[aJ]at h;cases h;exact⟨rfl,fun x hx=>by cases hx⟩
 |t::r,l,xs,l',hg,h=>by
  rw[aJ]at h;split at h
  ·cases h
  ·rename_i x l1 hh;split at h
   ·cases h
   ·rename_i ys l2 hk;cases h;obtain⟨h1,h2⟩:=wD r l1 ys l' (fun t ht=>hg t (Cg _ ht)) hk;refine⟨by rw[yM,yM,h1],fun y hy=>?_⟩;rcases Za3.1 hy with rfl | hy
    ·exact hg t (NE ..) _ _ _ hh
    ·exact h2 y hy
theorem kP:∀(f:Nat) (env:D7) (t:Te) (l:Nat),Wd t→dE env→(∀x l',ev G5 f env t l=(.ok x,l')→x.valid=true)∧(∀e l',ev G5 f env t l=(.error e,l')→e≠0):=by
 intro f
 induction f with
 |zero =>
  intro env t l ht he;cases ht with
  |var p n =>
   rw[wm];cases hv:bf env p n with
   |none=>exact⟨fun x l' h=>(by cases h),fun e l' h=>by cases h;decide⟩
   |some y =>
    obtain⟨z,h1,rfl⟩:=Kn hv;exact⟨fun x l' h=>(by cases h;exact he z h1),fun e l' h=>by cases h⟩
  |H9 t h=>rw[qg];exact⟨fun x l' e=>(by cases e;exact h),fun e l' h=>by cases h⟩
  |ap n a ha hl h=>rw[ev,zg];exact⟨fun x l' h=>(by cases h),fun e l' h=>by cases h;decide⟩
 |succ f ih =>
  intro env t l ht he;cases ht with
  |var p n =>
   rw[wm];cases hv:bf env p n with
   |none=>exact⟨fun x l' h=>(by cases h),fun e l' h=>by cases h;decide⟩
   |some y =>
    obtain⟨z,h1,rfl⟩:=Kn hv;exact⟨fun x l' h=>(by cases h;exact he z h1),fun e l' h=>by cases h⟩
  |H9 t h=>rw[qg];exact⟨fun x l' e=>(by cases e;exact h),fun e l' h=>by cases h⟩
  |ap n a ha hl h =>
   cases l with
   |zero=>rw[wu];exact⟨fun x l' h=>(by cases h),fun e l' h=>by cases h;decide⟩
   |succ l =>
    rw[zB];unfold jS;by_cases hi:is (Te.ap n a) x8 3
    ·rw[Ch hi];have hk:∀i,i < 3→Wd ((Te.ap n a).arg i):=fun i hi3=>h _ (q8 (aA hi hi3))
     obtain⟨k1,k2⟩:=ih env ((Te.ap n a).arg 0) l (hk 0 J) he;split
     ·rename_i c l' hc;exact⟨fun x l' h=>(by cases h),fun e l' h=>by cases h;exact k2 _ _ hc⟩
     ·rename_i x l' hc;split
      ·exact ih env _ l' (hk 2 J) he
      ·exact ih env _ l' (hk 1 J) he
    ·rw[EQ hi];have hA:∀(s:List Te) (l:Nat),(∀x∈s,Wd x)→∀e l',aJ (ev G5 f env) s l=(.error e,l')→e≠0:=by
      intro s
      induction s with
      |nil=>intro l _ e l' h;rw[aJ]at h;cases h
      |cons t r BX =>
       intro l hs e l' h;rw[aJ]at h;split at h
       ·rename_i c l1 hc;cases h;exact (ih env t l (hs t (NE ..)) he).2 _ _ hc
       ·split at h
        ·rename_i c l2 hc;cases h;exact BX _ (fun x hx=>hs x (Cg _ hx)) _ _ hc
        ·cases h
     split
     ·rename_i c l' hc;exact⟨fun x l' h=>(by cases h),fun e l' h'=>by cases h';exact hA _ _ h _ _ hc⟩
     ·rename_i vs l' hc;obtain⟨v1,v2⟩:=wD _ _ _ _ (fun t ht l x l' hh=>(ih env t l (h t ht) he).1 x l' hh) hc;split
      ·rename_i i k hp;refine⟨fun x l2 h=>?_,fun e l2 h=>?_⟩
       ·simp only[Zaz]at h;exact b1v h.1
       ·simp only[Zaz]at h;unfold lh at h;split at h
        ·cases h.1
        ·have:=h.1;cases this;decide
      ·split
       ·rename_i fn hf;exact ih _ fn.body l' (Ko (List.mem_of_find?_eq_some hf)).1 (DL _ _ v2)
       ·exact⟨fun x l' h=>(by cases h),fun e l' h=>by cases h;decide⟩
theorem qb(r:Except Int Tr):∃(o:Ob) (e:Int),xu r=.l7 [o7 o,j4 e]:=by
 cases r with
 |ok x=>exact⟨x.ob,0,rfl⟩
 |error e=>exact⟨zO,e,rfl⟩
abbrev jb(vs:List Tr):aa0:=vs.map fun t=>A9 t.ob
theorem Qi(vs:List Tr)(x:Tr):jb vs++[A9 x.ob]=jb (vs++[x]):=by unfold jb;rw[Zam];rfl
theorem QX(vs:List Tr):(jb vs).length=vs.length:=by unfold jb;rw[Cc]
def REv(f:Nat)(env:D7)(t:Te):Prop:=∀l:Nat,l≤f→l≤99999→D6 bS [.ptr 0 0,o6 t,E8 env] (R7 P6 l) (xu (ev G5 f env t l).1) (R7 P6 (ev G5 f env t l).2)
theorem a9w{f:Nat}{env:D7}{t:Te}{fc:List AV}{p:Bool}(hR:GV fc)(hl:t.args.length≤8)(hw:∀x∈t.args,Wd x)(he:dE env)(ih:∀x∈t.args,REv f env x):∀(s:List Te) (i:Nat) (out:List Tr) (l:Nat),t.args.drop i=s→i≤t.args.length→out.length=i→l≤f→l≤99999 →
  (∀xs l',aJ (ev G5 f env) s l=(.ok xs,l')→I7 (J3 1) jq (dG P6 t env fc p l (jb out) i) (.out 1) (dG P6 t env fc p l' (jb (out++xs)) t.args.length))∧(∀e l',aJ (ev G5 f env) s l=(.error e,l')→I7 (J3 1) jq (dG P6 t env fc p l (jb out) i) .ret (xK P6 t e l')):=by
 intro s
 induction s with
 |nil =>
  intro i out l hd hi ho hf _;have e1:=congrArg List.length hd;rw[ut,List.length_nil]at e1;obtain rfl:i=t.args.length:=J;refine⟨fun xs l' h=>?_,fun e l' h=>by rw[aJ]at h;cases h⟩;rw[aJ]at h;cases h;rw[ZaB];exact .stop (hR.2 _ _ _ _ _ _ _ rfl) (fun h=>by cases h)
 |cons x s BX =>
  intro i out l hd hi ho hf hf2;have hx:t.args[i]?=some x:=by rw[←Za1,hd];rfl
  have hlt:=(UV.1 hx).1;have hxm:=q8 hx;have hs:=ih x hxm l hf hf2;have hle:=mq G5 f env x l;rw[aJ];cases hv:ev G5 f env x l with
  |mk r l1 =>
   rw[hv]at hs hle;have hle:l1≤l:=hle;cases r with
   |error c =>
    have hc:=(kP f env x l (hw x hxm) he).2 c l1 hv;exact⟨fun xs l' h=>(by cases h),fun e l' h=>by cases h;exact .stop (b6T hx hc hs) (fun h=>by cases h)⟩
   |ok y =>
    have hst:=hR.1 _ (jb out) _ _ _ p _ _ _ _ hx J (by rw[QX];omega) hs;rw[Qi]at hst;obtain⟨k1,k2⟩:=BX (i+1) (out++[y]) l1 (by rw[←Za0,hd];rfl) hlt (by simp[ho]) J J;refine⟨fun xs l' h=>?_,fun e l' h=>?_⟩
    ·dsimp only at h;split at h
     ·cases h
     ·rename_i ys l2 hh;cases h;have:=k1 ys l' hh;rw[Zaf]at this;exact .more hst this
    ·dsimp only at h;split at h
     ·rename_i c l2 hh;cases h;exact .more hst (k2 _ _ hh)
     ·cases h
theorem IU:(G5.map F8++[bu nN]).length≤1000:=by rw[lm,Cc,ve];decide
theorem SY(i:Nat)(vs:List Tr):O9 (Tr.kept' (Tr.uu i vs))=xu (lh i vs):=by
 unfold lh;cases Tr.kept' (Tr.uu i vs) <;> rfl
theorem b4f:∀(f:Nat) (env:D7) (t:Te),Wd t→dE env→env.length≤1000→REv f env t:=by
 intro f
 induction f with
 |zero =>
  intro env t ht he hle l hl hl2;cases ht with
  |var p n =>
   rw[wm];obtain⟨k1,k2⟩:=WC (e:=env) (a:=p) (b:=n) hle;cases hv:bf env p n with
   |none=>exact XY (t:=⟨1,p,n,Q9,[]⟩) rfl (k1 hv)
   |some x=>exact XX (t:=⟨1,p,n,Q9,[]⟩) rfl (k2 x hv)
  |H9 t h=>rw[qg];exact XZ (t:=Te.H9 t.ob) rfl
  |ap n a ha hn h =>
   obtain rfl:l=0:=J;rw[wu];exact Ya (t:=Te.ap n a) rfl O
 |succ f ih =>
  intro env t ht he hle l hl hl2;cases ht with
  |var p n =>
   rw[wm];obtain⟨k1,k2⟩:=WC (e:=env) (a:=p) (b:=n) hle;cases hv:bf env p n with
   |none=>exact XY (t:=⟨1,p,n,Q9,[]⟩) rfl (k1 hv)
   |some x=>exact XX (t:=⟨1,p,n,Q9,[]⟩) rfl (k2 x hv)
  |H9 t h=>rw[qg];exact XZ (t:=Te.H9 t.ob) rfl
  |ap n a ha hn h =>
   cases l with
   |zero=>rw[wu];exact Ya (t:=Te.ap n a) rfl O
   |succ l =>
    rw[zB];have e1:((l+1:Nat):Int) - 1=(l:Int):=J;have har:j5 93 [.dt (.row P6),p8 o9 n] (.l7 [j4 (a.length:Int),l5 true]):=Lc (ws:=G5) (r:=[bu nN]) IU ha;have his:=b2K (Te.ap n a) x8 3;have hloop:=fun (fc:List AV) (p:Bool) (hR:GV fc)=>a9w (f:=f) (env:=env) (t:=Te.ap n a) (fc:=fc) (p:=p) hR hn h he (fun x hx=>ih env x (h x hx) he hle) a 0 [] l rfl (Ci _) rfl J J
    rcases Qh ha with⟨i,hi,hp,hno⟩ | ⟨fn,hm,hf,hps,hp,hne⟩
    ·have hpr:j5 94 [p8 o9 n] (.l7 [j4 (a.length:Int),l5 true]):=VU hi;have hfn:=a6u hno;unfold jS;by_cases hif:is (Te.ap n a) x8 3
     ·rw[Ch hif];rw[Pi hif]at his;have pre:tQ P6 (Te.ap n a) ((l+1:Nat):Int) true:=⟨rfl,J,J,har,hpr,hfn,his⟩;have w0:=h _ (q8 (aA hif (show 0 < 3 by omega)));have w1:=h _ (q8 (aA hif (show 1 < 3 by omega)));have w2:=h _ (q8 (aA hif (show 2 < 3 by omega)));have h0:=ih env _ w0 he hle l J J;have hle0:=mq G5 f env ((Te.ap n a).arg 0) l;have hok0:=kP f env ((Te.ap n a).arg 0) l w0 he;cases hv:ev G5 f env ((Te.ap n a).arg 0) l with
      |mk r l1 =>
       rw[hv]at h0 hle0;have hle0:l1≤l:=hle0;cases r with
       |error c=>exact b33 pre (aA hif (show 0 < 3 by omega)) (hok0.2 c l1 hv) (by rw[e1];exact h0)
       |ok x =>
        have hn:=a9v x;dsimp only;by_cases hx:x=l6
        ·rw[Ch hx];rw[Pi hx]at hn;have h2:=ih env _ w2 he hle l1 J J;obtain⟨o,e,hr⟩:=qb (ev G5 f env ((Te.ap n a).arg 2) l1).1;rw[hr]at h2 ⊢
         exact b34 pre (aA hif (show 0 < 3 by omega)) (aA hif (show 2 < 3 by omega)) (by rw[e1];exact h0) hn h2
        ·rw[EQ hx];rw[WF hx]at hn;have h2:=ih env _ w1 he hle l1 J J;obtain⟨o,e,hr⟩:=qb (ev G5 f env ((Te.ap n a).arg 1) l1).1;rw[hr]at h2 ⊢
         exact b35 pre (aA hif (show 0 < 3 by omega)) (aA hif (show 1 < 3 by omega)) (by rw[e1];exact h0) hn h2
     ·rw[EQ hif];rw[WF hif]at his;have pre:tQ P6 (Te.ap n a) ((l+1:Nat):Int) false:=⟨rfl,J,J,har,hpr,hfn,his⟩;obtain⟨k1,k2⟩:=hloop lD true b4a;rw[show (Te.ap n a).args=a from rfl]
      cases hv:aJ (ev G5 f env) a l with
      |mk r l1 =>
       cases r with
       |error c=>exact b1C pre (by rw[e1];exact y7.Z9 18 45 7 (by show 18 < 176;omega) rfl (k2 c l1 hv).I8)
       |ok vs =>
        obtain⟨v1,v2⟩:=wD _ _ _ _ (fun t ht l x l' hh=>(kP f env t l (h t ht) he).1 x l' hh) hv;dsimp only;rw[show (Te.ap n a).nn=n from rfl,hp]
        dsimp only;have hap:j5 98 [p8 o9 n,K5 vs] (xu (lh i vs)):=by rw[←SY];exact b3X hi v2 v1
        obtain⟨o,e,hr⟩:=qb (lh i vs);rw[hr]at hap ⊢
        exact b4c pre (by rw[e1];exact y7.Z9 18 45 7 (by show 18 < 176;omega) rfl (k1 vs l1 hv).I8) hap
    ·have hpr:j5 94 [p8 o9 n] (.l7 [j4 0,l5 false]):=VX hne;have hfn:j5 95 [.dt (.row P6),p8 o9 n] (.l7 [.agg ((G7 fn).map .dt),l5 true]):=VY (ws:=G5) (r:=[bu nN]) IU hf;have hif:¬is (Te.ap n a) x8 3:=fun e=>by
      have e2:n=x8:=e.2.2.1;exact hne (x8,3) O e2
     rw[WF hif]at his;have pre:Mr P6 (Te.ap n a) ((l+1:Nat):Int) fn:=⟨rfl,J,J,har,hpr,hfn,his⟩;unfold jS;rw[EQ hif];obtain⟨k1,k2⟩:=hloop ((G7 fn).map .dt) false (b4b fn);rw[show (Te.ap n a).args=a from rfl]
     cases hv:aJ (ev G5 f env) a l with
     |mk r l1 =>
      have hle1:=zw (g:=ev G5 f env) (fun t l=>mq G5 f env t l) a l;rw[hv]at hle1;have hle1:l1≤l:=hle1;cases r with
      |error c=>exact b1D pre (by rw[e1];exact y7.Z9 18 45 7 (by show 18 < 176;omega) rfl (k2 c l1 hv).I8)
      |ok vs =>
       obtain⟨v1,v2⟩:=wD _ _ _ _ (fun t ht l x l' hh=>(kP f env t l (h t ht) he).1 x l' hh) hv;dsimp only;rw[show (Te.ap n a).nn=n from rfl,hp]
       dsimp only;rw[hf];dsimp only;obtain⟨hwd,hpl⟩:=Ko hm;have hbl:(dO fn.ps vs).length≤1000:=by
        have key:∀(p:List (lw)) (v:List Tr),(dO p v).length≤p.length:=by
         intro p
         induction p with
         |nil=>intro v;cases v <;> exact Ci _
         |cons n p ihp=>intro v;cases v with
          |nil=>exact Ci _
          |cons x v=>exact Nat.succ_le_succ (ihp v)
        have:=key fn.ps vs;omega
       have hb:=ih (dO fn.ps vs) fn.body hwd (DL _ _ v2) hbl l1 J J;obtain⟨o,e,hr⟩:=qb (ev G5 f (dO fn.ps vs) fn.body l1).1;rw[hr]at hb ⊢
       exact b4d pre (by rw[e1];exact y7.Z9 18 45 7 (by show 18 < 176;omega) rfl (k1 vs l1 hv).I8) (a9u J J) hb
end Go.Proofs.YtbpmpdadppamgaaGreatDoor
namespace Go.Proofs.YtbpmpdadppamgaaGreatDoor
open Go.Proofs.Tryz
open Go.RowKit
abbrev eT(n:lw):Value:=.agg #[str o9,str n]
theorem PG(e:Bool)(p s:lw)(w:World):(Instr.checkKey e 10000 42 (.agg #[str p,str s])).run prog w=.ok () w:=by
 have h1:=fun (v:ByteArray)=>MapKept.run_checkKey (P:=prog) (w:=w) (k:=.string v) Tryz.underlying9 trivial e 9998
 unfold Instr.checkKey;simp only[lc,Zac Oq,Result.andThen_ok];simp[YJ,part,h1,Result.andThen]
def mR(n:lw):List (lw)→Option Nat
 |[]=>none
 |m::r=>if n=m then some 0 else (mR n r).map (·+1)
theorem Qj(n:lw)(w:World):∀(ks:List (lw)) (es:List MapEntry) (i:Nat),es.map (·.key)=ks.map eT→(Instr.findAsking 42 (eT n) es i).run prog w=.ok ((mR n ks).bind fun j=>(es[j]?).map fun e=>(i+j,e.val)) w
 |[],[],i,_=>rfl
 |[],_::_,_,h=>by cases h
 |_::_,[],_,h=>by cases h
 |m::ks,e::es,i,h=>by
  rw[Zaq,Zaq,List.cons.injEq]at h;obtain⟨h1,h2⟩:=h;have he:(Op.equal 42 (eT n) e.key).run prog w=.ok (decide (n=m)) w:=by
   rw[h1];have:=Da (p:=o9) (s:=n) (p':=o9) (s':=m) w;rw[Pi (rfl:o9=o9),Bool.true_and]at this;exact this
  unfold Instr.findAsking;simp only[lc,he,Result.andThen_ok];rw[mR];by_cases hn:n=m
  ·rw[Ch hn,Pi hn];rfl
  ·rw[EQ hn,WF hn];have:=Qj n w ks es (i+1) h2;simp only[ZaL,Zav];rw[this];cases mR n ks with
   |none=>rfl
   |some j =>
    show Result.ok ((es[j]?).map fun e=>(i+1+j,e.val)) w=Result.ok ((es[j]?).map fun e=>(i+(j+1),e.val)) w;rw[show i+1+j=i+(j+1) by omega]
theorem Qk(n:lw)(w:World)(ks:List (lw))(es:List MapEntry)(h:es.map (·.key)=ks.map eT):(Instr.findKey 42 (eT n) es).run prog w=.ok ((mR n ks).bind fun j=>(es[j]?).map fun e=>(j,e.val)) w:=by
 have ha:=Qj n w ks es 0 h;simp only[Zau]at ha;unfold Instr.findKey;simp only[lc,Zac Oq,Result.andThen_ok];cases es with
 |nil =>
  cases ks with
  |nil=>rfl
  |cons m ks=>cases h
 |cons e es =>
  have hk:Instr.findNow (.struct (prog.fieldsOf 42)) (eT n) (e::es) 0=none:=by
   unfold Instr.findNow Instr.sameNow;rfl
  rw[hk];exact ha
theorem a6v(n:lw)(ks:List (lw)):mg prog 42 (eT n) (ks.map eT) (mR n ks):=fun es w h=>by
 simp only[lc,PG es.isEmpty o9 n w,Result.andThen_ok];exact Qk n w ks es h
theorem a9x{n:lw}{ks:List (lw)}(hn:mR n ks=none):Af prog 42 (eT n) (ks.map eT):=fun es w h=>by
 simp only[lc,PG false o9 n w,Result.andThen_ok];have:=Qk n w ks es h;rw[hn]at this;exact this
theorem Ta{n:lw}:∀{ks:List (lw)} {i:Nat},mR n ks=some i→ks[i]?=some n
 |[],i,h=>by cases h
 |m::ks,i,h=>by
  rw[mR]at h;split at h
  ·rename_i e;cases h;rw[e];rfl
  ·rw[ZaH]at h;obtain⟨j,hj,rfl⟩:=h;rw[List.getElem?_cons_succ];exact Ta hj
end Go.Proofs.YtbpmpdadppamgaaGreatDoor
namespace Go.Proofs.YtbpmpdadppamgaaGreatDoor
open Go.Proofs.Tryz
open Go.RowKit
open Te
abbrev fo(fs:List p9.F7):List (Value×List Dt):=fs.map fun f=>(eT f.nm,G7 f)
abbrev M9(ws:aa0)(s u:Int)(y9:List (Value×List Dt)):List (Option Bx):=[some (.cells [.dt (.row ws),.Q5 1,j4 s,j4 u]),some (.V3 y9)]
abbrev BZ:FuncId:=152
theorem b4g{ws:aa0}{s u:Int}{y9:List (Value×List Dt)}{n:lw}{i:Nat}{f:p9.F7}(h:mg EX.P 42 (eT n) (y9.map (·.1)) (some i))(hg:(y9.map (·.2))[i]?=some (G7 f)):D6 BZ [.ptr 0 0,p8 o9 n] (M9 ws s u y9) (.l7 [.agg ((G7 f).map .dt),l5 true]) (M9 ws s u y9) :=
 sW 2 [0,1] [.av (.l7 [j4 i,.agg ((G7 f).map .dt)])] [] [_,_] func152 ⟨h,hg,Z⟩
theorem b4h{ws:aa0}{s u:Int}{y9:List (Value×List Dt)}{n:lw}{f:p9.F7}(h:mg EX.P 42 (eT n) (y9.map (·.1)) none)(hf:j5 190 [.dt (.row ws),p8 o9 n] (.l7 [.agg ((G7 f).map .dt),l5 true]))(hn:Af EX.P 42 (eT n) (y9.map (·.1))):D6 BZ [.ptr 0 0,p8 o9 n] (M9 ws s u y9) (.l7 [.agg ((G7 f).map .dt),l5 true]) (M9 ws s u (y9++[(eT n,G7 f)])) :=
 sW 2 [0,1] [.no,.av (.l7 [.agg ((G7 f).map .dt),l5 true])] [] [_,_,_] func152 ⟨h,hf,hn,Z⟩
abbrev fq:FuncId:=87
abbrev pq:FuncId:=120
theorem b4i{ws:aa0}{s u:Int}{y9:List (Value×List Dt)}{t:Te}{env:D7}(h:t.kind=2):D6 fq [.ptr 0 0,o6 t,E8 env] (M9 ws s u y9) (.l7 [o7 t.val,j4 0]) (M9 ws s u y9) :=
 sW 2 [0,1] [yT] [] [Bk .eql 3 11 2 t.kind bT] func87 ⟨C9 (U5 h),Z⟩
theorem nS{ws:aa0}{s u u' e:Int}{y9 V9:List (Value×List Dt)}{t:Te}{env:D7}{o:Ob}(h:t.kind=3)(hc:D6 pq [.ptr 0 0,o6 t,E8 env] (M9 ws s u y9) (.l7 [o7 o,j4 e]) (M9 ws s u' V9)):D6 fq [.ptr 0 0,o6 t,E8 env] (M9 ws s u y9) (.l7 [o7 o,j4 e]) (M9 ws s u' V9) :=
 sW 2 [0,1] [yF,yT] [.J5 5 3 [0,1] (.l7 [o7 o,j4 e]) [some (.cells [.dt (.row ws),.Q5 1,j4 s,j4 u']),some (.V3 V9)]] [Bk .eql 3 11 2 t.kind bF,Bk .eql 3 11 3 t.kind bT,_] func87 ⟨C9 (by simp[h]),C9 (U5 h),hc,Z⟩
abbrev ceX(ws:aa0)(s u:Int)(y9:List (Value×List Dt))(t:Te)(z:Option Bx):List (Option Bx):=[some (.cells [.dt (.row ws),.Q5 1,j4 s,j4 u]),some (.V3 y9),some (.cells ((o8 t).map .dt)),z]
abbrev jZ(ws:aa0)(s u:Int)(y9:List (Value×List Dt))(t:Te)(e:D7)(i:Int):AS:=⟨stt 39 [(4,.ptr 2 0),(6,.ptr 3 0),(7,j4 0),(24,E8 e),(25,j4 e.length),(26,j4 i)],ceX ws s u y9 t uH⟩
abbrev GX(ws:aa0)(s u:Int)(y9:List (Value×List Dt))(t:Te)(x:Tr):AS:=⟨stt 39 [(6,.ptr 3 0),(7,j4 0)],ceX ws s u y9 t (some (.cells ((A9 x.ob).map .dt)))⟩
noncomputable abbrev uM:Code:=M6 (O4 f87) [1,1,0,1,0,0]
theorem Zd{ws:aa0}{s u:Int}{y9:List (Value×List Dt)}{t:Te}{e:D7}{x:(lw×lw)×Tr}{i:Nat}(hx:e[i]?=some x)(hl:e.length≤1000)(h:¬(x.1.1=t.np∧x.1.2=t.nn)):y7 (J3 2) uM (jZ ws s u y9 t e i) .F6 (jZ ws s u y9 t e ((i+1:Nat):Int)) :=
 have hi:=(UV.1 hx).1
 tW [yT,.av (.pin ((gV x).map .dt)),yF,.av (j4 ((i+1:Nat):Int))] [] [4,6,7,24,25,26] 4 [Bt .lss 3 26 25 ↑i (↑(List.length e)) bT,z8 (ai e) ↑i 9 ([(.val (str x.fst.fst)),(.val (str x.fst.snd)),(.val (vi x.snd.ob.kind)),(.val (str x.snd.ob.num)),(.val (str x.snd.ob.den)),(.val (str x.snd.ob.sp)),(.val (str x.snd.ob.sn)),(.val (str x.snd.ob.text)),(.row (List.map Ob.enc x.snd.ob.pair))]),Bn .eql 42 (.tmp 31) (.tmp 33) (Value.agg #[str x.fst.fst,str x.fst.snd]) (Value.agg #[str t.np,str t.nn]) bF,Bk .add 3 26 1 ↑i (vi (↑(i+1)))] ⟨D8 (Pi J),zN hx,ae (zy h),H6 J J J,Z⟩
theorem b6U{ws:aa0}{s u:Int}{y9:List (Value×List Dt)}{t:Te}{e:D7}{x:(lw×lw)×Tr}{i:Nat}(hx:e[i]?=some x)(h:x.1.1=t.np∧x.1.2=t.nn):y7 (J3 2) uM (jZ ws s u y9 t e i) .ret (GX ws s u y9 t x.2) :=
 have hi:=(UV.1 hx).1
 tW [yT,.av (.pin ((gV x).map .dt)),yT] [] [6,7] 4 [Bt .lss 3 26 25 ↑i (↑(List.length e)) bT,z8 (ai e) ↑i 9 ([(.val (str x.fst.fst)),(.val (str x.fst.snd)),(.val (vi x.snd.ob.kind)),(.val (str x.snd.ob.num)),(.val (str x.snd.ob.den)),(.val (str x.snd.ob.sp)),(.val (str x.snd.ob.sn)),(.val (str x.snd.ob.text)),(.row (List.map Ob.enc x.snd.ob.pair))]),Bn .eql 42 (.tmp 31) (.tmp 33) (Value.agg #[str x.fst.fst,str x.fst.snd]) (Value.agg #[str t.np,str t.nn]) bT] ⟨D8 (Pi J),zN hx,ae (sD h),Z⟩
theorem b6V{ws:aa0}{s u:Int}{y9:List (Value×List Dt)}{t:Te}{e:D7}{i:Nat}(hi:i=e.length):y7 (J3 2) uM (jZ ws s u y9 t e i) (.out 1) (jZ ws s u y9 t e i) :=
 tW [yF] [] [4,6,7,24,25,26] 4 [Bt .lss 3 26 25 ↑i (↑(List.length e)) bF] ⟨D8 (WF J),Z⟩
theorem b4j{ws:aa0}{s u:Int}{y9:List (Value×List Dt)}{t:Te}{e:D7}{x:Tr}(h:t.kind=1)(ht:y7 (J3 2) (.loop uM) (jZ ws s u y9 t e 0) .ret (GX ws s u y9 t x)):D6 fq [.ptr 0 0,o6 t,E8 e] (M9 ws s u y9) (.l7 [l9 x,j4 0]) (M9 ws s u y9) :=
 sW 2 [0,1] [yF,yF,.av (j4 e.length)] [.inv [4,6,7,24,25,26] 4 (.ret) (GX ws s u y9 t x)] [Bk .eql 3 11 2 t.kind bF,Bk .eql 3 11 3 t.kind bF,(vi (↑(List.length e)))=(vi (↑(ai e).length)),_] func87 ⟨C9 (by simp[h]),C9 (by simp[h]),zP _,ht,Z⟩
theorem b4k{ws:aa0}{s u k:Int}{y9:List (Value×List Dt)}{t:Te}{e:D7}(h:t.kind=1)(ht:y7 (J3 2) (.loop uM) (jZ ws s u y9 t e 0) (.out 1) (jZ ws s u y9 t e k)):D6 fq [.ptr 0 0,o6 t,E8 e] (M9 ws s u y9) (.l7 [o7 zO,j4 6]) (M9 ws s u y9) :=
 .rv (sW 2 [0,1] [yF,yF,.av (j4 e.length)] [.inv [4,6,7,24,25,26] 4 (.out 1) (jZ ws s u y9 t e k)] [Bk .eql 3 11 2 t.kind bF,Bk .eql 3 11 3 t.kind bF,(vi (↑(List.length e)))=(vi (↑(ai e).length)),_] func87 ⟨C9 (by simp[h]),C9 (by simp[h]),zP _,ht,Z⟩) fun _ _ _ h=>nO h
theorem a9y{ws:aa0}{s u:Int}{y9:List (Value×List Dt)}{t:Te}{L:D7}(hl:L.length≤1000):∀(q:D7) (i:Nat),L.drop i=q→i≤L.length →
  (bf q t.np t.nn=none→I7 (J3 2) uM (jZ ws s u y9 t L i) (.out 1) (jZ ws s u y9 t L L.length))∧(∀x,bf q t.np t.nn=some x→I7 (J3 2) uM (jZ ws s u y9 t L i) .ret (GX ws s u y9 t x)):=by
 intro q
 induction q with
 |nil =>
  intro i hd hi;have e1:=congrArg List.length hd;rw[ut,List.length_nil]at e1;obtain rfl:i=L.length:=J;exact⟨fun _=>.stop (b6V rfl) (fun h=>by cases h),fun t h=>by cases h⟩
 |cons x q ih =>
  intro i hd hi;have hx:L[i]?=some x:=by rw[←Za1,hd];rfl
  have hlt:=(UV.1 hx).1;obtain⟨h1,h2⟩:=ih (i+1) (by rw[←Za0,hd];rfl) hlt;rw[bf];by_cases hc:x.1.1=t.np∧x.1.2=t.nn
  ·rw[Ch hc];exact⟨fun h=>(by cases h),fun y h=>by cases h;exact .stop (b6U hx hc) (fun h=>by cases h)⟩
  ·rw[EQ hc];exact⟨fun h=>.more (Zd hx hl hc) (h1 h),fun y h=>.more (Zd hx hl hc) (h2 y h)⟩
end Go.Proofs.YtbpmpdadppamgaaGreatDoor
