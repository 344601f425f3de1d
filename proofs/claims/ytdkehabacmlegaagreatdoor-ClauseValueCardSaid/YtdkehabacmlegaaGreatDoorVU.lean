/- The code's evaluator: call. -/
import Derived.Test.YtdkehabacmlegaaGreatDoorVT
import Derived.Test.YtdkehabacmlegaaGreatDoorVQ
import Derived.Test.YtdkehabacmlegaaGreatDoorVM
import Derived.Test.YtdkehabacmlegaaGreatDoorVN
set_option maxRecDepth 100000
set_option maxHeartbeats 4000000
namespace Go.Proofs.YtdkehabacmlegaaGreatDoor
open Go.Proofs.Tryz
open Go.RowKit
open Te
abbrev kT:List AV:=[stA [],stA [],.nil,j3 0,j3 0,stA [],stA [],j3 0,stA [],stA [],stA [],stA [],stA [],.nil,.nil,j3 0,stA [],stA [],j3 0,stA [],stA [],stA [],stA [],stA [],.nil,.nil,j3 0,stA [],stA [],j3 0,stA [],stA [],stA [],stA [],stA [],.nil,.nil]
theorem TY{ws:bv}{s u:Int}{x9:List (Value×List Dt)}{t:Te}{env:D6}(h:s≤u):C8 ni [.ptr 0 0,o7 t,F7 env] (K6 ws s u x9) (.l7 [l9 zO,j3 9]) (K6 ws s u x9) :=
 .rv (sW 2 [0,1] [yT] [] [Bt .geq 3 25 29 u s bT] func119 ⟨R7 (decide_eq_true h),Z⟩) fun _ _ _ h=>lM h
structure qK (t:Te) (s u:Int) (b:Bool):Prop where
 u0:0≤u
 lt:u < s
 s1:s≤100000
 pr:j5 150 [o9 t.np t.nn] (.l7 [j3 t.args.length,j6 true])
 nm:decide (t.nn=x8)=b
theorem a9A{ws:bv}{s u v e:Int}{x9 U5:List (Value×List Dt)}{t a:Te}{env:D6}(hp:qK t s u true)(ha:t.args[0]?=some a)(he:e≠0)(h:C8 dN [.ptr 0 0,o7 a,F7 env] (K6 ws s (u+1) x9) (.l7 [l9 zO,j3 e]) (K6 ws s v U5)):C8 ni [.ptr 0 0,o7 t,F7 env] (K6 ws s u x9) (.l7 [l9 zO,j3 e]) (K6 ws s v U5) :=
 have h0:=hp.u0;have h1:=hp.lt;have h2:=hp.s1
 .rv (sW 2 [0,1] [yF,.av (j3 (u+1)),.av (.l7 [j3 t.args.length,j6 true]),.av (j3 t.args.length),yF,yT,.av (.pin ((p9 a).map .dt)),yT] [.J6 17 6 [0,1] (.l7 [l9 zO,j3 e]) [some (.cells [.dt (.row ws),.O5 1,j3 s,j3 v]),some (.T9 U5)]] [Bt .geq 3 25 29 u s bF,Bk .add 3 35 1 u (vi (u+1)),_,(vi ↑t.args.length)=(vi (↑(List.map Te.enc t.args).length)),Bt .neq 3 63 64 ↑t.args.length ↑t.args.length bF,Bl .eql 9 81 [105,102] t.nn bT,z8 (List.map Te.enc t.args) 0 11 (p9 a),_,Bk .neq 31 95 0 e bT] func119 ⟨R7 (decide_eq_false J),I4 rfl J J,hp.pr,H7 _,E9 I,H5 hp.nm,L8 ha,h,E9 (by simp[he]),Z⟩) fun _ _ _ h=>lM h
theorem a9B{ws:bv}{s u v k e:Int}{x9 U5 qL:List (Value×List Dt)}{t a b:Te}{env:D6}{x:Tr}{o:Ob}(hp:qK t s u true)(ha:t.args[0]?=some a)(hb:t.args[2]?=some b)(h:C8 dN [.ptr 0 0,o7 a,F7 env] (K6 ws s (u+1) x9) (.l7 [l5 x,j3 0]) (K6 ws s v U5))(hn:j5 41 [l5 x] (j6 true))(hc:C8 dN [.ptr 0 0,o7 b,F7 env] (K6 ws s v U5) (.l7 [l9 o,j3 e]) (K6 ws s k qL)):C8 ni [.ptr 0 0,o7 t,F7 env] (K6 ws s u x9) (.l7 [l9 o,j3 e]) (K6 ws s k qL) :=
 have h0:=hp.u0;have h1:=hp.lt;have h2:=hp.s1
 sW 2 [0,1] [yF,.av (j3 (u+1)),.av (.l7 [j3 t.args.length,j6 true]),.av (j3 t.args.length),yF,yT,.av (.pin ((p9 a).map .dt)),yF,yT,.av (.pin ((p9 b).map .dt))] [.J6 17 6 [0,1] (.l7 [l5 x,j3 0]) [some (.cells [.dt (.row ws),.O5 1,j3 s,j3 v]),some (.T9 U5)],.J6 21 6 [0,1] (.l7 [l9 o,j3 e]) [some (.cells [.dt (.row ws),.O5 1,j3 s,j3 k]),some (.T9 qL)]] [Bt .geq 3 25 29 u s bF,Bk .add 3 35 1 u (vi (u+1)),_,(vi ↑t.args.length)=(vi (↑(List.map Te.enc t.args).length)),Bt .neq 3 63 64 ↑t.args.length ↑t.args.length bF,Bl .eql 9 81 [105,102] t.nn bT,z8 (List.map Te.enc t.args) 0 11 (p9 a),_,Bk .neq 31 95 0 0 bF,_,z8 (List.map Te.enc t.args) 2 11 (p9 b),_] func119 ⟨R7 (decide_eq_false J),I4 rfl J J,hp.pr,H7 _,E9 I,H5 hp.nm,L8 ha,h,E9 I,hn,L8 hb,hc,Z⟩
theorem a9C{ws:bv}{s u v k e:Int}{x9 U5 qL:List (Value×List Dt)}{t a b:Te}{env:D6}{x:Tr}{o:Ob}(hp:qK t s u true)(ha:t.args[0]?=some a)(hb:t.args[1]?=some b)(h:C8 dN [.ptr 0 0,o7 a,F7 env] (K6 ws s (u+1) x9) (.l7 [l5 x,j3 0]) (K6 ws s v U5))(hn:j5 41 [l5 x] (j6 false))(hc:C8 dN [.ptr 0 0,o7 b,F7 env] (K6 ws s v U5) (.l7 [l9 o,j3 e]) (K6 ws s k qL)):C8 ni [.ptr 0 0,o7 t,F7 env] (K6 ws s u x9) (.l7 [l9 o,j3 e]) (K6 ws s k qL) :=
 have h0:=hp.u0;have h1:=hp.lt;have h2:=hp.s1
 sW 2 [0,1] [yF,.av (j3 (u+1)),.av (.l7 [j3 t.args.length,j6 true]),.av (j3 t.args.length),yF,yT,.av (.pin ((p9 a).map .dt)),yF,yF,.av (.pin ((p9 b).map .dt))] [.J6 17 6 [0,1] (.l7 [l5 x,j3 0]) [some (.cells [.dt (.row ws),.O5 1,j3 s,j3 v]),some (.T9 U5)],.J6 22 6 [0,1] (.l7 [l9 o,j3 e]) [some (.cells [.dt (.row ws),.O5 1,j3 s,j3 k]),some (.T9 qL)]] [Bt .geq 3 25 29 u s bF,Bk .add 3 35 1 u (vi (u+1)),_,(vi ↑t.args.length)=(vi (↑(List.map Te.enc t.args).length)),Bt .neq 3 63 64 ↑t.args.length ↑t.args.length bF,Bl .eql 9 81 [105,102] t.nn bT,z8 (List.map Te.enc t.args) 0 11 (p9 a),_,Bk .neq 31 95 0 0 bF,_,z8 (List.map Te.enc t.args) 1 11 (p9 b),_] func119 ⟨R7 (decide_eq_false J),I4 rfl J J,hp.pr,H7 _,E9 I,H5 hp.nm,L8 ha,h,E9 I,hn,L8 hb,hc,Z⟩
abbrev KS(ws:bv)(s u:Int)(x9:List (Value×List Dt))(t:Te)(fc:List AV):List (Option Bx):=[some (.cells [.dt (.row ws),.O5 1,j3 s,j3 u]),some (.T9 x9),some (.cells ((p9 t).map .dt)),rC,some (.cells fc)]
abbrev bM(ws:bv)(s u:Int)(x9:List (Value×List Dt))(t:Te)(env:D6)(fc:List AV)(b:Bool)(n:Int)(es:bv)(i:Int):AS:=⟨stt 179 [(0,.ptr 0 0),(2,F7 env),(4,.ptr 2 0),(6,.ptr 3 0),(8,j3 n),(9,j6 b),(10,.ptr 4 0),(14,.own 5 es.length),(123,D9 t.args),(124,j3 t.args.length),(125,j3 i)],KS ws s u x9 t fc++[some (.buf 48 7 es)]⟩
abbrev WN(ws:bv)(s u:Int)(x9:List (Value×List Dt))(t:Te)(env:D6)(fc:List AV)(b:Bool)(n:Int)(es:bv)(i:Int):AS:=⟨stt 179 [(0,.ptr 0 0),(2,F7 env),(4,.ptr 2 0),(6,.ptr 3 0),(8,j3 n),(9,j6 b),(10,.ptr 4 0),(14,.dt (.row es)),(123,D9 t.args),(124,j3 t.args.length),(125,j3 i)],KS ws s u x9 t fc++[some (.ak es)]⟩
abbrev vv(ws:bv)(s u:Int)(x9:List (Value×List Dt))(t:Te)(e:Int):AS:=⟨stt 179 [(6,.ptr 3 0),(7,j3 e)],[some (.cells [.dt (.row ws),.O5 1,j3 s,j3 u]),some (.T9 x9),some (.cells ((p9 t).map .dt)),rC]⟩
noncomputable abbrev iy:Code:=M9 (P6 f119) [1,1,1,1,1,1,1,1,0,1,0,0]
theorem b1U{ws es:bv}{s u v n e:Int}{x9 U5:List (Value×List Dt)}{t x:Te}{env:D6}{fc:List AV}{b:Bool}{i:Nat}(hx:t.args[i]?=some x)(he:e≠0)(h:C8 dN [.ptr 0 0,o7 x,F7 env] (K6 ws s u x9) (.l7 [l9 zO,j3 e]) (K6 ws s v U5)):y7 (J5 2) iy (bM ws s u x9 t env fc b n es i) .ret (vv ws s v U5 t e) :=
 have hi:=(List.getElem?_eq_some_iff.1 hx).1
 tW [yT,.av (.pin ((p9 x).map .dt)),yT] [.J6 27 3 [0,1] (.l7 [l9 zO,j3 e]) [some (.cells [.dt (.row ws),.O5 1,j3 s,j3 v]),some (.T9 U5)]] [6,7] 4 [Bt .lss 3 125 124 ↑i ↑t.args.length bT,z8 (List.map Te.enc t.args) ↑i 11 (p9 x),_,Bk .neq 31 136 0 e bT] ⟨C9 (decide_eq_true J),L8 hx,h,E9 (by simp[he]),Z⟩
theorem a9D{ws es:bv}{s u v n:Int}{x9 U5:List (Value×List Dt)}{t x:Te}{env:D6}{b:Bool}{y:Tr}{i:Nat}(hx:t.args[i]?=some x)(hl:t.args.length≤1000)(he:es.length≤1000)(h:C8 dN [.ptr 0 0,o7 x,F7 env] (K6 ws s u x9) (.l7 [l5 y,j3 0]) (K6 ws s v U5)):y7 (J5 2) iy (bM ws s u x9 t env kT b n es i) .F4 (bM ws s v U5 t env kT b n (es++[y8 y.ob]) ((i+1:Nat):Int)) :=
 have hi:=(List.getElem?_eq_some_iff.1 hx).1
 tW [yT,.av (.pin ((p9 x).map .dt)),yF,.av (.un),.av (j3 ((i+1:Nat):Int))] [.J6 27 3 [0,1] (.l7 [l5 y,j3 0]) [some (.cells [.dt (.row ws),.O5 1,j3 s,j3 v]),some (.T9 U5)]] [0,2,4,6,8,9,10,14,123,124,125] 6 [Bt .lss 3 125 124 ↑i ↑t.args.length bT,z8 (List.map Te.enc t.args) ↑i 11 (p9 x),_,Bk .neq 31 136 0 0 bF,(es.length)=(es.length),P9 112 ((es++[[Dt.val (vi y.ob.kind),Dt.val (str y.ob.num),Dt.val (str y.ob.den),Dt.val (str y.ob.sp),Dt.val (str y.ob.sn),Dt.val (str y.ob.text),Dt.row (List.map Ob.enc y.ob.pair)]]).length),L6 7 [y8 y.ob],Bk .add 3 125 1 ↑i (vi (↑(i+1)))] ⟨C9 (decide_eq_true J),L8 hx,h,E9 I,rfl,nY J (by simp;omega),BD y,I4 J J J,Z⟩
theorem a9E{ws es:bv}{s u n:Int}{x9:List (Value×List Dt)}{t:Te}{env:D6}{b:Bool}{i:Nat}(hi:i=t.args.length):y7 (J5 2) iy (bM ws s u x9 t env kT b n es i) (.out 2) (bM ws s u x9 t env kT b n es i) :=
 tW [yF] [] [0,2,4,6,8,9,10,14,123,124,125] 6 [Bt .lss 3 125 124 ↑i ↑t.args.length bF] ⟨C9 (decide_eq_false J),Z⟩
theorem a9F{ws es:bv}{s u v n:Int}{x9 U5:List (Value×List Dt)}{t x:Te}{env:D6}{f:o8.E8}{b:Bool}{y:Tr}{i:Nat}(hx:t.args[i]?=some x)(hl:t.args.length≤1000)(he:es.length≤1000)(h:C8 dN [.ptr 0 0,o7 x,F7 env] (K6 ws s u x9) (.l7 [l5 y,j3 0]) (K6 ws s v U5)):y7 (J5 2) iy (bM ws s u x9 t env ((F6 f).map .dt) b n es i) .F4 (bM ws s v U5 t env ((F6 f).map .dt) b n (es++[y8 y.ob]) ((i+1:Nat):Int)) :=
 have hi:=(List.getElem?_eq_some_iff.1 hx).1
 tW [yT,.av (.pin ((p9 x).map .dt)),yF,.av (.un),.av (j3 ((i+1:Nat):Int))] [.J6 27 3 [0,1] (.l7 [l5 y,j3 0]) [some (.cells [.dt (.row ws),.O5 1,j3 s,j3 v]),some (.T9 U5)]] [0,2,4,6,8,9,10,14,123,124,125] 6 [Bt .lss 3 125 124 ↑i ↑t.args.length bT,z8 (List.map Te.enc t.args) ↑i 11 (p9 x),_,Bk .neq 31 136 0 0 bF,(es.length)=(es.length),P9 112 ((es++[[Dt.val (vi y.ob.kind),Dt.val (str y.ob.num),Dt.val (str y.ob.den),Dt.val (str y.ob.sp),Dt.val (str y.ob.sn),Dt.val (str y.ob.text),Dt.row (List.map Ob.enc y.ob.pair)]]).length),L6 7 [y8 y.ob],Bk .add 3 125 1 ↑i (vi (↑(i+1)))] ⟨C9 (decide_eq_true J),L8 hx,h,E9 I,rfl,nY J (by simp;omega),BD y,I4 J J J,Z⟩
theorem a9G{ws es:bv}{s u n:Int}{x9:List (Value×List Dt)}{t:Te}{env:D6}{f:o8.E8}{b:Bool}{i:Nat}(hi:i=t.args.length):y7 (J5 2) iy (bM ws s u x9 t env ((F6 f).map .dt) b n es i) (.out 2) (bM ws s u x9 t env ((F6 f).map .dt) b n es i) :=
 tW [yF] [] [0,2,4,6,8,9,10,14,123,124,125] 6 [Bt .lss 3 125 124 ↑i ↑t.args.length bF] ⟨C9 (decide_eq_false J),Z⟩
def KT(fc:List AV):Prop:=(∀(ws es:bv) (s u v n:Int) (x9 U5:List (Value×List Dt)) (t x:Te) (env:D6) (b:Bool) (y:Tr) (i:Nat),t.args[i]?=some x→t.args.length≤1000→es.length≤1000→C8 dN [.ptr 0 0,o7 x,F7 env] (K6 ws s u x9) (.l7 [l5 y,j3 0]) (K6 ws s v U5)→y7 (J5 2) iy (bM ws s u x9 t env fc b n es i) .F4 (bM ws s v U5 t env fc b n (es++[y8 y.ob]) ((i+1:Nat):Int)))∧(∀(ws es:bv) (s u n:Int) (x9:List (Value×List Dt)) (t:Te) (env:D6) (b:Bool) (i:Nat),i=t.args.length→y7 (J5 2) iy (bM ws s u x9 t env fc b n es i) (.out 2) (bM ws s u x9 t env fc b n es i))
theorem a9H:KT kT:=⟨fun _ _ _ _ _ _ _ _ _ _ _ _ _ _ hx hl he h=>a9D hx hl he h,fun _ _ _ _ _ _ _ _ _ _ hi=>a9E hi⟩
theorem a9I(f:o8.E8):KT ((F6 f).map .dt):=⟨fun _ _ _ _ _ _ _ _ _ _ _ _ _ _ hx hl he h=>a9F hx hl he h,fun _ _ _ _ _ _ _ _ _ _ hi=>a9G hi⟩
theorem a9J{ws es:bv}{s u v k e:Int}{x9 U5:List (Value×List Dt)}{t:Te}{env:D6}{o:Ob}(hp:qK t s u false)(h:y7 (J5 2) (.loop iy) (bM ws s (u+1) x9 t env kT true t.args.length [] 0) (.out 2) (bM ws s v U5 t env kT true t.args.length es k))(ha:j5 152 [o9 t.np t.nn,.dt (.row es)] (.l7 [l9 o,j3 e]))(hl:t.args.length≤1000):C8 ni [.ptr 0 0,o7 t,F7 env] (K6 ws s u x9) (.l7 [l9 o,j3 e]) (K6 ws s v U5) :=
 have h0:=hp.u0;have h1:=hp.lt;have h2:=hp.s1
 sW 2 [0,1] [yF,.av (j3 (u+1)),.av (.l7 [j3 t.args.length,j6 true]),.av (j3 t.args.length),yF,yF,.no,.av (j3 t.args.length),.av (.l7 [l9 o,j3 e])] [.inv [0,2,4,6,8,9,10,14,123,124,125] 6 (.out 2) (bM ws s v U5 t env kT true t.args.length es k)] [Bt .geq 3 25 29 u s bF,Bk .add 3 35 1 u (vi (u+1)),_,(vi ↑t.args.length)=(vi (↑(List.map Te.enc t.args).length)),Bt .neq 3 63 64 ↑t.args.length ↑t.args.length bF,Bl .eql 9 81 [105,102] t.nn bF,jB 112 ↑t.args.length,(vi ↑t.args.length)=(vi (↑(List.map Te.enc t.args).length)),_,_,(es.length)=(es.length)] func119 ⟨R7 (decide_eq_false J),I4 rfl J J,hp.pr,H7 _,E9 I,H5 hp.nm,⟨J,J,by show (t.args.length:Int)≤((2 ^ 63 - 1:Nat):Int);omega⟩,H7 _,h,ha,rfl,Z⟩
theorem a7v{ws:bv}{s u v e:Int}{x9 U5:List (Value×List Dt)}{t:Te}{env:D6}(hp:qK t s u false)(h:y7 (J5 2) (.loop iy) (bM ws s (u+1) x9 t env kT true t.args.length [] 0) .ret (vv ws s v U5 t e))(hl:t.args.length≤1000):C8 ni [.ptr 0 0,o7 t,F7 env] (K6 ws s u x9) (.l7 [l9 zO,j3 e]) (K6 ws s v U5) :=
 have h0:=hp.u0;have h1:=hp.lt;have h2:=hp.s1
 .rv (sW 2 [0,1] [yF,.av (j3 (u+1)),.av (.l7 [j3 t.args.length,j6 true]),.av (j3 t.args.length),yF,yF,.no,.av (j3 t.args.length)] [.inv [0,2,4,6,8,9,10,14,123,124,125] 6 (.ret) (vv ws s v U5 t e)] [Bt .geq 3 25 29 u s bF,Bk .add 3 35 1 u (vi (u+1)),_,(vi ↑t.args.length)=(vi (↑(List.map Te.enc t.args).length)),Bt .neq 3 63 64 ↑t.args.length ↑t.args.length bF,Bl .eql 9 81 [105,102] t.nn bF,jB 112 ↑t.args.length,(vi ↑t.args.length)=(vi (↑(List.map Te.enc t.args).length)),_] func119 ⟨R7 (decide_eq_false J),I4 rfl J J,hp.pr,H7 _,E9 I,H5 hp.nm,⟨J,J,by show (t.args.length:Int)≤((2 ^ 63 - 1:Nat):Int);omega⟩,H7 _,h,Z⟩) fun _ _ _ h=>lM h
structure IX (t:Te) (s u:Int) (f:o8.E8):Prop where
 u0:0≤u
 lt:u < s
 s1:s≤100000
 np:t.np=o6
 pr:j5 150 [o9 t.np t.nn] (.l7 [j3 0,j6 false])
 ps:f.ps.length=t.args.length
 ln:t.args.length≤8
abbrev nk(ws:bv)(s u:Int)(x9:List (Value×List Dt))(t:Te)(f:o8.E8)(es bs:bv)(i:Int):AS:=⟨stt 179 [(0,.ptr 0 0),(6,.ptr 3 0),(10,.ptr 4 0),(14,.dt (.row es)),(19,.own 6 bs.length),(155,.dt (.row (f.ps.map G5))),(156,j3 f.ps.length),(157,j3 i)],KS ws s u x9 t ((F6 f).map .dt)++[some (.ak es),some (.buf 93 9 bs)]⟩
noncomputable abbrev DW:Code:=M9 (P6 f119) [1,1,1,1,1,1,1,1,1,1,1,0,1,0,0]
theorem b1V{ws bs:bv}{s u:Int}{x9:List (Value×List Dt)}{t:Te}{f:o8.E8}{vs:List Tr}{n:bi}{x:Tr}{i:Nat}(hn:f.ps[i]?=some n)(hx:vs[i]?=some x)(hp:f.ps.length≤1000)(hb:bs.length≤1000):y7 (J5 2) DW (nk ws s u x9 t f (vs.map fun t=>y8 t.ob) bs i) .F4 (nk ws s u x9 t f (vs.map fun t=>y8 t.ob) (bs++[fH ((o6,n),x)]) ((i+1:Nat):Int)) :=
 have hi:=(List.getElem?_eq_some_iff.1 hn).1
 tW [yT,.av (.pin ((G5 n).map .dt)),.av (.pin ((y8 x.ob).map .dt)),.av (.un),.av (j3 ((i+1:Nat):Int))] [] [0,6,10,14,19,155,156,157] 7 [Bt .lss 3 157 156 ↑i ↑f.ps.length bT,z8 (List.map G5 f.ps) ↑i 2 ([(.val (str o6)),(.val (str n))]),z8 (List.map (fun t=>y8 t.ob) vs) ↑i 7 (y8 x.ob),(bs.length)=(bs.length),P9 144 ((bs++[[Dt.val (str o6),Dt.val (str n),Dt.val (vi x.ob.kind),Dt.val (str x.ob.num),Dt.val (str x.ob.den),Dt.val (str x.ob.sp),Dt.val (str x.ob.sn),Dt.val (str x.ob.text),Dt.row (List.map Ob.enc x.ob.pair)]]).length),L6 9 [[(.val (str o6)),(.val (str n)),(.val (vi x.ob.kind)),(.val (str x.ob.num)),(.val (str x.ob.den)),(.val (str x.ob.sp)),(.val (str x.ob.sn)),(.val (str x.ob.text)),(.row (List.map Ob.enc x.ob.pair))]],Bk .add 3 157 1 ↑i (vi (↑(i+1)))] ⟨C9 (decide_eq_true J),TR hn,TS hx,rfl,nY J (by simp;omega),BC ((o6,n),x),I4 J J J,Z⟩
theorem b1W{ws es bs:bv}{s u:Int}{x9:List (Value×List Dt)}{t:Te}{f:o8.E8}{i:Nat}(hi:i=f.ps.length):y7 (J5 2) DW (nk ws s u x9 t f es bs i) (.out 4) (nk ws s u x9 t f es bs i) :=
 tW [yF] [] [0,6,10,14,19,155,156,157] 7 [Bt .lss 3 157 156 ↑i ↑f.ps.length bF] ⟨C9 (decide_eq_false J),Z⟩
theorem a5i{ws:bv}{s u:Int}{x9:List (Value×List Dt)}{t:Te}{f:o8.E8}{V:List Tr}(hl:f.ps.length≤500)(hv:V.length=f.ps.length):∀(p:List (bi)) (v:List Tr) (i:Nat) (pre:D6),f.ps.drop i=p→V.drop i=v→i≤f.ps.length→pre.length=i→J7 (J5 2) DW (nk ws s u x9 t f (V.map fun t=>y8 t.ob) (U1 pre) i) (.out 4) (nk ws s u x9 t f (V.map fun t=>y8 t.ob) (U1 (pre++dm p v)) f.ps.length):=by
 intro p
 induction p with
 |nil =>
  intro v i pre hd hm hi hp;have e1:=congrArg List.length hd;rw[List.length_drop,List.length_nil]at e1;obtain rfl:i=f.ps.length:=J;have e:dm [] v=[]:=by cases v <;> rfl
  rw[e,List.append_nil];exact .stop (b1W rfl) (fun h=>by cases h)
 |cons n p ih =>
  intro v i pre hd hm hi hp;have hn:f.ps[i]?=some n:=by rw[←List.head?_drop,hd];rfl
  have hlt:=(List.getElem?_eq_some_iff.1 hn).1;cases v with
  |nil =>
   have e1:=congrArg List.length hm;rw[List.length_drop,List.length_nil]at e1;omega
  |cons x v =>
   have hx:V[i]?=some x:=by rw[←List.head?_drop,hm];rfl
   have hs:=b1V (ws:=ws) (s:=s) (u:=u) (x9:=x9) (t:=t) (bs:=U1 pre) hn hx J (by rw[tH];omega);have e:U1 pre++[fH ((o6,n),x)]=U1 (pre++[((o6,n),x)]):=by unfold U1;rw[List.map_append];rfl
   rw[e]at hs;have k:=ih v (i+1) (pre++[((o6,n),x)]) (by rw[←List.drop_drop,hd];rfl) (by rw[←List.drop_drop,hm];rfl) hlt (by simp[hp]);rw[List.append_assoc]at k;exact .more hs k
theorem a9K{ws es bs:bv}{s u v w e:Int}{x9 rJ kU KU:List (Value×List Dt)}{t:Te}{f:o8.E8}{env:D6}{k:Int}{o:Ob}(hp:IX t s u f)(hf:C8 zI [.ptr 0 0,o9 t.np t.nn] (K6 ws s (u+1) x9) (.l7 [.agg ((F6 f).map .dt),j6 true]) (K6 ws s (u+1) rJ))(h:y7 (J5 2) (.loop iy) (bM ws s (u+1) rJ t env ((F6 f).map .dt) false f.ps.length [] 0) (.out 2) (WN ws s v kU t env ((F6 f).map .dt) false f.ps.length es k))(h2:y7 (J5 2) (.loop DW) (nk ws s v kU t f es [] 0) (.out 4) (nk ws s v kU t f es bs f.ps.length))(ha:C8 dN [.ptr 0 0,o7 f.body,.dt (.row bs)] (K6 ws s v kU) (.l7 [l9 o,j3 e]) (K6 ws s w KU)):C8 ni [.ptr 0 0,o7 t,F7 env] (K6 ws s u x9) (.l7 [l9 o,j3 e]) (K6 ws s w KU) :=
 have h0:=hp.u0;have h1:=hp.lt;have h3:=hp.s1;have h4:=hp.ps;have h5:=hp.ln
 sW 2 [0,1] [yF,.av (j3 (u+1)),.av (.l7 [j3 0,j6 false]),.av (j3 f.ps.length),.av (j3 t.args.length),yF,.no,.no,.av (j3 t.args.length),.no,.av (j3 f.ps.length)] [.J6 8 3 [0,1] (.l7 [.agg ((F6 f).map .dt),j6 true]) [some (.cells [.dt (.row ws),.O5 1,j3 s,j3 (u+1)]),some (.T9 rJ)],.inv [0,2,4,6,8,9,10,14,123,124,125] 6 (.out 2) (WN ws s v kU t env ((F6 f).map .dt) false f.ps.length es k),.inv [0,6,10,14,19,155,156,157] 7 (.out 4) (nk ws s v kU t f es bs f.ps.length),.J6 40 4 [0,1] (.l7 [l9 o,j3 e]) [some (.cells [.dt (.row ws),.O5 1,j3 s,j3 w]),some (.T9 KU)]] [Bt .geq 3 25 29 u s bF,Bk .add 3 35 1 u (vi (u+1)),_,_,(vi ↑f.ps.length)=(vi (↑(List.map G5 f.ps).length)),(vi ↑t.args.length)=(vi (↑(List.map Te.enc t.args).length)),Bt .neq 3 63 64 ↑t.args.length ↑f.ps.length bF,jB 112 ↑f.ps.length,(vi ↑t.args.length)=(vi (↑(List.map Te.enc t.args).length)),_,jB 144 ↑f.ps.length,(vi ↑f.ps.length)=(vi (↑(List.map G5 f.ps).length)),_,_,(bs.length)=(bs.length)] func119 ⟨R7 (decide_eq_false J),I4 rfl J J,hp.pr,hf,xH _,H7 _,E9 (by simp;omega),⟨J,J,by show (f.ps.length:Int)≤((2 ^ 63 - 1:Nat):Int);omega⟩,H7 _,h,⟨J,J,by show (f.ps.length:Int)≤((2 ^ 63 - 1:Nat):Int);omega⟩,xH _,h2,ha,rfl,Z⟩
theorem a7w{ws:bv}{s u v e:Int}{x9 rJ kU:List (Value×List Dt)}{t:Te}{f:o8.E8}{env:D6}(hp:IX t s u f)(hf:C8 zI [.ptr 0 0,o9 t.np t.nn] (K6 ws s (u+1) x9) (.l7 [.agg ((F6 f).map .dt),j6 true]) (K6 ws s (u+1) rJ))(h:y7 (J5 2) (.loop iy) (bM ws s (u+1) rJ t env ((F6 f).map .dt) false f.ps.length [] 0) .ret (vv ws s v kU t e)):C8 ni [.ptr 0 0,o7 t,F7 env] (K6 ws s u x9) (.l7 [l9 zO,j3 e]) (K6 ws s v kU) :=
 have h0:=hp.u0;have h1:=hp.lt;have h3:=hp.s1;have h4:=hp.ps;have h5:=hp.ln
 .rv (sW 2 [0,1] [yF,.av (j3 (u+1)),.av (.l7 [j3 0,j6 false]),.av (j3 f.ps.length),.av (j3 t.args.length),yF,.no,.no,.av (j3 t.args.length)] [.J6 8 3 [0,1] (.l7 [.agg ((F6 f).map .dt),j6 true]) [some (.cells [.dt (.row ws),.O5 1,j3 s,j3 (u+1)]),some (.T9 rJ)],.inv [0,2,4,6,8,9,10,14,123,124,125] 6 (.ret) (vv ws s v kU t e)] [Bt .geq 3 25 29 u s bF,Bk .add 3 35 1 u (vi (u+1)),_,_,(vi ↑f.ps.length)=(vi (↑(List.map G5 f.ps).length)),(vi ↑t.args.length)=(vi (↑(List.map Te.enc t.args).length)),Bt .neq 3 63 64 ↑t.args.length ↑f.ps.length bF,jB 112 ↑f.ps.length,(vi ↑t.args.length)=(vi (↑(List.map Te.enc t.args).length)),_] func119 ⟨R7 (decide_eq_false J),I4 rfl J J,hp.pr,hf,xH _,H7 _,E9 (by simp;omega),⟨J,J,by show (f.ps.length:Int)≤((2 ^ 63 - 1:Nat):Int);omega⟩,H7 _,h,Z⟩) fun _ _ _ h=>lM h
def uP(fs:List o8.E8):Prop:=∀f∈fs,(H8.find? fun g=>g.nm == f.nm)=some f
theorem FL(fs:List o8.E8):(dM fs).map (·.1)=(fs.map (·.nm)).map dH:=by unfold dM;rw[List.map_map,List.map_map];rfl
theorem a2y(fs:List o8.E8):(dM fs).map (·.2)=fs.map fun f=>F6 f:=by unfold dM;rw[List.map_map];rfl
theorem a9L{fs:List o8.E8}(hk:uP fs){n:bi}{f:o8.E8}(hf:(H8.find? fun g=>g.nm == n)=some f)(s u:Int):∃fs',uP fs'∧C8 zI [.ptr 0 0,o9 o6 n] (K6 Q3 s u (dM fs)) (.l7 [.agg ((F6 f).map .dt),j6 true]) (K6 Q3 s u (dM fs')):=by
 have hm:=a2x n (fs.map (·.nm));cases hi:kS n (fs.map (·.nm)) with
 |some i =>
  rw[hi,←FL]at hm;have h1:=OW hi;rw[List.getElem?_map,Option.map_eq_some_iff]at h1;obtain⟨g,hg,hgn⟩:=h1;have h2:=hk g (List.mem_of_getElem? hg);rw[hgn,hf]at h2;cases h2;exact⟨fs,hk,a9v (i:=i) hm (by rw[a2y,List.getElem?_map,hg];rfl)⟩
 |none =>
  have hn:=a5g hi;rw[hi,←FL]at hm;rw[←FL]at hn;have hfn:f.nm=n:=by have:=List.find?_some hf;simpa using this
  have hw:=a9w (s:=s) (u:=u) hm (a1E (ws:=H8) (r:=[aM lL]) EZ hf) hn;have e:dM fs++[(dH n,F6 f)]=dM (fs++[f]):=by unfold dM;rw[List.map_append,←hfn];rfl
  rw[e]at hw;refine⟨fs++[f],fun g hg=>?_,hw⟩;rcases List.mem_append.1 hg with hg | hg
  ·exact hk g hg
  ·rw[List.mem_singleton]at hg;subst hg;rw[hfn];exact hf
def DX(f:Nat)(env:D6)(t:Te):Prop:=∀(s l:Nat) (fs:List o8.E8),l≤f→l≤s→s≤99999→uP fs→∃fs',uP fs'∧C8 dN [.ptr 0 0,o7 t,F7 env] (K6 Q3 s (s - l:Int) (dM fs)) (uO (ev H8 f env t l).1) (K6 Q3 s (s - (ev H8 f env t l).2:Int) (dM fs'))
theorem QN{f s:Nat}{env:D6}{t:Te}{fc:List AV}{b:Bool}{n:Int}(hR:KT fc)(hs:s≤99999)(hl:t.args.length≤8)(hw:∀x∈t.args,Wd x)(he:fU env)(ih:∀x∈t.args,DX f env x):∀(q:List Te) (i:Nat) (out:List Tr) (l:Nat) (fs:List o8.E8),t.args.drop i=q→i≤t.args.length→out.length=i→l≤f→l≤s→uP fs→∃fs',uP fs' ∧
  (∀xs l',bn (ev H8 f env) q l=(.ok xs,l')→J7 (J5 2) iy (bM Q3 s (s - l:Int) (dM fs) t env fc b n (gQ out) i) (.out 2) (bM Q3 s (s - l':Int) (dM fs') t env fc b n (gQ (out++xs)) t.args.length))∧(∀e l',bn (ev H8 f env) q l=(.error e,l')→J7 (J5 2) iy (bM Q3 s (s - l:Int) (dM fs) t env fc b n (gQ out) i) .ret (vv Q3 s (s - l':Int) (dM fs') t e)):=by
 intro q
 induction q with
 |nil =>
  intro i out l fs hd hi ho hf _ hk;have e1:=congrArg List.length hd;rw[List.length_drop,List.length_nil]at e1;obtain rfl:i=t.args.length:=J;refine⟨fs,hk,fun xs l' h=>?_,fun e l' h=>by rw[bn]at h;cases h⟩;rw[bn]at h;cases h;rw[List.append_nil];exact .stop (hR.2 _ _ _ _ _ _ _ _ _ _ rfl) (fun h=>by cases h)
 |cons x q zH =>
  intro i out l fs hd hi ho hf hf2 hk;have hx:t.args[i]?=some x:=by rw[←List.head?_drop,hd];rfl
  have hlt:=(List.getElem?_eq_some_iff.1 hx).1;have hxm:=List.mem_of_getElem? hx;obtain⟨iB,hk1,hst⟩:=ih x hxm s l fs hf hf2 hs hk;have hle:=nX H8 f env x l;rw[bn];cases hv:ev H8 f env x l with
  |mk r l1 =>
   rw[hv]at hst hle;have hle:l1≤l:=hle;cases r with
   |error c =>
    have hc:=(kD f env x l (hw x hxm) he).2 c l1 hv;exact⟨iB,hk1,fun xs l' h=>(by cases h),fun e l' h=>by cases h;exact .stop (b1U hx hc hst) (fun h=>by cases h)⟩
   |ok y =>
    have hst:=hR.1 _ (gQ out) _ _ _ n _ _ _ _ _ b _ _ hx J (by rw[Nt];omega) hst;rw[Mw]at hst;obtain⟨ig,hk2,k1,k2⟩:=zH (i+1) (out++[y]) l1 iB (by rw[←List.drop_drop,hd];rfl) hlt (by simp[ho]) J J hk1;refine⟨ig,hk2,fun xs l' h=>?_,fun e l' h=>?_⟩
    ·dsimp only at h;split at h
     ·cases h
     ·rename_i ys l2 hh;cases h;have:=k1 ys l' hh;rw[List.append_assoc]at this;exact .more hst this
    ·dsimp only at h;split at h
     ·rename_i c l2 hh;cases h;exact .more hst (k2 _ _ hh)
     ·cases h
theorem OX:∀(p:List (bi)) (v:List Tr),(dm p v).length≤p.length
 |[],v=>by cases v <;> exact Nat.zero_le _
 |n::p,[]=>Nat.zero_le _
 |n::p,x::v=>Nat.succ_le_succ (OX p v)
theorem Sk{f:Nat}{env:D6}{p n:bi}(hle:env.length≤1000):DX f env ⟨1,p,n,U0,[]⟩:=by
 intro s l fs hl hs hs2 hk;refine⟨fs,hk,?_⟩;rw[xe];obtain⟨k1,k2⟩:=a5h (ws:=Q3) (s:=s) (u:=(s - l:Int)) (x9:=dM fs) (t:=⟨1,p,n,U0,[]⟩) hle env 0 rfl (Nat.zero_le _);cases hv:dw env p n with
 |none=>exact a9z (t:=⟨1,p,n,U0,[]⟩) rfl (k1 hv).K3
 |some x=>exact a9y (t:=⟨1,p,n,U0,[]⟩) rfl (k2 x hv).K3
theorem Sn{f:Nat}{env:D6}(t:Tr):DX f env (Te.V8 t.ob):=by
 intro s l fs hl hs hs2 hk;refine⟨fs,hk,?_⟩;rw[xg];exact a9x (t:=Te.V8 t.ob) rfl
theorem a9M:∀(f:Nat) (env:D6) (t:Te),Wd t→fU env→env.length≤1000→DX f env t:=by
 intro f
 induction f with
 |zero =>
  intro env t ht he hle;cases ht with
  |var p n=>exact Sk hle
  |V8 t h=>exact Sn t
  |ap n a ha hn h =>
   intro s l fs hl hs hs2 hk;obtain rfl:l=0:=J;rw[xh];exact⟨fs,hk,lS (t:=Te.ap n a) rfl (TY J)⟩
 |succ f ih =>
  intro env t ht he hle;cases ht with
  |var p n=>exact Sk hle
  |V8 t h=>exact Sn t
  |ap n a ha hn h =>
   intro s l fs hl hs hs2 hk;cases l with
   |zero =>
    rw[xh];exact⟨fs,hk,lS (t:=Te.ap n a) rfl (TY J)⟩
   |succ l =>
    rw[IW];have e1:((s:Int) - ((l+1:Nat):Int))+1=(s:Int) - (l:Int):=J;rcases Mv ha with⟨i,hi,hp,hno⟩ | ⟨fn,hm,hf,hps,hp,hne⟩
    ·have hpr:j5 150 [o9 o6 n] (.l7 [j3 (a.length:Int),j6 true]):=a7k hi;unfold mX;by_cases hif:is (Te.ap n a) x8 3
     ·rw[if_pos hif];have pre:qK (Te.ap n a) s (s - ((l+1:Nat):Int)) true:=⟨J,J,J,hpr,decide_eq_true hif.2.2.1⟩;have w0:=h _ (List.mem_of_getElem? (Z8 hif (show 0 < 3 by omega)));have w1:=h _ (List.mem_of_getElem? (Z8 hif (show 1 < 3 by omega)));have w2:=h _ (List.mem_of_getElem? (Z8 hif (show 2 < 3 by omega)));obtain⟨iB,hk1,h0⟩:=ih env _ w0 he hle s l fs J J hs2 hk;have hle0:=nX H8 f env ((Te.ap n a).arg 0) l;have hok0:=kD f env ((Te.ap n a).arg 0) l w0 he;cases hv:ev H8 f env ((Te.ap n a).arg 0) l with
      |mk r l1 =>
       rw[hv]at h0 hle0;have hle0:l1≤l:=hle0;cases r with
       |error c=>exact⟨iB,hk1,lS (t:=Te.ap n a) rfl (a9A pre (Z8 hif (show 0 < 3 by omega)) (hok0.2 c l1 hv) (by rw[e1];exact h0))⟩
       |ok x =>
        have hn:=Al x;dsimp only;by_cases hx:x=l6
        ·rw[if_pos hx];rw[decide_eq_true hx]at hn;obtain⟨ig,hk2,h2⟩:=ih env _ w2 he hle s l1 iB J J hs2 hk1;obtain⟨o,e,hr⟩:=nP (ev H8 f env ((Te.ap n a).arg 2) l1).1;rw[hr]at h2 ⊢
         exact⟨ig,hk2,lS (t:=Te.ap n a) rfl (a9B pre (Z8 hif (show 0 < 3 by omega)) (Z8 hif (show 2 < 3 by omega)) (by rw[e1];exact h0) hn h2)⟩
        ·rw[if_neg hx];rw[decide_eq_false hx]at hn;obtain⟨ig,hk2,h2⟩:=ih env _ w1 he hle s l1 iB J J hs2 hk1;obtain⟨o,e,hr⟩:=nP (ev H8 f env ((Te.ap n a).arg 1) l1).1;rw[hr]at h2 ⊢
         exact⟨ig,hk2,lS (t:=Te.ap n a) rfl (a9C pre (Z8 hif (show 0 < 3 by omega)) (Z8 hif (show 1 < 3 by omega)) (by rw[e1];exact h0) hn h2)⟩
     ·rw[if_neg hif];have hnn:n≠x8:=fun e=>hif ((a9t ha).2 e)
      have pre:qK (Te.ap n a) s (s - ((l+1:Nat):Int)) false:=⟨J,J,J,hpr,decide_eq_false hnn⟩;obtain⟨iB,hk1,k1,k2⟩:=QN (f:=f) (s:=s) (env:=env) (t:=Te.ap n a) (fc:=kT) (b:=true) (n:=(a.length:Int)) a9H hs2 hn h he (fun x hx=>ih env x (h x hx) he hle) a 0 [] l fs rfl (Nat.zero_le _) rfl J J hk;rw[show (Te.ap n a).args=a from rfl]
      cases hv:bn (ev H8 f env) a l with
      |mk r l1 =>
       cases r with
       |error c=>exact⟨iB,hk1,lS (t:=Te.ap n a) rfl (a7v pre (by rw[e1];exact (k2 c l1 hv).K3) (by show a.length≤1000;omega))⟩
       |ok vs =>
        obtain⟨v1,v2⟩:=uf _ _ _ _ (fun t ht l x l' hh=>(kD f env t l (h t ht) he).1 x l' hh) hv;dsimp only;rw[show (Te.ap n a).nn=n from rfl,hp]
        dsimp only;have hap:j5 152 [o9 o6 n,J2 vs] (uO (kR i vs)):=by rw[←OV];exact a9c hi v2 v1
        obtain⟨o,e,hr⟩:=nP (kR i vs);rw[hr]at hap ⊢
        exact⟨iB,hk1,lS (t:=Te.ap n a) rfl (a9J pre (by rw[e1];exact (k1 vs l1 hv).K3) hap (by show a.length≤1000;omega))⟩
    ·have hpr:j5 150 [o9 o6 n] (.l7 [j3 0,j6 false]):=a6U hne;have hif:¬is (Te.ap n a) x8 3:=fun e=>by
      have e2:n=x8:=e.2.2.1;exact hne (x8,3) O e2
     have pre:IX (Te.ap n a) s (s - ((l+1:Nat):Int)) fn:=⟨J,J,J,rfl,hpr,hps,hn⟩;unfold mX;rw[if_neg hif];obtain⟨fs0,hk0,hfn⟩:=a9L hk hf (s:Int) ((s:Int) - (l:Int));obtain⟨iB,hk1,k1,k2⟩:=QN (f:=f) (s:=s) (env:=env) (t:=Te.ap n a) (fc:=(F6 fn).map .dt) (b:=false) (n:=(fn.ps.length:Int)) (a9I fn) hs2 hn h he (fun x hx=>ih env x (h x hx) he hle) a 0 [] l fs0 rfl (Nat.zero_le _) rfl J J hk0;rw[show (Te.ap n a).args=a from rfl]
     cases hv:bn (ev H8 f env) a l with
     |mk r l1 =>
      have hle1:=BB (g:=ev H8 f env) (fun t l=>nX H8 f env t l) a l;rw[hv]at hle1;have hle1:l1≤l:=hle1;cases r with
      |error c=>exact⟨iB,hk1,lS (t:=Te.ap n a) rfl (a7w pre (by rw[e1];exact hfn) (by rw[e1];exact (k2 c l1 hv).K3))⟩
      |ok vs =>
       obtain⟨v1,v2⟩:=uf _ _ _ _ (fun t ht l x l' hh=>(kD f env t l (h t ht) he).1 x l' hh) hv;dsimp only;rw[show (Te.ap n a).nn=n from rfl,hp]
       dsimp only;rw[hf];dsimp only;obtain⟨hwd,hpl⟩:=GG hm;have hbl:=OX fn.ps vs;obtain⟨ig,hk2,hb⟩:=ih (dm fn.ps vs) fn.body hwd (Ba _ _ v2) J s l1 iB J J hs2 hk1;obtain⟨o,e,hr⟩:=nP (ev H8 f (dm fn.ps vs) fn.body l1).1;rw[hr]at hb ⊢
       have hlp:=y7.CZ 14 5 (by show 14 < 179;omega) rfl rfl (k1 vs l1 hv).K3;have hl2:=(a5i (ws:=Q3) (s:=s) (u:=(s - l1:Int)) (x9:=dM iB) (t:=Te.ap n a) (f:=fn) (V:=vs) J J fn.ps vs 0 [] rfl rfl (Nat.zero_le _) rfl).K3;exact⟨ig,hk2,lS (t:=Te.ap n a) rfl (a9K pre (by rw[e1];exact hfn) (by rw[e1];exact hlp) hl2 hb)⟩
abbrev nu(es rs:bv)(i:Int):AS:=⟨stt 36 [(0,.dt (.row es)),(3,.own 0 rs.length),(4,j3 i)],[some (.buf 45 2 rs)]⟩
noncomputable abbrev DY:Code:=M9 (P6 f85) [1,1,0,1,0,0]
theorem b1X{es rs:bv}{f:o8.E8}{i:Nat}(hi:i < es.length)(hl:es.length≤1000)(hr:rs.length≤1000)(hx:z8 es (i:Int) 32 (F3 f)):y7 EX DY (nu es rs i) .F4 (nu es (rs++[G5 f.nm]) ((i+1:Nat):Int)) :=
 tW [.av (j3 es.length),yT,.av (.pin ((F3 f).map .dt)),.no,.no,.av (.pin ((F3 f).map .dt)),.no,.av (.un),.no,.av (.pin ((F3 f).map .dt)),.no,.no,.av (j3 ((i+1:Nat):Int))] [.run 2] [0,3,4] 1 [(vi ↑es.length)=(vi ↑es.length),Bt .lss 3 7 9 ↑i ↑es.length bT,_,_,(rs.length)=(rs.length),P9 32 ((rs++[[Dt.val (str o6),Dt.val (str f.nm)]]).length),L6 2 [[(.val (str o6)),(.val (str f.nm))]],_,Bk .add 3 11 1 ↑i (vi (↑(i+1)))] ⟨rfl,C9 (decide_eq_true J),hx,hx,rfl,bG J (by simp;omega),wD f.nm,hx,I4 J J J,Z⟩
theorem b1Y{es rs ns:bv}{i:Nat}(hi:i < es.length)(hl:es.length≤1000)(hx:z8 es (i:Int) 32 (aM ns)):y7 EX DY (nu es rs i) .F4 (nu es rs ((i+1:Nat):Int)) :=
 tW [.av (j3 es.length),yT,.av (.pin ((aM ns).map .dt)),.no,.no,.av (j3 ((i+1:Nat):Int))] [.run 1] [0,3,4] 1 [(vi ↑es.length)=(vi ↑es.length),Bt .lss 3 7 9 ↑i ↑es.length bT,_,Bk .add 3 11 1 ↑i (vi (↑(i+1)))] ⟨rfl,C9 (decide_eq_true J),hx,I4 J J J,Z⟩
theorem b1Z{es rs:bv}{i:Nat}(hi:i=es.length):y7 EX DY (nu es rs i) (.out 0) (nu es rs i) :=
 tW [.av (j3 es.length),yF] [] [0,3,4] 1 [(vi ↑es.length)=(vi ↑es.length),Bt .lss 3 7 9 ↑i ↑es.length bF] ⟨rfl,C9 (decide_eq_false J),Z⟩
theorem a5j{ws:List o8.E8}{ns:bv}(hl:ws.length≤100):∀(s:List o8.E8) (i:Nat) (rs:bv),ws.drop i=s→i≤ws.length→rs.length≤100+i→J7 EX DY (nu (ws.map F3++[aM ns]) rs i) (.out 0) (nu (ws.map F3++[aM ns]) (rs++s.map fun f=>G5 f.nm) ((ws.length+1:Nat):Int)):=by
 have hlo:(ws.map F3++[aM ns]).length=ws.length+1:=by rw[List.length_append,List.length_map];rfl
 intro s
 induction s with
 |nil =>
  intro i rs hd hi _;have e1:=congrArg List.length hd;rw[List.length_drop,List.length_nil]at e1;obtain rfl:i=ws.length:=J;rw[List.map_nil,List.append_nil];have hx:z8 (ws.map F3++[aM ns]) (ws.length:Int) 32 (aM ns):=⟨Int.natCast_nonneg _,by rw[Int.toNat_natCast,List.getElem?_append_right (by rw[List.length_map];exact Nat.le_refl _),List.length_map,Nat.sub_self];rfl,rfl⟩;exact .more (b1Y J J hx) (.stop (b1Z hlo.symm) (fun h=>by cases h))
 |cons x s ih =>
  intro i rs hd hi hr;have hx:ws[i]?=some x:=by rw[←List.head?_drop,hd];rfl
  have hlt:=(List.getElem?_eq_some_iff.1 hx).1;have hn:=ih (i+1) (rs++[G5 x.nm]) (by rw[←List.drop_drop,hd];rfl) J (by simp;omega);rw[List.append_assoc,List.singleton_append]at hn;exact .more (b1X J J J (lZ hx)) hn
theorem a0b{ws:List o8.E8}{ns:bv}(hl:ws.length≤100):j5 85 [.dt (.row (ws.map F3++[aM ns]))] (.dt (.row (I5.map eX++ws.map fun f=>G5 f.nm))):=by
 have h1:=(a5j (ns:=ns) hl ws 0 (I5.map eX) rfl (Nat.zero_le _) (by rw[List.length_map];decide)).K3;generalize ws.map F3++[aM ns]=es at *;generalize (((ws.length+1:Nat)):Int)=k at *;generalize hrs:(I5.map eX++ws.map fun f=>G5 f.nm)=rs at *;exact pW [] [.J6 1 0 [] (.own 0 25) [some (.buf 45 2 (I5.map eX))],.inv [0,3,4] 1 (.out 0) (nu es rs k)] [_,_,(rs.length)=(rs.length)] func85 ⟨Oo,h1,rfl,Z⟩
section
variable {X:Nat→Prop} {n0:Nat} {w0:World×Mm} {ok0:Nat→Prop} {M:Mm} {nt:Nat} {tm:Nat→AV} {bx:Nat→Option Bx} {a:Act} {w:World}
theorem Inv.Jv(h:Inv X n0 w0 ok0 M nt tm bx a w){t:Nat}(ht:tm t=.nil):Inv X n0 w0 ok0 M nt (fun i=>if i=t then .dt (.row []) else tm i) bx a w:=by
 refine⟨h.below,h.le,h.defers,h.size,fun i=>?_,h.H6,h.src,h.gD⟩;show RV _ _ (if i=t then _ else _) _;by_cases hi:i=t
 ·subst hi;have hv:=h.tmps i;rw[ht]at hv;rw[if_pos rfl];exact RV.Hu hv
 ·rw[if_neg hi];exact h.tmps i
end
theorem y7.Jv{E:En}{c:Code}{s s':AS}{e:AE}(t:Nat)(hl:t < s.tm.length)(ht:s.F9 t=.nil)(h:y7 E c ⟨s.tm.set t (.dt (.row [])),s.bx⟩ e s'):y7 E c s e s':=by
 obtain⟨h1,h2⟩:=h;have hlen:(s.tm.set t (.dt (.row []))).length=s.tm.length:=List.length_set ..;refine⟨h1.trans hlen,fun X n0 w0 ok0 a w hG ⟨M,hI⟩=>?_⟩;have hI2:=hI.Jv ht;have e1:(AS.mk (s.tm.set t (.dt (.row []))) s.bx).F9=fun i=>if i=t then .dt (.row []) else s.F9 i:=by
  funext i;unfold AS.F9;by_cases hi:i=t
  ·subst hi;simp[List.getD_eq_getElem?_getD,hl]
  ·simp[List.getD_eq_getElem?_getD,Ne.symm hi,hi]
 have hL:Left X n0 w0 ok0 (AS.mk (s.tm.set t (.dt (.row []))) s.bx).tm.length (AS.mk (s.tm.set t (.dt (.row []))) s.bx).F9 (AS.mk (s.tm.set t (.dt (.row []))) s.bx).D7 a w:=by
  rw[e1,show (AS.mk (s.tm.set t (.dt (.row []))) s.bx).tm.length=s.tm.length from hlen]
  exact⟨_,hI2⟩
 have:=h2 X n0 w0 ok0 a w hG hL;rw[show (AS.mk (s.tm.set t (.dt (.row []))) s.bx).tm.length=s.tm.length from hlen]at this
 exact this
def rM:List (bi):=I5.map (·.1)++H8.map (·.nm)
abbrev dx:List (bi):=[[120],[121],[122],[117]]
theorem a7x:∀n∈rM,n.length≤1000∧∃k:Nat,k≤8∧eY H8 n=some k:=by
 have h:(rM.all fun n=>decide (n.length≤1000) && (match eY H8 n with | some k=>decide (k≤8) | none=>false))=true:=by decide +kernel
 intro n hn;have:=List.all_eq_true.1 h n hn;rw[Bool.and_eq_true]at this;obtain⟨h1,h2⟩:=this;refine⟨of_decide_eq_true h1,?_⟩;split at h2
 ·rename_i k hk;exact⟨k,of_decide_eq_true h2,hk⟩
 ·cases h2
theorem QO:rM.length=53:=by decide +kernel
theorem mkB(vl:List (bi))(h1:0 < vl.length)(h2:vl.length≤4)(h3:∀v∈vl,v∈DL):Mk Q3 rM vl:=⟨by rw[QO];decide,by rw[QO];decide,h1,h2,fun n hn=>by
 obtain⟨k1,k,k2,k3⟩:=a7x n hn;refine⟨k1,k,k2,?_,k3⟩;have hwl:=su;exact Hz (ws:=H8) (r:=[aM lL]) (by rw[List.length_append,List.length_map,hwl];decide) k3,h3⟩
theorem a7y:∀v∈dx,v∈DL:=O
theorem a2z:j5 85 [.dt (.row Q3)] (dG rM):=by
 have h:=a0b (ws:=H8) (ns:=lL) (by rw[su];decide);have e:(I5.map eX++H8.map fun f=>G5 f.nm)=rM.map G5:=by
  unfold rM;rw[List.map_append,List.map_map,List.map_map];rfl
 rw[e]at h;exact h
theorem a7z{r:Raw}(hf:gY r):∃t:Te,t.aF∧j5 82 [.dt (.row Q3),aJ dx,G9 r] (o7 t):=a9e (mkB dx O O a7y) a2z hf
abbrev iU(l:List Raw):AV:=.dt (.row (l.map Raw.enc))
abbrev pE(wr:bv)(vl:List (bi))(l:List Raw)(c:List Te)(i:Int):AS:=⟨stt 26 [(0,.dt (.row wr)),(1,aJ vl),(2,iU l),(7,D9 c),(8,j3 i)],[]⟩
abbrev ck0(wr:bv)(vl:List (bi))(l:List Raw):AS:=⟨stt 26 [(0,.dt (.row wr)),(1,aJ vl),(2,iU l),(7,.nil),(8,j3 0)],[]⟩
noncomputable abbrev DZ:Code:=M9 (P6 f42) [1,1,0,1,0,0]
theorem b2a{wr:bv}{vl:List (bi)}{l:List Raw}{c c':List Te}{x:Raw}{t:Te}{i:Nat}(hx:l[i]?=some x)(hl:l.length≤1000)(h:j5 82 [.dt (.row wr),aJ vl,G9 x] (o7 t))(ha:j5 17 [D9 c,.dt (.row [p9 t])] (D9 c')):y7 EX DZ (pE wr vl l c i) .F4 (pE wr vl l c' ((i+1:Nat):Int)) :=
 have hi:=(List.getElem?_eq_some_iff.1 hx).1
 tW [.av (j3 l.length),yT,.av (.pin ((encR x).map .dt)),.av (o7 t),.av (D9 c'),.av (j3 ((i+1:Nat):Int))] [] [0,1,2,7,8] 0 [(vi ↑l.length)=(vi (↑(List.map Raw.enc l).length)),Bt .lss 3 9 11 ↑i ↑l.length bT,z8 (List.map Raw.enc l) ↑i 4 (encR x),_,_,Bk .add 3 13 1 ↑i (vi (↑(i+1)))] ⟨Z7 _,C9 (decide_eq_true J),lH hx,h,ha,I4 J J J,Z⟩
theorem b2b{wr:bv}{vl:List (bi)}{l:List Raw}{c:List Te}{i:Nat}(hi:i=l.length):y7 EX DZ (pE wr vl l c i) (.out 0) (pE wr vl l c i) :=
 tW [.av (j3 l.length),yF] [] [0,1,2,7,8] 0 [(vi ↑l.length)=(vi (↑(List.map Raw.enc l).length)),Bt .lss 3 9 11 ↑i ↑l.length bF] ⟨Z7 _,C9 (decide_eq_false J),Z⟩
theorem a5k{wr:bv}{vl:List (bi)}{l:List Raw}(hl:l.length≤1000)(h:∀x∈l,∃t:Te,t.aF∧j5 82 [.dt (.row wr),aJ vl,G9 x] (o7 t)):∀(s:List Raw) (i:Nat) (c:List Te),l.drop i=s→i≤l.length→c.length≤i→(∀x∈c,x.aF)→∃c',(∀x∈c',Te.aF x)∧c'.length≤l.length∧J7 EX DZ (pE wr vl l c i) (.out 0) (pE wr vl l c' l.length):=by
 intro s
 induction s with
 |nil =>
  intro i c hd hi hc hm;have e1:=congrArg List.length hd;rw[List.length_drop,List.length_nil]at e1;obtain rfl:i=l.length:=J;exact⟨c,hm,hc,.stop (b2b rfl) (fun h=>by cases h)⟩
 |cons x s ih =>
  intro i c hd hi hc hm;have hx:l[i]?=some x:=by rw[←List.head?_drop,hd];rfl
  have hlt:=(List.getElem?_eq_some_iff.1 hx).1;obtain⟨t,h1,h2⟩:=h x (List.mem_of_getElem? hx);have ht1:∀y∈[t],Te.aF y:=fun y hy=>by rw[List.mem_singleton]at hy;subst hy;exact h1
  have ha:=a5S (c:=c) (l:=[t]) J (by show 1≤100000;decide) (fun y hy=>(hm y hy).wf) (fun y hy=>(ht1 y hy).wf);rw[show D9 [t]=.dt (.row [p9 t]) by unfold D9;rw[gW]]at ha
  have hlen:(addN c [t]).length≤i+1:=by
   simp only[addN];split
   ·omega
   ·simp;omega
  obtain⟨c',k1,k2,k3⟩:=ih (i+1) (addN c [t]) (by rw[←List.drop_drop,hd];rfl) J hlen (FK _ _ hm ht1);exact⟨c',k1,k2,.more (b2a hx hl h2 ha) k3⟩
theorem a9N{l:List Raw}(hl:l.length≤1000)(hf:∀x∈l,gY x):∃c:List Te,(∀x∈c,x.aF)∧c.length≤l.length∧j5 42 [.dt (.row Q3),aJ dx,iU l] (D9 c):=by
 obtain⟨c,h1,h2,h3⟩:=a5k (wr:=Q3) (vl:=dx) hl (fun x hx=>a7z (hf x hx)) l 0 [] rfl (Nat.zero_le _) (Nat.le_refl _) (fun x hx=>by cases hx);have ht:y7 EX (.loop DZ) (ck0 Q3 dx l) (.out 0) (pE Q3 dx l c l.length):=y7.Jv 7 (by show 7 < 26;omega) rfl h3.K3;refine⟨c,h1,h2,?_⟩;generalize Q3=wr at *;generalize dx=vl at *;generalize ((l.length:Nat):Int)=k at *;exact pW [] [.inv [0,1,2,7,8] 0 (.out 0) (pE wr vl l c k)] [_] func42 ⟨ht,Z⟩
theorem a7A{l:List Raw}{c:List Te}(h:j5 42 [.dt (.row Q3),aJ dx,iU l] (D9 c)):j5 13 [iU l] (D9 c):=by
 have hw:=Qk;have hv:=FX;generalize Q3=wr at *;exact pV [.av (.dt (.row wr)),.av (aJ dx),.av (D9 c)] [_,_,_] func13 ⟨hw,hv,h,Z⟩
theorem a7B{l:List Raw}(hl:l.length≤1000)(hf:∀x∈l,gY x):∃c:List Te,(∀x∈c,x.aF)∧c.length≤l.length∧j5 13 [iU l] (D9 c):=by
 obtain⟨c,h1,h2,h3⟩:=a9N hl hf;exact⟨c,h1,h2,a7A h3⟩
theorem a7C{ws:bv}{t:Te}{env:D6}{s l:Nat}{x:Tr}(hl:l≤s)(hs:s≤99999)(h:C8 bu [.ptr 0 0,o7 t,F7 env] (P8 ws s) (.l7 [l5 x,j3 0]) (P8 ws l)):j5 20 [.dt (.row ws),o7 t,F7 env,j3 s] (.l7 [l5 x,j3 (s - l:Int),j3 0]) :=
 pW [.av (j3 s),yF,.av (j3 (s - l:Int))] [.J6 3 3 [2] (.l7 [l5 x,j3 0]) [some (.cells [.dt (.row ws),j3 l])]] [(vi ↑s)=(vi (if 0 > ↑s then 0 else ↑s)),_,Bk .neq 31 31 0 0 bF,Bt .sub 3 36 40 ↑s ↑l (vi (↑s - ↑l))] func20 ⟨by rw[if_neg J],h,E9 I,bE rfl J J,Z⟩
theorem a7D{ws:bv}{t:Te}{env:D6}{s l:Nat}{e:Int}(he:e≠0)(hs:s≤99999)(h:C8 bu [.ptr 0 0,o7 t,F7 env] (P8 ws s) (.l7 [l9 zO,j3 e]) (P8 ws l)):j5 20 [.dt (.row ws),o7 t,F7 env,j3 s] (.l7 [l9 zO,j3 0,j3 e]) :=
 pW [.av (j3 s),yT] [.J6 3 3 [2] (.l7 [l9 zO,j3 e]) [some (.cells [.dt (.row ws),j3 l])]] [(vi ↑s)=(vi (if 0 > ↑s then 0 else ↑s)),_,Bk .neq 31 31 0 e bT] func20 ⟨by rw[if_neg J],h,E9 (by simp[he]),Z⟩
theorem a7E{ws:bv}{t:Te}{env:D6}{s:Nat}{u:Int}{x9:List (Value×List Dt)}{x:Tr}(h:C8 dN [.ptr 0 0,o7 t,F7 env] (K6 ws s 0 []) (.l7 [l5 x,j3 0]) (K6 ws s u x9)):j5 40 [.dt (.row ws),o7 t,F7 env,j3 s] (.l7 [l5 x,j3 u,j3 0]) :=
 pW [.av (.O5 0),yF] [.J6 2 3 [3,2] (.l7 [l5 x,j3 0]) [some (.cells [.dt (.row ws),.O5 1,j3 s,j3 u]),some (.T9 x9)]] [_,Bk .neq 31 26 0 0 bF] func40 ⟨h,E9 I,Z⟩
theorem a7F{ws:bv}{t:Te}{env:D6}{s:Nat}{u e:Int}{x9:List (Value×List Dt)}(he:e≠0)(h:C8 dN [.ptr 0 0,o7 t,F7 env] (K6 ws s 0 []) (.l7 [l9 zO,j3 e]) (K6 ws s u x9)):j5 40 [.dt (.row ws),o7 t,F7 env,j3 s] (.l7 [l9 zO,j3 0,j3 e]) :=
 pW [.av (.O5 0),yT] [.J6 2 3 [3,2] (.l7 [l9 zO,j3 e]) [some (.cells [.dt (.row ws),.O5 1,j3 s,j3 u]),some (.T9 x9)]] [_,Bk .neq 31 26 0 e bT] func40 ⟨h,E9 (by simp[he]),Z⟩
noncomputable abbrev rO(env:D6)(t:Te)(s:Nat):Except Int Tr:=(ev H8 s env t s).1
theorem a7G{env:D6}{t:Te}{s:Nat}{y:Tr}(ht:Wd t)(he:fU env)(h:rO env t s=.ok y):y.valid=true:=by
 have hok:=kD s env t s ht he;unfold rO at h;cases hv:ev H8 s env t s with
 |mk r l =>
  rw[hv]at h;cases h;exact hok.1 y l hv
theorem a9O{env:D6}{t:Te}(ht:Wd t)(he:fU env)(hle:env.length≤1000){s:Nat}(hs:s≤99999) :
  (∀x,rO env t s=.ok x→∃n m:Int,j5 20 [.dt (.row Q3),o7 t,F7 env,j3 s] (.l7 [l5 x,j3 n,j3 0])∧j5 40 [.dt (.row Q3),o7 t,F7 env,j3 s] (.l7 [l5 x,j3 m,j3 0])) ∧
  (∀e,rO env t s=.error e→e≠0∧j5 20 [.dt (.row Q3),o7 t,F7 env,j3 s] (.l7 [l9 zO,j3 0,j3 e])∧j5 40 [.dt (.row Q3),o7 t,F7 env,j3 s] (.l7 [l9 zO,j3 0,j3 e])):=by
 have h1:=a9u s env t ht he hle s (Nat.le_refl _) hs;obtain⟨fs',_,h2⟩:=a9M s env t ht he hle s s [] (Nat.le_refl _) (Nat.le_refl _) hs (fun f hf=>by cases hf);have hle:=nX H8 s env t s;have hok:=kD s env t s ht he;rw[show (s:Int) - (s:Int)=0 by omega]at h2
 cases hv:ev H8 s env t s with
 |mk r l =>
  rw[hv]at h1 h2 hle;have hle:l≤s:=hle;unfold rO;rw[hv];cases r with
  |ok x=>exact⟨fun y h=>(by cases h;exact⟨_,_,a7C hle hs h1,a7E h2⟩),fun e h=>by cases h⟩
  |error c =>
   have hc:=hok.2 c l hv;exact⟨fun y h=>(by cases h),fun e h=>by cases h;exact⟨hc,a7D hc hs h1,a7F hc h2⟩⟩
noncomputable def jN(env:D6)(s:Nat):List Te→Bool×Int
 |[]=>(false,0)
 |t::r=>match rO env t s with
  |.error e=>(false,e)
  |.ok x=>if x=l6 then jN env s r else (true,0)
abbrev iD(ws:bv)(c:List Te)(env:D6)(s:Nat)(i:Int):AS:=⟨stt 39 [(0,.dt (.row ws)),(2,F7 env),(3,j3 s),(15,D9 c),(16,j3 c.length),(17,j3 i)],[]⟩
abbrev zJ(b:Bool)(e:Int):AS:=⟨stt 39 [(8,j6 b),(9,j3 e)],[]⟩
noncomputable abbrev pF:Code:=M9 (P6 f12) [1,0,1,0,0]
theorem UX{ws:bv}{c:List Te}{env:D6}{s:Nat}{x:Te}{i:Nat}{y:Tr}{m:Int}(hx:c[i]?=some x)(hl:c.length≤1000)(h:j5 40 [.dt (.row ws),o7 x,F7 env,j3 s] (.l7 [l5 y,j3 m,j3 0]))(hn:j5 41 [l5 y] (j6 true)):y7 EX pF (iD ws c env s i) .F4 (iD ws c env s ((i+1:Nat):Int)) :=
 have hi:=(List.getElem?_eq_some_iff.1 hx).1
 tW [yT,.av (.pin ((p9 x).map .dt)),.av (.l7 [l5 y,j3 m,j3 0]),yF,yT,.av (j3 ((i+1:Nat):Int))] [] [0,2,3,15,16,17] 0 [Bt .lss 3 17 16 ↑i ↑c.length bT,z8 (List.map Te.enc c) ↑i 11 (p9 x),_,Bk .neq 31 31 0 0 bF,_,Bk .add 3 17 1 ↑i (vi (↑(i+1)))] ⟨C9 (decide_eq_true J),L8 hx,h,E9 I,hn,I4 J J J,Z⟩
theorem b2c{ws:bv}{c:List Te}{env:D6}{s:Nat}{x:Te}{i:Nat}{y:Tr}{m:Int}(hx:c[i]?=some x)(h:j5 40 [.dt (.row ws),o7 x,F7 env,j3 s] (.l7 [l5 y,j3 m,j3 0]))(hn:j5 41 [l5 y] (j6 false)):y7 EX pF (iD ws c env s i) .ret (zJ true 0) :=
 have hi:=(List.getElem?_eq_some_iff.1 hx).1
 tW [yT,.av (.pin ((p9 x).map .dt)),.av (.l7 [l5 y,j3 m,j3 0]),yF,yF] [] [8,9] 0 [Bt .lss 3 17 16 ↑i ↑c.length bT,z8 (List.map Te.enc c) ↑i 11 (p9 x),_,Bk .neq 31 31 0 0 bF,_] ⟨C9 (decide_eq_true J),L8 hx,h,E9 I,hn,Z⟩
theorem b2d{ws:bv}{c:List Te}{env:D6}{s:Nat}{x:Te}{i:Nat}{e:Int}(hx:c[i]?=some x)(he:e≠0)(h:j5 40 [.dt (.row ws),o7 x,F7 env,j3 s] (.l7 [l9 zO,j3 0,j3 e])):y7 EX pF (iD ws c env s i) .ret (zJ false e) :=
 have hi:=(List.getElem?_eq_some_iff.1 hx).1
 tW [yT,.av (.pin ((p9 x).map .dt)),.av (.l7 [l9 zO,j3 0,j3 e]),yT] [] [8,9] 0 [Bt .lss 3 17 16 ↑i ↑c.length bT,z8 (List.map Te.enc c) ↑i 11 (p9 x),_,Bk .neq 31 31 0 e bT] ⟨C9 (decide_eq_true J),L8 hx,h,E9 (by simp[he]),Z⟩
theorem b2e{ws:bv}{c:List Te}{env:D6}{s:Nat}{i:Nat}(hi:i=c.length):y7 EX pF (iD ws c env s i) (.out 0) (iD ws c env s i) :=
 tW [yF] [] [0,2,3,15,16,17] 0 [Bt .lss 3 17 16 ↑i ↑c.length bF] ⟨C9 (decide_eq_false J),Z⟩
abbrev iE(ws:bv)(c:List Te)(env:D6)(s:Nat)(i:Int):AS:=⟨stt 38 [(0,.dt (.row ws)),(1,D9 c),(2,F7 env),(3,j3 s),(10,j3 i)],[]⟩
abbrev zK(b:Bool)(e:Int):AS:=⟨stt 38 [(8,j6 b),(9,j3 e)],[]⟩
noncomputable abbrev pG:Code:=M9 (P6 f14) [1,0,1,0,0]
theorem UY{ws:bv}{c:List Te}{env:D6}{s:Nat}{x:Te}{i:Nat}{y:Tr}{m:Int}(hx:c[i]?=some x)(hl:c.length≤1000)(h:j5 20 [.dt (.row ws),o7 x,F7 env,j3 s] (.l7 [l5 y,j3 m,j3 0]))(hn:j5 23 [l5 y] (j6 true)):y7 EX pG (iE ws c env s i) .F4 (iE ws c env s ((i+1:Nat):Int)) :=
 have hi:=(List.getElem?_eq_some_iff.1 hx).1
 tW [.av (j3 c.length),yT,.av (.pin ((p9 x).map .dt)),.av (.l7 [l5 y,j3 m,j3 0]),yF,yT,.av (j3 ((i+1:Nat):Int))] [] [0,1,2,3,10] 0 [(vi ↑c.length)=(vi (↑(List.map Te.enc c).length)),Bt .lss 3 14 16 ↑i ↑c.length bT,z8 (List.map Te.enc c) ↑i 11 (p9 x),_,Bk .neq 31 32 0 0 bF,_,Bk .add 3 18 1 ↑i (vi (↑(i+1)))] ⟨H7 _,C9 (decide_eq_true J),L8 hx,h,E9 I,hn,I4 J J J,Z⟩
theorem b2f{ws:bv}{c:List Te}{env:D6}{s:Nat}{x:Te}{i:Nat}{y:Tr}{m:Int}(hx:c[i]?=some x)(h:j5 20 [.dt (.row ws),o7 x,F7 env,j3 s] (.l7 [l5 y,j3 m,j3 0]))(hn:j5 23 [l5 y] (j6 false)):y7 EX pG (iE ws c env s i) .ret (zK true 0) :=
 have hi:=(List.getElem?_eq_some_iff.1 hx).1
 tW [.av (j3 c.length),yT,.av (.pin ((p9 x).map .dt)),.av (.l7 [l5 y,j3 m,j3 0]),yF,yF] [] [8,9] 0 [(vi ↑c.length)=(vi (↑(List.map Te.enc c).length)),Bt .lss 3 14 16 ↑i ↑c.length bT,z8 (List.map Te.enc c) ↑i 11 (p9 x),_,Bk .neq 31 32 0 0 bF,_] ⟨H7 _,C9 (decide_eq_true J),L8 hx,h,E9 I,hn,Z⟩
theorem b2g{ws:bv}{c:List Te}{env:D6}{s:Nat}{x:Te}{i:Nat}{e:Int}(hx:c[i]?=some x)(he:e≠0)(h:j5 20 [.dt (.row ws),o7 x,F7 env,j3 s] (.l7 [l9 zO,j3 0,j3 e])):y7 EX pG (iE ws c env s i) .ret (zK false e) :=
 have hi:=(List.getElem?_eq_some_iff.1 hx).1
 tW [.av (j3 c.length),yT,.av (.pin ((p9 x).map .dt)),.av (.l7 [l9 zO,j3 0,j3 e]),yT] [] [8,9] 0 [(vi ↑c.length)=(vi (↑(List.map Te.enc c).length)),Bt .lss 3 14 16 ↑i ↑c.length bT,z8 (List.map Te.enc c) ↑i 11 (p9 x),_,Bk .neq 31 32 0 e bT] ⟨H7 _,C9 (decide_eq_true J),L8 hx,h,E9 (by simp[he]),Z⟩
theorem b2h{ws:bv}{c:List Te}{env:D6}{s:Nat}{i:Nat}(hi:i=c.length):y7 EX pG (iE ws c env s i) (.out 0) (iE ws c env s i) :=
 tW [.av (j3 c.length),yF] [] [0,1,2,3,10] 0 [(vi ↑c.length)=(vi (↑(List.map Te.enc c).length)),Bt .lss 3 14 16 ↑i ↑c.length bF] ⟨H7 _,C9 (decide_eq_false J),Z⟩
theorem a9P{ws:bv}{c:List Te}{env:D6}{s:Nat}{b:Bool}{e:Int}(h:y7 EX (.loop pF) (iD ws c env s 0) .ret (zJ b e)):j5 12 [.dt (.row ws),D9 c,F7 env,j3 s] (.l7 [j6 b,j3 e]) :=
 pW [.av (j3 c.length)] [.inv [0,2,3,15,16,17] 0 (.ret) (zJ b e)] [(vi ↑c.length)=(vi (↑(List.map Te.enc c).length)),_] func12 ⟨H7 _,h,Z⟩
theorem a9Q{ws:bv}{c:List Te}{env:D6}{s:Nat}{k:Int}(h:y7 EX (.loop pF) (iD ws c env s 0) (.out 0) (iD ws c env s k)):j5 12 [.dt (.row ws),D9 c,F7 env,j3 s] (.l7 [j6 false,j3 0]) :=
 pW [.av (j3 c.length)] [.inv [0,2,3,15,16,17] 0 (.out 0) (iD ws c env s k)] [(vi ↑c.length)=(vi (↑(List.map Te.enc c).length)),_] func12 ⟨H7 _,h,Z⟩
theorem a9R{ws:bv}{c:List Te}{env:D6}{s:Nat}{b:Bool}{e:Int}(h:y7 EX (.loop pG) (iE ws c env s 0) .ret (zK b e)):j5 14 [.dt (.row ws),D9 c,F7 env,j3 s] (.l7 [j6 b,j3 e]) :=
 pW [] [.inv [0,1,2,3,10] 0 (.ret) (zK b e)] [_] func14 ⟨h,Z⟩
theorem a9S{ws:bv}{c:List Te}{env:D6}{s:Nat}{k:Int}(h:y7 EX (.loop pG) (iE ws c env s 0) (.out 0) (iE ws c env s k)):j5 14 [.dt (.row ws),D9 c,F7 env,j3 s] (.l7 [j6 false,j3 0]) :=
 pW [] [.inv [0,1,2,3,10] 0 (.out 0) (iE ws c env s k)] [_] func14 ⟨h,Z⟩
theorem a5l{C:List Te}{env:D6}{s:Nat}(he:fU env)(hle:env.length≤1000)(hs:s≤99999)(hl:C.length≤1000)(hw:∀x∈C,Wd x):∀(q:List Te) (i:Nat),C.drop i=q→i≤C.length →
  (J7 EX pF (iD Q3 C env s i) .ret (zJ (jN env s q).1 (jN env s q).2)∧J7 EX pG (iE Q3 C env s i) .ret (zK (jN env s q).1 (jN env s q).2))∨(jN env s q=(false,0)∧J7 EX pF (iD Q3 C env s i) (.out 0) (iD Q3 C env s C.length)∧J7 EX pG (iE Q3 C env s i) (.out 0) (iE Q3 C env s C.length)):=by
 intro q
 induction q with
 |nil =>
  intro i hd hi;have e1:=congrArg List.length hd;rw[List.length_drop,List.length_nil]at e1;obtain rfl:i=C.length:=J;exact .inr ⟨rfl,.stop (b2e rfl) (fun h=>by cases h),.stop (b2h rfl) (fun h=>by cases h)⟩
 |cons x q ih =>
  intro i hd hi;have hx:C[i]?=some x:=by rw[←List.head?_drop,hd];rfl
  have hlt:=(List.getElem?_eq_some_iff.1 hx).1;obtain⟨k1,k2⟩:=a9O (hw x (List.mem_of_getElem? hx)) he hle hs;rw[jN];cases hv:rO env x s with
  |error e =>
   obtain⟨h0,h1,h2⟩:=k2 e hv;exact .inl ⟨.stop (b2d hx h0 h2) (fun h=>by cases h),.stop (b2g hx h0 h1) (fun h=>by cases h)⟩
  |ok y =>
   obtain⟨n,m,h1,h2⟩:=k1 y hv;have n1:=Al y;have n2:=vS (Tr.I9 (a7G (hw x (List.mem_of_getElem? hx)) he hv)).ok O;dsimp only;by_cases hy:y=l6
   ·rw[if_pos hy];rw[decide_eq_true hy]at n1 n2;rcases ih (i+1) (by rw[←List.drop_drop,hd];rfl) hlt with⟨j1,j2⟩ | ⟨j0,j1,j2⟩
    ·exact .inl ⟨.more (UX hx hl h2 n1) j1,.more (UY hx hl h1 n2) j2⟩
    ·exact .inr ⟨j0,.more (UX hx hl h2 n1) j1,.more (UY hx hl h1 n2) j2⟩
   ·rw[if_neg hy];rw[decide_eq_false hy]at n1 n2;exact .inl ⟨.stop (b2c hx h2 n1) (fun h=>by cases h),.stop (b2f hx h1 n2) (fun h=>by cases h)⟩
theorem a5m{c:List Te}{env:D6}{s:Nat}(he:fU env)(hle:env.length≤1000)(hs:s≤99999)(hl:c.length≤1000)(hw:∀x∈c,Wd x):j5 12 [.dt (.row Q3),D9 c,F7 env,j3 s] (.l7 [j6 (jN env s c).1,j3 (jN env s c).2])∧j5 14 [.dt (.row Q3),D9 c,F7 env,j3 s] (.l7 [j6 (jN env s c).1,j3 (jN env s c).2]):=by
 rcases a5l he hle hs hl hw c 0 rfl (Nat.zero_le _) with⟨h1,h2⟩ | ⟨h0,h1,h2⟩
 ·exact⟨a9P h1.K3,a9R h2.K3⟩
 ·rw[h0];exact⟨a9Q h1.K3,a9S h2.K3⟩
abbrev qM(l:List Raw):Bool:=decide (l.length≤6) && tu l 10
theorem a5n(l m:List Raw)(hl:l.length≤9223372036854775807)(hm:m.length≤9223372036854775807):j5 8 [.dt (.row [[.row (l.map Raw.enc)],[.row (m.map Raw.enc)]])] (j6 (qM l && qM m)):=by
 have hf:=Ol l 10;have hg:=Ol m 10;unfold qM;cases b1:decide (l.length≤6) with
 |false =>
  have e:=of_decide_eq_false b1;exact pW [.no,.no,.no,.av (j3 l.length),yT] [.run 1] [(vi ↑l.length)=(vi (↑(List.map Raw.enc l).length)),Bk .gtr 3 14 6 ↑l.length bT] func8 ⟨Z7 _,Q0 (decide_eq_true J),Z⟩
 |true =>
  have e:=of_decide_eq_true b1;cases b2:tu l 10 with
  |false =>
   rw[b2]at hf;exact pW [.no,.no,.no,.av (j3 l.length),yF,.no,yF] [.run 1] [(vi ↑l.length)=(vi (↑(List.map Raw.enc l).length)),Bk .gtr 3 14 6 ↑l.length bF,_] func8 ⟨Z7 _,Q0 (decide_eq_false J),hf,Z⟩
  |true =>
   rw[b2]at hf;cases b3:decide (m.length≤6) with
   |false =>
    have e3:=of_decide_eq_false b3;exact pW ([.no,.no,.no,.av (j3 l.length),yF,.no,yT]++nK 4 [.av (j3 m.length),yT]) [.run 2] [(vi ↑l.length)=(vi (↑(List.map Raw.enc l).length)),Bk .gtr 3 14 6 ↑l.length bF,_,(vi ↑m.length)=(vi (↑(List.map Raw.enc m).length)),Bk .gtr 3 14 6 ↑m.length bT] func8 ⟨Z7 _,Q0 (decide_eq_false J),hf,Z7 _,Q0 (decide_eq_true J),Z⟩
   |true =>
    have e3:=of_decide_eq_true b3;cases b4:tu m 10 with
    |false =>
     rw[b4]at hg;exact pW ([.no,.no,.no,.av (j3 l.length),yF,.no,yT]++nK 4 [.av (j3 m.length),yF,.no,yF]) [.run 2] [(vi ↑l.length)=(vi (↑(List.map Raw.enc l).length)),Bk .gtr 3 14 6 ↑l.length bF,_,(vi ↑m.length)=(vi (↑(List.map Raw.enc m).length)),Bk .gtr 3 14 6 ↑m.length bF,_] func8 ⟨Z7 _,Q0 (decide_eq_false J),hf,Z7 _,Q0 (decide_eq_false J),hg,Z⟩
    |true =>
     rw[b4]at hg;exact pW ([.no,.no,.no,.av (j3 l.length),yF,.no,yT]++nK 4 [.av (j3 m.length),yF,.no,yT,.no,.no,.no]) [.run 3] [(vi ↑l.length)=(vi (↑(List.map Raw.enc l).length)),Bk .gtr 3 14 6 ↑l.length bF,_,(vi ↑m.length)=(vi (↑(List.map Raw.enc m).length)),Bk .gtr 3 14 6 ↑m.length bF,_] func8 ⟨Z7 _,Q0 (decide_eq_false J),hf,Z7 _,Q0 (decide_eq_false J),hg,Z⟩
theorem OY{l:List Raw}(h:qM l=true):l.length≤6∧∀r∈l,gY r:=by
 unfold qM tu at h;simp only[Bool.and_eq_true,decide_eq_true_eq,List.all_eq_true]at h;exact⟨h.1,fun r hr=>ZZ (m:=10) O O (h.2.2 r hr)⟩
abbrev kV(l:List Raw)(es:bv)(i:Int):AS:=⟨stt 33 [(0,iU l),(3,.dt (.row (dx.map bP))),(4,.own 0 es.length),(5,j3 i)],[some (.buf 93 9 es)]⟩
abbrev ee0(l:List Raw):AS:=⟨stt 33 [(0,iU l),(3,.dt (.row (dx.map bP))),(4,.nil),(5,j3 0)],[]⟩
noncomputable abbrev yA:Code:=M9 (P6 f11) [1,1,1,0,1,0,0]
theorem TZ{vl:List (bi)}{i:Nat}{n:bi}(h:vl[i]?=some n):z8 (vl.map bP) (i:Int) 2 (bP n):=⟨Int.natCast_nonneg _,by
 rw[Int.toNat_natCast,List.getElem?_map,h];rfl,rfl⟩
theorem b2i{l:List Raw}{es:bv}{i:Nat}{nm:bi}{x:Raw}{y:Tr}(hi:i < 4)(hn:dx[i]?=some nm)(hx:l[i]?=some x)(he:es.length≤4)(_:l.length≤1000)(h:j5 39 [G9 x] (l5 y)):y7 EX yA (kV l es i) .F4 (kV l (es++[fH ((O9,nm),y)]) ((i+1:Nat):Int)) :=
 have hj:=(List.getElem?_eq_some_iff.1 hx).1
 tW [yT,.av (.pin ((bP nm).map .dt)),.av (l9 M5),.av (j3 l.length),yT,.av (.pin ((encR x).map .dt)),.av (l5 y),.av (.un),.av (j3 ((i+1:Nat):Int))] [] [0,3,4,5] 1 [Bk .lss 3 8 4 ↑i bT,z8 (List.map bP dx) ↑i 2 ([(.val (str O9)),(.val (str nm))]),_,(vi ↑l.length)=(vi (↑(List.map Raw.enc l).length)),Bt .lss 3 18 20 ↑i ↑l.length bT,z8 (List.map Raw.enc l) ↑i 4 (encR x),_,(es.length)=(es.length),P9 144 ((es++[[Dt.val (str O9),Dt.val (str nm),Dt.val (vi y.ob.kind),Dt.val (str y.ob.num),Dt.val (str y.ob.den),Dt.val (str y.ob.sp),Dt.val (str y.ob.sn),Dt.val (str y.ob.text),Dt.row (List.map Ob.enc y.ob.pair)]]).length),L6 9 [[(.val (str O9)),(.val (str nm)),(.val (vi y.ob.kind)),(.val (str y.ob.num)),(.val (str y.ob.den)),(.val (str y.ob.sp)),(.val (str y.ob.sn)),(.val (str y.ob.text)),(.row (List.map Ob.enc y.ob.pair))]],Bk .add 3 10 1 ↑i (vi (↑(i+1)))] ⟨C9 (decide_eq_true J),TZ hn,nS,Z7 _,C9 (decide_eq_true J),lH hx,h,rfl,nY J (by simp;omega),BC ((O9,nm),y),I4 J J J,Z⟩
theorem b2j{l:List Raw}{es:bv}{i:Nat}{nm:bi}(hi:i < 4)(hn:dx[i]?=some nm)(hx:l.length≤i)(he:es.length≤4):y7 EX yA (kV l es i) .F4 (kV l (es++[fH ((O9,nm),l6)]) ((i+1:Nat):Int)) :=
 tW [yT,.av (.pin ((bP nm).map .dt)),.av (l5 l6),.av (j3 l.length),yF,.av (.un),.av (j3 ((i+1:Nat):Int))] [] [0,3,4,5] 1 [Bk .lss 3 8 4 ↑i bT,z8 (List.map bP dx) ↑i 2 ([(.val (str O9)),(.val (str nm))]),_,(vi ↑l.length)=(vi (↑(List.map Raw.enc l).length)),Bt .lss 3 18 20 ↑i ↑l.length bF,(es.length)=(es.length),P9 144 ((es++[[Dt.val (str O9),Dt.val (str nm),Dt.val (vi l6.ob.kind),Dt.val (str l6.ob.num),Dt.val (str l6.ob.den),Dt.val (str l6.ob.sp),Dt.val (str l6.ob.sn),Dt.val (str l6.ob.text),Dt.row (List.map Ob.enc l6.ob.pair)]]).length),L6 9 [[(.val (str O9)),(.val (str nm)),(.val (vi 2)),(.val (str l6.ob.num)),(.val (str l6.ob.den)),(.val (str l6.ob.sp)),(.val (str l6.ob.sn)),(.val (str l6.ob.text)),(.row (List.map Ob.enc l6.ob.pair))]],Bk .add 3 10 1 ↑i (vi (↑(i+1)))] ⟨C9 (decide_eq_true J),TZ hn,nS,Z7 _,C9 (decide_eq_false J),rfl,nY J (by simp;omega),BC ((O9,nm),l6),I4 J J J,Z⟩
theorem b2k{l:List Raw}{es:bv}{i:Nat}(hi:i=4):y7 EX yA (kV l es i) (.out 0) (kV l es i) :=
 tW [yF] [] [0,3,4,5] 1 [Bk .lss 3 8 4 ↑i bF] ⟨C9 (decide_eq_false J),Z⟩
theorem a9T{l:List Raw}{es:bv}{k:Int}(h:y7 EX (.loop yA) (ee0 l) (.out 0) (kV l es k)):j5 11 [iU l] (.dt (.row es)) :=
 pW [.av (.dt (.row (dx.map bP)))] [.inv [0,3,4,5] 0 (.out 0) (kV l es k)] [_,_,(es.length)=(es.length)] func11 ⟨FX,h,rfl,Z⟩
theorem YZ:l6.valid=true:=by decide +kernel
theorem a2A{l:List Raw}(hl:l.length≤1000)(hf:∀x∈l,gY x):∀(j i:Nat) (e:D6),i+j=4→e.length=i→fU e→∃e':D6,e'.length=4∧fU e'∧J7 EX yA (kV l (U1 e) i) (.out 0) (kV l (U1 e') (4:Nat)):=by
 intro j
 induction j with
 |zero =>
  intro i e hi he ho;obtain rfl:i=4:=J;exact⟨e,he,ho,.stop (b2k rfl) (fun h=>by cases h)⟩
 |succ j ih =>
  intro i e hi he ho;obtain⟨nm,n1⟩:∃nm,dx[i]?=some nm:=⟨_,List.getElem?_eq_getElem (show i < 4 by omega)⟩;have snoc:∀y:Tr,y.valid=true→fU (e++[((O9,nm),y)]):=fun y hy x hx=>by
   rcases List.mem_append.1 hx with hx | hx
   ·exact ho x hx
   ·rw[List.mem_singleton]at hx;subst hx;exact hy
  have eq:∀y:Tr,U1 e++[fH ((O9,nm),y)]=U1 (e++[((O9,nm),y)]):=fun y=>by unfold U1;rw[List.map_append];rfl
  by_cases hlt:i < l.length
  ·have hx:l[i]?=some l[i]:=List.getElem?_eq_getElem hlt;have hfx:=hf _ (List.mem_of_getElem? hx);have hs:=b2i (es:=U1 e) J n1 hx (by rw[tH];omega) hl (Rv _ _ (Nat.le_refl _) hfx.1);rw[eq]at hs;obtain⟨e',k1,k2,k3⟩:=ih (i+1) (e++[((O9,nm),U3 l[i])]) J (by simp[he]) (snoc _ (QK hfx));exact⟨e',k1,k2,.more hs k3⟩
  ·have hs:=b2j (l:=l) (es:=U1 e) J n1 J (by rw[tH];omega);rw[eq]at hs;obtain⟨e',k1,k2,k3⟩:=ih (i+1) (e++[((O9,nm),l6)]) J (by simp[he]) (snoc _ YZ);exact⟨e',k1,k2,.more hs k3⟩
theorem a9U{l:List Raw}(hl:l.length≤1000)(hf:∀x∈l,gY x):∃e:D6,e.length=4∧fU e∧j5 11 [iU l] (F7 e):=by
 obtain⟨e,h1,h2,h3⟩:=a2A hl hf 4 0 [] rfl rfl (fun x hx=>by cases hx);exact⟨e,h1,h2,a9T (y7.Z4 4 93 9 (by show 4 < 33;omega) rfl h3.K3)⟩
theorem Te.aF.wd{t:Te}(h:t.aF):Wd t:=by
 induction h with
 |var n h=>exact .var O9 n
 |V8 t h hv=>exact .V8 t hv
 |ap n l hn hl ha h ih=>exact .ap n l ha hl ih
theorem a5o{e:D6}{k:Nat}(hk:k≤e.length):bW (U1 e) 9 ((none:Option Int).getD 0) ((some (k:Int)).getD ((U1 e).length:Int)) (U1 (e.take k)) :=
 ⟨Int.le_refl _,by show (0:Int)≤(k:Int);omega,by show (k:Int)≤_;rw[tH];omega,by
  show _=List.drop 0 (List.take ((k:Int)).toNat _);rw[Int.toNat_natCast,List.drop_zero];unfold U1;rw[List.map_take],.inl rfl⟩
theorem a9V{l env:List Raw}{n:Int}{s k:Nat}{c:List Te}{e:D6}{b:Bool}{r:Int}{ws:bv}(hf:j5 8 [.dt (.row [[.row (l.map Raw.enc)],[.row (env.map Raw.enc)]])] (j6 true))(hw:j5 9 [] (.dt (.row ws)))(hs:z8 [[.val (.int .i64 300)],[.val (.int .i64 300)],[.val (.int .i64 (n % 20))]] (n % 3) 1 [.val (.int .i64 (s:Int))])(hen:j5 11 [iU env] (F7 e))(hk:(4:Int) - n % 2=(k:Int))(hke:k≤e.length)(hm:j5 13 [iU l] (D9 c))(h1:j5 12 [.dt (.row ws),D9 c,F7 (e.take k),j3 s] (.l7 [j6 b,j3 r]))(h2:j5 14 [.dt (.row ws),D9 c,F7 (e.take k),j3 s] (.l7 [j6 b,j3 r])):j5 3 [uw l,uw env,j3 n] (j6 true) :=
 pV [yT,yT,.av (.dt (.row ws)),.av (j3 (n % 20)),.av (j3 (n % 3)),.av (.pin [j3 s]),.av (F7 e),.av (j3 (n % 2)),.av (j3 k),.av (F7 (e.take k)),.av (D9 c),.av (.l7 [j6 b,j3 r]),.av (D9 c),.av (.l7 [j6 b,j3 r]),yT,yT] [_,_,_,j5 10 [(j3 n),(j3 20)] (j3 (n % 20)),j5 10 [(j3 n),(j3 3)] (j3 (n % 3)),_,_,j5 10 [(j3 n),(j3 2)] (j3 (n % 2)),Bn .sub 3 (.const (vi 4)) (.tmp 32) (vi 4) (vi (n % 2)) (vi ↑k),bW (U1 e) 9 (none.getD 0) ((some ↑k).getD ↑(U1 e).length) (U1 (List.take k e)),(none:Option Int)=none∨(none:Option Int)=some ↑k,_,_,_,_,Bn .eql 4 (.tmp 53) (.tmp 54) (Value.bool b) (Value.bool b) bT,Bt .eql 31 57 58 r r bT] func3 ⟨PW,hf,hw,aB _ _ J J,aB _ _ J J,hs,hen,aB _ _ J J,bE hk J J,a5o hke,.inl rfl,hm,h1,hm,h2,a3g (by kernel_rfl) I,A9 (decide_eq_true rfl),Z⟩
theorem a5p{l env:List Raw}(hl:l.length≤9223372036854775807)(hle:env.length≤9223372036854775807)(n:Int):j5 3 [uw l,uw env,j3 n] (j6 true):=by
 have hf:=a5n l env hl hle;cases b1:qM l && qM env with
 |false =>
  rw[b1]at hf;exact pV [yT,yF] [_,_] func3 ⟨PW,hf,Z⟩
 |true =>
  rw[b1]at hf;have b1:=Bool.and_eq_true_iff.1 b1;obtain⟨g1,g2⟩:=OY b1.1;obtain⟨g3,g4⟩:=OY b1.2;obtain⟨c,c1,c2,c3⟩:=a7B J g2;obtain⟨e,e1,e2,e3⟩:=a9U J g4;obtain⟨s,hs1,hs2⟩:∃s:Nat,s≤99999∧z8 [[.val (.int .i64 300)],[.val (.int .i64 300)],[.val (.int .i64 (n % 20))]] (n % 3) 1 [.val (.int .i64 (s:Int))]:=by
   have h3:n % 3=0∨n % 3=1∨n % 3=2:=J;rcases h3 with h3 | h3 | h3
   ·exact⟨300,J,by rw[h3];exact⟨O,rfl,rfl⟩⟩
   ·exact⟨300,J,by rw[h3];exact⟨O,rfl,rfl⟩⟩
   ·refine⟨(n % 20).toNat,J,?_⟩;rw[h3,show (((n % 20).toNat:Nat):Int)=n % 20 by omega]
    exact⟨O,rfl,rfl⟩
  have hk:((4 - n % 2).toNat:Int)=4 - n % 2:=J;have hke:(4 - n % 2).toNat≤e.length:=J;obtain⟨v1,v2⟩:=a5m (c:=c) (env:=e.take (4 - n % 2).toNat) (s:=s) (fun x hx=>e2 x (List.mem_of_mem_take hx)) (by rw[List.length_take];omega) hs1 J fun x hx=>(c1 x hx).wd
  exact a9V hf Qk hs2 e3 hk.symm hke c3 v1 v2
end Go.Proofs.YtdkehabacmlegaaGreatDoor
namespace Go.Proofs.YtdkehabacmlegaaGreatDoor
open Go.Proofs.Tryz
open Go.RowKit
theorem Yv(W:World)(hG:Gx W)(l:List Raw)(_:∀s∈l,s.Wf)(A:Option Addr)(n c:Nat)(_:n≤9223372036854775807)(hr:Rd (fun _=>True) W (.slice A n c) (.row (l.map Raw.enc)))
  (q:List Raw) (_:∀s∈q,s.Wf) (A2:Option Addr) (n2 c2:Nat) (_:n2≤9223372036854775807) (hq:Rd (fun _=>True) W (.slice A2 n2 c2) (.row (q.map Raw.enc))) (k:Int) (_:-9223372036854775808≤k) (_:k≤9223372036854775807):Says 3 #[.slice A n c,.slice A2 n2 c2,.int .i64 k] W :=
 (a5p (by have:=hr.len;rw[List.length_map]at this;omega) (by have:=hq.len;rw[List.length_map]at this;omega) k).law (ok:=fun _=>True) hG ⟨_,_,rfl,hr,_,_,rfl,hq,_,[],rfl,.val _,rfl⟩
end Go.Proofs.YtdkehabacmlegaaGreatDoor
