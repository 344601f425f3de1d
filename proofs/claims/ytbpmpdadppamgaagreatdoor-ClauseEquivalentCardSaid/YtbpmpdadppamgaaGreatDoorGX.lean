/- The code's evaluator: call. -/
import Derived.Test.YtbpmpdadppamgaaGreatDoorGW
import Derived.Test.YtbpmpdadppamgaaGreatDoorGS
import Derived.Test.YtbpmpdadppamgaaGreatDoorGV
import Derived.Test.YtbpmpdadppamgaaGreatDoorGO
import Derived.Test.YtbpmpdadppamgaaGreatDoorGP
namespace Go.Proofs.YtbpmpdadppamgaaGreatDoor
open Go.Proofs.Tryz
open Go.RowKit
open Te
abbrev mU:List AV:=[stA [],stA [],.nil,j4 0,j4 0,stA [],stA [],j4 0,stA [],stA [],stA [],stA [],stA [],.nil,.nil,j4 0,stA [],stA [],j4 0,stA [],stA [],stA [],stA [],stA [],.nil,.nil,j4 0,stA [],stA [],j4 0,stA [],stA [],stA [],stA [],stA [],.nil,.nil]
theorem Yb{ws:aa0}{s u:Int}{y9:List (Value×List Dt)}{t:Te}{env:D7}(h:s≤u):D6 pq [.ptr 0 0,o6 t,E8 env] (M9 ws s u y9) (.l7 [o7 zO,j4 9]) (M9 ws s u y9) :=
 .rv (sW 2 [0,1] [yT] [] [Bt .geq 3 25 29 u s bT] func120 ⟨U0 (Pi h),Z⟩) fun _ _ _ h=>nO h
structure tT (t:Te) (s u:Int) (b:Bool):Prop where
 u0:0≤u
 lt:u < s
 s1:s≤100000
 pr:j5 151 [p8 t.np t.nn] (.l7 [j4 t.args.length,l5 true])
 nm:decide (t.nn=x8)=b
theorem b4l{ws:aa0}{s u v e:Int}{y9 V9:List (Value×List Dt)}{t a:Te}{env:D7}(hp:tT t s u true)(ha:t.args[0]?=some a)(he:e≠0)(h:D6 fq [.ptr 0 0,o6 a,E8 env] (M9 ws s (u+1) y9) (.l7 [o7 zO,j4 e]) (M9 ws s v V9)):D6 pq [.ptr 0 0,o6 t,E8 env] (M9 ws s u y9) (.l7 [o7 zO,j4 e]) (M9 ws s v V9) :=
 have h0:=hp.u0;have h1:=hp.lt;have h2:=hp.s1
 .rv (sW 2 [0,1] [yF,.av (j4 (u+1)),.av (.l7 [j4 t.args.length,l5 true]),.av (j4 t.args.length),yF,yT,.av (.pin ((o8 a).map .dt)),yT] [.J5 17 6 [0,1] (.l7 [o7 zO,j4 e]) [some (.cells [.dt (.row ws),.Q5 1,j4 s,j4 v]),some (.V3 V9)]] [Bt .geq 3 25 29 u s bF,Bk .add 3 35 1 u (vi (u+1)),_,(vi ↑t.args.length)=(vi (↑(List.map Te.enc t.args).length)),Bt .neq 3 63 64 ↑t.args.length ↑t.args.length bF,Bl .eql 9 81 [105,102] t.nn bT,z8 (List.map Te.enc t.args) 0 11 (o8 a),_,Bk .neq 37 95 0 e bT] func120 ⟨U0 (WF J),H6 rfl J J,hp.pr,F9 _,E5 I,I6 hp.nm,M5 ha,h,E5 (by simp[he]),Z⟩) fun _ _ _ h=>nO h
theorem b4m{ws:aa0}{s u v k e:Int}{y9 V9 tV:List (Value×List Dt)}{t a b:Te}{env:D7}{x:Tr}{o:Ob}(hp:tT t s u true)(ha:t.args[0]?=some a)(hb:t.args[2]?=some b)(h:D6 fq [.ptr 0 0,o6 a,E8 env] (M9 ws s (u+1) y9) (.l7 [l9 x,j4 0]) (M9 ws s v V9))(hn:j5 45 [l9 x] (l5 true))(hc:D6 fq [.ptr 0 0,o6 b,E8 env] (M9 ws s v V9) (.l7 [o7 o,j4 e]) (M9 ws s k tV)):D6 pq [.ptr 0 0,o6 t,E8 env] (M9 ws s u y9) (.l7 [o7 o,j4 e]) (M9 ws s k tV) :=
 have h0:=hp.u0;have h1:=hp.lt;have h2:=hp.s1
 sW 2 [0,1] [yF,.av (j4 (u+1)),.av (.l7 [j4 t.args.length,l5 true]),.av (j4 t.args.length),yF,yT,.av (.pin ((o8 a).map .dt)),yF,yT,.av (.pin ((o8 b).map .dt))] [.J5 17 6 [0,1] (.l7 [l9 x,j4 0]) [some (.cells [.dt (.row ws),.Q5 1,j4 s,j4 v]),some (.V3 V9)],.J5 21 6 [0,1] (.l7 [o7 o,j4 e]) [some (.cells [.dt (.row ws),.Q5 1,j4 s,j4 k]),some (.V3 tV)]] [Bt .geq 3 25 29 u s bF,Bk .add 3 35 1 u (vi (u+1)),_,(vi ↑t.args.length)=(vi (↑(List.map Te.enc t.args).length)),Bt .neq 3 63 64 ↑t.args.length ↑t.args.length bF,Bl .eql 9 81 [105,102] t.nn bT,z8 (List.map Te.enc t.args) 0 11 (o8 a),_,Bk .neq 37 95 0 0 bF,_,z8 (List.map Te.enc t.args) 2 11 (o8 b),_] func120 ⟨U0 (WF J),H6 rfl J J,hp.pr,F9 _,E5 I,I6 hp.nm,M5 ha,h,E5 I,hn,M5 hb,hc,Z⟩
theorem b4n{ws:aa0}{s u v k e:Int}{y9 V9 tV:List (Value×List Dt)}{t a b:Te}{env:D7}{x:Tr}{o:Ob}(hp:tT t s u true)(ha:t.args[0]?=some a)(hb:t.args[1]?=some b)(h:D6 fq [.ptr 0 0,o6 a,E8 env] (M9 ws s (u+1) y9) (.l7 [l9 x,j4 0]) (M9 ws s v V9))(hn:j5 45 [l9 x] (l5 false))(hc:D6 fq [.ptr 0 0,o6 b,E8 env] (M9 ws s v V9) (.l7 [o7 o,j4 e]) (M9 ws s k tV)):D6 pq [.ptr 0 0,o6 t,E8 env] (M9 ws s u y9) (.l7 [o7 o,j4 e]) (M9 ws s k tV) :=
 have h0:=hp.u0;have h1:=hp.lt;have h2:=hp.s1
 sW 2 [0,1] [yF,.av (j4 (u+1)),.av (.l7 [j4 t.args.length,l5 true]),.av (j4 t.args.length),yF,yT,.av (.pin ((o8 a).map .dt)),yF,yF,.av (.pin ((o8 b).map .dt))] [.J5 17 6 [0,1] (.l7 [l9 x,j4 0]) [some (.cells [.dt (.row ws),.Q5 1,j4 s,j4 v]),some (.V3 V9)],.J5 22 6 [0,1] (.l7 [o7 o,j4 e]) [some (.cells [.dt (.row ws),.Q5 1,j4 s,j4 k]),some (.V3 tV)]] [Bt .geq 3 25 29 u s bF,Bk .add 3 35 1 u (vi (u+1)),_,(vi ↑t.args.length)=(vi (↑(List.map Te.enc t.args).length)),Bt .neq 3 63 64 ↑t.args.length ↑t.args.length bF,Bl .eql 9 81 [105,102] t.nn bT,z8 (List.map Te.enc t.args) 0 11 (o8 a),_,Bk .neq 37 95 0 0 bF,_,z8 (List.map Te.enc t.args) 1 11 (o8 b),_] func120 ⟨U0 (WF J),H6 rfl J J,hp.pr,F9 _,E5 I,I6 hp.nm,M5 ha,h,E5 I,hn,M5 hb,hc,Z⟩
abbrev OM(ws:aa0)(s u:Int)(y9:List (Value×List Dt))(t:Te)(fc:List AV):List (Option Bx):=[some (.cells [.dt (.row ws),.Q5 1,j4 s,j4 u]),some (.V3 y9),some (.cells ((o8 t).map .dt)),uH,some (.cells fc)]
abbrev dw(ws:aa0)(s u:Int)(y9:List (Value×List Dt))(t:Te)(env:D7)(fc:List AV)(b:Bool)(n:Int)(es:aa0)(i:Int):AS:=⟨stt 179 [(0,.ptr 0 0),(2,E8 env),(4,.ptr 2 0),(6,.ptr 3 0),(8,j4 n),(9,l5 b),(10,.ptr 4 0),(14,.own 5 es.length),(123,C8 t.args),(124,j4 t.args.length),(125,j4 i)],OM ws s u y9 t fc++[some (.buf 45 7 es)]⟩
abbrev cgZ(ws:aa0)(s u:Int)(y9:List (Value×List Dt))(t:Te)(env:D7)(fc:List AV)(b:Bool)(n:Int)(es:aa0)(i:Int):AS:=⟨stt 179 [(0,.ptr 0 0),(2,E8 env),(4,.ptr 2 0),(6,.ptr 3 0),(8,j4 n),(9,l5 b),(10,.ptr 4 0),(14,.dt (.row es)),(123,C8 t.args),(124,j4 t.args.length),(125,j4 i)],OM ws s u y9 t fc++[some (.aI es)]⟩
abbrev xL(ws:aa0)(s u:Int)(y9:List (Value×List Dt))(t:Te)(e:Int):AS:=⟨stt 179 [(6,.ptr 3 0),(7,j4 e)],[some (.cells [.dt (.row ws),.Q5 1,j4 s,j4 u]),some (.V3 y9),some (.cells ((o8 t).map .dt)),uH]⟩
noncomputable abbrev jr:Code:=M6 (O4 f120) [1,1,1,1,1,1,1,1,0,1,0,0]
theorem b6W{ws es:aa0}{s u v n e:Int}{y9 V9:List (Value×List Dt)}{t x:Te}{env:D7}{fc:List AV}{b:Bool}{i:Nat}(hx:t.args[i]?=some x)(he:e≠0)(h:D6 fq [.ptr 0 0,o6 x,E8 env] (M9 ws s u y9) (.l7 [o7 zO,j4 e]) (M9 ws s v V9)):y7 (J3 2) jr (dw ws s u y9 t env fc b n es i) .ret (xL ws s v V9 t e) :=
 have hi:=(UV.1 hx).1
 tW [yT,.av (.pin ((o8 x).map .dt)),yT] [.J5 27 3 [0,1] (.l7 [o7 zO,j4 e]) [some (.cells [.dt (.row ws),.Q5 1,j4 s,j4 v]),some (.V3 V9)]] [6,7] 4 [Bt .lss 3 125 124 ↑i ↑t.args.length bT,z8 (List.map Te.enc t.args) ↑i 11 (o8 x),_,Bk .neq 37 136 0 e bT] ⟨D8 (Pi J),M5 hx,h,E5 (by simp[he]),Z⟩
theorem b4o{ws es:aa0}{s u v n:Int}{y9 V9:List (Value×List Dt)}{t x:Te}{env:D7}{b:Bool}{y:Tr}{i:Nat}(hx:t.args[i]?=some x)(hl:t.args.length≤1000)(he:es.length≤1000)(h:D6 fq [.ptr 0 0,o6 x,E8 env] (M9 ws s u y9) (.l7 [l9 y,j4 0]) (M9 ws s v V9)):y7 (J3 2) jr (dw ws s u y9 t env mU b n es i) .F6 (dw ws s v V9 t env mU b n (es++[A9 y.ob]) ((i+1:Nat):Int)) :=
 have hi:=(UV.1 hx).1
 tW [yT,.av (.pin ((o8 x).map .dt)),yF,.av (.un),.av (j4 ((i+1:Nat):Int))] [.J5 27 3 [0,1] (.l7 [l9 y,j4 0]) [some (.cells [.dt (.row ws),.Q5 1,j4 s,j4 v]),some (.V3 V9)]] [0,2,4,6,8,9,10,14,123,124,125] 6 [Bt .lss 3 125 124 ↑i ↑t.args.length bT,z8 (List.map Te.enc t.args) ↑i 11 (o8 x),_,Bk .neq 37 136 0 0 bF,(es.length)=(es.length),P7 112 ((es++[[Dt.val (vi y.ob.kind),Dt.val (str y.ob.num),Dt.val (str y.ob.den),Dt.val (str y.ob.sp),Dt.val (str y.ob.sn),Dt.val (str y.ob.text),Dt.row (List.map Ob.enc y.ob.pair)]]).length),L8 7 [A9 y.ob],Bk .add 3 125 1 ↑i (vi (↑(i+1)))] ⟨D8 (Pi J),M5 hx,h,E5 I,rfl,qo J (by simp;omega),Eh y,H6 J J J,Z⟩
theorem b4p{ws es:aa0}{s u n:Int}{y9:List (Value×List Dt)}{t:Te}{env:D7}{b:Bool}{i:Nat}(hi:i=t.args.length):y7 (J3 2) jr (dw ws s u y9 t env mU b n es i) (.out 2) (dw ws s u y9 t env mU b n es i) :=
 tW [yF] [] [0,2,4,6,8,9,10,14,123,124,125] 6 [Bt .lss 3 125 124 ↑i ↑t.args.length bF] ⟨D8 (WF J),Z⟩
theorem b4q{ws es:aa0}{s u v n:Int}{y9 V9:List (Value×List Dt)}{t x:Te}{env:D7}{f:p9.F7}{b:Bool}{y:Tr}{i:Nat}(hx:t.args[i]?=some x)(hl:t.args.length≤1000)(he:es.length≤1000)(h:D6 fq [.ptr 0 0,o6 x,E8 env] (M9 ws s u y9) (.l7 [l9 y,j4 0]) (M9 ws s v V9)):y7 (J3 2) jr (dw ws s u y9 t env ((G7 f).map .dt) b n es i) .F6 (dw ws s v V9 t env ((G7 f).map .dt) b n (es++[A9 y.ob]) ((i+1:Nat):Int)) :=
 have hi:=(UV.1 hx).1
 tW [yT,.av (.pin ((o8 x).map .dt)),yF,.av (.un),.av (j4 ((i+1:Nat):Int))] [.J5 27 3 [0,1] (.l7 [l9 y,j4 0]) [some (.cells [.dt (.row ws),.Q5 1,j4 s,j4 v]),some (.V3 V9)]] [0,2,4,6,8,9,10,14,123,124,125] 6 [Bt .lss 3 125 124 ↑i ↑t.args.length bT,z8 (List.map Te.enc t.args) ↑i 11 (o8 x),_,Bk .neq 37 136 0 0 bF,(es.length)=(es.length),P7 112 ((es++[[Dt.val (vi y.ob.kind),Dt.val (str y.ob.num),Dt.val (str y.ob.den),Dt.val (str y.ob.sp),Dt.val (str y.ob.sn),Dt.val (str y.ob.text),Dt.row (List.map Ob.enc y.ob.pair)]]).length),L8 7 [A9 y.ob],Bk .add 3 125 1 ↑i (vi (↑(i+1)))] ⟨D8 (Pi J),M5 hx,h,E5 I,rfl,qo J (by simp;omega),Eh y,H6 J J J,Z⟩
theorem b4r{ws es:aa0}{s u n:Int}{y9:List (Value×List Dt)}{t:Te}{env:D7}{f:p9.F7}{b:Bool}{i:Nat}(hi:i=t.args.length):y7 (J3 2) jr (dw ws s u y9 t env ((G7 f).map .dt) b n es i) (.out 2) (dw ws s u y9 t env ((G7 f).map .dt) b n es i) :=
 tW [yF] [] [0,2,4,6,8,9,10,14,123,124,125] 6 [Bt .lss 3 125 124 ↑i ↑t.args.length bF] ⟨D8 (WF J),Z⟩
def OO(fc:List AV):Prop:=(∀(ws es:aa0) (s u v n:Int) (y9 V9:List (Value×List Dt)) (t x:Te) (env:D7) (b:Bool) (y:Tr) (i:Nat),t.args[i]?=some x→t.args.length≤1000→es.length≤1000→D6 fq [.ptr 0 0,o6 x,E8 env] (M9 ws s u y9) (.l7 [l9 y,j4 0]) (M9 ws s v V9)→y7 (J3 2) jr (dw ws s u y9 t env fc b n es i) .F6 (dw ws s v V9 t env fc b n (es++[A9 y.ob]) ((i+1:Nat):Int)))∧(∀(ws es:aa0) (s u n:Int) (y9:List (Value×List Dt)) (t:Te) (env:D7) (b:Bool) (i:Nat),i=t.args.length→y7 (J3 2) jr (dw ws s u y9 t env fc b n es i) (.out 2) (dw ws s u y9 t env fc b n es i))
theorem b4s:OO mU:=⟨fun _ _ _ _ _ _ _ _ _ _ _ _ _ _ hx hl he h=>b4o hx hl he h,fun _ _ _ _ _ _ _ _ _ _ hi=>b4p hi⟩
theorem b4t(f:p9.F7):OO ((G7 f).map .dt):=⟨fun _ _ _ _ _ _ _ _ _ _ _ _ _ _ hx hl he h=>b4q hx hl he h,fun _ _ _ _ _ _ _ _ _ _ hi=>b4r hi⟩
theorem b4u{ws es:aa0}{s u v k e:Int}{y9 V9:List (Value×List Dt)}{t:Te}{env:D7}{o:Ob}(hp:tT t s u false)(h:y7 (J3 2) (.loop jr) (dw ws s (u+1) y9 t env mU true t.args.length [] 0) (.out 2) (dw ws s v V9 t env mU true t.args.length es k))(ha:j5 153 [p8 t.np t.nn,.dt (.row es)] (.l7 [o7 o,j4 e]))(hl:t.args.length≤1000):D6 pq [.ptr 0 0,o6 t,E8 env] (M9 ws s u y9) (.l7 [o7 o,j4 e]) (M9 ws s v V9) :=
 have h0:=hp.u0;have h1:=hp.lt;have h2:=hp.s1
 sW 2 [0,1] [yF,.av (j4 (u+1)),.av (.l7 [j4 t.args.length,l5 true]),.av (j4 t.args.length),yF,yF,.no,.av (j4 t.args.length),.av (.l7 [o7 o,j4 e])] [.inv [0,2,4,6,8,9,10,14,123,124,125] 6 (.out 2) (dw ws s v V9 t env mU true t.args.length es k)] [Bt .geq 3 25 29 u s bF,Bk .add 3 35 1 u (vi (u+1)),_,(vi ↑t.args.length)=(vi (↑(List.map Te.enc t.args).length)),Bt .neq 3 63 64 ↑t.args.length ↑t.args.length bF,Bl .eql 9 81 [105,102] t.nn bF,kV 112 ↑t.args.length,(vi ↑t.args.length)=(vi (↑(List.map Te.enc t.args).length)),_,_,(es.length)=(es.length)] func120 ⟨U0 (WF J),H6 rfl J J,hp.pr,F9 _,E5 I,I6 hp.nm,⟨J,J,by show (t.args.length:Int)≤((2 ^ 63 - 1:Nat):Int);omega⟩,F9 _,h,ha,rfl,Z⟩
theorem b1E{ws:aa0}{s u v e:Int}{y9 V9:List (Value×List Dt)}{t:Te}{env:D7}(hp:tT t s u false)(h:y7 (J3 2) (.loop jr) (dw ws s (u+1) y9 t env mU true t.args.length [] 0) .ret (xL ws s v V9 t e))(hl:t.args.length≤1000):D6 pq [.ptr 0 0,o6 t,E8 env] (M9 ws s u y9) (.l7 [o7 zO,j4 e]) (M9 ws s v V9) :=
 have h0:=hp.u0;have h1:=hp.lt;have h2:=hp.s1
 .rv (sW 2 [0,1] [yF,.av (j4 (u+1)),.av (.l7 [j4 t.args.length,l5 true]),.av (j4 t.args.length),yF,yF,.no,.av (j4 t.args.length)] [.inv [0,2,4,6,8,9,10,14,123,124,125] 6 (.ret) (xL ws s v V9 t e)] [Bt .geq 3 25 29 u s bF,Bk .add 3 35 1 u (vi (u+1)),_,(vi ↑t.args.length)=(vi (↑(List.map Te.enc t.args).length)),Bt .neq 3 63 64 ↑t.args.length ↑t.args.length bF,Bl .eql 9 81 [105,102] t.nn bF,kV 112 ↑t.args.length,(vi ↑t.args.length)=(vi (↑(List.map Te.enc t.args).length)),_] func120 ⟨U0 (WF J),H6 rfl J J,hp.pr,F9 _,E5 I,I6 hp.nm,⟨J,J,by show (t.args.length:Int)≤((2 ^ 63 - 1:Nat):Int);omega⟩,F9 _,h,Z⟩) fun _ _ _ h=>nO h
structure Ms (t:Te) (s u:Int) (f:p9.F7):Prop where
 u0:0≤u
 lt:u < s
 s1:s≤100000
 np:t.np=o9
 pr:j5 151 [p8 t.np t.nn] (.l7 [j4 0,l5 false])
 ps:f.ps.length=t.args.length
 ln:t.args.length≤8
abbrev pz(ws:aa0)(s u:Int)(y9:List (Value×List Dt))(t:Te)(f:p9.F7)(es bs:aa0)(i:Int):AS:=⟨stt 179 [(0,.ptr 0 0),(6,.ptr 3 0),(10,.ptr 4 0),(14,.dt (.row es)),(19,.own 6 bs.length),(155,.dt (.row (f.ps.map H5))),(156,j4 f.ps.length),(157,j4 i)],OM ws s u y9 t ((G7 f).map .dt)++[some (.aI es),some (.buf 96 9 bs)]⟩
noncomputable abbrev GY:Code:=M6 (O4 f120) [1,1,1,1,1,1,1,1,1,1,1,0,1,0,0]
theorem b6X{ws bs:aa0}{s u:Int}{y9:List (Value×List Dt)}{t:Te}{f:p9.F7}{vs:List Tr}{n:lw}{x:Tr}{i:Nat}(hn:f.ps[i]?=some n)(hx:vs[i]?=some x)(hp:f.ps.length≤1000)(hb:bs.length≤1000):y7 (J3 2) GY (pz ws s u y9 t f (vs.map fun t=>A9 t.ob) bs i) .F6 (pz ws s u y9 t f (vs.map fun t=>A9 t.ob) (bs++[gV ((o9,n),x)]) ((i+1:Nat):Int)) :=
 have hi:=(UV.1 hn).1
 tW [yT,.av (.pin ((H5 n).map .dt)),.av (.pin ((A9 x.ob).map .dt)),.av (.un),.av (j4 ((i+1:Nat):Int))] [] [0,6,10,14,19,155,156,157] 7 [Bt .lss 3 157 156 ↑i ↑f.ps.length bT,z8 (List.map H5 f.ps) ↑i 2 ([(.val (str o9)),(.val (str n))]),z8 (List.map (fun t=>A9 t.ob) vs) ↑i 7 (A9 x.ob),(bs.length)=(bs.length),P7 144 ((bs++[[Dt.val (str o9),Dt.val (str n),Dt.val (vi x.ob.kind),Dt.val (str x.ob.num),Dt.val (str x.ob.den),Dt.val (str x.ob.sp),Dt.val (str x.ob.sn),Dt.val (str x.ob.text),Dt.row (List.map Ob.enc x.ob.pair)]]).length),L8 9 [[(.val (str o9)),(.val (str n)),(.val (vi x.ob.kind)),(.val (str x.ob.num)),(.val (str x.ob.den)),(.val (str x.ob.sp)),(.val (str x.ob.sn)),(.val (str x.ob.text)),(.row (List.map Ob.enc x.ob.pair))]],Bk .add 3 157 1 ↑i (vi (↑(i+1)))] ⟨D8 (Pi J),XV hn,XW hx,rfl,qo J (by simp;omega),Eg ((o9,n),x),H6 J J J,Z⟩
theorem b6Y{ws es bs:aa0}{s u:Int}{y9:List (Value×List Dt)}{t:Te}{f:p9.F7}{i:Nat}(hi:i=f.ps.length):y7 (J3 2) GY (pz ws s u y9 t f es bs i) (.out 4) (pz ws s u y9 t f es bs i) :=
 tW [yF] [] [0,6,10,14,19,155,156,157] 7 [Bt .lss 3 157 156 ↑i ↑f.ps.length bF] ⟨D8 (WF J),Z⟩
theorem a9z{ws:aa0}{s u:Int}{y9:List (Value×List Dt)}{t:Te}{f:p9.F7}{V:List Tr}(hl:f.ps.length≤500)(hv:V.length=f.ps.length):∀(p:List (lw)) (v:List Tr) (i:Nat) (pre:D7),f.ps.drop i=p→V.drop i=v→i≤f.ps.length→pre.length=i→I7 (J3 2) GY (pz ws s u y9 t f (V.map fun t=>A9 t.ob) (ai pre) i) (.out 4) (pz ws s u y9 t f (V.map fun t=>A9 t.ob) (ai (pre++dO p v)) f.ps.length):=by
 intro p
 induction p with
 |nil =>
  intro v i pre hd hm hi hp;have e1:=congrArg List.length hd;rw[ut,List.length_nil]at e1;obtain rfl:i=f.ps.length:=J;have e:dO [] v=[]:=by cases v <;> rfl
  rw[e,ZaB];exact .stop (b6Y rfl) (fun h=>by cases h)
 |cons n p ih =>
  intro v i pre hd hm hi hp;have hn:f.ps[i]?=some n:=by rw[←Za1,hd];rfl
  have hlt:=(UV.1 hn).1;cases v with
  |nil =>
   have e1:=congrArg List.length hm;rw[ut,List.length_nil]at e1;omega
  |cons x v =>
   have hx:V[i]?=some x:=by rw[←Za1,hm];rfl
   have hs:=b6X (ws:=ws) (s:=s) (u:=u) (y9:=y9) (t:=t) (bs:=ai pre) hn hx J (by rw[yZ];omega);have e:ai pre++[gV ((o9,n),x)]=ai (pre++[((o9,n),x)]):=by unfold ai;rw[Zam];rfl
   rw[e]at hs;have k:=ih v (i+1) (pre++[((o9,n),x)]) (by rw[←Za0,hd];rfl) (by rw[←Za0,hm];rfl) hlt (by simp[hp]);rw[Zaf]at k;exact .more hs k
theorem b4v{ws es bs:aa0}{s u v w e:Int}{y9 uN mV OP:List (Value×List Dt)}{t:Te}{f:p9.F7}{env:D7}{k:Int}{o:Ob}(hp:Ms t s u f)(hf:D6 BZ [.ptr 0 0,p8 t.np t.nn] (M9 ws s (u+1) y9) (.l7 [.agg ((G7 f).map .dt),l5 true]) (M9 ws s (u+1) uN))(h:y7 (J3 2) (.loop jr) (dw ws s (u+1) uN t env ((G7 f).map .dt) false f.ps.length [] 0) (.out 2) (cgZ ws s v mV t env ((G7 f).map .dt) false f.ps.length es k))(h2:y7 (J3 2) (.loop GY) (pz ws s v mV t f es [] 0) (.out 4) (pz ws s v mV t f es bs f.ps.length))(ha:D6 fq [.ptr 0 0,o6 f.body,.dt (.row bs)] (M9 ws s v mV) (.l7 [o7 o,j4 e]) (M9 ws s w OP)):D6 pq [.ptr 0 0,o6 t,E8 env] (M9 ws s u y9) (.l7 [o7 o,j4 e]) (M9 ws s w OP) :=
 have h0:=hp.u0;have h1:=hp.lt;have h3:=hp.s1;have h4:=hp.ps;have h5:=hp.ln
 sW 2 [0,1] [yF,.av (j4 (u+1)),.av (.l7 [j4 0,l5 false]),.av (j4 f.ps.length),.av (j4 t.args.length),yF,.no,.no,.av (j4 t.args.length),.no,.av (j4 f.ps.length)] [.J5 8 3 [0,1] (.l7 [.agg ((G7 f).map .dt),l5 true]) [some (.cells [.dt (.row ws),.Q5 1,j4 s,j4 (u+1)]),some (.V3 uN)],.inv [0,2,4,6,8,9,10,14,123,124,125] 6 (.out 2) (cgZ ws s v mV t env ((G7 f).map .dt) false f.ps.length es k),.inv [0,6,10,14,19,155,156,157] 7 (.out 4) (pz ws s v mV t f es bs f.ps.length),.J5 40 4 [0,1] (.l7 [o7 o,j4 e]) [some (.cells [.dt (.row ws),.Q5 1,j4 s,j4 w]),some (.V3 OP)]] [Bt .geq 3 25 29 u s bF,Bk .add 3 35 1 u (vi (u+1)),_,_,(vi ↑f.ps.length)=(vi (↑(List.map H5 f.ps).length)),(vi ↑t.args.length)=(vi (↑(List.map Te.enc t.args).length)),Bt .neq 3 63 64 ↑t.args.length ↑f.ps.length bF,kV 112 ↑f.ps.length,(vi ↑t.args.length)=(vi (↑(List.map Te.enc t.args).length)),_,kV 144 ↑f.ps.length,(vi ↑f.ps.length)=(vi (↑(List.map H5 f.ps).length)),_,_,(bs.length)=(bs.length)] func120 ⟨U0 (WF J),H6 rfl J J,hp.pr,hf,zQ _,F9 _,E5 (by simp;omega),⟨J,J,by show (f.ps.length:Int)≤((2 ^ 63 - 1:Nat):Int);omega⟩,F9 _,h,⟨J,J,by show (f.ps.length:Int)≤((2 ^ 63 - 1:Nat):Int);omega⟩,zQ _,h2,ha,rfl,Z⟩
theorem b1F{ws:aa0}{s u v e:Int}{y9 uN mV:List (Value×List Dt)}{t:Te}{f:p9.F7}{env:D7}(hp:Ms t s u f)(hf:D6 BZ [.ptr 0 0,p8 t.np t.nn] (M9 ws s (u+1) y9) (.l7 [.agg ((G7 f).map .dt),l5 true]) (M9 ws s (u+1) uN))(h:y7 (J3 2) (.loop jr) (dw ws s (u+1) uN t env ((G7 f).map .dt) false f.ps.length [] 0) .ret (xL ws s v mV t e)):D6 pq [.ptr 0 0,o6 t,E8 env] (M9 ws s u y9) (.l7 [o7 zO,j4 e]) (M9 ws s v mV) :=
 have h0:=hp.u0;have h1:=hp.lt;have h3:=hp.s1;have h4:=hp.ps;have h5:=hp.ln
 .rv (sW 2 [0,1] [yF,.av (j4 (u+1)),.av (.l7 [j4 0,l5 false]),.av (j4 f.ps.length),.av (j4 t.args.length),yF,.no,.no,.av (j4 t.args.length)] [.J5 8 3 [0,1] (.l7 [.agg ((G7 f).map .dt),l5 true]) [some (.cells [.dt (.row ws),.Q5 1,j4 s,j4 (u+1)]),some (.V3 uN)],.inv [0,2,4,6,8,9,10,14,123,124,125] 6 (.ret) (xL ws s v mV t e)] [Bt .geq 3 25 29 u s bF,Bk .add 3 35 1 u (vi (u+1)),_,_,(vi ↑f.ps.length)=(vi (↑(List.map H5 f.ps).length)),(vi ↑t.args.length)=(vi (↑(List.map Te.enc t.args).length)),Bt .neq 3 63 64 ↑t.args.length ↑f.ps.length bF,kV 112 ↑f.ps.length,(vi ↑t.args.length)=(vi (↑(List.map Te.enc t.args).length)),_] func120 ⟨U0 (WF J),H6 rfl J J,hp.pr,hf,zQ _,F9 _,E5 (by simp;omega),⟨J,J,by show (f.ps.length:Int)≤((2 ^ 63 - 1:Nat):Int);omega⟩,F9 _,h,Z⟩) fun _ _ _ h=>nO h
def xw(fs:List p9.F7):Prop:=∀f∈fs,(G5.find? fun g=>g.nm == f.nm)=some f
theorem Jv(fs:List p9.F7):(fo fs).map (·.1)=(fs.map (·.nm)).map eT:=by unfold fo;rw[List.map_map,List.map_map];rfl
theorem a6w(fs:List p9.F7):(fo fs).map (·.2)=fs.map fun f=>G7 f:=by unfold fo;rw[List.map_map];rfl
theorem b4w{fs:List p9.F7}(hk:xw fs){n:lw}{f:p9.F7}(hf:(G5.find? fun g=>g.nm == n)=some f)(s u:Int):∃fs',xw fs'∧D6 BZ [.ptr 0 0,p8 o9 n] (M9 P6 s u (fo fs)) (.l7 [.agg ((G7 f).map .dt),l5 true]) (M9 P6 s u (fo fs')):=by
 have hm:=a6v n (fs.map (·.nm));cases hi:mR n (fs.map (·.nm)) with
 |some i =>
  rw[hi,←Jv]at hm;have h1:=Ta hi;rw[bi,ZaH]at h1;obtain⟨g,hg,hgn⟩:=h1;have h2:=hk g (q8 hg);rw[hgn,hf]at h2;cases h2;exact⟨fs,hk,b4g (i:=i) hm (by rw[a6w,bi,hg];rfl)⟩
 |none =>
  have hn:=a9x hi;rw[hi,←Jv]at hm;rw[←Jv]at hn;have hfn:f.nm=n:=by have:=List.find?_some hf;simpa using this
  have hw:=b4h (s:=s) (u:=u) hm (a5v (ws:=G5) (r:=[bu nN]) IU hf) hn;have e:fo fs++[(eT n,G7 f)]=fo (fs++[f]):=by unfold fo;rw[Zam,←hfn];rfl
  rw[e]at hw;refine⟨fs++[f],fun g hg=>?_,hw⟩;rcases ZaA.1 hg with hg | hg
  ·exact hk g hg
  ·rw[Cf]at hg;subst hg;rw[hfn];exact hf
def GZ(f:Nat)(env:D7)(t:Te):Prop:=∀(s l:Nat) (fs:List p9.F7),l≤f→l≤s→s≤99999→xw fs→∃fs',xw fs'∧D6 fq [.ptr 0 0,o6 t,E8 env] (M9 P6 s (s - l:Int) (fo fs)) (xu (ev G5 f env t l).1) (M9 P6 s (s - (ev G5 f env t l).2:Int) (fo fs'))
theorem Vh{f s:Nat}{env:D7}{t:Te}{fc:List AV}{b:Bool}{n:Int}(hR:OO fc)(hs:s≤99999)(hl:t.args.length≤8)(hw:∀x∈t.args,Wd x)(he:dE env)(ih:∀x∈t.args,GZ f env x):∀(q:List Te) (i:Nat) (out:List Tr) (l:Nat) (fs:List p9.F7),t.args.drop i=q→i≤t.args.length→out.length=i→l≤f→l≤s→xw fs→∃fs',xw fs' ∧
  (∀xs l',aJ (ev G5 f env) q l=(.ok xs,l')→I7 (J3 2) jr (dw P6 s (s - l:Int) (fo fs) t env fc b n (jb out) i) (.out 2) (dw P6 s (s - l':Int) (fo fs') t env fc b n (jb (out++xs)) t.args.length))∧(∀e l',aJ (ev G5 f env) q l=(.error e,l')→I7 (J3 2) jr (dw P6 s (s - l:Int) (fo fs) t env fc b n (jb out) i) .ret (xL P6 s (s - l':Int) (fo fs') t e)):=by
 intro q
 induction q with
 |nil =>
  intro i out l fs hd hi ho hf _ hk;have e1:=congrArg List.length hd;rw[ut,List.length_nil]at e1;obtain rfl:i=t.args.length:=J;refine⟨fs,hk,fun xs l' h=>?_,fun e l' h=>by rw[aJ]at h;cases h⟩;rw[aJ]at h;cases h;rw[ZaB];exact .stop (hR.2 _ _ _ _ _ _ _ _ _ _ rfl) (fun h=>by cases h)
 |cons x q BX =>
  intro i out l fs hd hi ho hf hf2 hk;have hx:t.args[i]?=some x:=by rw[←Za1,hd];rfl
  have hlt:=(UV.1 hx).1;have hxm:=q8 hx;obtain⟨jv,hk1,hst⟩:=ih x hxm s l fs hf hf2 hs hk;have hle:=mq G5 f env x l;rw[aJ];cases hv:ev G5 f env x l with
  |mk r l1 =>
   rw[hv]at hst hle;have hle:l1≤l:=hle;cases r with
   |error c =>
    have hc:=(kP f env x l (hw x hxm) he).2 c l1 hv;exact⟨jv,hk1,fun xs l' h=>(by cases h),fun e l' h=>by cases h;exact .stop (b6W hx hc hst) (fun h=>by cases h)⟩
   |ok y =>
    have hst:=hR.1 _ (jb out) _ _ _ n _ _ _ _ _ b _ _ hx J (by rw[QX];omega) hst;rw[Qi]at hst;obtain⟨ji,hk2,k1,k2⟩:=BX (i+1) (out++[y]) l1 jv (by rw[←Za0,hd];rfl) hlt (by simp[ho]) J J hk1;refine⟨ji,hk2,fun xs l' h=>?_,fun e l' h=>?_⟩
    ·dsimp only at h;split at h
     ·cases h
     ·rename_i ys l2 hh;cases h;have:=k1 ys l' hh;rw[Zaf]at this;exact .more hst this
    ·dsimp only at h;split at h
     ·rename_i c l2 hh;cases h;exact .more hst (k2 _ _ hh)
     ·cases h
theorem Tc:∀(p:List (lw)) (v:List Tr),(dO p v).length≤p.length
 |[],v=>by cases v <;> exact Ci _
 |n::p,[]=>Ci _
 |n::p,x::v=>Nat.succ_le_succ (Tc p v)
theorem WE{f:Nat}{env:D7}{p n:lw}(hle:env.length≤1000):GZ f env ⟨1,p,n,Q9,[]⟩:=by
 intro s l fs hl hs hs2 hk;refine⟨fs,hk,?_⟩;rw[wm];obtain⟨k1,k2⟩:=a9y (ws:=P6) (s:=s) (u:=(s - l:Int)) (y9:=fo fs) (t:=⟨1,p,n,Q9,[]⟩) hle env 0 rfl (Ci _);cases hv:bf env p n with
 |none=>exact b4k (t:=⟨1,p,n,Q9,[]⟩) rfl (k1 hv).I8
 |some x=>exact b4j (t:=⟨1,p,n,Q9,[]⟩) rfl (k2 x hv).I8
theorem WG{f:Nat}{env:D7}(t:Tr):GZ f env (Te.H9 t.ob):=by
 intro s l fs hl hs hs2 hk;refine⟨fs,hk,?_⟩;rw[qg];exact b4i (t:=Te.H9 t.ob) rfl
theorem b4x:∀(f:Nat) (env:D7) (t:Te),Wd t→dE env→env.length≤1000→GZ f env t:=by
 intro f
 induction f with
 |zero =>
  intro env t ht he hle;cases ht with
  |var p n=>exact WE hle
  |H9 t h=>exact WG t
  |ap n a ha hn h =>
   intro s l fs hl hs hs2 hk;obtain rfl:l=0:=J;rw[wu];exact⟨fs,hk,nS (t:=Te.ap n a) rfl (Yb J)⟩
 |succ f ih =>
  intro env t ht he hle;cases ht with
  |var p n=>exact WE hle
  |H9 t h=>exact WG t
  |ap n a ha hn h =>
   intro s l fs hl hs hs2 hk;cases l with
   |zero =>
    rw[wu];exact⟨fs,hk,nS (t:=Te.ap n a) rfl (Yb J)⟩
   |succ l =>
    rw[zB];have e1:((s:Int) - ((l+1:Nat):Int))+1=(s:Int) - (l:Int):=J;rcases Qh ha with⟨i,hi,hp,hno⟩ | ⟨fn,hm,hf,hps,hp,hne⟩
    ·have hpr:j5 151 [p8 o9 n] (.l7 [j4 (a.length:Int),l5 true]):=b1t hi;unfold jS;by_cases hif:is (Te.ap n a) x8 3
     ·rw[Ch hif];have pre:tT (Te.ap n a) s (s - ((l+1:Nat):Int)) true:=⟨J,J,J,hpr,Pi hif.2.2.1⟩;have w0:=h _ (q8 (aA hif (show 0 < 3 by omega)));have w1:=h _ (q8 (aA hif (show 1 < 3 by omega)));have w2:=h _ (q8 (aA hif (show 2 < 3 by omega)));obtain⟨jv,hk1,h0⟩:=ih env _ w0 he hle s l fs J J hs2 hk;have hle0:=mq G5 f env ((Te.ap n a).arg 0) l;have hok0:=kP f env ((Te.ap n a).arg 0) l w0 he;cases hv:ev G5 f env ((Te.ap n a).arg 0) l with
      |mk r l1 =>
       rw[hv]at h0 hle0;have hle0:l1≤l:=hle0;cases r with
       |error c=>exact⟨jv,hk1,nS (t:=Te.ap n a) rfl (b4l pre (aA hif (show 0 < 3 by omega)) (hok0.2 c l1 hv) (by rw[e1];exact h0))⟩
       |ok x =>
        have hn:=CU x;dsimp only;by_cases hx:x=l6
        ·rw[Ch hx];rw[Pi hx]at hn;obtain⟨ji,hk2,h2⟩:=ih env _ w2 he hle s l1 jv J J hs2 hk1;obtain⟨o,e,hr⟩:=qb (ev G5 f env ((Te.ap n a).arg 2) l1).1;rw[hr]at h2 ⊢
         exact⟨ji,hk2,nS (t:=Te.ap n a) rfl (b4m pre (aA hif (show 0 < 3 by omega)) (aA hif (show 2 < 3 by omega)) (by rw[e1];exact h0) hn h2)⟩
        ·rw[EQ hx];rw[WF hx]at hn;obtain⟨ji,hk2,h2⟩:=ih env _ w1 he hle s l1 jv J J hs2 hk1;obtain⟨o,e,hr⟩:=qb (ev G5 f env ((Te.ap n a).arg 1) l1).1;rw[hr]at h2 ⊢
         exact⟨ji,hk2,nS (t:=Te.ap n a) rfl (b4n pre (aA hif (show 0 < 3 by omega)) (aA hif (show 1 < 3 by omega)) (by rw[e1];exact h0) hn h2)⟩
     ·rw[EQ hif];have hnn:n≠x8:=fun e=>hif ((b4e ha).2 e)
      have pre:tT (Te.ap n a) s (s - ((l+1:Nat):Int)) false:=⟨J,J,J,hpr,WF hnn⟩;obtain⟨jv,hk1,k1,k2⟩:=Vh (f:=f) (s:=s) (env:=env) (t:=Te.ap n a) (fc:=mU) (b:=true) (n:=(a.length:Int)) b4s hs2 hn h he (fun x hx=>ih env x (h x hx) he hle) a 0 [] l fs rfl (Ci _) rfl J J hk;rw[show (Te.ap n a).args=a from rfl]
      cases hv:aJ (ev G5 f env) a l with
      |mk r l1 =>
       cases r with
       |error c=>exact⟨jv,hk1,nS (t:=Te.ap n a) rfl (b1E pre (by rw[e1];exact (k2 c l1 hv).I8) (by show a.length≤1000;omega))⟩
       |ok vs =>
        obtain⟨v1,v2⟩:=wD _ _ _ _ (fun t ht l x l' hh=>(kP f env t l (h t ht) he).1 x l' hh) hv;dsimp only;rw[show (Te.ap n a).nn=n from rfl,hp]
        dsimp only;have hap:j5 153 [p8 o9 n,K5 vs] (xu (lh i vs)):=by rw[←SY];exact b3W hi v2 v1
        obtain⟨o,e,hr⟩:=qb (lh i vs);rw[hr]at hap ⊢
        exact⟨jv,hk1,nS (t:=Te.ap n a) rfl (b4u pre (by rw[e1];exact (k1 vs l1 hv).I8) hap (by show a.length≤1000;omega))⟩
    ·have hpr:j5 151 [p8 o9 n] (.l7 [j4 0,l5 false]):=b1d hne;have hif:¬is (Te.ap n a) x8 3:=fun e=>by
      have e2:n=x8:=e.2.2.1;exact hne (x8,3) O e2
     have pre:Ms (Te.ap n a) s (s - ((l+1:Nat):Int)) fn:=⟨J,J,J,rfl,hpr,hps,hn⟩;unfold jS;rw[EQ hif];obtain⟨fs0,hk0,hfn⟩:=b4w hk hf (s:Int) ((s:Int) - (l:Int));obtain⟨jv,hk1,k1,k2⟩:=Vh (f:=f) (s:=s) (env:=env) (t:=Te.ap n a) (fc:=(G7 fn).map .dt) (b:=false) (n:=(fn.ps.length:Int)) (b4t fn) hs2 hn h he (fun x hx=>ih env x (h x hx) he hle) a 0 [] l fs0 rfl (Ci _) rfl J J hk0;rw[show (Te.ap n a).args=a from rfl]
     cases hv:aJ (ev G5 f env) a l with
     |mk r l1 =>
      have hle1:=zw (g:=ev G5 f env) (fun t l=>mq G5 f env t l) a l;rw[hv]at hle1;have hle1:l1≤l:=hle1;cases r with
      |error c=>exact⟨jv,hk1,nS (t:=Te.ap n a) rfl (b1F pre (by rw[e1];exact hfn) (by rw[e1];exact (k2 c l1 hv).I8))⟩
      |ok vs =>
       obtain⟨v1,v2⟩:=wD _ _ _ _ (fun t ht l x l' hh=>(kP f env t l (h t ht) he).1 x l' hh) hv;dsimp only;rw[show (Te.ap n a).nn=n from rfl,hp]
       dsimp only;rw[hf];dsimp only;obtain⟨hwd,hpl⟩:=Ko hm;have hbl:=Tc fn.ps vs;obtain⟨ji,hk2,hb⟩:=ih (dO fn.ps vs) fn.body hwd (DL _ _ v2) J s l1 jv J J hs2 hk1;obtain⟨o,e,hr⟩:=qb (ev G5 f (dO fn.ps vs) fn.body l1).1;rw[hr]at hb ⊢
       have hlp:=y7.Bi 14 5 (by show 14 < 179;omega) rfl rfl (k1 vs l1 hv).I8;have hl2:=(a9z (ws:=P6) (s:=s) (u:=(s - l1:Int)) (y9:=fo jv) (t:=Te.ap n a) (f:=fn) (V:=vs) J J fn.ps vs 0 [] rfl rfl (Ci _) rfl).I8;exact⟨ji,hk2,nS (t:=Te.ap n a) rfl (b4v pre (by rw[e1];exact hfn) (by rw[e1];exact hlp) hl2 hb)⟩
abbrev pE(es rs:aa0)(i:Int):AS:=⟨stt 36 [(0,.dt (.row es)),(3,.own 0 rs.length),(4,j4 i)],[some (.buf 42 2 rs)]⟩
noncomputable abbrev Ha:Code:=M6 (O4 f75) [1,1,0,1,0,0]
theorem b6Z{es rs:aa0}{f:p9.F7}{i:Nat}(hi:i < es.length)(hl:es.length≤1000)(hr:rs.length≤1000)(hx:z8 es (i:Int) 32 (F8 f)):y7 EX Ha (pE es rs i) .F6 (pE es (rs++[H5 f.nm]) ((i+1:Nat):Int)) :=
 tW [.av (j4 es.length),yT,.av (.pin ((F8 f).map .dt)),.no,.no,.av (.pin ((F8 f).map .dt)),.no,.av (.un),.no,.av (.pin ((F8 f).map .dt)),.no,.no,.av (j4 ((i+1:Nat):Int))] [.run 2] [0,3,4] 1 [(vi ↑es.length)=(vi ↑es.length),Bt .lss 3 7 9 ↑i ↑es.length bT,_,_,(rs.length)=(rs.length),P7 32 ((rs++[[Dt.val (str o9),Dt.val (str f.nm)]]).length),L8 2 [[(.val (str o9)),(.val (str f.nm))]],_,Bk .add 3 11 1 ↑i (vi (↑(i+1)))] ⟨rfl,D8 (Pi J),hx,hx,rfl,bE J (by simp;omega),yK f.nm,hx,H6 J J J,Z⟩
theorem b60{es rs ns:aa0}{i:Nat}(hi:i < es.length)(hl:es.length≤1000)(hx:z8 es (i:Int) 32 (bu ns)):y7 EX Ha (pE es rs i) .F6 (pE es rs ((i+1:Nat):Int)) :=
 tW [.av (j4 es.length),yT,.av (.pin ((bu ns).map .dt)),.no,.no,.av (j4 ((i+1:Nat):Int))] [.run 1] [0,3,4] 1 [(vi ↑es.length)=(vi ↑es.length),Bt .lss 3 7 9 ↑i ↑es.length bT,_,Bk .add 3 11 1 ↑i (vi (↑(i+1)))] ⟨rfl,D8 (Pi J),hx,H6 J J J,Z⟩
theorem b61{es rs:aa0}{i:Nat}(hi:i=es.length):y7 EX Ha (pE es rs i) (.out 0) (pE es rs i) :=
 tW [.av (j4 es.length),yF] [] [0,3,4] 1 [(vi ↑es.length)=(vi ↑es.length),Bt .lss 3 7 9 ↑i ↑es.length bF] ⟨rfl,D8 (WF J),Z⟩
theorem a9A{ws:List p9.F7}{ns:aa0}(hl:ws.length≤100):∀(s:List p9.F7) (i:Nat) (rs:aa0),ws.drop i=s→i≤ws.length→rs.length≤100+i→I7 EX Ha (pE (ws.map F8++[bu ns]) rs i) (.out 0) (pE (ws.map F8++[bu ns]) (rs++s.map fun f=>H5 f.nm) ((ws.length+1:Nat):Int)):=by
 have hlo:(ws.map F8++[bu ns]).length=ws.length+1:=by rw[lm,Cc];rfl
 intro s
 induction s with
 |nil =>
  intro i rs hd hi _;have e1:=congrArg List.length hd;rw[ut,List.length_nil]at e1;obtain rfl:i=ws.length:=J;rw[List.map_nil,ZaB];have hx:z8 (ws.map F8++[bu ns]) (ws.length:Int) 32 (bu ns):=⟨Int.natCast_nonneg _,by rw[Int.toNat_natCast,ZaI (by rw[Cc];exact PP _),Cc,Zb5];rfl,rfl⟩;exact .more (b60 J J hx) (.stop (b61 hlo.symm) (fun h=>by cases h))
 |cons x s ih =>
  intro i rs hd hi hr;have hx:ws[i]?=some x:=by rw[←Za1,hd];rfl
  have hlt:=(UV.1 hx).1;have hn:=ih (i+1) (rs++[H5 x.nm]) (by rw[←Za0,hd];rfl) J (by simp;omega);rw[Zaf,List.singleton_append]at hn;exact .more (b6Z J J J (oh hx)) hn
theorem a3F{ws:List p9.F7}{ns:aa0}(hl:ws.length≤100):j5 75 [.dt (.row (ws.map F8++[bu ns]))] (.dt (.row (I5.map gB++ws.map fun f=>H5 f.nm))):=by
 have h1:=(a9A (ns:=ns) hl ws 0 (I5.map gB) rfl (Ci _) (by rw[Cc];decide)).I8;generalize ws.map F8++[bu ns]=es at *;generalize (((ws.length+1:Nat)):Int)=k at *;generalize hrs:(I5.map gB++ws.map fun f=>H5 f.nm)=rs at *;exact pW [] [.J5 1 0 [] (.own 0 25) [some (.buf 42 2 (I5.map gB))],.inv [0,3,4] 1 (.out 0) (pE es rs k)] [_,_,(rs.length)=(rs.length)] func75 ⟨Sd,h1,rfl,Z⟩
section
variable {X:Nat→Prop} {n0:Nat} {w0:World×Mm} {ok0:Nat→Prop} {M:Mm} {nt:Nat} {tm:Nat→AV} {bx:Nat→Option Bx} {a:Act} {w:World}
theorem Inv.Nf(h:Inv X n0 w0 ok0 M nt tm bx a w){t:Nat}(ht:tm t=.nil):Inv X n0 w0 ok0 M nt (fun i=>if i=t then .dt (.row []) else tm i) bx a w:=by
 refine⟨h.below,h.le,h.defers,h.size,fun i=>?_,h.I9,h.src,h.iI⟩;show RV _ _ (if i=t then _ else _) _;by_cases hi:i=t
 ·subst hi;have hv:=h.tmps i;rw[ht]at hv;rw[Ch rfl];exact RV.KZ hv
 ·rw[EQ hi];exact h.tmps i
end
theorem y7.Nf{E:En}{c:Code}{s s':AS}{e:AE}(t:Nat)(hl:t < s.tm.length)(ht:s.G9 t=.nil)(h:y7 E c ⟨s.tm.set t (.dt (.row [])),s.bx⟩ e s'):y7 E c s e s':=by
 obtain⟨h1,h2⟩:=h;have hlen:(s.tm.set t (.dt (.row []))).length=s.tm.length:=List.length_set ..;refine⟨h1.trans hlen,fun X n0 w0 ok0 a w hG ⟨M,hI⟩=>?_⟩;have hI2:=hI.Nf ht;have e1:(AS.mk (s.tm.set t (.dt (.row []))) s.bx).G9=fun i=>if i=t then .dt (.row []) else s.G9 i:=by
  funext i;unfold AS.G9;by_cases hi:i=t
  ·subst hi;simp[List.getD_eq_getElem?_getD,hl]
  ·simp[List.getD_eq_getElem?_getD,ZaJ hi,hi]
 have hL:Left X n0 w0 ok0 (AS.mk (s.tm.set t (.dt (.row []))) s.bx).tm.length (AS.mk (s.tm.set t (.dt (.row []))) s.bx).G9 (AS.mk (s.tm.set t (.dt (.row []))) s.bx).E9 a w:=by
  rw[e1,show (AS.mk (s.tm.set t (.dt (.row []))) s.bx).tm.length=s.tm.length from hlen]
  exact⟨_,hI2⟩
 have:=h2 X n0 w0 ok0 a w hG hL;rw[show (AS.mk (s.tm.set t (.dt (.row []))) s.bx).tm.length=s.tm.length from hlen]at this
 exact this
def uO:List (lw):=I5.map (·.1)++G5.map (·.nm)
abbrev aH:List (lw):=[[120],[121],[122],[117]]
theorem b1G:∀n∈uO,n.length≤1000∧∃k:Nat,k≤8∧fI G5 n=some k:=by
 have h:(uO.all fun n=>decide (n.length≤1000) && (match fI G5 n with | some k=>decide (k≤8) | none=>false))=true:=by decide +kernel
 intro n hn;have:=Zag.1 h n hn;rw[Ce]at this;obtain⟨h1,h2⟩:=this;refine⟨bv h1,?_⟩;split at h2
 ·rename_i k hk;exact⟨k,bv h2,hk⟩
 ·cases h2
theorem Vi:uO.length=53:=by decide +kernel
theorem mkB(vl:List (lw))(h1:0 < vl.length)(h2:vl.length≤4)(h3:∀v∈vl,v∈qL):Mk P6 uO vl:=⟨by rw[Vi];decide,by rw[Vi];decide,h1,h2,fun n hn=>by
 obtain⟨k1,k,k2,k3⟩:=b1G n hn;refine⟨k1,k,k2,?_,k3⟩;have hwl:=ve;exact Lc (ws:=G5) (r:=[bu nN]) (by rw[lm,Cc,hwl];decide) k3,h3⟩
theorem Vq:∀v∈aH,v∈qL:=O
theorem Rw:j5 75 [.dt (.row P6)] (bY uO):=by
 have h:=a3F (ws:=G5) (ns:=nN) (by rw[ve];decide);have e:(I5.map gB++G5.map fun f=>H5 f.nm)=uO.map H5:=by
  unfold uO;rw[Zam,List.map_map,List.map_map];rfl
 rw[e]at h;exact h
theorem b1H{r:Raw}(hf:eP r):∃t:Te,t.L9∧j5 72 [.dt (.row P6),Z5 aH,F5 r] (o6 t):=b3Y (mkB aH O O Vq) Rw hf
abbrev dX(l:List Raw):AV:=.dt (.row (l.map Raw.enc))
abbrev rA(wr:aa0)(vl:List (lw))(l:List Raw)(c:List Te)(i:Int):AS:=⟨stt 26 [(0,.dt (.row wr)),(1,Z5 vl),(2,dX l),(7,C8 c),(8,j4 i)],[]⟩
abbrev ck0(wr:aa0)(vl:List (lw))(l:List Raw):AS:=⟨stt 26 [(0,.dt (.row wr)),(1,Z5 vl),(2,dX l),(7,.nil),(8,j4 0)],[]⟩
noncomputable abbrev Hd:Code:=M6 (O4 f36) [1,1,0,1,0,0]
theorem b62{wr:aa0}{vl:List (lw)}{l:List Raw}{c c':List Te}{x:Raw}{t:Te}{i:Nat}(hx:l[i]?=some x)(hl:l.length≤1000)(h:j5 72 [.dt (.row wr),Z5 vl,F5 x] (o6 t))(ha:j5 12 [C8 c,.dt (.row [o8 t])] (C8 c')):y7 EX Hd (rA wr vl l c i) .F6 (rA wr vl l c' ((i+1:Nat):Int)) :=
 have hi:=(UV.1 hx).1
 tW [.av (j4 l.length),yT,.av (.pin ((encR x).map .dt)),.av (o6 t),.av (C8 c'),.av (j4 ((i+1:Nat):Int))] [] [0,1,2,7,8] 0 [(vi ↑l.length)=(vi (↑(List.map Raw.enc l).length)),Bt .lss 3 9 11 ↑i ↑l.length bT,z8 (List.map Raw.enc l) ↑i 4 (encR x),_,_,Bk .add 3 13 1 ↑i (vi (↑(i+1)))] ⟨O1 _,D8 (Pi J),kI hx,h,ha,H6 J J J,Z⟩
theorem b63{wr:aa0}{vl:List (lw)}{l:List Raw}{c:List Te}{i:Nat}(hi:i=l.length):y7 EX Hd (rA wr vl l c i) (.out 0) (rA wr vl l c i) :=
 tW [.av (j4 l.length),yF] [] [0,1,2,7,8] 0 [(vi ↑l.length)=(vi (↑(List.map Raw.enc l).length)),Bt .lss 3 9 11 ↑i ↑l.length bF] ⟨O1 _,D8 (WF J),Z⟩
theorem a9B{wr:aa0}{vl:List (lw)}{l:List Raw}(hl:l.length≤1000)(h:∀x∈l,∃t:Te,t.L9∧j5 72 [.dt (.row wr),Z5 vl,F5 x] (o6 t)):∀(s:List Raw) (i:Nat) (c:List Te),l.drop i=s→i≤l.length→c.length≤i→(∀x∈c,x.L9)→∃c',(∀x∈c',Te.L9 x)∧c'.length≤l.length∧I7 EX Hd (rA wr vl l c i) (.out 0) (rA wr vl l c' l.length):=by
 intro s
 induction s with
 |nil =>
  intro i c hd hi hc hm;have e1:=congrArg List.length hd;rw[ut,List.length_nil]at e1;obtain rfl:i=l.length:=J;exact⟨c,hm,hc,.stop (b63 rfl) (fun h=>by cases h)⟩
 |cons x s ih =>
  intro i c hd hi hc hm;have hx:l[i]?=some x:=by rw[←Za1,hd];rfl
  have hlt:=(UV.1 hx).1;obtain⟨t,h1,h2⟩:=h x (q8 hx);have ht1:∀y∈[t],Te.L9 y:=fun y hy=>by rw[Cf]at hy;subst hy;exact h1
  have ha:=Ky (c:=c) (l:=[t]) J (by show 1≤100000;decide) (fun y hy=>(hm y hy).wf) (fun y hy=>(ht1 y hy).wf);rw[show C8 [t]=.dt (.row [o8 t]) by unfold C8;rw[gp]]at ha
  have hlen:(addN c [t]).length≤i+1:=by
   simp only[addN];split
   ·omega
   ·simp;omega
  obtain⟨c',k1,k2,k3⟩:=ih (i+1) (addN c [t]) (by rw[←Za0,hd];rfl) J hlen (yC _ _ hm ht1);exact⟨c',k1,k2,.more (b62 hx hl h2 ha) k3⟩
theorem b4y{l:List Raw}(hl:l.length≤1000)(hf:∀x∈l,eP x):∃c:List Te,(∀x∈c,x.L9)∧c.length≤l.length∧j5 36 [.dt (.row P6),Z5 aH,dX l] (C8 c):=by
 obtain⟨c,h1,h2,h3⟩:=a9B (wr:=P6) (vl:=aH) hl (fun x hx=>b1H (hf x hx)) l 0 [] rfl (Ci _) (PP _) (fun x hx=>by cases hx);have ht:y7 EX (.loop Hd) (ck0 P6 aH l) (.out 0) (rA P6 aH l c l.length):=y7.Nf 7 (by show 7 < 26;omega) rfl h3.I8;refine⟨c,h1,h2,?_⟩;generalize P6=wr at *;generalize aH=vl at *;generalize ((l.length:Nat):Int)=k at *;exact pW [] [.inv [0,1,2,7,8] 0 (.out 0) (rA wr vl l c k)] [_] func36 ⟨ht,Z⟩
theorem b1I{l:List Raw}{c:List Te}(h:j5 36 [.dt (.row P6),Z5 aH,dX l] (C8 c)):j5 9 [dX l] (C8 c):=by
 have hw:=Dr;have hv:=Dm;generalize P6=wr at *;exact pV [.av (.dt (.row wr)),.av (Z5 aH),.av (C8 c)] [_,_,_] func9 ⟨hw,hv,h,Z⟩
theorem Kz{l:List Raw}(hl:l.length≤1000)(hf:∀x∈l,eP x):∃c:List Te,(∀x∈c,x.L9)∧c.length≤l.length∧j5 9 [dX l] (C8 c):=by
 obtain⟨c,h1,h2,h3⟩:=b4y hl hf;exact⟨c,h1,h2,b1I h3⟩
theorem b1J{ws:aa0}{t:Te}{env:D7}{s l:Nat}{x:Tr}(hl:l≤s)(hs:s≤99999)(h:D6 bS [.ptr 0 0,o6 t,E8 env] (R7 ws s) (.l7 [l9 x,j4 0]) (R7 ws l)):j5 18 [.dt (.row ws),o6 t,E8 env,j4 s] (.l7 [l9 x,j4 (s - l:Int),j4 0]) :=
 pW [.av (j4 s),yF,.av (j4 (s - l:Int))] [.J5 3 3 [2] (.l7 [l9 x,j4 0]) [some (.cells [.dt (.row ws),j4 l])]] [(vi ↑s)=(vi (if 0 > ↑s then 0 else ↑s)),_,Bk .neq 37 31 0 0 bF,Bt .sub 3 36 40 ↑s ↑l (vi (↑s - ↑l))] func18 ⟨by rw[EQ J],h,E5 I,bL rfl J J,Z⟩
theorem b1K{ws:aa0}{t:Te}{env:D7}{s l:Nat}{e:Int}(he:e≠0)(hs:s≤99999)(h:D6 bS [.ptr 0 0,o6 t,E8 env] (R7 ws s) (.l7 [o7 zO,j4 e]) (R7 ws l)):j5 18 [.dt (.row ws),o6 t,E8 env,j4 s] (.l7 [o7 zO,j4 0,j4 e]) :=
 pW [.av (j4 s),yT] [.J5 3 3 [2] (.l7 [o7 zO,j4 e]) [some (.cells [.dt (.row ws),j4 l])]] [(vi ↑s)=(vi (if 0 > ↑s then 0 else ↑s)),_,Bk .neq 37 31 0 e bT] func18 ⟨by rw[EQ J],h,E5 (by simp[he]),Z⟩
theorem b1L{ws:aa0}{t:Te}{env:D7}{s:Nat}{u:Int}{y9:List (Value×List Dt)}{x:Tr}(h:D6 fq [.ptr 0 0,o6 t,E8 env] (M9 ws s 0 []) (.l7 [l9 x,j4 0]) (M9 ws s u y9)):j5 44 [.dt (.row ws),o6 t,E8 env,j4 s] (.l7 [l9 x,j4 u,j4 0]) :=
 pW [.av (.Q5 0),yF] [.J5 2 3 [3,2] (.l7 [l9 x,j4 0]) [some (.cells [.dt (.row ws),.Q5 1,j4 s,j4 u]),some (.V3 y9)]] [_,Bk .neq 37 26 0 0 bF] func44 ⟨h,E5 I,Z⟩
theorem b1M{ws:aa0}{t:Te}{env:D7}{s:Nat}{u e:Int}{y9:List (Value×List Dt)}(he:e≠0)(h:D6 fq [.ptr 0 0,o6 t,E8 env] (M9 ws s 0 []) (.l7 [o7 zO,j4 e]) (M9 ws s u y9)):j5 44 [.dt (.row ws),o6 t,E8 env,j4 s] (.l7 [o7 zO,j4 0,j4 e]) :=
 pW [.av (.Q5 0),yT] [.J5 2 3 [3,2] (.l7 [o7 zO,j4 e]) [some (.cells [.dt (.row ws),.Q5 1,j4 s,j4 u]),some (.V3 y9)]] [_,Bk .neq 37 26 0 e bT] func44 ⟨h,E5 (by simp[he]),Z⟩
noncomputable abbrev bP(env:D7)(t:Te)(s:Nat):Except Int Tr:=(ev G5 s env t s).1
theorem KA{env:D7}{t:Te}{s:Nat}{y:Tr}(ht:Wd t)(he:dE env)(h:bP env t s=.ok y):y.valid=true:=by
 have hok:=kP s env t s ht he;unfold bP at h;cases hv:ev G5 s env t s with
 |mk r l =>
  rw[hv]at h;cases h;exact hok.1 y l hv
theorem LU{env:D7}{t:Te}(ht:Wd t)(he:dE env)(hle:env.length≤1000){s:Nat}(hs:s≤99999) :
  (∀x,bP env t s=.ok x→∃n m:Int,j5 18 [.dt (.row P6),o6 t,E8 env,j4 s] (.l7 [l9 x,j4 n,j4 0])∧j5 44 [.dt (.row P6),o6 t,E8 env,j4 s] (.l7 [l9 x,j4 m,j4 0])) ∧
  (∀e,bP env t s=.error e→e≠0∧j5 18 [.dt (.row P6),o6 t,E8 env,j4 s] (.l7 [o7 zO,j4 0,j4 e])∧j5 44 [.dt (.row P6),o6 t,E8 env,j4 s] (.l7 [o7 zO,j4 0,j4 e])):=by
 have h1:=b4f s env t ht he hle s (PP _) hs;obtain⟨fs',_,h2⟩:=b4x s env t ht he hle s s [] (PP _) (PP _) hs (fun f hf=>by cases hf);have hle:=mq G5 s env t s;have hok:=kP s env t s ht he;rw[show (s:Int) - (s:Int)=0 by omega]at h2
 cases hv:ev G5 s env t s with
 |mk r l =>
  rw[hv]at h1 h2 hle;have hle:l≤s:=hle;unfold bP;rw[hv];cases r with
  |ok x=>exact⟨fun y h=>(by cases h;exact⟨_,_,b1J hle hs h1,b1L h2⟩),fun e h=>by cases h⟩
  |error c =>
   have hc:=hok.2 c l hv;exact⟨fun y h=>(by cases h),fun e h=>by cases h;exact⟨hc,b1K hc hs h1,b1M hc h2⟩⟩
noncomputable def V5(env:D7)(s:Nat):List Te→Bool×Int
 |[]=>(false,0)
 |t::r=>match bP env t s with
  |.error e=>(false,e)
  |.ok x=>if x=l6 then V5 env s r else (true,0)
abbrev jw(ws:aa0)(c:List Te)(env:D7)(s:Nat)(i:Int):AS:=⟨stt 39 [(0,.dt (.row ws)),(2,E8 env),(3,j4 s),(15,C8 c),(16,j4 c.length),(17,j4 i)],[]⟩
abbrev Ca(b:Bool)(e:Int):AS:=⟨stt 39 [(8,l5 b),(9,j4 e)],[]⟩
noncomputable abbrev rC:Code:=M6 (O4 f16) [1,0,1,0,0]
theorem Ze{ws:aa0}{c:List Te}{env:D7}{s:Nat}{x:Te}{i:Nat}{y:Tr}{m:Int}(hx:c[i]?=some x)(hl:c.length≤1000)(h:j5 44 [.dt (.row ws),o6 x,E8 env,j4 s] (.l7 [l9 y,j4 m,j4 0]))(hn:j5 45 [l9 y] (l5 true)):y7 EX rC (jw ws c env s i) .F6 (jw ws c env s ((i+1:Nat):Int)) :=
 have hi:=(UV.1 hx).1
 tW [yT,.av (.pin ((o8 x).map .dt)),.av (.l7 [l9 y,j4 m,j4 0]),yF,yT,.av (j4 ((i+1:Nat):Int))] [] [0,2,3,15,16,17] 0 [Bt .lss 3 17 16 ↑i ↑c.length bT,z8 (List.map Te.enc c) ↑i 11 (o8 x),_,Bk .neq 37 31 0 0 bF,_,Bk .add 3 17 1 ↑i (vi (↑(i+1)))] ⟨D8 (Pi J),M5 hx,h,E5 I,hn,H6 J J J,Z⟩
theorem b65{ws:aa0}{c:List Te}{env:D7}{s:Nat}{x:Te}{i:Nat}{y:Tr}{m:Int}(hx:c[i]?=some x)(h:j5 44 [.dt (.row ws),o6 x,E8 env,j4 s] (.l7 [l9 y,j4 m,j4 0]))(hn:j5 45 [l9 y] (l5 false)):y7 EX rC (jw ws c env s i) .ret (Ca true 0) :=
 have hi:=(UV.1 hx).1
 tW [yT,.av (.pin ((o8 x).map .dt)),.av (.l7 [l9 y,j4 m,j4 0]),yF,yF] [] [8,9] 0 [Bt .lss 3 17 16 ↑i ↑c.length bT,z8 (List.map Te.enc c) ↑i 11 (o8 x),_,Bk .neq 37 31 0 0 bF,_] ⟨D8 (Pi J),M5 hx,h,E5 I,hn,Z⟩
theorem b66{ws:aa0}{c:List Te}{env:D7}{s:Nat}{x:Te}{i:Nat}{e:Int}(hx:c[i]?=some x)(he:e≠0)(h:j5 44 [.dt (.row ws),o6 x,E8 env,j4 s] (.l7 [o7 zO,j4 0,j4 e])):y7 EX rC (jw ws c env s i) .ret (Ca false e) :=
 have hi:=(UV.1 hx).1
 tW [yT,.av (.pin ((o8 x).map .dt)),.av (.l7 [o7 zO,j4 0,j4 e]),yT] [] [8,9] 0 [Bt .lss 3 17 16 ↑i ↑c.length bT,z8 (List.map Te.enc c) ↑i 11 (o8 x),_,Bk .neq 37 31 0 e bT] ⟨D8 (Pi J),M5 hx,h,E5 (by simp[he]),Z⟩
theorem b67{ws:aa0}{c:List Te}{env:D7}{s:Nat}{i:Nat}(hi:i=c.length):y7 EX rC (jw ws c env s i) (.out 0) (jw ws c env s i) :=
 tW [yF] [] [0,2,3,15,16,17] 0 [Bt .lss 3 17 16 ↑i ↑c.length bF] ⟨D8 (WF J),Z⟩
abbrev jy(ws:aa0)(c:List Te)(env:D7)(s:Nat)(i:Int):AS:=⟨stt 38 [(0,.dt (.row ws)),(1,C8 c),(2,E8 env),(3,j4 s),(10,j4 i)],[]⟩
abbrev Cb(b:Bool)(e:Int):AS:=⟨stt 38 [(8,l5 b),(9,j4 e)],[]⟩
noncomputable abbrev rD:Code:=M6 (O4 f15) [1,0,1,0,0]
theorem Zf{ws:aa0}{c:List Te}{env:D7}{s:Nat}{x:Te}{i:Nat}{y:Tr}{m:Int}(hx:c[i]?=some x)(hl:c.length≤1000)(h:j5 18 [.dt (.row ws),o6 x,E8 env,j4 s] (.l7 [l9 y,j4 m,j4 0]))(hn:j5 21 [l9 y] (l5 true)):y7 EX rD (jy ws c env s i) .F6 (jy ws c env s ((i+1:Nat):Int)) :=
 have hi:=(UV.1 hx).1
 tW [.av (j4 c.length),yT,.av (.pin ((o8 x).map .dt)),.av (.l7 [l9 y,j4 m,j4 0]),yF,yT,.av (j4 ((i+1:Nat):Int))] [] [0,1,2,3,10] 0 [(vi ↑c.length)=(vi (↑(List.map Te.enc c).length)),Bt .lss 3 14 16 ↑i ↑c.length bT,z8 (List.map Te.enc c) ↑i 11 (o8 x),_,Bk .neq 37 32 0 0 bF,_,Bk .add 3 18 1 ↑i (vi (↑(i+1)))] ⟨F9 _,D8 (Pi J),M5 hx,h,E5 I,hn,H6 J J J,Z⟩
theorem b68{ws:aa0}{c:List Te}{env:D7}{s:Nat}{x:Te}{i:Nat}{y:Tr}{m:Int}(hx:c[i]?=some x)(h:j5 18 [.dt (.row ws),o6 x,E8 env,j4 s] (.l7 [l9 y,j4 m,j4 0]))(hn:j5 21 [l9 y] (l5 false)):y7 EX rD (jy ws c env s i) .ret (Cb true 0) :=
 have hi:=(UV.1 hx).1
 tW [.av (j4 c.length),yT,.av (.pin ((o8 x).map .dt)),.av (.l7 [l9 y,j4 m,j4 0]),yF,yF] [] [8,9] 0 [(vi ↑c.length)=(vi (↑(List.map Te.enc c).length)),Bt .lss 3 14 16 ↑i ↑c.length bT,z8 (List.map Te.enc c) ↑i 11 (o8 x),_,Bk .neq 37 32 0 0 bF,_] ⟨F9 _,D8 (Pi J),M5 hx,h,E5 I,hn,Z⟩
theorem b69{ws:aa0}{c:List Te}{env:D7}{s:Nat}{x:Te}{i:Nat}{e:Int}(hx:c[i]?=some x)(he:e≠0)(h:j5 18 [.dt (.row ws),o6 x,E8 env,j4 s] (.l7 [o7 zO,j4 0,j4 e])):y7 EX rD (jy ws c env s i) .ret (Cb false e) :=
 have hi:=(UV.1 hx).1
 tW [.av (j4 c.length),yT,.av (.pin ((o8 x).map .dt)),.av (.l7 [o7 zO,j4 0,j4 e]),yT] [] [8,9] 0 [(vi ↑c.length)=(vi (↑(List.map Te.enc c).length)),Bt .lss 3 14 16 ↑i ↑c.length bT,z8 (List.map Te.enc c) ↑i 11 (o8 x),_,Bk .neq 37 32 0 e bT] ⟨F9 _,D8 (Pi J),M5 hx,h,E5 (by simp[he]),Z⟩
theorem b7a{ws:aa0}{c:List Te}{env:D7}{s:Nat}{i:Nat}(hi:i=c.length):y7 EX rD (jy ws c env s i) (.out 0) (jy ws c env s i) :=
 tW [.av (j4 c.length),yF] [] [0,1,2,3,10] 0 [(vi ↑c.length)=(vi (↑(List.map Te.enc c).length)),Bt .lss 3 14 16 ↑i ↑c.length bF] ⟨F9 _,D8 (WF J),Z⟩
theorem b4z{ws:aa0}{c:List Te}{env:D7}{s:Nat}{b:Bool}{e:Int}(h:y7 EX (.loop rC) (jw ws c env s 0) .ret (Ca b e)):j5 16 [.dt (.row ws),C8 c,E8 env,j4 s] (.l7 [l5 b,j4 e]) :=
 pW [.av (j4 c.length)] [.inv [0,2,3,15,16,17] 0 (.ret) (Ca b e)] [(vi ↑c.length)=(vi (↑(List.map Te.enc c).length)),_] func16 ⟨F9 _,h,Z⟩
theorem b4A{ws:aa0}{c:List Te}{env:D7}{s:Nat}{k:Int}(h:y7 EX (.loop rC) (jw ws c env s 0) (.out 0) (jw ws c env s k)):j5 16 [.dt (.row ws),C8 c,E8 env,j4 s] (.l7 [l5 false,j4 0]) :=
 pW [.av (j4 c.length)] [.inv [0,2,3,15,16,17] 0 (.out 0) (jw ws c env s k)] [(vi ↑c.length)=(vi (↑(List.map Te.enc c).length)),_] func16 ⟨F9 _,h,Z⟩
theorem b4B{ws:aa0}{c:List Te}{env:D7}{s:Nat}{b:Bool}{e:Int}(h:y7 EX (.loop rD) (jy ws c env s 0) .ret (Cb b e)):j5 15 [.dt (.row ws),C8 c,E8 env,j4 s] (.l7 [l5 b,j4 e]) :=
 pW [] [.inv [0,1,2,3,10] 0 (.ret) (Cb b e)] [_] func15 ⟨h,Z⟩
theorem b4C{ws:aa0}{c:List Te}{env:D7}{s:Nat}{k:Int}(h:y7 EX (.loop rD) (jy ws c env s 0) (.out 0) (jy ws c env s k)):j5 15 [.dt (.row ws),C8 c,E8 env,j4 s] (.l7 [l5 false,j4 0]) :=
 pW [] [.inv [0,1,2,3,10] 0 (.out 0) (jy ws c env s k)] [_] func15 ⟨h,Z⟩
theorem a9C{C:List Te}{env:D7}{s:Nat}(he:dE env)(hle:env.length≤1000)(hs:s≤99999)(hl:C.length≤1000)(hw:∀x∈C,Wd x):∀(q:List Te) (i:Nat),C.drop i=q→i≤C.length →
  (I7 EX rC (jw P6 C env s i) .ret (Ca (V5 env s q).1 (V5 env s q).2)∧I7 EX rD (jy P6 C env s i) .ret (Cb (V5 env s q).1 (V5 env s q).2))∨(V5 env s q=(false,0)∧I7 EX rC (jw P6 C env s i) (.out 0) (jw P6 C env s C.length)∧I7 EX rD (jy P6 C env s i) (.out 0) (jy P6 C env s C.length)):=by
 intro q
 induction q with
 |nil =>
  intro i hd hi;have e1:=congrArg List.length hd;rw[ut,List.length_nil]at e1;obtain rfl:i=C.length:=J;exact .inr ⟨rfl,.stop (b67 rfl) (fun h=>by cases h),.stop (b7a rfl) (fun h=>by cases h)⟩
 |cons x q ih =>
  intro i hd hi;have hx:C[i]?=some x:=by rw[←Za1,hd];rfl
  have hlt:=(UV.1 hx).1;obtain⟨k1,k2⟩:=LU (hw x (q8 hx)) he hle hs;rw[V5];cases hv:bP env x s with
  |error e =>
   obtain⟨h0,h1,h2⟩:=k2 e hv;exact .inl ⟨.stop (b66 hx h0 h2) (fun h=>by cases h),.stop (b69 hx h0 h1) (fun h=>by cases h)⟩
  |ok y =>
   obtain⟨n,m,h1,h2⟩:=k1 y hv;have n1:=CU y;have n2:=rR (Tr.J8 (KA (hw x (q8 hx)) he hv)).ok O;dsimp only;by_cases hy:y=l6
   ·rw[Ch hy];rw[Pi hy]at n1 n2;rcases ih (i+1) (by rw[←Za0,hd];rfl) hlt with⟨j1,j2⟩ | ⟨j0,j1,j2⟩
    ·exact .inl ⟨.more (Ze hx hl h2 n1) j1,.more (Zf hx hl h1 n2) j2⟩
    ·exact .inr ⟨j0,.more (Ze hx hl h2 n1) j1,.more (Zf hx hl h1 n2) j2⟩
   ·rw[EQ hy];rw[WF hy]at n1 n2;exact .inl ⟨.stop (b65 hx h2 n1) (fun h=>by cases h),.stop (b68 hx h1 n2) (fun h=>by cases h)⟩
theorem Dq{c:List Te}{env:D7}{s:Nat}(he:dE env)(hle:env.length≤1000)(hs:s≤99999)(hl:c.length≤1000)(hw:∀x∈c,Wd x):j5 16 [.dt (.row P6),C8 c,E8 env,j4 s] (.l7 [l5 (V5 env s c).1,j4 (V5 env s c).2])∧j5 15 [.dt (.row P6),C8 c,E8 env,j4 s] (.l7 [l5 (V5 env s c).1,j4 (V5 env s c).2]):=by
 rcases a9C he hle hs hl hw c 0 rfl (Ci _) with⟨h1,h2⟩ | ⟨h0,h1,h2⟩
 ·exact⟨b4z h1.I8,b4B h2.I8⟩
 ·rw[h0];exact⟨b4A h1.I8,b4C h2.I8⟩
abbrev eQ(l:List Raw):Bool:=decide (l.length≤6) && lQ l 10
theorem a9T(l:List Raw)(hl:l.length≤9223372036854775807):j5 7 [.dt (.row [[.row (l.map Raw.enc)]])] (l5 (eQ l)):=by
 have hf:=vE l 10;unfold eQ;cases b1:decide (l.length≤6) with
 |false =>
  have e:=ZaF b1;exact pW [.no,.no,.no,.av (j4 l.length),yT] [.run 1] [(vi ↑l.length)=(vi (↑(List.map Raw.enc l).length)),Bk .gtr 3 14 6 ↑l.length bT] func7 ⟨O1 _,K4 (Pi J),Z⟩
 |true =>
  have e:=bv b1;cases b2:lQ l 10 with
  |false =>
   rw[b2]at hf;exact pW [.no,.no,.no,.av (j4 l.length),yF,.no,yF] [.run 1] [(vi ↑l.length)=(vi (↑(List.map Raw.enc l).length)),Bk .gtr 3 14 6 ↑l.length bF,_] func7 ⟨O1 _,K4 (WF J),hf,Z⟩
  |true =>
   rw[b2]at hf;exact pW [.no,.no,.no,.av (j4 l.length),yF,.no,yT,.no,.no,.no] [.run 2] [(vi ↑l.length)=(vi (↑(List.map Raw.enc l).length)),Bk .gtr 3 14 6 ↑l.length bF,_] func7 ⟨O1 _,K4 (WF J),hf,Z⟩
theorem a6Z(l m:List Raw)(hl:l.length≤9223372036854775807)(hm:m.length≤9223372036854775807):j5 7 [.dt (.row [[.row (l.map Raw.enc)],[.row (m.map Raw.enc)]])] (l5 (eQ l && eQ m)):=by
 have hf:=vE l 10;have hg:=vE m 10;unfold eQ;cases b1:decide (l.length≤6) with
 |false =>
  have e:=ZaF b1;exact pW [.no,.no,.no,.av (j4 l.length),yT] [.run 1] [(vi ↑l.length)=(vi (↑(List.map Raw.enc l).length)),Bk .gtr 3 14 6 ↑l.length bT] func7 ⟨O1 _,K4 (Pi J),Z⟩
 |true =>
  have e:=bv b1;cases b2:lQ l 10 with
  |false =>
   rw[b2]at hf;exact pW [.no,.no,.no,.av (j4 l.length),yF,.no,yF] [.run 1] [(vi ↑l.length)=(vi (↑(List.map Raw.enc l).length)),Bk .gtr 3 14 6 ↑l.length bF,_] func7 ⟨O1 _,K4 (WF J),hf,Z⟩
  |true =>
   rw[b2]at hf;cases b3:decide (m.length≤6) with
   |false =>
    have e3:=ZaF b3;exact pW ([.no,.no,.no,.av (j4 l.length),yF,.no,yT]++nK 4 [.av (j4 m.length),yT]) [.run 2] [(vi ↑l.length)=(vi (↑(List.map Raw.enc l).length)),Bk .gtr 3 14 6 ↑l.length bF,_,(vi ↑m.length)=(vi (↑(List.map Raw.enc m).length)),Bk .gtr 3 14 6 ↑m.length bT] func7 ⟨O1 _,K4 (WF J),hf,O1 _,K4 (Pi J),Z⟩
   |true =>
    have e3:=bv b3;cases b4:lQ m 10 with
    |false =>
     rw[b4]at hg;exact pW ([.no,.no,.no,.av (j4 l.length),yF,.no,yT]++nK 4 [.av (j4 m.length),yF,.no,yF]) [.run 2] [(vi ↑l.length)=(vi (↑(List.map Raw.enc l).length)),Bk .gtr 3 14 6 ↑l.length bF,_,(vi ↑m.length)=(vi (↑(List.map Raw.enc m).length)),Bk .gtr 3 14 6 ↑m.length bF,_] func7 ⟨O1 _,K4 (WF J),hf,O1 _,K4 (WF J),hg,Z⟩
    |true =>
     rw[b4]at hg;exact pW ([.no,.no,.no,.av (j4 l.length),yF,.no,yT]++nK 4 [.av (j4 m.length),yF,.no,yT,.no,.no,.no]) [.run 3] [(vi ↑l.length)=(vi (↑(List.map Raw.enc l).length)),Bk .gtr 3 14 6 ↑l.length bF,_,(vi ↑m.length)=(vi (↑(List.map Raw.enc m).length)),Bk .gtr 3 14 6 ↑m.length bF,_] func7 ⟨O1 _,K4 (WF J),hf,O1 _,K4 (WF J),hg,Z⟩
theorem vD{l:List Raw}(h:eQ l=true):l.length≤6∧∀r∈l,eP r:=by
 unfold eQ lQ at h;simp only[Ce,rE,Zag]at h;exact⟨h.1,fun r hr=>a3D (m:=10) O O (h.2.2 r hr)⟩
abbrev mW(l:List Raw)(es:aa0)(i:Int):AS:=⟨stt 33 [(0,dX l),(3,.dt (.row (aH.map aO))),(4,.own 0 es.length),(5,j4 i)],[some (.buf 96 9 es)]⟩
abbrev ee0(l:List Raw):AS:=⟨stt 33 [(0,dX l),(3,.dt (.row (aH.map aO))),(4,.nil),(5,j4 0)],[]⟩
noncomputable abbrev AA:Code:=M6 (O4 f13) [1,1,1,0,1,0,0]
theorem Yc{vl:List (lw)}{i:Nat}{n:lw}(h:vl[i]?=some n):z8 (vl.map aO) (i:Int) 2 (aO n):=⟨Int.natCast_nonneg _,by
 rw[Int.toNat_natCast,bi,h];rfl,rfl⟩
theorem b7b{l:List Raw}{es:aa0}{i:Nat}{nm:lw}{x:Raw}{y:Tr}(hi:i < 4)(hn:aH[i]?=some nm)(hx:l[i]?=some x)(he:es.length≤4)(_:l.length≤1000)(h:j5 41 [F5 x] (l9 y)):y7 EX AA (mW l es i) .F6 (mW l (es++[gV ((I4,nm),y)]) ((i+1:Nat):Int)) :=
 have hj:=(UV.1 hx).1
 tW [yT,.av (.pin ((aO nm).map .dt)),.av (o7 K8),.av (j4 l.length),yT,.av (.pin ((encR x).map .dt)),.av (l9 y),.av (.un),.av (j4 ((i+1:Nat):Int))] [] [0,3,4,5] 1 [Bk .lss 3 8 4 ↑i bT,z8 (List.map aO aH) ↑i 2 ([(.val (str I4)),(.val (str nm))]),_,(vi ↑l.length)=(vi (↑(List.map Raw.enc l).length)),Bt .lss 3 18 20 ↑i ↑l.length bT,z8 (List.map Raw.enc l) ↑i 4 (encR x),_,(es.length)=(es.length),P7 144 ((es++[[Dt.val (str I4),Dt.val (str nm),Dt.val (vi y.ob.kind),Dt.val (str y.ob.num),Dt.val (str y.ob.den),Dt.val (str y.ob.sp),Dt.val (str y.ob.sn),Dt.val (str y.ob.text),Dt.row (List.map Ob.enc y.ob.pair)]]).length),L8 9 [[(.val (str I4)),(.val (str nm)),(.val (vi y.ob.kind)),(.val (str y.ob.num)),(.val (str y.ob.den)),(.val (str y.ob.sp)),(.val (str y.ob.sn)),(.val (str y.ob.text)),(.row (List.map Ob.enc y.ob.pair))]],Bk .add 3 10 1 ↑i (vi (↑(i+1)))] ⟨D8 (Pi J),Yc hn,lY,O1 _,D8 (Pi J),kI hx,h,rfl,qo J (by simp;omega),Eg ((I4,nm),y),H6 J J J,Z⟩
theorem b7c{l:List Raw}{es:aa0}{i:Nat}{nm:lw}(hi:i < 4)(hn:aH[i]?=some nm)(hx:l.length≤i)(he:es.length≤4):y7 EX AA (mW l es i) .F6 (mW l (es++[gV ((I4,nm),l6)]) ((i+1:Nat):Int)) :=
 tW [yT,.av (.pin ((aO nm).map .dt)),.av (l9 l6),.av (j4 l.length),yF,.av (.un),.av (j4 ((i+1:Nat):Int))] [] [0,3,4,5] 1 [Bk .lss 3 8 4 ↑i bT,z8 (List.map aO aH) ↑i 2 ([(.val (str I4)),(.val (str nm))]),_,(vi ↑l.length)=(vi (↑(List.map Raw.enc l).length)),Bt .lss 3 18 20 ↑i ↑l.length bF,(es.length)=(es.length),P7 144 ((es++[[Dt.val (str I4),Dt.val (str nm),Dt.val (vi l6.ob.kind),Dt.val (str l6.ob.num),Dt.val (str l6.ob.den),Dt.val (str l6.ob.sp),Dt.val (str l6.ob.sn),Dt.val (str l6.ob.text),Dt.row (List.map Ob.enc l6.ob.pair)]]).length),L8 9 [[(.val (str I4)),(.val (str nm)),(.val (vi 2)),(.val (str l6.ob.num)),(.val (str l6.ob.den)),(.val (str l6.ob.sp)),(.val (str l6.ob.sn)),(.val (str l6.ob.text)),(.row (List.map Ob.enc l6.ob.pair))]],Bk .add 3 10 1 ↑i (vi (↑(i+1)))] ⟨D8 (Pi J),Yc hn,lY,O1 _,D8 (WF J),rfl,qo J (by simp;omega),Eg ((I4,nm),l6),H6 J J J,Z⟩
theorem b7d{l:List Raw}{es:aa0}{i:Nat}(hi:i=4):y7 EX AA (mW l es i) (.out 0) (mW l es i) :=
 tW [yF] [] [0,3,4,5] 1 [Bk .lss 3 8 4 ↑i bF] ⟨D8 (WF J),Z⟩
theorem b4D{l:List Raw}{es:aa0}{k:Int}(h:y7 EX (.loop AA) (ee0 l) (.out 0) (mW l es k)):j5 13 [dX l] (.dt (.row es)) :=
 pW [.av (.dt (.row (aH.map aO)))] [.inv [0,3,4,5] 0 (.out 0) (mW l es k)] [_,_,(es.length)=(es.length)] func13 ⟨Dm,h,rfl,Z⟩
theorem Iw:l6.valid=true:=by decide +kernel
theorem a6x{l:List Raw}(hl:l.length≤1000)(hf:∀x∈l,eP x):∀(j i:Nat) (e:D7),i+j=4→e.length=i→dE e→∃e':D7,e'.length=4∧dE e'∧I7 EX AA (mW l (ai e) i) (.out 0) (mW l (ai e') (4:Nat)):=by
 intro j
 induction j with
 |zero =>
  intro i e hi he ho;obtain rfl:i=4:=J;exact⟨e,he,ho,.stop (b7d rfl) (fun h=>by cases h)⟩
 |succ j ih =>
  intro i e hi he ho;obtain⟨nm,n1⟩:∃nm,aH[i]?=some nm:=⟨_,ww (show i < 4 by omega)⟩;have snoc:∀y:Tr,y.valid=true→dE (e++[((I4,nm),y)]):=fun y hy x hx=>by
   rcases ZaA.1 hx with hx | hx
   ·exact ho x hx
   ·rw[Cf]at hx;subst hx;exact hy
  have eq:∀y:Tr,ai e++[gV ((I4,nm),y)]=ai (e++[((I4,nm),y)]):=fun y=>by unfold ai;rw[Zam];rfl
  by_cases hlt:i < l.length
  ·have hx:l[i]?=some l[i]:=ww hlt;have hfx:=hf _ (q8 hx);have hs:=b7b (es:=ai e) J n1 hx (by rw[yZ];omega) hl (VT _ _ (PP _) hfx.1);rw[eq]at hs;obtain⟨e',k1,k2,k3⟩:=ih (i+1) (e++[((I4,nm),V8 l[i])]) J (by simp[he]) (snoc _ (Ve hfx));exact⟨e',k1,k2,.more hs k3⟩
  ·have hs:=b7c (l:=l) (es:=ai e) J n1 J (by rw[yZ];omega);rw[eq]at hs;obtain⟨e',k1,k2,k3⟩:=ih (i+1) (e++[((I4,nm),l6)]) J (by simp[he]) (snoc _ Iw);exact⟨e',k1,k2,.more hs k3⟩
theorem LQ{l:List Raw}(hl:l.length≤1000)(hf:∀x∈l,eP x):∃e:D7,e.length=4∧dE e∧j5 13 [dX l] (E8 e):=by
 obtain⟨e,h1,h2,h3⟩:=a6x hl hf 4 0 [] rfl rfl (fun x hx=>by cases hx);exact⟨e,h1,h2,b4D (y7.Z9 4 96 9 (by show 4 < 33;omega) rfl h3.I8)⟩
theorem Te.L9.wd{t:Te}(h:t.L9):Wd t:=by
 induction h with
 |var n h=>exact .var I4 n
 |H9 t h hv=>exact .H9 t hv
 |ap n l hn hl ha h ih=>exact .ap n l ha hl ih
end Go.Proofs.YtbpmpdadppamgaaGreatDoor
