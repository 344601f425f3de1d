/- The code's evaluator: call. -/
import Derived.Test.YthhknjlmjefklaaGreatDoorBU
import Derived.Test.YthhknjlmjefklaaGreatDoorBS
import Derived.Test.YthhknjlmjefklaaGreatDoorBT
import Derived.Test.YthhknjlmjefklaaGreatDoorBP
namespace Go.Proofs.YthhknjlmjefklaaGreatDoor
open Go.Proofs.Tryz
open Go.RowKit
open Te
abbrev qM:List AV:=[stA [],stA [],.nil,inA 0,inA 0,stA [],stA [],inA 0,stA [],stA [],stA [],stA [],stA [],.nil,.nil,inA 0,stA [],stA [],inA 0,stA [],stA [],stA [],stA [],stA [],.nil,.nil,inA 0,stA [],stA [],inA 0,stA [],stA [],stA [],stA [],stA [],.nil,.nil]
theorem a1X{ws:aa1}{s u:Int}{D8:List (Value×List Dt)}{t:Te}{env:E8}(h:s≤u):F7 tV [.ptr 0 0,y9 t,H5 env] (Q3 ws s u D8) (.o7 [x9 zO,inA 9]) (Q3 ws s u D8) :=
 .rv (sW 2 [0,1] [yT] [] [Bt .geq 3 25 29 u s bT] func256 ⟨Z7 (UV h),Z⟩) fun _ _ _ h=>jr h
structure xO (t:Te) (s u:Int) (b:Bool):Prop where
 u0:0≤u
 lt:u < s
 s1:s≤100000
 pr:l7 38 [y7 t.np t.nn] (.o7 [inA t.args.length,o6 true])
 nm:decide (t.nn=Q7)=b
theorem b6y{ws:aa1}{s u v e:Int}{D8 aF:List (Value×List Dt)}{t a:Te}{env:E8}(hp:xO t s u true)(ha:t.args[0]?=some a)(he:e≠0)(h:F7 iU [.ptr 0 0,y9 a,H5 env] (Q3 ws s (u+1) D8) (.o7 [x9 zO,inA e]) (Q3 ws s v aF)):F7 tV [.ptr 0 0,y9 t,H5 env] (Q3 ws s u D8) (.o7 [x9 zO,inA e]) (Q3 ws s v aF) :=
 have h0:=hp.u0;have h1:=hp.lt;have h2:=hp.s1
 .rv (sW 2 [0,1] [yF,.av (inA (u+1)),.av (.o7 [inA t.args.length,o6 true]),.av (inA t.args.length),yF,yT,.av (.pin ((C9 a).map .dt)),yT] [.P5 17 6 [0,1] (.o7 [x9 zO,inA e]) [some (.cells [.dt (.row ws),.V4 1,inA s,inA v]),some (.aA aF)]] [Bt .geq 3 25 29 u s bF,Bk .add 3 35 1 u (vi (u+1)),_,(vi ↑t.args.length)=(vi (↑(List.map Te.enc t.args).length)),Bt .neq 3 63 64 ↑t.args.length ↑t.args.length bF,Bl .eql 9 81 [105,102] t.nn bT,E5 (List.map Te.enc t.args) 0 11 (C9 a),_,Bk .neq 44 95 0 e bT] func256 ⟨Z7 (WF J),N8 rfl J J,hp.pr,O6 _,H7 I,L6 hp.nm,Y9 ha,h,H7 (by simp[he]),Z⟩) fun _ _ _ h=>jr h
theorem b6z{ws:aa1}{s u v k e:Int}{D8 aF xP:List (Value×List Dt)}{t a b:Te}{env:E8}{x:Tr}{o:Ob}(hp:xO t s u true)(ha:t.args[0]?=some a)(hb:t.args[2]?=some b)(h:F7 iU [.ptr 0 0,y9 a,H5 env] (Q3 ws s (u+1) D8) (.o7 [o9 x,inA 0]) (Q3 ws s v aF))(hn:l7 119 [o9 x] (o6 true))(hc:F7 iU [.ptr 0 0,y9 b,H5 env] (Q3 ws s v aF) (.o7 [x9 o,inA e]) (Q3 ws s k xP)):F7 tV [.ptr 0 0,y9 t,H5 env] (Q3 ws s u D8) (.o7 [x9 o,inA e]) (Q3 ws s k xP) :=
 have h0:=hp.u0;have h1:=hp.lt;have h2:=hp.s1
 sW 2 [0,1] [yF,.av (inA (u+1)),.av (.o7 [inA t.args.length,o6 true]),.av (inA t.args.length),yF,yT,.av (.pin ((C9 a).map .dt)),yF,yT,.av (.pin ((C9 b).map .dt))] [.P5 17 6 [0,1] (.o7 [o9 x,inA 0]) [some (.cells [.dt (.row ws),.V4 1,inA s,inA v]),some (.aA aF)],.P5 21 6 [0,1] (.o7 [x9 o,inA e]) [some (.cells [.dt (.row ws),.V4 1,inA s,inA k]),some (.aA xP)]] [Bt .geq 3 25 29 u s bF,Bk .add 3 35 1 u (vi (u+1)),_,(vi ↑t.args.length)=(vi (↑(List.map Te.enc t.args).length)),Bt .neq 3 63 64 ↑t.args.length ↑t.args.length bF,Bl .eql 9 81 [105,102] t.nn bT,E5 (List.map Te.enc t.args) 0 11 (C9 a),_,Bk .neq 44 95 0 0 bF,_,E5 (List.map Te.enc t.args) 2 11 (C9 b),_] func256 ⟨Z7 (WF J),N8 rfl J J,hp.pr,O6 _,H7 I,L6 hp.nm,Y9 ha,h,H7 I,hn,Y9 hb,hc,Z⟩
theorem b6A{ws:aa1}{s u v k e:Int}{D8 aF xP:List (Value×List Dt)}{t a b:Te}{env:E8}{x:Tr}{o:Ob}(hp:xO t s u true)(ha:t.args[0]?=some a)(hb:t.args[1]?=some b)(h:F7 iU [.ptr 0 0,y9 a,H5 env] (Q3 ws s (u+1) D8) (.o7 [o9 x,inA 0]) (Q3 ws s v aF))(hn:l7 119 [o9 x] (o6 false))(hc:F7 iU [.ptr 0 0,y9 b,H5 env] (Q3 ws s v aF) (.o7 [x9 o,inA e]) (Q3 ws s k xP)):F7 tV [.ptr 0 0,y9 t,H5 env] (Q3 ws s u D8) (.o7 [x9 o,inA e]) (Q3 ws s k xP) :=
 have h0:=hp.u0;have h1:=hp.lt;have h2:=hp.s1
 sW 2 [0,1] [yF,.av (inA (u+1)),.av (.o7 [inA t.args.length,o6 true]),.av (inA t.args.length),yF,yT,.av (.pin ((C9 a).map .dt)),yF,yF,.av (.pin ((C9 b).map .dt))] [.P5 17 6 [0,1] (.o7 [o9 x,inA 0]) [some (.cells [.dt (.row ws),.V4 1,inA s,inA v]),some (.aA aF)],.P5 22 6 [0,1] (.o7 [x9 o,inA e]) [some (.cells [.dt (.row ws),.V4 1,inA s,inA k]),some (.aA xP)]] [Bt .geq 3 25 29 u s bF,Bk .add 3 35 1 u (vi (u+1)),_,(vi ↑t.args.length)=(vi (↑(List.map Te.enc t.args).length)),Bt .neq 3 63 64 ↑t.args.length ↑t.args.length bF,Bl .eql 9 81 [105,102] t.nn bT,E5 (List.map Te.enc t.args) 0 11 (C9 a),_,Bk .neq 44 95 0 0 bF,_,E5 (List.map Te.enc t.args) 1 11 (C9 b),_] func256 ⟨Z7 (WF J),N8 rfl J J,hp.pr,O6 _,H7 I,L6 hp.nm,Y9 ha,h,H7 I,hn,Y9 hb,hc,Z⟩
abbrev UE(ws:aa1)(s u:Int)(D8:List (Value×List Dt))(t:Te)(fc:List AV):List (Option Bx):=[some (.cells [.dt (.row ws),.V4 1,inA s,inA u]),some (.aA D8),some (.cells ((C9 t).map .dt)),qJ,some (.cells fc)]
abbrev fE(ws:aa1)(s u:Int)(D8:List (Value×List Dt))(t:Te)(env:E8)(fc:List AV)(b:Bool)(n:Int)(es:aa1)(i:Int):AS:=⟨stt 179 [(0,.ptr 0 0),(2,H5 env),(4,.ptr 2 0),(6,.ptr 3 0),(8,inA n),(9,o6 b),(10,.ptr 4 0),(14,.own 5 es.length),(123,O3 t.args),(124,inA t.args.length),(125,inA i)],UE ws s u D8 t fc++[some (.buf 37 7 es)]⟩
abbrev cgZ(ws:aa1)(s u:Int)(D8:List (Value×List Dt))(t:Te)(env:E8)(fc:List AV)(b:Bool)(n:Int)(es:aa1)(i:Int):AS:=⟨stt 179 [(0,.ptr 0 0),(2,H5 env),(4,.ptr 2 0),(6,.ptr 3 0),(8,inA n),(9,o6 b),(10,.ptr 4 0),(14,.dt (.row es)),(123,O3 t.args),(124,inA t.args.length),(125,inA i)],UE ws s u D8 t fc++[some (.ay es)]⟩
abbrev BG(ws:aa1)(s u:Int)(D8:List (Value×List Dt))(t:Te)(e:Int):AS:=⟨stt 179 [(6,.ptr 3 0),(7,inA e)],[some (.cells [.dt (.row ws),.V4 1,inA s,inA u]),some (.aA D8),some (.cells ((C9 t).map .dt)),qJ]⟩
noncomputable abbrev lQ:Code:=V5 (ai f256) [1,1,1,1,1,1,1,1,0,1,0,0]
theorem b89{ws es:aa1}{s u v n e:Int}{D8 aF:List (Value×List Dt)}{t x:Te}{env:E8}{fc:List AV}{b:Bool}{i:Nat}(hx:t.args[i]?=some x)(he:e≠0)(h:F7 iU [.ptr 0 0,y9 x,H5 env] (Q3 ws s u D8) (.o7 [x9 zO,inA e]) (Q3 ws s v aF)):D7 (H9 2) lQ (fE ws s u D8 t env fc b n es i) .ret (BG ws s v aF t e) :=
 have hi:=(Pi.1 hx).1
 tW [yT,.av (.pin ((C9 x).map .dt)),yT] [.P5 27 3 [0,1] (.o7 [x9 zO,inA e]) [some (.cells [.dt (.row ws),.V4 1,inA s,inA v]),some (.aA aF)]] [6,7] 4 [Bt .lss 3 125 124 ↑i ↑t.args.length bT,E5 (List.map Te.enc t.args) ↑i 11 (C9 x),_,Bk .neq 44 136 0 e bT] ⟨F8 (UV J),Y9 hx,h,H7 (by simp[he]),Z⟩
theorem b6B{ws es:aa1}{s u v n:Int}{D8 aF:List (Value×List Dt)}{t x:Te}{env:E8}{b:Bool}{y:Tr}{i:Nat}(hx:t.args[i]?=some x)(hl:t.args.length≤1000)(he:es.length≤1000)(h:F7 iU [.ptr 0 0,y9 x,H5 env] (Q3 ws s u D8) (.o7 [o9 y,inA 0]) (Q3 ws s v aF)):D7 (H9 2) lQ (fE ws s u D8 t env qM b n es i) .I4 (fE ws s v aF t env qM b n (es++[D9 y.ob]) ((i+1:Nat):Int)) :=
 have hi:=(Pi.1 hx).1
 tW [yT,.av (.pin ((C9 x).map .dt)),yF,.av (.un),.av (inA ((i+1:Nat):Int))] [.P5 27 3 [0,1] (.o7 [o9 y,inA 0]) [some (.cells [.dt (.row ws),.V4 1,inA s,inA v]),some (.aA aF)]] [0,2,4,6,8,9,10,14,123,124,125] 6 [Bt .lss 3 125 124 ↑i ↑t.args.length bT,E5 (List.map Te.enc t.args) ↑i 11 (C9 x),_,Bk .neq 44 136 0 0 bF,(es.length)=(es.length),X8 112 ((es++[[Dt.val (vi y.ob.kind),Dt.val (str y.ob.num),Dt.val (str y.ob.den),Dt.val (str y.ob.sp),Dt.val (str y.ob.sn),Dt.val (str y.ob.text),Dt.row (List.map Ob.enc y.ob.pair)]]).length),S9 7 [D9 y.ob],Bk .add 3 125 1 ↑i (vi (↑(i+1)))] ⟨F8 (UV J),Y9 hx,h,H7 I,rfl,jA J (by simp;omega),zW y,N8 J J J,Z⟩
theorem b6C{ws es:aa1}{s u n:Int}{D8:List (Value×List Dt)}{t:Te}{env:E8}{b:Bool}{i:Nat}(hi:i=t.args.length):D7 (H9 2) lQ (fE ws s u D8 t env qM b n es i) (.out 2) (fE ws s u D8 t env qM b n es i) :=
 tW [yF] [] [0,2,4,6,8,9,10,14,123,124,125] 6 [Bt .lss 3 125 124 ↑i ↑t.args.length bF] ⟨F8 (WF J),Z⟩
theorem b6D{ws es:aa1}{s u v n:Int}{D8 aF:List (Value×List Dt)}{t x:Te}{env:E8}{f:y8.H8}{b:Bool}{y:Tr}{i:Nat}(hx:t.args[i]?=some x)(hl:t.args.length≤1000)(he:es.length≤1000)(h:F7 iU [.ptr 0 0,y9 x,H5 env] (Q3 ws s u D8) (.o7 [o9 y,inA 0]) (Q3 ws s v aF)):D7 (H9 2) lQ (fE ws s u D8 t env ((I8 f).map .dt) b n es i) .I4 (fE ws s v aF t env ((I8 f).map .dt) b n (es++[D9 y.ob]) ((i+1:Nat):Int)) :=
 have hi:=(Pi.1 hx).1
 tW [yT,.av (.pin ((C9 x).map .dt)),yF,.av (.un),.av (inA ((i+1:Nat):Int))] [.P5 27 3 [0,1] (.o7 [o9 y,inA 0]) [some (.cells [.dt (.row ws),.V4 1,inA s,inA v]),some (.aA aF)]] [0,2,4,6,8,9,10,14,123,124,125] 6 [Bt .lss 3 125 124 ↑i ↑t.args.length bT,E5 (List.map Te.enc t.args) ↑i 11 (C9 x),_,Bk .neq 44 136 0 0 bF,(es.length)=(es.length),X8 112 ((es++[[Dt.val (vi y.ob.kind),Dt.val (str y.ob.num),Dt.val (str y.ob.den),Dt.val (str y.ob.sp),Dt.val (str y.ob.sn),Dt.val (str y.ob.text),Dt.row (List.map Ob.enc y.ob.pair)]]).length),S9 7 [D9 y.ob],Bk .add 3 125 1 ↑i (vi (↑(i+1)))] ⟨F8 (UV J),Y9 hx,h,H7 I,rfl,jA J (by simp;omega),zW y,N8 J J J,Z⟩
theorem b6E{ws es:aa1}{s u n:Int}{D8:List (Value×List Dt)}{t:Te}{env:E8}{f:y8.H8}{b:Bool}{i:Nat}(hi:i=t.args.length):D7 (H9 2) lQ (fE ws s u D8 t env ((I8 f).map .dt) b n es i) (.out 2) (fE ws s u D8 t env ((I8 f).map .dt) b n es i) :=
 tW [yF] [] [0,2,4,6,8,9,10,14,123,124,125] 6 [Bt .lss 3 125 124 ↑i ↑t.args.length bF] ⟨F8 (WF J),Z⟩
def UF(fc:List AV):Prop:=(∀(ws es:aa1) (s u v n:Int) (D8 aF:List (Value×List Dt)) (t x:Te) (env:E8) (b:Bool) (y:Tr) (i:Nat),t.args[i]?=some x→t.args.length≤1000→es.length≤1000→F7 iU [.ptr 0 0,y9 x,H5 env] (Q3 ws s u D8) (.o7 [o9 y,inA 0]) (Q3 ws s v aF)→D7 (H9 2) lQ (fE ws s u D8 t env fc b n es i) .I4 (fE ws s v aF t env fc b n (es++[D9 y.ob]) ((i+1:Nat):Int)))∧(∀(ws es:aa1) (s u n:Int) (D8:List (Value×List Dt)) (t:Te) (env:E8) (b:Bool) (i:Nat),i=t.args.length→D7 (H9 2) lQ (fE ws s u D8 t env fc b n es i) (.out 2) (fE ws s u D8 t env fc b n es i))
theorem b6F:UF qM:=⟨fun _ _ _ _ _ _ _ _ _ _ _ _ _ _ hx hl he h=>b6B hx hl he h,fun _ _ _ _ _ _ _ _ _ _ hi=>b6C hi⟩
theorem b6G(f:y8.H8):UF ((I8 f).map .dt):=⟨fun _ _ _ _ _ _ _ _ _ _ _ _ _ _ hx hl he h=>b6D hx hl he h,fun _ _ _ _ _ _ _ _ _ _ hi=>b6E hi⟩
theorem b6H{ws es:aa1}{s u v k e:Int}{D8 aF:List (Value×List Dt)}{t:Te}{env:E8}{o:Ob}(hp:xO t s u false)(h:D7 (H9 2) (.loop lQ) (fE ws s (u+1) D8 t env qM true t.args.length [] 0) (.out 2) (fE ws s v aF t env qM true t.args.length es k))(ha:l7 121 [y7 t.np t.nn,.dt (.row es)] (.o7 [x9 o,inA e]))(hl:t.args.length≤1000):F7 tV [.ptr 0 0,y9 t,H5 env] (Q3 ws s u D8) (.o7 [x9 o,inA e]) (Q3 ws s v aF) :=
 have h0:=hp.u0;have h1:=hp.lt;have h2:=hp.s1
 sW 2 [0,1] [yF,.av (inA (u+1)),.av (.o7 [inA t.args.length,o6 true]),.av (inA t.args.length),yF,yF,.no,.av (inA t.args.length),.av (.o7 [x9 o,inA e])] [.inv [0,2,4,6,8,9,10,14,123,124,125] 6 (.out 2) (fE ws s v aF t env qM true t.args.length es k)] [Bt .geq 3 25 29 u s bF,Bk .add 3 35 1 u (vi (u+1)),_,(vi ↑t.args.length)=(vi (↑(List.map Te.enc t.args).length)),Bt .neq 3 63 64 ↑t.args.length ↑t.args.length bF,Bl .eql 9 81 [105,102] t.nn bF,qm 112 ↑t.args.length,(vi ↑t.args.length)=(vi (↑(List.map Te.enc t.args).length)),_,_,(es.length)=(es.length)] func256 ⟨Z7 (WF J),N8 rfl J J,hp.pr,O6 _,H7 I,L6 hp.nm,⟨J,J,by show (t.args.length:Int)≤((2 ^ 63 - 1:Nat):Int);omega⟩,O6 _,h,ha,rfl,Z⟩
theorem b4G{ws:aa1}{s u v e:Int}{D8 aF:List (Value×List Dt)}{t:Te}{env:E8}(hp:xO t s u false)(h:D7 (H9 2) (.loop lQ) (fE ws s (u+1) D8 t env qM true t.args.length [] 0) .ret (BG ws s v aF t e))(hl:t.args.length≤1000):F7 tV [.ptr 0 0,y9 t,H5 env] (Q3 ws s u D8) (.o7 [x9 zO,inA e]) (Q3 ws s v aF) :=
 have h0:=hp.u0;have h1:=hp.lt;have h2:=hp.s1
 .rv (sW 2 [0,1] [yF,.av (inA (u+1)),.av (.o7 [inA t.args.length,o6 true]),.av (inA t.args.length),yF,yF,.no,.av (inA t.args.length)] [.inv [0,2,4,6,8,9,10,14,123,124,125] 6 (.ret) (BG ws s v aF t e)] [Bt .geq 3 25 29 u s bF,Bk .add 3 35 1 u (vi (u+1)),_,(vi ↑t.args.length)=(vi (↑(List.map Te.enc t.args).length)),Bt .neq 3 63 64 ↑t.args.length ↑t.args.length bF,Bl .eql 9 81 [105,102] t.nn bF,qm 112 ↑t.args.length,(vi ↑t.args.length)=(vi (↑(List.map Te.enc t.args).length)),_] func256 ⟨Z7 (WF J),N8 rfl J J,hp.pr,O6 _,H7 I,L6 hp.nm,⟨J,J,by show (t.args.length:Int)≤((2 ^ 63 - 1:Nat):Int);omega⟩,O6 _,h,Z⟩) fun _ _ _ h=>jr h
structure RY (t:Te) (s u:Int) (f:y8.H8):Prop where
 u0:0≤u
 lt:u < s
 s1:s≤100000
 np:t.np=x8
 pr:l7 38 [y7 t.np t.nn] (.o7 [inA 0,o6 false])
 ps:f.ps.length=t.args.length
 ln:t.args.length≤8
abbrev tY(ws:aa1)(s u:Int)(D8:List (Value×List Dt))(t:Te)(f:y8.H8)(es bs:aa1)(i:Int):AS:=⟨stt 179 [(0,.ptr 0 0),(6,.ptr 3 0),(10,.ptr 4 0),(14,.dt (.row es)),(19,.own 6 bs.length),(155,.dt (.row (f.ps.map L9))),(156,inA f.ps.length),(157,inA i)],UE ws s u D8 t ((I8 f).map .dt)++[some (.ay es),some (.buf 75 9 bs)]⟩
noncomputable abbrev LV:Code:=V5 (ai f256) [1,1,1,1,1,1,1,1,1,1,1,0,1,0,0]
theorem b9a{ws bs:aa1}{s u:Int}{D8:List (Value×List Dt)}{t:Te}{f:y8.H8}{vs:List Tr}{n:aa0}{x:Tr}{i:Nat}(hn:f.ps[i]?=some n)(hx:vs[i]?=some x)(hp:f.ps.length≤1000)(hb:bs.length≤1000):D7 (H9 2) LV (tY ws s u D8 t f (vs.map fun t=>D9 t.ob) bs i) .I4 (tY ws s u D8 t f (vs.map fun t=>D9 t.ob) (bs++[Q8 ((x8,n),x)]) ((i+1:Nat):Int)) :=
 have hi:=(Pi.1 hn).1
 tW [yT,.av (.pin ((L9 n).map .dt)),.av (.pin ((D9 x.ob).map .dt)),.av (.un),.av (inA ((i+1:Nat):Int))] [] [0,6,10,14,19,155,156,157] 7 [Bt .lss 3 157 156 ↑i ↑f.ps.length bT,E5 (List.map L9 f.ps) ↑i 2 ([(.val (str x8)),(.val (str n))]),E5 (List.map (fun t=>D9 t.ob) vs) ↑i 7 (D9 x.ob),(bs.length)=(bs.length),X8 144 ((bs++[[Dt.val (str x8),Dt.val (str n),Dt.val (vi x.ob.kind),Dt.val (str x.ob.num),Dt.val (str x.ob.den),Dt.val (str x.ob.sp),Dt.val (str x.ob.sn),Dt.val (str x.ob.text),Dt.row (List.map Ob.enc x.ob.pair)]]).length),S9 9 [[(.val (str x8)),(.val (str n)),(.val (vi x.ob.kind)),(.val (str x.ob.num)),(.val (str x.ob.den)),(.val (str x.ob.sp)),(.val (str x.ob.sn)),(.val (str x.ob.text)),(.row (List.map Ob.enc x.ob.pair))]],Bk .add 3 157 1 ↑i (vi (↑(i+1)))] ⟨F8 (UV J),a1N hn,a1O hx,rfl,jA J (by simp;omega),Jc ((x8,n),x),N8 J J J,Z⟩
theorem b9b{ws es bs:aa1}{s u:Int}{D8:List (Value×List Dt)}{t:Te}{f:y8.H8}{i:Nat}(hi:i=f.ps.length):D7 (H9 2) LV (tY ws s u D8 t f es bs i) (.out 4) (tY ws s u D8 t f es bs i) :=
 tW [yF] [] [0,6,10,14,19,155,156,157] 7 [Bt .lss 3 157 156 ↑i ↑f.ps.length bF] ⟨F8 (WF J),Z⟩
theorem b2o{ws:aa1}{s u:Int}{D8:List (Value×List Dt)}{t:Te}{f:y8.H8}{V:List Tr}(hl:f.ps.length≤500)(hv:V.length=f.ps.length):∀(p:List (aa0)) (v:List Tr) (i:Nat) (pre:E8),f.ps.drop i=p→V.drop i=v→i≤f.ps.length→pre.length=i→Lps (H9 2) LV (tY ws s u D8 t f (V.map fun t=>D9 t.ob) (bC pre) i) (.out 4) (tY ws s u D8 t f (V.map fun t=>D9 t.ob) (bC (pre++fV p v)) f.ps.length):=by
 intro p
 induction p with
 |nil =>
  intro v i pre hd hm hi hp;have e1:=congrArg List.length hd;rw[Za7,List.length_nil]at e1;obtain rfl:i=f.ps.length:=J;have e:fV [] v=[]:=by cases v <;> rfl
  rw[e,ZaI];exact .stop (b9b rfl) (fun h=>by cases h)
 |cons n p ih =>
  intro v i pre hd hm hi hp;have hn:f.ps[i]?=some n:=by rw[←Zak,hd];rfl
  have hlt:=(Pi.1 hn).1;cases v with
  |nil =>
   have e1:=congrArg List.length hm;rw[Za7,List.length_nil]at e1;omega
  |cons x v =>
   have hx:V[i]?=some x:=by rw[←Zak,hm];rfl
   have hs:=b9a (ws:=ws) (s:=s) (u:=u) (D8:=D8) (t:=t) (bs:=bC pre) hn hx J (by rw[PZ];omega);have e:bC pre++[Q8 ((x8,n),x)]=bC (pre++[((x8,n),x)]):=by unfold bC;rw[ZaL];rfl
   rw[e]at hs;have k:=ih v (i+1) (pre++[((x8,n),x)]) (by rw[←Zaj,hd];rfl) (by rw[←Zaj,hm];rfl) hlt (by simp[hp]);rw[Zah]at k;exact .more hs k
theorem b6I{ws es bs:aa1}{s u v w e:Int}{D8 yC qN UG:List (Value×List Dt)}{t:Te}{f:y8.H8}{env:E8}{k:Int}{o:Ob}(hp:RY t s u f)(hf:F7 Gh [.ptr 0 0,y7 t.np t.nn] (Q3 ws s (u+1) D8) (.o7 [.agg ((I8 f).map .dt),o6 true]) (Q3 ws s (u+1) yC))(h:D7 (H9 2) (.loop lQ) (fE ws s (u+1) yC t env ((I8 f).map .dt) false f.ps.length [] 0) (.out 2) (cgZ ws s v qN t env ((I8 f).map .dt) false f.ps.length es k))(h2:D7 (H9 2) (.loop LV) (tY ws s v qN t f es [] 0) (.out 4) (tY ws s v qN t f es bs f.ps.length))(ha:F7 iU [.ptr 0 0,y9 f.body,.dt (.row bs)] (Q3 ws s v qN) (.o7 [x9 o,inA e]) (Q3 ws s w UG)):F7 tV [.ptr 0 0,y9 t,H5 env] (Q3 ws s u D8) (.o7 [x9 o,inA e]) (Q3 ws s w UG) :=
 have h0:=hp.u0;have h1:=hp.lt;have h3:=hp.s1;have h4:=hp.ps;have h5:=hp.ln
 sW 2 [0,1] [yF,.av (inA (u+1)),.av (.o7 [inA 0,o6 false]),.av (inA f.ps.length),.av (inA t.args.length),yF,.no,.no,.av (inA t.args.length),.no,.av (inA f.ps.length)] [.P5 8 3 [0,1] (.o7 [.agg ((I8 f).map .dt),o6 true]) [some (.cells [.dt (.row ws),.V4 1,inA s,inA (u+1)]),some (.aA yC)],.inv [0,2,4,6,8,9,10,14,123,124,125] 6 (.out 2) (cgZ ws s v qN t env ((I8 f).map .dt) false f.ps.length es k),.inv [0,6,10,14,19,155,156,157] 7 (.out 4) (tY ws s v qN t f es bs f.ps.length),.P5 40 4 [0,1] (.o7 [x9 o,inA e]) [some (.cells [.dt (.row ws),.V4 1,inA s,inA w]),some (.aA UG)]] [Bt .geq 3 25 29 u s bF,Bk .add 3 35 1 u (vi (u+1)),_,_,(vi ↑f.ps.length)=(vi (↑(List.map L9 f.ps).length)),(vi ↑t.args.length)=(vi (↑(List.map Te.enc t.args).length)),Bt .neq 3 63 64 ↑t.args.length ↑f.ps.length bF,qm 112 ↑f.ps.length,(vi ↑t.args.length)=(vi (↑(List.map Te.enc t.args).length)),_,qm 144 ↑f.ps.length,(vi ↑f.ps.length)=(vi (↑(List.map L9 f.ps).length)),_,_,(bs.length)=(bs.length)] func256 ⟨Z7 (WF J),N8 rfl J J,hp.pr,hf,Eh _,O6 _,H7 (by simp;omega),⟨J,J,by show (f.ps.length:Int)≤((2 ^ 63 - 1:Nat):Int);omega⟩,O6 _,h,⟨J,J,by show (f.ps.length:Int)≤((2 ^ 63 - 1:Nat):Int);omega⟩,Eh _,h2,ha,rfl,Z⟩
theorem b4H{ws:aa1}{s u v e:Int}{D8 yC qN:List (Value×List Dt)}{t:Te}{f:y8.H8}{env:E8}(hp:RY t s u f)(hf:F7 Gh [.ptr 0 0,y7 t.np t.nn] (Q3 ws s (u+1) D8) (.o7 [.agg ((I8 f).map .dt),o6 true]) (Q3 ws s (u+1) yC))(h:D7 (H9 2) (.loop lQ) (fE ws s (u+1) yC t env ((I8 f).map .dt) false f.ps.length [] 0) .ret (BG ws s v qN t e)):F7 tV [.ptr 0 0,y9 t,H5 env] (Q3 ws s u D8) (.o7 [x9 zO,inA e]) (Q3 ws s v qN) :=
 have h0:=hp.u0;have h1:=hp.lt;have h3:=hp.s1;have h4:=hp.ps;have h5:=hp.ln
 .rv (sW 2 [0,1] [yF,.av (inA (u+1)),.av (.o7 [inA 0,o6 false]),.av (inA f.ps.length),.av (inA t.args.length),yF,.no,.no,.av (inA t.args.length)] [.P5 8 3 [0,1] (.o7 [.agg ((I8 f).map .dt),o6 true]) [some (.cells [.dt (.row ws),.V4 1,inA s,inA (u+1)]),some (.aA yC)],.inv [0,2,4,6,8,9,10,14,123,124,125] 6 (.ret) (BG ws s v qN t e)] [Bt .geq 3 25 29 u s bF,Bk .add 3 35 1 u (vi (u+1)),_,_,(vi ↑f.ps.length)=(vi (↑(List.map L9 f.ps).length)),(vi ↑t.args.length)=(vi (↑(List.map Te.enc t.args).length)),Bt .neq 3 63 64 ↑t.args.length ↑f.ps.length bF,qm 112 ↑f.ps.length,(vi ↑t.args.length)=(vi (↑(List.map Te.enc t.args).length)),_] func256 ⟨Z7 (WF J),N8 rfl J J,hp.pr,hf,Eh _,O6 _,H7 (by simp;omega),⟨J,J,by show (f.ps.length:Int)≤((2 ^ 63 - 1:Nat):Int);omega⟩,O6 _,h,Z⟩) fun _ _ _ h=>jr h
def AY(fs:List y8.H8):Prop:=∀f∈fs,(F9.find? fun g=>g.nm == f.nm)=some f
theorem OH(fs:List y8.H8):(iT fs).map (·.1)=(fs.map (·.nm)).map iH:=by unfold iT;rw[List.map_map,List.map_map];rfl
theorem a9M(fs:List y8.H8):(iT fs).map (·.2)=fs.map fun f=>I8 f:=by unfold iT;rw[List.map_map];rfl
theorem b6J{wr:aa1}(hW:vS wr){fs:List y8.H8}(hk:AY fs){n:aa0}{f:y8.H8}(hf:(F9.find? fun g=>g.nm == n)=some f)(s u:Int):∃fs',AY fs'∧F7 Gh [.ptr 0 0,y7 x8 n] (Q3 wr s u (iT fs)) (.o7 [.agg ((I8 f).map .dt),o6 true]) (Q3 wr s u (iT fs')):=by
 have hm:=a9L n (fs.map (·.nm));cases hi:qL n (fs.map (·.nm)) with
 |some i =>
  rw[hi,←OH]at hm;have h1:=Yl hi;rw[Zag,ZaG]at h1;obtain⟨g,hg,hgn⟩:=h1;have h2:=hk g (Za5 hg);rw[hgn,hf]at h2;cases h2;exact⟨fs,hk,b6t (i:=i) hm (by rw[a9M,Zag,hg];rfl)⟩
 |none =>
  have hn:=b2m hi;rw[hi,←OH]at hm;rw[←OH]at hn;have hfn:f.nm=n:=by have:=List.find?_some hf;simpa using this
  have hw:=b6u (s:=s) (u:=u) hm (hW.cfn hf) hn;have e:iT fs++[(iH n,I8 f)]=iT (fs++[f]):=by unfold iT;rw[ZaL,←hfn];rfl
  rw[e]at hw;refine⟨fs++[f],fun g hg=>?_,hw⟩;rcases ZaA.1 hg with hg | hg
  ·exact hk g hg
  ·rw[ut]at hg;subst hg;rw[hfn];exact hf
def LW(wr:aa1)(f:Nat)(env:E8)(t:Te):Prop:=∀(s l:Nat) (fs:List y8.H8),l≤f→l≤s→s≤99999→AY fs→∃fs',AY fs'∧F7 iU [.ptr 0 0,y9 t,H5 env] (Q3 wr s (s - l:Int) (iT fs)) (uY (ev F9 f env t l).1) (Q3 wr s (s - (ev F9 f env t l).2:Int) (iT fs'))
theorem ZG{wr:aa1}{f s:Nat}{env:E8}{t:Te}{fc:List AV}{b:Bool}{n:Int}(hR:UF fc)(hs:s≤99999)(hl:t.args.length≤8)(hw:∀x∈t.args,Wd x)(he:ku env)(ih:∀x∈t.args,LW wr f env x):∀(q:List Te) (i:Nat) (out:List Tr) (l:Nat) (fs:List y8.H8),t.args.drop i=q→i≤t.args.length→out.length=i→l≤f→l≤s→AY fs→∃fs',AY fs' ∧
  (∀xs l',U2 (ev F9 f env) q l=(.ok xs,l')→Lps (H9 2) lQ (fE wr s (s - l:Int) (iT fs) t env fc b n (gG out) i) (.out 2) (fE wr s (s - l':Int) (iT fs') t env fc b n (gG (out++xs)) t.args.length))∧(∀e l',U2 (ev F9 f env) q l=(.error e,l')→Lps (H9 2) lQ (fE wr s (s - l:Int) (iT fs) t env fc b n (gG out) i) .ret (BG wr s (s - l':Int) (iT fs') t e)):=by
 intro q
 induction q with
 |nil =>
  intro i out l fs hd hi ho hf _ hk;have e1:=congrArg List.length hd;rw[Za7,List.length_nil]at e1;obtain rfl:i=t.args.length:=J;refine⟨fs,hk,fun xs l' h=>?_,fun e l' h=>by rw[U2]at h;cases h⟩;rw[U2]at h;cases h;rw[ZaI];exact .stop (hR.2 _ _ _ _ _ _ _ _ _ _ rfl) (fun h=>by cases h)
 |cons x q yA =>
  intro i out l fs hd hi ho hf hf2 hk;have hx:t.args[i]?=some x:=by rw[←Zak,hd];rfl
  have hlt:=(Pi.1 hx).1;have hxm:=Za5 hx;obtain⟨lS,hk1,hst⟩:=ih x hxm s l fs hf hf2 hs hk;have hle:=jy F9 f env x l;rw[U2];cases hv:ev F9 f env x l with
  |mk r l1 =>
   rw[hv]at hst hle;have hle:l1≤l:=hle;cases r with
   |error c =>
    have hc:=(mF f env x l (hw x hxm) he).2 c l1 hv;exact⟨lS,hk1,fun xs l' h=>(by cases h),fun e l' h=>by cases h;exact .stop (b89 hx hc hst) (fun h=>by cases h)⟩
   |ok y =>
    have hst:=hR.1 _ (gG out) _ _ _ n _ _ _ _ _ b _ _ hx J (by rw[NT];omega) hst;rw[Ny]at hst;obtain⟨lK,hk2,k1,k2⟩:=yA (i+1) (out++[y]) l1 lS (by rw[←Zaj,hd];rfl) hlt (by simp[ho]) J J hk1;refine⟨lK,hk2,fun xs l' h=>?_,fun e l' h=>?_⟩
    ·dsimp only at h;split at h
     ·cases h
     ·rename_i ys l2 hh;cases h;have:=k1 ys l' hh;rw[Zah]at this;exact .more hst this
    ·dsimp only at h;split at h
     ·rename_i c l2 hh;cases h;exact .more hst (k2 _ _ hh)
     ·cases h
theorem Ym:∀(p:List (aa0)) (v:List Tr),(fV p v).length≤p.length
 |[],v=>by cases v <;> exact ww _
 |n::p,[]=>ww _
 |n::p,x::v=>Nat.succ_le_succ (Ym p v)
theorem a0J{wr:aa1}{f:Nat}{env:E8}{p n:aa0}(hle:env.length≤1000):LW wr f env ⟨1,p,n,V9,[]⟩:=by
 intro s l fs hl hs hs2 hk;refine⟨fs,hk,?_⟩;rw[pY];obtain⟨k1,k2⟩:=b2n (ws:=wr) (s:=s) (u:=(s - l:Int)) (D8:=iT fs) (t:=⟨1,p,n,V9,[]⟩) hle env 0 rfl (ww _);cases hv:dn env p n with
 |none=>exact b6x (t:=⟨1,p,n,V9,[]⟩) rfl (k1 hv).tri
 |some x=>exact b6w (t:=⟨1,p,n,V9,[]⟩) rfl (k2 x hv).tri
theorem a0K{wr:aa1}{f:Nat}{env:E8}(t:Tr):LW wr f env (Te.G9 t.ob):=by
 intro s l fs hl hs hs2 hk;refine⟨fs,hk,?_⟩;rw[rF];exact b6v (t:=Te.G9 t.ob) rfl
theorem b6K{wr:aa1}(hW:vS wr):∀(f:Nat) (env:E8) (t:Te),Wd t→ku env→env.length≤1000→LW wr f env t:=by
 intro f
 induction f with
 |zero =>
  intro env t ht he hle;cases ht with
  |var p n=>exact a0J hle
  |G9 t h=>exact a0K t
  |ap n a ha hn h =>
   intro s l fs hl hs hs2 hk;obtain rfl:l=0:=J;rw[zX];exact⟨fs,hk,rJ (t:=Te.ap n a) rfl (a1X J)⟩
 |succ f ih =>
  intro env t ht he hle;cases ht with
  |var p n=>exact a0J hle
  |G9 t h=>exact a0K t
  |ap n a ha hn h =>
   intro s l fs hl hs hs2 hk;cases l with
   |zero =>
    rw[zX];exact⟨fs,hk,rJ (t:=Te.ap n a) rfl (a1X J)⟩
   |succ l =>
    rw[qj];have e1:((s:Int) - ((l+1:Nat):Int))+1=(s:Int) - (l:Int):=J;rcases VU ha with⟨i,hi,hp,hno⟩ | ⟨fn,hm,hf,hps,hp,hne⟩
    ·have hpr:l7 38 [y7 x8 n] (.o7 [inA (a.length:Int),o6 true]):=DT hi;unfold iQ;by_cases hif:is (Te.ap n a) Q7 3
     ·rw[Za0 hif];have pre:xO (Te.ap n a) s (s - ((l+1:Nat):Int)) true:=⟨J,J,J,hpr,UV hif.2.2.1⟩;have w0:=h _ (Za5 (dQ hif (show 0 < 3 by omega)));have w1:=h _ (Za5 (dQ hif (show 1 < 3 by omega)));have w2:=h _ (Za5 (dQ hif (show 2 < 3 by omega)));obtain⟨lS,hk1,h0⟩:=ih env _ w0 he hle s l fs J J hs2 hk;have hle0:=jy F9 f env ((Te.ap n a).arg 0) l;have hok0:=mF f env ((Te.ap n a).arg 0) l w0 he;cases hv:ev F9 f env ((Te.ap n a).arg 0) l with
      |mk r l1 =>
       rw[hv]at h0 hle0;have hle0:l1≤l:=hle0;cases r with
       |error c=>exact⟨lS,hk1,rJ (t:=Te.ap n a) rfl (b6y pre (dQ hif (show 0 < 3 by omega)) (hok0.2 c l1 hv) (by rw[e1];exact h0))⟩
       |ok x =>
        have hn:=yX x;dsimp only;by_cases hx:x=o8
        ·rw[Za0 hx];rw[UV hx]at hn;obtain⟨lK,hk2,h2⟩:=ih env _ w2 he hle s l1 lS J J hs2 hk1;obtain⟨o,e,hr⟩:=nP (ev F9 f env ((Te.ap n a).arg 2) l1).1;rw[hr]at h2 ⊢
         exact⟨lK,hk2,rJ (t:=Te.ap n a) rfl (b6z pre (dQ hif (show 0 < 3 by omega)) (dQ hif (show 2 < 3 by omega)) (by rw[e1];exact h0) hn h2)⟩
        ·rw[lw hx];rw[WF hx]at hn;obtain⟨lK,hk2,h2⟩:=ih env _ w1 he hle s l1 lS J J hs2 hk1;obtain⟨o,e,hr⟩:=nP (ev F9 f env ((Te.ap n a).arg 1) l1).1;rw[hr]at h2 ⊢
         exact⟨lK,hk2,rJ (t:=Te.ap n a) rfl (b6A pre (dQ hif (show 0 < 3 by omega)) (dQ hif (show 1 < 3 by omega)) (by rw[e1];exact h0) hn h2)⟩
     ·rw[lw hif];have hnn:n≠Q7:=fun e=>hif ((b6a ha).2 e)
      have pre:xO (Te.ap n a) s (s - ((l+1:Nat):Int)) false:=⟨J,J,J,hpr,WF hnn⟩;obtain⟨lS,hk1,k1,k2⟩:=ZG (f:=f) (s:=s) (env:=env) (t:=Te.ap n a) (fc:=qM) (b:=true) (n:=(a.length:Int)) b6F hs2 hn h he (fun x hx=>ih env x (h x hx) he hle) a 0 [] l fs rfl (ww _) rfl J J hk;rw[show (Te.ap n a).args=a from rfl]
      cases hv:U2 (ev F9 f env) a l with
      |mk r l1 =>
       cases r with
       |error c=>exact⟨lS,hk1,rJ (t:=Te.ap n a) rfl (b4G pre (by rw[e1];exact (k2 c l1 hv).tri) (by show a.length≤1000;omega))⟩
       |ok vs =>
        obtain⟨v1,v2⟩:=uJ _ _ _ _ (fun t ht l x l' hh=>(mF f env t l (h t ht) he).1 x l' hh) hv;dsimp only;rw[show (Te.ap n a).nn=n from rfl,hp]
        dsimp only;have hap:l7 121 [y7 x8 n,rowA vs] (uY (iP i vs)):=by rw[←OD];exact a1M hi v2 v1
        obtain⟨o,e,hr⟩:=nP (iP i vs);rw[hr]at hap ⊢
        exact⟨lS,hk1,rJ (t:=Te.ap n a) rfl (b6H pre (by rw[e1];exact (k1 vs l1 hv).tri) hap (by show a.length≤1000;omega))⟩
    ·have hpr:l7 38 [y7 x8 n] (.o7 [inA 0,o6 false]):=a0t hne;have hif:¬is (Te.ap n a) Q7 3:=fun e=>by
      have e2:n=Q7:=e.2.2.1;exact hne (Q7,3) O e2
     have pre:RY (Te.ap n a) s (s - ((l+1:Nat):Int)) fn:=⟨J,J,J,rfl,hpr,hps,hn⟩;unfold iQ;rw[lw hif];obtain⟨fs0,hk0,hfn⟩:=b6J hW hk hf (s:Int) ((s:Int) - (l:Int));obtain⟨lS,hk1,k1,k2⟩:=ZG (f:=f) (s:=s) (env:=env) (t:=Te.ap n a) (fc:=(I8 fn).map .dt) (b:=false) (n:=(fn.ps.length:Int)) (b6G fn) hs2 hn h he (fun x hx=>ih env x (h x hx) he hle) a 0 [] l fs0 rfl (ww _) rfl J J hk0;rw[show (Te.ap n a).args=a from rfl]
     cases hv:U2 (ev F9 f env) a l with
     |mk r l1 =>
      have hle1:=zV (g:=ev F9 f env) (fun t l=>jy F9 f env t l) a l;rw[hv]at hle1;have hle1:l1≤l:=hle1;cases r with
      |error c=>exact⟨lS,hk1,rJ (t:=Te.ap n a) rfl (b4H pre (by rw[e1];exact hfn) (by rw[e1];exact (k2 c l1 hv).tri))⟩
      |ok vs =>
       obtain⟨v1,v2⟩:=uJ _ _ _ _ (fun t ht l x l' hh=>(mF f env t l (h t ht) he).1 x l' hh) hv;dsimp only;rw[show (Te.ap n a).nn=n from rfl,hp]
       dsimp only;rw[hf];dsimp only;obtain⟨hwd,hpl⟩:=PX hm;have hbl:=Ym fn.ps vs;obtain⟨lK,hk2,hb⟩:=ih (fV fn.ps vs) fn.body hwd (Iz _ _ v2) J s l1 lS J J hs2 hk1;obtain⟨o,e,hr⟩:=nP (ev F9 f (fV fn.ps vs) fn.body l1).1;rw[hr]at hb ⊢
       have hlp:=D7.Fh 14 5 (by show 14 < 179;omega) rfl rfl (k1 vs l1 hv).tri;have hl2:=(b2o (ws:=wr) (s:=s) (u:=(s - l1:Int)) (D8:=iT lS) (t:=Te.ap n a) (f:=fn) (V:=vs) J J fn.ps vs 0 [] rfl rfl (ww _) rfl).tri;exact⟨lK,hk2,rJ (t:=Te.ap n a) rfl (b6I pre (by rw[e1];exact hfn) (by rw[e1];exact hlp) hl2 hb)⟩
abbrev O5(ws:aa1)(s u:Int):List (Option Bx):=[some (.cells [.dt (.row ws),inA s,inA u])]
abbrev gX:FuncId:=56
abbrev qO:FuncId:=93
theorem JH{ws:aa1}{s u:Int}{t:Te}{env:E8}(h:t.kind=2):F7 gX [.ptr 0 0,y9 t,H5 env] (O5 ws s u) (.o7 [x9 t.val,inA 0]) (O5 ws s u) :=
 sW 1 [0] [yT] [] [Bk .eql 3 11 2 t.kind bT] func56 ⟨F6 (dh h),Z⟩
theorem kz{ws:aa1}{s u u' e:Int}{t:Te}{env:E8}{o:Ob}(h:t.kind=3)(hc:F7 qO [.ptr 0 0,y9 t,H5 env] (O5 ws s u) (.o7 [x9 o,inA e]) (O5 ws s u')):F7 gX [.ptr 0 0,y9 t,H5 env] (O5 ws s u) (.o7 [x9 o,inA e]) (O5 ws s u') :=
 sW 1 [0] [yF,yT] [.P5 5 3 [0] (.o7 [x9 o,inA e]) [some (.cells [.dt (.row ws),inA s,inA u'])]] [Bk .eql 3 11 2 t.kind bF,Bk .eql 3 11 3 t.kind bT,_] func56 ⟨F6 (by simp[h]),F6 (dh h),hc,Z⟩
abbrev nH(ws:aa1)(s u:Int)(t:Te)(e:E8)(i:Int):AS:=⟨stt 39 [(4,.ptr 1 0),(6,.ptr 2 0),(7,inA 0),(24,H5 e),(25,inA e.length),(26,inA i)],O5 ws s u++[some (.cells ((C9 t).map .dt)),qJ]⟩
abbrev LX(ws:aa1)(s u:Int)(t:Te)(x:Tr):AS:=⟨stt 39 [(6,.ptr 2 0),(7,inA 0)],O5 ws s u++[some (.cells ((C9 t).map .dt)),some (.cells ((D9 x.ob).map .dt))]⟩
noncomputable abbrev yD:Code:=V5 (ai f56) [1,1,0,1,0,0]
theorem a2W{ws:aa1}{s u:Int}{t:Te}{e:E8}{x:(aa0×aa0)×Tr}{i:Nat}(hx:e[i]?=some x)(hl:e.length≤1000)(h:¬(x.1.1=t.np∧x.1.2=t.nn)):D7 (H9 1) yD (nH ws s u t e i) .I4 (nH ws s u t e ((i+1:Nat):Int)) :=
 have hi:=(Pi.1 hx).1
 tW [yT,.av (.pin ((Q8 x).map .dt)),yF,.av (inA ((i+1:Nat):Int))] [] [4,6,7,24,25,26] 3 [Bt .lss 3 26 25 ↑i (↑(List.length e)) bT,E5 (bC e) ↑i 9 ([(.val (str x.fst.fst)),(.val (str x.fst.snd)),(.val (vi x.snd.ob.kind)),(.val (str x.snd.ob.num)),(.val (str x.snd.ob.den)),(.val (str x.snd.ob.sp)),(.val (str x.snd.ob.sn)),(.val (str x.snd.ob.text)),(.row (List.map Ob.enc x.snd.ob.pair))]),Bn .eql 28 (.tmp 31) (.tmp 33) (Value.agg #[str x.fst.fst,str x.fst.snd]) (Value.agg #[str t.np,str t.nn]) bF,Bk .add 3 26 1 ↑i (vi (↑(i+1)))] ⟨F8 (UV J),xm hx,aO (Ai h),N8 J J J,Z⟩
theorem b9c{ws:aa1}{s u:Int}{t:Te}{e:E8}{x:(aa0×aa0)×Tr}{i:Nat}(hx:e[i]?=some x)(h:x.1.1=t.np∧x.1.2=t.nn):D7 (H9 1) yD (nH ws s u t e i) .ret (LX ws s u t x.2) :=
 have hi:=(Pi.1 hx).1
 tW [yT,.av (.pin ((Q8 x).map .dt)),yT] [] [6,7] 3 [Bt .lss 3 26 25 ↑i (↑(List.length e)) bT,E5 (bC e) ↑i 9 ([(.val (str x.fst.fst)),(.val (str x.fst.snd)),(.val (vi x.snd.ob.kind)),(.val (str x.snd.ob.num)),(.val (str x.snd.ob.den)),(.val (str x.snd.ob.sp)),(.val (str x.snd.ob.sn)),(.val (str x.snd.ob.text)),(.row (List.map Ob.enc x.snd.ob.pair))]),Bn .eql 28 (.tmp 31) (.tmp 33) (Value.agg #[str x.fst.fst,str x.fst.snd]) (Value.agg #[str t.np,str t.nn]) bT] ⟨F8 (UV J),xm hx,aO (QJ h),Z⟩
theorem b9d{ws:aa1}{s u:Int}{t:Te}{e:E8}{i:Nat}(hi:i=e.length):D7 (H9 1) yD (nH ws s u t e i) (.out 1) (nH ws s u t e i) :=
 tW [yF] [] [4,6,7,24,25,26] 3 [Bt .lss 3 26 25 ↑i (↑(List.length e)) bF] ⟨F8 (WF J),Z⟩
theorem b6L{ws:aa1}{s u:Int}{t:Te}{e:E8}{x:Tr}(h:t.kind=1)(ht:D7 (H9 1) (.loop yD) (nH ws s u t e 0) .ret (LX ws s u t x)):F7 gX [.ptr 0 0,y9 t,H5 e] (O5 ws s u) (.o7 [o9 x,inA 0]) (O5 ws s u) :=
 sW 1 [0] [yF,yF,.av (inA e.length)] [.inv [4,6,7,24,25,26] 3 (.ret) (LX ws s u t x)] [Bk .eql 3 11 2 t.kind bF,Bk .eql 3 11 3 t.kind bF,(vi (↑(List.length e)))=(vi (↑(bC e).length)),_] func56 ⟨F6 (by simp[h]),F6 (by simp[h]),xq _,ht,Z⟩
theorem b6M{ws:aa1}{s u k:Int}{t:Te}{e:E8}(h:t.kind=1)(ht:D7 (H9 1) (.loop yD) (nH ws s u t e 0) (.out 1) (nH ws s u t e k)):F7 gX [.ptr 0 0,y9 t,H5 e] (O5 ws s u) (.o7 [x9 zO,inA 6]) (O5 ws s u) :=
 .rv (sW 1 [0] [yF,yF,.av (inA e.length)] [.inv [4,6,7,24,25,26] 3 (.out 1) (nH ws s u t e k)] [Bk .eql 3 11 2 t.kind bF,Bk .eql 3 11 3 t.kind bF,(vi (↑(List.length e)))=(vi (↑(bC e).length)),_] func56 ⟨F6 (by simp[h]),F6 (by simp[h]),xq _,ht,Z⟩) fun _ _ _ h=>jr h
theorem b2p{ws:aa1}{s u:Int}{t:Te}{L:E8}(hl:L.length≤1000):∀(q:E8) (i:Nat),L.drop i=q→i≤L.length →
  (dn q t.np t.nn=none→Lps (H9 1) yD (nH ws s u t L i) (.out 1) (nH ws s u t L L.length))∧(∀x,dn q t.np t.nn=some x→Lps (H9 1) yD (nH ws s u t L i) .ret (LX ws s u t x)):=by
 intro q
 induction q with
 |nil =>
  intro i hd hi;have e1:=congrArg List.length hd;rw[Za7,List.length_nil]at e1;obtain rfl:i=L.length:=J;exact⟨fun _=>.stop (b9d rfl) (fun h=>by cases h),fun t h=>by cases h⟩
 |cons x q ih =>
  intro i hd hi;have hx:L[i]?=some x:=by rw[←Zak,hd];rfl
  have hlt:=(Pi.1 hx).1;obtain⟨h1,h2⟩:=ih (i+1) (by rw[←Zaj,hd];rfl) hlt;rw[dn];by_cases hc:x.1.1=t.np∧x.1.2=t.nn
  ·rw[Za0 hc];exact⟨fun h=>(by cases h),fun y h=>by cases h;exact .stop (b9c hx hc) (fun h=>by cases h)⟩
  ·rw[lw hc];exact⟨fun h=>.more (a2W hx hl hc) (h1 h),fun y h=>.more (a2W hx hl hc) (h2 y h)⟩
theorem a1Y{ws:aa1}{s u:Int}{t:Te}{env:E8}(h:s≤u):F7 qO [.ptr 0 0,y9 t,H5 env] (O5 ws s u) (.o7 [x9 zO,inA 9]) (O5 ws s u) :=
 .rv (sW 1 [0] [yT] [] [Bt .geq 3 28 32 u s bT] func93 ⟨Z7 (UV h),Z⟩) fun _ _ _ h=>jr h
structure ve (ws:aa1) (t:Te) (s u:Int) (b:Bool):Prop where
 u0:0≤u
 lt:u < s
 s1:s≤100000
 pr:l7 38 [y7 t.np t.nn] (.o7 [inA t.args.length,o6 true])
 fn:l7 39 [.dt (.row ws),y7 t.np t.nn] (.o7 [gp,o6 false])
 wa:l7 37 [.dt (.row ws),y7 t.np t.nn] (.o7 [inA t.args.length,o6 true])
 nm:decide (t.nn=Q7)=b
theorem b6N{ws:aa1}{s u v e:Int}{t a:Te}{env:E8}(hp:ve ws t s u true)(ha:t.args[0]?=some a)(he:e≠0)(h:F7 gX [.ptr 0 0,y9 a,H5 env] (O5 ws s (u+1)) (.o7 [x9 zO,inA e]) (O5 ws s v)):F7 qO [.ptr 0 0,y9 t,H5 env] (O5 ws s u) (.o7 [x9 zO,inA e]) (O5 ws s v) :=
 have h0:=hp.u0;have h1:=hp.lt;have h2:=hp.s1
 .rv (sW 1 [0] [yF,.av (inA (u+1)),.av (.o7 [inA t.args.length,o6 true]),.av (.o7 [gp,o6 false]),.av (.o7 [inA t.args.length,o6 true]),.av (inA t.args.length),yF,yT,.av (.pin ((C9 a).map .dt)),yT] [.P5 14 6 [0] (.o7 [x9 zO,inA e]) [some (.cells [.dt (.row ws),inA s,inA v])]] [Bt .geq 3 28 32 u s bF,Bk .add 3 38 1 u (vi (u+1)),_,_,_,(vi ↑t.args.length)=(vi (↑(List.map Te.enc t.args).length)),Bt .neq 3 75 76 ↑t.args.length ↑t.args.length bF,Bl .eql 9 96 [105,102] t.nn bT,E5 (List.map Te.enc t.args) 0 11 (C9 a),_,Bk .neq 44 110 0 e bT] func93 ⟨Z7 (WF J),N8 rfl J J,hp.pr,hp.fn,hp.wa,O6 _,H7 I,L6 hp.nm,Y9 ha,h,H7 (by simp[he]),Z⟩) fun _ _ _ h=>jr h
theorem b6O{ws:aa1}{s u v k e:Int}{t a b:Te}{env:E8}{x:Tr}{o:Ob}(hp:ve ws t s u true)(ha:t.args[0]?=some a)(hb:t.args[2]?=some b)(h:F7 gX [.ptr 0 0,y9 a,H5 env] (O5 ws s (u+1)) (.o7 [o9 x,inA 0]) (O5 ws s v))(hn:l7 119 [o9 x] (o6 true))(hc:F7 gX [.ptr 0 0,y9 b,H5 env] (O5 ws s v) (.o7 [x9 o,inA e]) (O5 ws s k)):F7 qO [.ptr 0 0,y9 t,H5 env] (O5 ws s u) (.o7 [x9 o,inA e]) (O5 ws s k) :=
 have h0:=hp.u0;have h1:=hp.lt;have h2:=hp.s1
 sW 1 [0] [yF,.av (inA (u+1)),.av (.o7 [inA t.args.length,o6 true]),.av (.o7 [gp,o6 false]),.av (.o7 [inA t.args.length,o6 true]),.av (inA t.args.length),yF,yT,.av (.pin ((C9 a).map .dt)),yF,yT,.av (.pin ((C9 b).map .dt))] [.P5 14 6 [0] (.o7 [o9 x,inA 0]) [some (.cells [.dt (.row ws),inA s,inA v])],.P5 18 6 [0] (.o7 [x9 o,inA e]) [some (.cells [.dt (.row ws),inA s,inA k])]] [Bt .geq 3 28 32 u s bF,Bk .add 3 38 1 u (vi (u+1)),_,_,_,(vi ↑t.args.length)=(vi (↑(List.map Te.enc t.args).length)),Bt .neq 3 75 76 ↑t.args.length ↑t.args.length bF,Bl .eql 9 96 [105,102] t.nn bT,E5 (List.map Te.enc t.args) 0 11 (C9 a),_,Bk .neq 44 110 0 0 bF,_,E5 (List.map Te.enc t.args) 2 11 (C9 b),_] func93 ⟨Z7 (WF J),N8 rfl J J,hp.pr,hp.fn,hp.wa,O6 _,H7 I,L6 hp.nm,Y9 ha,h,H7 I,hn,Y9 hb,hc,Z⟩
theorem b6P{ws:aa1}{s u v k e:Int}{t a b:Te}{env:E8}{x:Tr}{o:Ob}(hp:ve ws t s u true)(ha:t.args[0]?=some a)(hb:t.args[1]?=some b)(h:F7 gX [.ptr 0 0,y9 a,H5 env] (O5 ws s (u+1)) (.o7 [o9 x,inA 0]) (O5 ws s v))(hn:l7 119 [o9 x] (o6 false))(hc:F7 gX [.ptr 0 0,y9 b,H5 env] (O5 ws s v) (.o7 [x9 o,inA e]) (O5 ws s k)):F7 qO [.ptr 0 0,y9 t,H5 env] (O5 ws s u) (.o7 [x9 o,inA e]) (O5 ws s k) :=
 have h0:=hp.u0;have h1:=hp.lt;have h2:=hp.s1
 sW 1 [0] [yF,.av (inA (u+1)),.av (.o7 [inA t.args.length,o6 true]),.av (.o7 [gp,o6 false]),.av (.o7 [inA t.args.length,o6 true]),.av (inA t.args.length),yF,yT,.av (.pin ((C9 a).map .dt)),yF,yF,.av (.pin ((C9 b).map .dt))] [.P5 14 6 [0] (.o7 [o9 x,inA 0]) [some (.cells [.dt (.row ws),inA s,inA v])],.P5 19 6 [0] (.o7 [x9 o,inA e]) [some (.cells [.dt (.row ws),inA s,inA k])]] [Bt .geq 3 28 32 u s bF,Bk .add 3 38 1 u (vi (u+1)),_,_,_,(vi ↑t.args.length)=(vi (↑(List.map Te.enc t.args).length)),Bt .neq 3 75 76 ↑t.args.length ↑t.args.length bF,Bl .eql 9 96 [105,102] t.nn bT,E5 (List.map Te.enc t.args) 0 11 (C9 a),_,Bk .neq 44 110 0 0 bF,_,E5 (List.map Te.enc t.args) 1 11 (C9 b),_] func93 ⟨Z7 (WF J),N8 rfl J J,hp.pr,hp.fn,hp.wa,O6 _,H7 I,L6 hp.nm,Y9 ha,h,H7 I,hn,Y9 hb,hc,Z⟩
abbrev LY(ws:aa1)(s u:Int)(t:Te)(fc:List AV):List (Option Bx):=[some (.cells [.dt (.row ws),inA s,inA u]),some (.cells ((C9 t).map .dt)),qJ,some (.cells fc)]
abbrev iw(ws:aa1)(s u:Int)(t:Te)(env:E8)(fc:List AV)(b:Bool)(es:aa1)(i:Int):AS:=⟨stt 204 [(0,.ptr 0 0),(2,H5 env),(4,.ptr 1 0),(6,.ptr 2 0),(9,o6 b),(10,.ptr 3 0),(16,.own 4 es.length),(136,O3 t.args),(137,inA t.args.length),(138,inA i)],LY ws s u t fc++[some (.buf 37 7 es)]⟩
abbrev LZ(ws:aa1)(s u:Int)(t:Te)(e:Int):AS:=⟨stt 204 [(6,.ptr 2 0),(7,inA e)],[some (.cells [.dt (.row ws),inA s,inA u]),some (.cells ((C9 t).map .dt)),qJ]⟩
noncomputable abbrev kP:Code:=V5 (ai f93) [1,1,1,1,1,1,1,1,0,1,0,0]
theorem b9e{ws es:aa1}{s u v e:Int}{t x:Te}{env:E8}{fc:List AV}{b:Bool}{i:Nat}(hx:t.args[i]?=some x)(he:e≠0)(h:F7 gX [.ptr 0 0,y9 x,H5 env] (O5 ws s u) (.o7 [x9 zO,inA e]) (O5 ws s v)):D7 (H9 1) kP (iw ws s u t env fc b es i) .ret (LZ ws s v t e) :=
 have hi:=(Pi.1 hx).1
 tW [yT,.av (.pin ((C9 x).map .dt)),yT] [.P5 24 3 [0] (.o7 [x9 zO,inA e]) [some (.cells [.dt (.row ws),inA s,inA v])]] [6,7] 3 [Bt .lss 3 138 137 ↑i ↑t.args.length bT,E5 (List.map Te.enc t.args) ↑i 11 (C9 x),_,Bk .neq 44 149 0 e bT] ⟨F8 (UV J),Y9 hx,h,H7 (by simp[he]),Z⟩
theorem a2X{ws es:aa1}{s u v:Int}{t x:Te}{env:E8}{b:Bool}{y:Tr}{i:Nat}(hx:t.args[i]?=some x)(hl:t.args.length≤1000)(he:es.length≤1000)(h:F7 gX [.ptr 0 0,y9 x,H5 env] (O5 ws s u) (.o7 [o9 y,inA 0]) (O5 ws s v)):D7 (H9 1) kP (iw ws s u t env dL b es i) .I4 (iw ws s v t env dL b (es++[D9 y.ob]) ((i+1:Nat):Int)) :=
 have hi:=(Pi.1 hx).1
 tW [yT,.av (.pin ((C9 x).map .dt)),yF,.av (.un),.av (inA ((i+1:Nat):Int))] [.P5 24 3 [0] (.o7 [o9 y,inA 0]) [some (.cells [.dt (.row ws),inA s,inA v])]] [0,2,4,6,9,10,16,136,137,138] 5 [Bt .lss 3 138 137 ↑i ↑t.args.length bT,E5 (List.map Te.enc t.args) ↑i 11 (C9 x),_,Bk .neq 44 149 0 0 bF,(es.length)=(es.length),X8 112 ((es++[[Dt.val (vi y.ob.kind),Dt.val (str y.ob.num),Dt.val (str y.ob.den),Dt.val (str y.ob.sp),Dt.val (str y.ob.sn),Dt.val (str y.ob.text),Dt.row (List.map Ob.enc y.ob.pair)]]).length),S9 7 [D9 y.ob],Bk .add 3 138 1 ↑i (vi (↑(i+1)))] ⟨F8 (UV J),Y9 hx,h,H7 I,rfl,jA J (by simp;omega),zW y,N8 J J J,Z⟩
theorem a2Y{ws es:aa1}{s u:Int}{t:Te}{env:E8}{b:Bool}{i:Nat}(hi:i=t.args.length):D7 (H9 1) kP (iw ws s u t env dL b es i) (.out 2) (iw ws s u t env dL b es i) :=
 tW [yF] [] [0,2,4,6,9,10,16,136,137,138] 5 [Bt .lss 3 138 137 ↑i ↑t.args.length bF] ⟨F8 (WF J),Z⟩
abbrev Gi(ws:aa1)(s u:Int)(t:Te)(env:E8):AS:=⟨stt 204 [(0,.ptr 0 0),(2,H5 env),(4,.ptr 1 0),(6,.ptr 2 0),(9,o6 true),(10,.ptr 3 0),(16,.nil),(136,O3 t.args),(137,inA t.args.length),(138,inA 0)],LY ws s u t dL⟩
theorem b6Q{ws:aa1}{s u v e:Int}{t:Te}{env:E8}(hp:ve ws t s u false)(h:D7 (H9 1) (.loop kP) (Gi ws s (u+1) t env) .ret (LZ ws s v t e)):F7 qO [.ptr 0 0,y9 t,H5 env] (O5 ws s u) (.o7 [x9 zO,inA e]) (O5 ws s v) :=
 have h0:=hp.u0;have h1:=hp.lt;have h2:=hp.s1
 .rv (sW 1 [0] [yF,.av (inA (u+1)),.av (.o7 [inA t.args.length,o6 true]),.av (.o7 [gp,o6 false]),.av (.o7 [inA t.args.length,o6 true]),.av (inA t.args.length),yF,yF,.av (inA t.args.length)] [.inv [0,2,4,6,9,10,16,136,137,138] 4 (.ret) (LZ ws s v t e)] [Bt .geq 3 28 32 u s bF,Bk .add 3 38 1 u (vi (u+1)),_,_,_,(vi ↑t.args.length)=(vi (↑(List.map Te.enc t.args).length)),Bt .neq 3 75 76 ↑t.args.length ↑t.args.length bF,Bl .eql 9 96 [105,102] t.nn bF,(vi ↑t.args.length)=(vi (↑(List.map Te.enc t.args).length)),_] func93 ⟨Z7 (WF J),N8 rfl J J,hp.pr,hp.fn,hp.wa,O6 _,H7 I,L6 hp.nm,O6 _,h,Z⟩) fun _ _ _ h=>jr h
theorem a1Z{ws es:aa1}{s u v k:Int}{t:Te}{env:E8}(hp:ve ws t s u false)(h:D7 (H9 1) (.loop kP) (Gi ws s (u+1) t env) (.out 2) (iw ws s v t env dL true es k))(hg:l7 120 [y7 t.np t.nn,.dt (.row es)] (o6 false)):F7 qO [.ptr 0 0,y9 t,H5 env] (O5 ws s u) (.o7 [x9 zO,inA 10]) (O5 ws s v) :=
 have h0:=hp.u0;have h1:=hp.lt;have h2:=hp.s1
 .rv (sW 1 [0] [yF,.av (inA (u+1)),.av (.o7 [inA t.args.length,o6 true]),.av (.o7 [gp,o6 false]),.av (.o7 [inA t.args.length,o6 true]),.av (inA t.args.length),yF,yF,.av (inA t.args.length),yF] [.inv [0,2,4,6,9,10,16,136,137,138] 4 (.out 2) (iw ws s v t env dL true es k)] [Bt .geq 3 28 32 u s bF,Bk .add 3 38 1 u (vi (u+1)),_,_,_,(vi ↑t.args.length)=(vi (↑(List.map Te.enc t.args).length)),Bt .neq 3 75 76 ↑t.args.length ↑t.args.length bF,Bl .eql 9 96 [105,102] t.nn bF,(vi ↑t.args.length)=(vi (↑(List.map Te.enc t.args).length)),_,_,(es.length)=(es.length)] func93 ⟨Z7 (WF J),N8 rfl J J,hp.pr,hp.fn,hp.wa,O6 _,H7 I,L6 hp.nm,O6 _,h,hg,rfl,Z⟩) fun _ _ _ h=>jr h
theorem a13{ws es:aa1}{s u v k e:Int}{t:Te}{env:E8}{o:Ob}(hp:ve ws t s u false)(h:D7 (H9 1) (.loop kP) (Gi ws s (u+1) t env) (.out 2) (iw ws s v t env dL true es k))(hg:l7 120 [y7 t.np t.nn,.dt (.row es)] (o6 true))(ha:l7 121 [y7 t.np t.nn,.dt (.row es)] (.o7 [x9 o,inA e])):F7 qO [.ptr 0 0,y9 t,H5 env] (O5 ws s u) (.o7 [x9 o,inA e]) (O5 ws s v) :=
 have h0:=hp.u0;have h1:=hp.lt;have h2:=hp.s1
 sW 1 [0] [yF,.av (inA (u+1)),.av (.o7 [inA t.args.length,o6 true]),.av (.o7 [gp,o6 false]),.av (.o7 [inA t.args.length,o6 true]),.av (inA t.args.length),yF,yF,.av (inA t.args.length),yT,.av (.o7 [x9 o,inA e])] [.inv [0,2,4,6,9,10,16,136,137,138] 4 (.out 2) (iw ws s v t env dL true es k)] [Bt .geq 3 28 32 u s bF,Bk .add 3 38 1 u (vi (u+1)),_,_,_,(vi ↑t.args.length)=(vi (↑(List.map Te.enc t.args).length)),Bt .neq 3 75 76 ↑t.args.length ↑t.args.length bF,Bl .eql 9 96 [105,102] t.nn bF,(vi ↑t.args.length)=(vi (↑(List.map Te.enc t.args).length)),_,_,(es.length)=(es.length),_,(es.length)=(es.length)] func93 ⟨Z7 (WF J),N8 rfl J J,hp.pr,hp.fn,hp.wa,O6 _,H7 I,L6 hp.nm,O6 _,h,hg,rfl,ha,rfl,Z⟩
end Go.Proofs.YthhknjlmjefklaaGreatDoor
namespace Go.Proofs.YthhknjlmjefklaaGreatDoor
open Go.Proofs.Tryz
open Go.RowKit
theorem b6R:∀{i:Nat} {s:aa0} {a:Nat} {l:List Tr},I7[i]?=some (s,a)→(∀t∈l,t.valid=true)→l.length=a→l7 120 [y7 x8 s,rowA l] (o6 (Tr.gd i (l.getD 0 o8) (l.getD 1 o8)))
 |0,_,_,[x,y,z],h,hl,_=>by cases h;exact b39 (Tr.H6 (hl x (PP ..))) (Tr.H6 (hl y (lm _ (PP ..)))) (Tr.H6 (hl z (lm _ (lm _ (PP ..)))))
 |0,_,_,[],h,_,hn=>by cases h;exact absurd hn I
 |0,_,_,[_],h,_,hn=>by cases h;exact absurd hn I
 |0,_,_,[_,_],h,_,hn=>by cases h;exact absurd hn I
 |0,_,_,_::_::_::_::_,h,_,hn=>by cases h;simp at hn
 |1,_,_,[x,y],h,hl,_=>by cases h;exact b4a (Tr.H6 (hl x (PP ..))) (Tr.H6 (hl y (lm _ (PP ..))))
 |1,_,_,[],h,_,hn=>by cases h;exact absurd hn I
 |1,_,_,[_],h,_,hn=>by cases h;exact absurd hn I
 |1,_,_,_::_::_::_,h,_,hn=>by cases h;simp at hn
 |2,_,_,[x,y],h,hl,_=>by cases h;exact b4b (Tr.H6 (hl x (PP ..))) (Tr.H6 (hl y (lm _ (PP ..))))
 |2,_,_,[],h,_,hn=>by cases h;exact absurd hn I
 |2,_,_,[_],h,_,hn=>by cases h;exact absurd hn I
 |2,_,_,_::_::_::_,h,_,hn=>by cases h;simp at hn
 |3,_,_,[x],h,hl,_=>by cases h;exact QL (Tr.H6 (hl x (PP ..)))
 |3,_,_,[],h,_,hn=>by cases h;exact absurd hn I
 |3,_,_,_::_::_,h,_,hn=>by cases h;simp at hn
 |4,_,_,[x],h,hl,_=>by cases h;exact b4c (Tr.H6 (hl x (PP ..)))
 |4,_,_,[],h,_,hn=>by cases h;exact absurd hn I
 |4,_,_,_::_::_,h,_,hn=>by cases h;simp at hn
 |5,_,_,[x],h,hl,_=>by cases h;exact b4d (Tr.H6 (hl x (PP ..)))
 |5,_,_,[],h,_,hn=>by cases h;exact absurd hn I
 |5,_,_,_::_::_,h,_,hn=>by cases h;simp at hn
 |6,_,_,[x],h,hl,_=>by cases h;exact b4e (Tr.H6 (hl x (PP ..)))
 |6,_,_,[],h,_,hn=>by cases h;exact absurd hn I
 |6,_,_,_::_::_,h,_,hn=>by cases h;simp at hn
 |7,_,_,[x],h,hl,_=>by cases h;exact b4f (Tr.H6 (hl x (PP ..)))
 |7,_,_,[],h,_,hn=>by cases h;exact absurd hn I
 |7,_,_,_::_::_,h,_,hn=>by cases h;simp at hn
 |8,_,_,[x],h,hl,_=>by cases h;exact b4g (Tr.H6 (hl x (PP ..)))
 |8,_,_,[],h,_,hn=>by cases h;exact absurd hn I
 |8,_,_,_::_::_,h,_,hn=>by cases h;simp at hn
 |9,_,_,[x],h,hl,_=>by cases h;exact b4h (Tr.H6 (hl x (PP ..)))
 |9,_,_,[],h,_,hn=>by cases h;exact absurd hn I
 |9,_,_,_::_::_,h,_,hn=>by cases h;simp at hn
 |10,_,_,[x,y],h,hl,_=>by cases h;exact b1S (Tr.H6 (hl x (PP ..))) (Tr.H6 (hl y (lm _ (PP ..))))
 |10,_,_,[],h,_,hn=>by cases h;exact absurd hn I
 |10,_,_,[_],h,_,hn=>by cases h;exact absurd hn I
 |10,_,_,_::_::_::_,h,_,hn=>by cases h;simp at hn
 |11,_,_,[x,y],h,hl,_=>by cases h;exact b1T (Tr.H6 (hl x (PP ..))) (Tr.H6 (hl y (lm _ (PP ..))))
 |11,_,_,[],h,_,hn=>by cases h;exact absurd hn I
 |11,_,_,[_],h,_,hn=>by cases h;exact absurd hn I
 |11,_,_,_::_::_::_,h,_,hn=>by cases h;simp at hn
 |12,_,_,[x],h,hl,_=>by cases h;exact b1U (Tr.H6 (hl x (PP ..)))
 |12,_,_,[],h,_,hn=>by cases h;exact absurd hn I
 |12,_,_,_::_::_,h,_,hn=>by cases h;simp at hn
 |13,_,_,[x],h,hl,_=>by cases h;exact b1V (Tr.H6 (hl x (PP ..)))
 |13,_,_,[],h,_,hn=>by cases h;exact absurd hn I
 |13,_,_,_::_::_,h,_,hn=>by cases h;simp at hn
 |14,_,_,[x,y],h,hl,_=>by cases h;exact b1W (Tr.H6 (hl x (PP ..))) (Tr.H6 (hl y (lm _ (PP ..))))
 |14,_,_,[],h,_,hn=>by cases h;exact absurd hn I
 |14,_,_,[_],h,_,hn=>by cases h;exact absurd hn I
 |14,_,_,_::_::_::_,h,_,hn=>by cases h;simp at hn
 |15,_,_,[x],h,hl,_=>by cases h;exact b1X (Tr.H6 (hl x (PP ..)))
 |15,_,_,[],h,_,hn=>by cases h;exact absurd hn I
 |15,_,_,_::_::_,h,_,hn=>by cases h;simp at hn
 |16,_,_,[x],h,hl,_=>by cases h;exact b1Y (Tr.H6 (hl x (PP ..)))
 |16,_,_,[],h,_,hn=>by cases h;exact absurd hn I
 |16,_,_,_::_::_,h,_,hn=>by cases h;simp at hn
 |17,_,_,[x],h,hl,_=>by cases h;exact b1Z (Tr.H6 (hl x (PP ..)))
 |17,_,_,[],h,_,hn=>by cases h;exact absurd hn I
 |17,_,_,_::_::_,h,_,hn=>by cases h;simp at hn
 |18,_,_,[x],h,hl,_=>by cases h;exact b2a (Tr.H6 (hl x (PP ..)))
 |18,_,_,[],h,_,hn=>by cases h;exact absurd hn I
 |18,_,_,_::_::_,h,_,hn=>by cases h;simp at hn
 |19,_,_,[x],h,hl,_=>by cases h;exact b2b (Tr.H6 (hl x (PP ..)))
 |19,_,_,[],h,_,hn=>by cases h;exact absurd hn I
 |19,_,_,_::_::_,h,_,hn=>by cases h;simp at hn
 |20,_,_,[x,y],h,hl,_=>by cases h;exact b2c (Tr.H6 (hl x (PP ..))) (Tr.H6 (hl y (lm _ (PP ..))))
 |20,_,_,[],h,_,hn=>by cases h;exact absurd hn I
 |20,_,_,[_],h,_,hn=>by cases h;exact absurd hn I
 |20,_,_,_::_::_::_,h,_,hn=>by cases h;simp at hn
 |21,_,_,[x,y],h,hl,_=>by cases h;exact b2d (Tr.H6 (hl x (PP ..))) (Tr.H6 (hl y (lm _ (PP ..))))
 |21,_,_,[],h,_,hn=>by cases h;exact absurd hn I
 |21,_,_,[_],h,_,hn=>by cases h;exact absurd hn I
 |21,_,_,_::_::_::_,h,_,hn=>by cases h;simp at hn
 |22,_,_,[x],h,hl,_=>by cases h;exact b2e (Tr.H6 (hl x (PP ..)))
 |22,_,_,[],h,_,hn=>by cases h;exact absurd hn I
 |22,_,_,_::_::_,h,_,hn=>by cases h;simp at hn
 |23,_,_,[x,y],h,hl,_=>by cases h;exact b2f (Tr.H6 (hl x (PP ..))) (Tr.H6 (hl y (lm _ (PP ..))))
 |23,_,_,[],h,_,hn=>by cases h;exact absurd hn I
 |23,_,_,[_],h,_,hn=>by cases h;exact absurd hn I
 |23,_,_,_::_::_::_,h,_,hn=>by cases h;simp at hn
 |24,_,_,[x],h,hl,_=>by cases h;exact b2g (Tr.H6 (hl x (PP ..)))
 |24,_,_,[],h,_,hn=>by cases h;exact absurd hn I
 |24,_,_,_::_::_,h,_,hn=>by cases h;simp at hn
 |_+25,_,_,_,h,_,_=>by cases h
end Go.Proofs.YthhknjlmjefklaaGreatDoor
namespace Go.Proofs.YthhknjlmjefklaaGreatDoor
open Go.Proofs.Tryz
open Go.RowKit
open Te
theorem QO:∀(f:Nat) (env:E8) (t:Te) (l:Nat) (e:Int) (l':Nat),Pd t→gv f env t l=(.error e,l')→e≠0:=by
 intro f
 induction f with
 |zero =>
  intro env t l e l' ht h;cases ht with
  |var p n=>rw[wW]at h;split at h <;> cases h;decide
  |G9 t ht=>rw[wX]at h;cases h
  |ap n a i hp ha=>rw[Ti]at h;cases h;decide
 |succ f ih =>
  intro env t l e l' ht h;cases ht with
  |var p n=>rw[wW]at h;split at h <;> cases h;decide
  |G9 t ht=>rw[wX]at h;cases h
  |ap n a i hp ha =>
   cases l with
   |zero=>rw[DU]at h;cases h;decide
   |succ l =>
    rw[JG]at h;unfold vU at h;by_cases hif:is (Te.ap n a) Q7 3
    ·rw[Za0 hif]at h;have w:=fun j (hj:j < 3)=>ha _ (uC hif hj)
     split at h
     ·rename_i c l1 hh;cases h;exact ih _ _ _ _ _ (w 0 J) hh
     ·split at h
      ·exact ih _ _ _ _ _ (w 2 J) h
      ·exact ih _ _ _ _ _ (w 1 J) h
    ·rw[lw hif]at h;split at h
     ·rename_i c l1 hh;cases h;obtain⟨x,hx,l2,l3,hx2⟩:=Qa hh;exact ih _ _ _ _ _ (ha x hx) hx2
     ·rw[show (Te.ap n a).nn=n from rfl,hp]at h
      dsimp only at h;split at h
      ·unfold iP at h;split at h <;> cases h
       decide
      ·cases h;decide
theorem RZ{ws:aa1}{p n:aa0}{a:Int}(h:l7 38 [y7 p n] (.o7 [inA a,o6 true])):l7 37 [.dt (.row ws),y7 p n] (.o7 [inA a,o6 true]) :=
 pV [.av (.o7 [inA a,o6 true])] [_] func37 ⟨h,Z⟩
def Gj(wr:aa1):Prop:=∀n i a,bZ I7 0 n=some (i,a)→l7 39 [.dt (.row wr),y7 x8 n] (.o7 [gp,o6 false])
theorem Gj.gc{wr:aa1}{n:aa0}{i a:Nat}(hp:bZ I7 0 n=some (i,a)):GC wr n a:=⟨RZ (DT (jU hp)),DT (jU hp)⟩
def Md(wr:aa1)(f:Nat)(env:E8)(t:Te):Prop:=∀s l:Nat,l≤f→l≤s→s≤99999→F7 gX [.ptr 0 0,y9 t,H5 env] (O5 wr s (s - l:Int)) (uY (gv f env t l).1) (O5 wr s (s - (gv f env t l).2:Int))
theorem b2q{wr:aa1}{f s:Nat}{env:E8}{t:Te}(hs:s≤99999)(hl:t.args.length≤8)(hw:∀x∈t.args,Pd x)(ih:∀x∈t.args,Md wr f env x):∀(q:List Te) (i:Nat) (out:List Tr) (l:Nat),t.args.drop i=q→i≤t.args.length→out.length=i→l≤f→l≤s →
  (∀xs l',U2 (gv f env) q l=(.ok xs,l')→Lps (H9 1) kP (iw wr s (s - l:Int) t env dL true (gG out) i) (.out 2) (iw wr s (s - l':Int) t env dL true (gG (out++xs)) t.args.length))∧(∀e l',U2 (gv f env) q l=(.error e,l')→Lps (H9 1) kP (iw wr s (s - l:Int) t env dL true (gG out) i) .ret (LZ wr s (s - l':Int) t e)):=by
 intro q
 induction q with
 |nil =>
  intro i out l hd hi ho hf _;have e1:=congrArg List.length hd;rw[Za7,List.length_nil]at e1;obtain rfl:i=t.args.length:=J;refine⟨fun xs l' h=>?_,fun e l' h=>by rw[U2]at h;cases h⟩;rw[U2]at h;cases h;rw[ZaI];exact .stop (a2Y rfl) (fun h=>by cases h)
 |cons x q yA =>
  intro i out l hd hi ho hf hf2;have hx:t.args[i]?=some x:=by rw[←Zak,hd];rfl
  have hlt:=(Pi.1 hx).1;have hxm:=Za5 hx;have hst:=ih x hxm s l hf hf2 hs;have hle:=RQ f env x l;rw[U2];cases hv:gv f env x l with
  |mk r l1 =>
   rw[hv]at hst hle;have hle:l1≤l:=hle;cases r with
   |error c =>
    have hc:=QO f env x l c l1 (hw x hxm) hv;exact⟨fun xs l' h=>(by cases h),fun e l' h=>by cases h;exact .stop (b9e hx hc hst) (fun h=>by cases h)⟩
   |ok y =>
    have hst:=a2X (b:=true) (es:=gG out) hx J (by rw[NT];omega) hst;rw[Ny]at hst;obtain⟨k1,k2⟩:=yA (i+1) (out++[y]) l1 (by rw[←Zaj,hd];rfl) hlt (by simp[ho]) J J;refine⟨fun xs l' h=>?_,fun e l' h=>?_⟩
    ·dsimp only at h;split at h
     ·cases h
     ·rename_i ys l2 hh;cases h;have:=k1 ys l' hh;rw[Zah]at this;exact .more hst this
    ·dsimp only at h;split at h
     ·rename_i c l2 hh;cases h;exact .more hst (k2 _ _ hh)
     ·cases h
theorem a0L{wr:aa1}{f:Nat}{env:E8}{p n:aa0}(hle:env.length≤1000):Md wr f env ⟨1,p,n,V9,[]⟩:=by
 intro s l hl hs hs2;rw[wW];obtain⟨k1,k2⟩:=b2p (ws:=wr) (s:=s) (u:=(s - l:Int)) (t:=⟨1,p,n,V9,[]⟩) hle env 0 rfl (ww _);cases hv:dn env p n with
 |none=>exact b6M (t:=⟨1,p,n,V9,[]⟩) rfl (k1 hv).tri
 |some x=>exact b6L (t:=⟨1,p,n,V9,[]⟩) rfl (k2 x hv).tri
theorem a0M{wr:aa1}{f:Nat}{env:E8}(t:Tr):Md wr f env (Te.G9 t.ob):=by
 intro s l hl hs hs2;rw[wX];exact JH (t:=Te.G9 t.ob) rfl
theorem b6S{wr:aa1}(hW:Gj wr):∀(f:Nat) (env:E8) (t:Te),Pd t→ku env→env.length≤1000→Md wr f env t:=by
 intro f
 induction f with
 |zero =>
  intro env t ht he hle;cases ht with
  |var p n=>exact a0L hle
  |G9 t h=>exact a0M t
  |ap n a i hp h =>
   intro s l hl hs hs2;obtain rfl:l=0:=J;rw[DU];exact kz (t:=Te.ap n a) rfl (a1Y J)
 |succ f ih =>
  intro env t ht he hle;cases ht with
  |var p n=>exact a0L hle
  |G9 t h=>exact a0M t
  |ap n a i hp h =>
   intro s l hl hs hs2;cases l with
   |zero =>
    rw[DU];exact kz (t:=Te.ap n a) rfl (a1Y J)
   |succ l =>
    rw[JG];have e1:((s:Int) - ((l+1:Nat):Int))+1=(s:Int) - (l:Int):=J;have hpr:=DT (jU hp);have hn:a.length≤3:=IB _ (Za5 (jU hp));have pre:∀b,decide (n=Q7)=b→ve wr (Te.ap n a) s (s - ((l+1:Nat):Int)) b:=fun b hb=>⟨J,J,J,hpr,hW n i _ hp,RZ hpr,hb⟩
    unfold vU;by_cases hif:is (Te.ap n a) Q7 3
    ·rw[Za0 hif];have pre:=pre true (UV hif.2.2.1);have w:=fun j (hj:j < 3)=>h _ (uC hif hj)
     have h0:=ih env _ (w 0 J) he hle s l J J hs2;have hle0:=RQ f env ((Te.ap n a).arg 0) l;cases hv:gv f env ((Te.ap n a).arg 0) l with
     |mk r l1 =>
      rw[hv]at h0 hle0;have hle0:l1≤l:=hle0;cases r with
      |error c=>exact kz (t:=Te.ap n a) rfl (b6N pre (dQ hif (show 0 < 3 by omega)) (QO _ _ _ _ _ _ (w 0 J) hv) (by rw[e1];exact h0))
      |ok x =>
       have hn:=yX x;dsimp only;by_cases hx:x=o8
       ·rw[Za0 hx];rw[UV hx]at hn;have h2:=ih env _ (w 2 J) he hle s l1 J J hs2;obtain⟨o,e,hr⟩:=nP (gv f env ((Te.ap n a).arg 2) l1).1;rw[hr]at h2 ⊢
        exact kz (t:=Te.ap n a) rfl (b6O pre (dQ hif (show 0 < 3 by omega)) (dQ hif (show 2 < 3 by omega)) (by rw[e1];exact h0) hn h2)
       ·rw[lw hx];rw[WF hx]at hn;have h2:=ih env _ (w 1 J) he hle s l1 J J hs2;obtain⟨o,e,hr⟩:=nP (gv f env ((Te.ap n a).arg 1) l1).1;rw[hr]at h2 ⊢
        exact kz (t:=Te.ap n a) rfl (b6P pre (dQ hif (show 0 < 3 by omega)) (dQ hif (show 1 < 3 by omega)) (by rw[e1];exact h0) hn h2)
    ·rw[lw hif];have hnn:n≠Q7:=fun e=>hif (by
      subst e;have e2:bZ I7 0 Q7=some (0,3):=by decide +kernel
      have e3:3=a.length:=congrArg Prod.snd (Option.some.inj (e2.symm.trans hp));exact⟨rfl,rfl,rfl,e3.symm⟩)
     have pre:=pre false (WF hnn);obtain⟨k1,k2⟩:=b2q (wr:=wr) (f:=f) (s:=s) (env:=env) (t:=Te.ap n a) hs2 (by show a.length≤8;omega) h (fun x hx=>ih env x (h x hx) he hle) a 0 [] l rfl (ww _) rfl J J;rw[show (Te.ap n a).args=a from rfl]
     have own:∀{e:AE} {s':AS},D7 (H9 1) (.loop kP) (iw wr s (s - l:Int) (Te.ap n a) env dL true (gG []) ((0:Nat):Int)) e s'→D7 (H9 1) (.loop kP) (Gi wr s ((s:Int) - ((l+1:Nat):Int)+1) (Te.ap n a) env) e s':=fun h=>by
      rw[e1];exact D7.aS 16 37 7 (by show 16 < 204;omega) rfl h
     cases hv:U2 (gv f env) a l with
     |mk r l1 =>
      cases r with
      |error c=>exact kz (t:=Te.ap n a) rfl (b6Q pre (own (k2 c l1 hv).tri))
      |ok vs =>
       obtain⟨v1,v2⟩:=uJ _ _ _ _ (fun t ht l x l' hh=>Yi (h t ht).wd he (h t ht) hh) hv;dsimp only;rw[show (Te.ap n a).nn=n from rfl,hp]
       dsimp only;have hg:=b6R (jU hp) v2 v1;cases hb:Tr.gd i (vs.getD 0 o8) (vs.getD 1 o8) with
       |false =>
        rw[hb]at hg;rw[lw O];exact kz (t:=Te.ap n a) rfl (a1Z pre (own (k1 vs l1 hv).tri) hg)
       |true =>
        rw[hb]at hg;rw[Za0 rfl];have hap:l7 121 [y7 x8 n,rowA vs] (uY (iP i vs)):=by rw[←OD];exact a1M (jU hp) v2 v1
        obtain⟨o,e,hr⟩:=nP (iP i vs);rw[hr]at hap ⊢
        exact kz (t:=Te.ap n a) rfl (a13 pre (own (k1 vs l1 hv).tri) hg hap)
section
variable {X:Nat→Prop} {n0:Nat} {w0:World×Mm} {ok0:Nat→Prop} {M:Mm} {nt:Nat} {tm:Nat→AV} {bx:Nat→Option Bx} {a:Act} {w:World}
end
def lT:List (aa0):=I7.map (·.1)
abbrev vV:List (aa0):=[[120],[121],[122],[117]]
theorem b4I:∀n∈lT,n.length≤1000∧∃k:Nat,k≤8∧bH [] n=some k∧bH F9 n=some k:=by
 have h:(lT.all fun n=>decide (n.length≤1000) && (match bH [] n with | some k=>decide (k≤8) && decide (bH F9 n=some k) | none=>false))=true:=by decide +kernel
 intro n hn;have:=Zav.1 h n hn;rw[AC]at this;obtain⟨h1,h2⟩:=this;refine⟨Zad h1,?_⟩;split at h2
 ·rename_i k hk;rw[AC]at h2;exact⟨k,Zad h2.1,hk,Zad h2.2⟩
 ·cases h2
theorem mk0(vl:List (aa0))(h1:0 < vl.length)(h2:vl.length≤4)(h3:∀v∈vl,v∈vlM):Mk [] lT vl:=⟨O,O,h1,h2,fun n hn=>by
 obtain⟨k1,k,k2,k3,k4⟩:=b4I n hn;exact⟨k1,k,k2,Qz (ws:=[]) (r:=[]) O k3,k4⟩,h3⟩
theorem a9N:l7 55 [.dt (.row [])] (jJ lT) :=
 pW [.av (.dt (.row (I7.map mP))),.no,.no] [.run 1] [_] func55 ⟨a8z,Z⟩
abbrev KA(l:List Raw):AV:=.dt (.row (l.map Raw.enc))
end Go.Proofs.YthhknjlmjefklaaGreatDoor
