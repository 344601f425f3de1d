/- Entries of the built-in world, of the reference. -/
import Derived.Test.YthhknjlmjefklaaGreatDoorBO
import Derived.Test.YthhknjlmjefklaaGreatDoorBN
import Derived.Test.YthhknjlmjefklaaGreatDoorBG
import Derived.Deep.RegionHeld3
import Derived.Deep.RegionLaw
import Derived.Test.YthhknjlmjefklaaGreatDoorBF
set_option maxRecDepth 100000
set_option maxHeartbeats 4000000
namespace Go.Proofs.YthhknjlmjefklaaGreatDoor
open Go.Proofs.Tryz
open Go.RowKit
open Te
abbrev zT:List AV:=[inA 0,stA [],stA [],inA 0,stA [],stA [],stA [],stA [],stA [],.nil,.nil]
abbrev enZ:List AV:=inA 0::stA []::stA []::stA []::.nil::stA []::stA []::.nil::o6 false::(zT++[.nil,.nil,.nil,.nil,stA [],stA [],.nil,.nil,.nil,.nil,stA [],.dt (.val (.int .u64 0))])
abbrev enF(nm:aa0)(p:AV):List AV:=stA x8::stA nm::p::inA 1::((C9 G8).map .dt++(zT++zT))
abbrev xI(f:y8.H8):AV:=.agg (inA 3::stA x8::stA f.nm::stA []::.nil::stA []::stA []::.nil::o6 false::(zT++[.dt (.row [I8 f]),.nil,.nil,.nil,stA [],stA [],.nil,.nil,.nil,.nil,stA [],.dt (.val (.int .u64 0))]))
abbrev en0(es os:aa1)(form:Ob)(nm:aa0)(qs:aa1):AS:=⟨stt 99 [(0,.own 0 es.length),(3,.ptr 1 0),(4,.ptr 2 0),(5,.dt (.row os)),(7,.ptr 3 0),(8,.dt (.row qs)),(10,inA 0)],[wB es,some (.cells ((D9 form).map .dt)),some (.cells enZ),some (.cells (enF nm .nil))]⟩
abbrev ji(es os:aa1)(form:Ob)(nm:aa0)(qs rs:aa1)(i:Int):AS:=⟨stt 99 [(0,.own 0 es.length),(3,.ptr 1 0),(4,.ptr 2 0),(5,.dt (.row os)),(7,.ptr 3 0),(8,.dt (.row qs)),(10,inA i)],[wB es,some (.cells ((D9 form).map .dt)),some (.cells enZ),some (.cells (enF nm (.own 4 rs.length))),some (.buf 28 2 rs)]⟩
theorem Ia(n:aa0):S9 2 [L9 n]:=by
 intro x hx;rw[ut]at hx;subst hx;exact⟨rfl,fun d hd=>by simp only[Zao,ZaO,or_false]at hd;rcases hd with rfl | rfl <;> rfl⟩
noncomputable abbrev tu:Code:=V5 (ai f31) [1,1,1,1,0,1,0,0]
theorem b8q{es os qs:aa1}{form:Ob}{nm n:aa0}(hi:0 < qs.length)(hx:E5 qs 0 7 (D9 (Q5 n))):D7 (H9 1) tu (en0 es os form nm qs) .I4 (ji es os form nm qs [L9 n] 1) :=
 tW [.av (inA qs.length),yT,.av (.pin ((D9 (Q5 n)).map .dt)),.av (.un),.no] [] [0,3,4,5,7,8,10] 5 [(vi ↑qs.length)=(vi ↑qs.length),Bt .lss 3 35 37 0 ↑qs.length bT,_,X8 32 (([[Dt.val (str (Q5 n).sp),Dt.val (str (Q5 n).sn)]]).length),S9 2 [[(.val (str (Q5 n).sp)),(.val (str (Q5 n).sn))]]] ⟨rfl,F8 (UV J),hx,ig J I,Ia n,Z⟩
theorem b8r{es os qs rs:aa1}{form:Ob}{nm n:aa0}{i:Nat}(hi:i < qs.length)(hl:qs.length≤1000)(hr:rs.length≤1000)(hx:E5 qs (i:Int) 7 (D9 (Q5 n))):D7 (H9 1) tu (ji es os form nm qs rs i) .I4 (ji es os form nm qs (rs++[L9 n]) ((i+1:Nat):Int)) :=
 tW [.av (inA qs.length),yT,.av (.pin ((D9 (Q5 n)).map .dt)),.av (.un),.av (inA ((i+1:Nat):Int))] [] [0,3,4,5,7,8,10] 5 [(vi ↑qs.length)=(vi ↑qs.length),Bt .lss 3 35 37 ↑i ↑qs.length bT,_,(rs.length)=(rs.length),X8 32 ((rs++[[Dt.val (str (Q5 n).sp),Dt.val (str (Q5 n).sn)]]).length),S9 2 [[(.val (str (Q5 n).sp)),(.val (str (Q5 n).sn))]],Bk .add 3 39 1 ↑i (vi (↑(i+1)))] ⟨rfl,F8 (UV J),hx,rfl,ig J (by simp;omega),Ia n,N8 J J J,Z⟩
theorem b8s{es os qs rs:aa1}{form:Ob}{nm:aa0}{i:Nat}(hi:i=qs.length):D7 (H9 1) tu (ji es os form nm qs rs i) (.out 0) (ji es os form nm qs rs i) :=
 tW [.av (inA qs.length),yF] [] [0,3,4,5,7,8,10] 5 [(vi ↑qs.length)=(vi ↑qs.length),Bt .lss 3 35 37 ↑i ↑qs.length bF] ⟨rfl,F8 (WF J),Z⟩
theorem b0S{es os qs:aa1}{ps:List (aa0)}{nm:aa0}{form px b:Ob}{bt:Te}{k:Int}(h1:l7 63 [x9 form] (.o7 [.dt (.row os),o6 true]))(hx1:E5 os 1 7 (D9 (Q5 nm)))(hx2:E5 os 2 7 (D9 px))(h2:l7 63 [x9 px] (.o7 [.dt (.row qs),o6 true]))(hlp:D7 (H9 1) (.loop tu) (en0 es os form nm qs) (.out 0) (ji es os form nm qs (ps.map L9) k))(hz:E5 os (os.length - 1) 7 (D9 b))(hl:os.length≤1000)(hb:F7 65 [.own 0 es.length,.dt (.row [I8 ⟨nm,ps,G8,N9,N9⟩]),x9 b] [wB es] (.o7 [y9 bt,inA 0]) [wB es])(hg:l7 66 [.dt (.row os),stA y8.zS] (.o7 [x9 V9,o6 false]))(hm:l7 66 [.dt (.row os),stA y8.Ag] (.o7 [x9 V9,o6 false])):F7 31 [.own 0 es.length,x9 form] [wB es] (xI ⟨nm,ps,G8,bt,N9⟩) [wB es] :=
 sW 1 [0] [.av (.o7 [.dt (.row os),o6 true]),.av (.pin ((D9 (Q5 nm)).map .dt)),.av (x9 tO),.av (y9 G8),.av (.pin ((D9 px).map .dt)),.av (.o7 [.dt (.row qs),o6 true]),.av (inA os.length),.av (inA (os.length - 1)),.av (.pin ((D9 b).map .dt)),.av (.o7 [x9 V9,o6 false]),.av (.o7 [x9 V9,o6 false])] [.inv [0,3,4,5,7,8,10] 4 (.out 0) (ji es os form nm qs (ps.map L9) k),.P5 9 8 [0] (.o7 [y9 bt,inA 0]) [some (.buf 70 32 es)]] [_,_,_,l7 13 [(x9 tO)] (.agg [(inA 2),(stA G8.np),(stA G8.nn),(inA 2),(stA G8.val.num),(stA G8.val.den),(stA G8.val.sp),(stA G8.val.sn),(stA G8.val.text),(.dt (.row (List.map Ob.enc G8.val.pair))),(.dt (.row (List.map Te.enc G8.args)))]),_,_,_,((List.map L9 ps).length)=((List.map L9 ps).length),(vi ↑os.length)=(vi ↑os.length),Bk .sub 3 58 1 ↑os.length (vi (↑os.length - 1)),_,_,_,_,((List.map L9 ps).length)=((List.map L9 ps).length)] func31 ⟨h1,hx1,EO,lZ _,hx2,h2,hlp,rfl,rfl,dO rfl J J,hz,hb,hg,hm,rfl,Z⟩
theorem b0T{es os qs:aa1}{ps:List (aa0)}{nm:aa0}{form px b mo:Ob}{bt mt:Te}{k:Int}(h1:l7 63 [x9 form] (.o7 [.dt (.row os),o6 true]))(hx1:E5 os 1 7 (D9 (Q5 nm)))(hx2:E5 os 2 7 (D9 px))(h2:l7 63 [x9 px] (.o7 [.dt (.row qs),o6 true]))(hlp:D7 (H9 1) (.loop tu) (en0 es os form nm qs) (.out 0) (ji es os form nm qs (ps.map L9) k))(hz:E5 os (os.length - 1) 7 (D9 b))(hl:os.length≤1000)(hb:F7 65 [.own 0 es.length,.dt (.row [I8 ⟨nm,ps,G8,N9,N9⟩]),x9 b] [wB es] (.o7 [y9 bt,inA 0]) [wB es])(hg:l7 66 [.dt (.row os),stA y8.zS] (.o7 [x9 V9,o6 false]))(hm:l7 66 [.dt (.row os),stA y8.Ag] (.o7 [x9 mo,o6 true]))(hmt:F7 65 [.own 0 es.length,.dt (.row [I8 ⟨nm,ps,G8,N9,N9⟩]),x9 mo] [wB es] (.o7 [y9 mt,inA 0]) [wB es]):F7 31 [.own 0 es.length,x9 form] [wB es] (xI ⟨nm,ps,G8,bt,mt⟩) [wB es] :=
 sW 1 [0] [.av (.o7 [.dt (.row os),o6 true]),.av (.pin ((D9 (Q5 nm)).map .dt)),.av (x9 tO),.av (y9 G8),.av (.pin ((D9 px).map .dt)),.av (.o7 [.dt (.row qs),o6 true]),.av (inA os.length),.av (inA (os.length - 1)),.av (.pin ((D9 b).map .dt)),.av (.o7 [x9 V9,o6 false]),.av (.o7 [x9 mo,o6 true])] [.inv [0,3,4,5,7,8,10] 4 (.out 0) (ji es os form nm qs (ps.map L9) k),.P5 9 8 [0] (.o7 [y9 bt,inA 0]) [some (.buf 70 32 es)],.P5 15 3 [0] (.o7 [y9 mt,inA 0]) [some (.buf 70 32 es)]] [_,_,_,l7 13 [(x9 tO)] (.agg [(inA 2),(stA G8.np),(stA G8.nn),(inA 2),(stA G8.val.num),(stA G8.val.den),(stA G8.val.sp),(stA G8.val.sn),(stA G8.val.text),(.dt (.row (List.map Ob.enc G8.val.pair))),(.dt (.row (List.map Te.enc G8.args)))]),_,_,_,((List.map L9 ps).length)=((List.map L9 ps).length),(vi ↑os.length)=(vi ↑os.length),Bk .sub 3 58 1 ↑os.length (vi (↑os.length - 1)),_,_,_,_,_,((List.map L9 ps).length)=((List.map L9 ps).length)] func31 ⟨h1,hx1,EO,lZ _,hx2,h2,hlp,rfl,rfl,dO rfl J J,hz,hb,hg,hm,hmt,rfl,Z⟩
theorem b0U{es os qs:aa1}{ps:List (aa0)}{nm:aa0}{form px b go:Ob}{bt gt:Te}{k:Int}(h1:l7 63 [x9 form] (.o7 [.dt (.row os),o6 true]))(hx1:E5 os 1 7 (D9 (Q5 nm)))(hx2:E5 os 2 7 (D9 px))(h2:l7 63 [x9 px] (.o7 [.dt (.row qs),o6 true]))(hlp:D7 (H9 1) (.loop tu) (en0 es os form nm qs) (.out 0) (ji es os form nm qs (ps.map L9) k))(hz:E5 os (os.length - 1) 7 (D9 b))(hl:os.length≤1000)(hb:F7 65 [.own 0 es.length,.dt (.row [I8 ⟨nm,ps,G8,N9,N9⟩]),x9 b] [wB es] (.o7 [y9 bt,inA 0]) [wB es])(hg:l7 66 [.dt (.row os),stA y8.zS] (.o7 [x9 go,o6 true]))(hgt:F7 65 [.own 0 es.length,.dt (.row [I8 ⟨nm,ps,G8,N9,N9⟩]),x9 go] [wB es] (.o7 [y9 gt,inA 0]) [wB es])(hm:l7 66 [.dt (.row os),stA y8.Ag] (.o7 [x9 V9,o6 false])):F7 31 [.own 0 es.length,x9 form] [wB es] (xI ⟨nm,ps,gt,bt,N9⟩) [wB es] :=
 sW 1 [0] [.av (.o7 [.dt (.row os),o6 true]),.av (.pin ((D9 (Q5 nm)).map .dt)),.av (x9 tO),.av (y9 G8),.av (.pin ((D9 px).map .dt)),.av (.o7 [.dt (.row qs),o6 true]),.av (inA os.length),.av (inA (os.length - 1)),.av (.pin ((D9 b).map .dt)),.av (.o7 [x9 go,o6 true]),.av (.o7 [x9 V9,o6 false])] [.inv [0,3,4,5,7,8,10] 4 (.out 0) (ji es os form nm qs (ps.map L9) k),.P5 9 8 [0] (.o7 [y9 bt,inA 0]) [some (.buf 70 32 es)],.P5 12 3 [0] (.o7 [y9 gt,inA 0]) [some (.buf 70 32 es)]] [_,_,_,l7 13 [(x9 tO)] (.agg [(inA 2),(stA G8.np),(stA G8.nn),(inA 2),(stA G8.val.num),(stA G8.val.den),(stA G8.val.sp),(stA G8.val.sn),(stA G8.val.text),(.dt (.row (List.map Ob.enc G8.val.pair))),(.dt (.row (List.map Te.enc G8.args)))]),_,_,_,((List.map L9 ps).length)=((List.map L9 ps).length),(vi ↑os.length)=(vi ↑os.length),Bk .sub 3 58 1 ↑os.length (vi (↑os.length - 1)),_,_,_,_,_,((List.map L9 ps).length)=((List.map L9 ps).length)] func31 ⟨h1,hx1,EO,lZ _,hx2,h2,hlp,rfl,rfl,dO rfl J J,hz,hb,hg,hgt,hm,rfl,Z⟩
theorem b0V{es os qs:aa1}{ps:List (aa0)}{nm:aa0}{form px b go mo:Ob}{bt gt mt:Te}{k:Int}(h1:l7 63 [x9 form] (.o7 [.dt (.row os),o6 true]))(hx1:E5 os 1 7 (D9 (Q5 nm)))(hx2:E5 os 2 7 (D9 px))(h2:l7 63 [x9 px] (.o7 [.dt (.row qs),o6 true]))(hlp:D7 (H9 1) (.loop tu) (en0 es os form nm qs) (.out 0) (ji es os form nm qs (ps.map L9) k))(hz:E5 os (os.length - 1) 7 (D9 b))(hl:os.length≤1000)(hb:F7 65 [.own 0 es.length,.dt (.row [I8 ⟨nm,ps,G8,N9,N9⟩]),x9 b] [wB es] (.o7 [y9 bt,inA 0]) [wB es])(hg:l7 66 [.dt (.row os),stA y8.zS] (.o7 [x9 go,o6 true]))(hgt:F7 65 [.own 0 es.length,.dt (.row [I8 ⟨nm,ps,G8,N9,N9⟩]),x9 go] [wB es] (.o7 [y9 gt,inA 0]) [wB es])(hm:l7 66 [.dt (.row os),stA y8.Ag] (.o7 [x9 mo,o6 true]))(hmt:F7 65 [.own 0 es.length,.dt (.row [I8 ⟨nm,ps,G8,N9,N9⟩]),x9 mo] [wB es] (.o7 [y9 mt,inA 0]) [wB es]):F7 31 [.own 0 es.length,x9 form] [wB es] (xI ⟨nm,ps,gt,bt,mt⟩) [wB es] :=
 sW 1 [0] [.av (.o7 [.dt (.row os),o6 true]),.av (.pin ((D9 (Q5 nm)).map .dt)),.av (x9 tO),.av (y9 G8),.av (.pin ((D9 px).map .dt)),.av (.o7 [.dt (.row qs),o6 true]),.av (inA os.length),.av (inA (os.length - 1)),.av (.pin ((D9 b).map .dt)),.av (.o7 [x9 go,o6 true]),.av (.o7 [x9 mo,o6 true])] [.inv [0,3,4,5,7,8,10] 4 (.out 0) (ji es os form nm qs (ps.map L9) k),.P5 9 8 [0] (.o7 [y9 bt,inA 0]) [some (.buf 70 32 es)],.P5 12 3 [0] (.o7 [y9 gt,inA 0]) [some (.buf 70 32 es)],.P5 15 3 [0] (.o7 [y9 mt,inA 0]) [some (.buf 70 32 es)]] [_,_,_,l7 13 [(x9 tO)] (.agg [(inA 2),(stA G8.np),(stA G8.nn),(inA 2),(stA G8.val.num),(stA G8.val.den),(stA G8.val.sp),(stA G8.val.sn),(stA G8.val.text),(.dt (.row (List.map Ob.enc G8.val.pair))),(.dt (.row (List.map Te.enc G8.args)))]),_,_,_,((List.map L9 ps).length)=((List.map L9 ps).length),(vi ↑os.length)=(vi ↑os.length),Bk .sub 3 58 1 ↑os.length (vi (↑os.length - 1)),_,_,_,_,_,_,((List.map L9 ps).length)=((List.map L9 ps).length)] func31 ⟨h1,hx1,EO,lZ _,hx2,h2,hlp,rfl,rfl,dO rfl J J,hz,hb,hg,hgt,hm,hmt,rfl,Z⟩
theorem XG:∀{l:List Tr} {ps:List (aa0)},y8.JZ l=some ps→l=ps.map (Tr.sym x8 ·)
 |[],ps,h=>by cases h;rfl
 |.sym p n::r,ps,h=>by
  rw[y8.JZ]at h;split at h
  ·rename_i e;subst e;rw[ZaG]at h;obtain⟨qs,h1,rfl⟩:=h;rw[ZaC,←XG h1]
  ·cases h
 |.num _::_,_,h=>by cases h
 |.txt _::_,_,h=>by cases h
 |.cons _ _::_,_,h=>by cases h
theorem a0r{ps:List (aa0)}{i:Nat}{n:aa0}(h:ps[i]?=some n):E5 (G7 (ps.map (Tr.sym x8 ·))) (i:Int) 7 (D9 (Q5 n)):=⟨Int.natCast_nonneg _,by rw[Int.toNat_natCast];unfold G7;rw[Zag,Zag,h];rfl,rfl⟩
theorem b0W{es os:aa1}{form:Ob}{nm:aa0}{ps:List (aa0)}(hl:ps.length≤8):∀(s:List (aa0)) (i:Nat),ps.drop i=s→i≤ps.length→Lps (H9 1) tu (ji es os form nm (G7 (ps.map (Tr.sym x8 ·))) ((ps.take i).map L9) i) (.out 0) (ji es os form nm (G7 (ps.map (Tr.sym x8 ·))) (ps.map L9) ps.length):=by
 have hlo:(G7 (ps.map (Tr.sym x8 ·))).length=ps.length:=by unfold G7;rw[EQ,EQ]
 intro s
 induction s with
 |nil =>
  intro i hd hi;have e1:=congrArg List.length hd;rw[Za7,List.length_nil]at e1;obtain rfl:i=ps.length:=J;rw[List.take_length];exact .stop (b8s hlo.symm) (fun h=>by cases h)
 |cons x s ih =>
  intro i hd hi;have hx:ps[i]?=some x:=by rw[←Zak,hd];rfl
  have hlt:=(Pi.1 hx).1;have hs:=b8r (es:=es) (os:=os) (form:=form) (nm:=nm) (rs:=(ps.take i).map L9) J J (by rw[EQ,Zaz];omega) (a0r hx);have e:(ps.take i).map L9++[L9 x]=(ps.take (i+1)).map L9:=by rw[List.take_add_one,hx,ZaL];rfl
  rw[e]at hs;exact .more hs (ih (i+1) (by rw[←Zaj,hd];rfl) J)
theorem b0X{ws:List y8.H8}(hw:ws.length≤900){x:Tr}{f:y8.H8}(h:y8.entry I7 ws x=some f):F7 31 [.own 0 (ws.map I9).length,o9 x] [wB (ws.map I9)] (xI f) [wB (ws.map I9)]:=by
 unfold y8.entry at h;split at h
 case h_2=>cases h
 rename_i d p nm px y r hi;split at h
 case h_2=>cases h
 rename_i pl hpx;split at h
 case h_2=>cases h
 rename_i ps hps;split at h
 case isFalse=>cases h
 rename_i hc;obtain⟨rfl,hnm,hpn,hpl,hr⟩:=hc;split at h
 case h_2=>cases h
 rename_i bt gt mt hb hg hm;cases h;have hx:=wH hi;have hpx:=wH hpx;have hpl2:=XG hps;subst hpl2;subst hx;subst hpx;have hI:=zo (l:=d::Tr.sym x8 nm::Tr.list (ps.map (Tr.sym x8 ·))::y::r) (by simp only[Za1];omega);have hP:=zo (l:=ps.map (Tr.sym x8 ·)) (by rw[EQ];omega);have hL3:(d::Tr.sym x8 nm::Tr.list (ps.map (Tr.sym x8 ·))::y::r).drop 3=y::r:=rfl;have hLl:(d::Tr.sym x8 nm::Tr.list (ps.map (Tr.sym x8 ·))::y::r).length=r.length+4:=rfl;have hlast:(d::Tr.sym x8 nm::Tr.list (ps.map (Tr.sym x8 ·))::y::r)[r.length+3]?=some ((y::r).getLast I):=by
  show (y::r)[r.length]?=_;rw[List.getLast_eq_getElem,Za2 I];rfl
 generalize hLe:(d::Tr.sym x8 nm::Tr.list (ps.map (Tr.sym x8 ·))::y::r)=L at *;have hlo:(G7 L).length=r.length+4:=by unfold G7;rw[EQ,hLl]
 have hx1:E5 (G7 L) 1 7 (D9 (Q5 nm)):=by subst hLe;exact⟨O,rfl,rfl⟩
 have hx2:E5 (G7 L) 2 7 (D9 (Tr.list (ps.map (Tr.sym x8 ·))).ob):=by subst hLe;exact⟨O,rfl,rfl⟩
 have hz:E5 (G7 L) ((G7 L).length - 1) 7 (D9 ((y::r).getLast I).ob):=⟨J,by
  rw[hlo];have:((((r.length+4:Nat):Int) - 1)).toNat=r.length+3:=J;rw[this];unfold G7;rw[Zag,hlast];rfl,rfl⟩
 have hlp:D7 (H9 1) (.loop tu) (en0 (ws.map I9) (G7 L) (Tr.list L).ob nm (G7 (ps.map (Tr.sym x8 ·)))) (.out 0) (ji (ws.map I9) (G7 L) (Tr.list L).ob nm (G7 (ps.map (Tr.sym x8 ·))) (ps.map L9) ps.length):=by
  cases ps with
  |nil=>exact absurd rfl hpn
  |cons n0 ps' =>
   have hs:=b8q (es:=ws.map I9) (os:=G7 L) (form:=(Tr.list L).ob) (nm:=nm) (n:=n0) (qs:=G7 ((n0::ps').map (Tr.sym x8 ·))) (by simp[G7]) (a0r (i:=0) rfl);have hn:=b0W (es:=ws.map I9) (os:=G7 L) (form:=(Tr.list L).ob) (nm:=nm) hpl _ 1 rfl I;exact (Lps.more hs hn).tri
 have hT:∀{o:Tr} {t:Te},y8.Fv (y8.arity I7 ws nm ps) o=some t→F7 65 [.own 0 (ws.map I9).length,.dt (.row [I8 ⟨nm,ps,G8,N9,N9⟩]),o9 o] [wB (ws.map I9)] (.o7 [y9 t,inA 0]) [wB (ws.map I9)]:=fun h=>a8L (f:=⟨nm,ps,G8,N9,N9⟩) J h
 have hbS:=hT hb;have hll:(G7 L).length≤1000:=J;cases hgo:y8.option y8.zS (y::r) with
 |none=>rw[hgo]at hg;cases hg
 |some go =>
  rw[hgo]at hg;cases hmo:y8.option y8.Ag (y::r) with
  |none=>rw[hmo]at hm;cases hm
  |some mo =>
   rw[hmo]at hm;rw[←hL3]at hgo hmo;cases go with
   |none =>
    cases hg;have kg:=NP J J hgo;cases mo with
    |none =>
     cases hm;exact b0S hI hx1 hx2 hP hlp hz hll hbS kg (NP J J hmo)
    |some mo=>exact b0T hI hx1 hx2 hP hlp hz hll hbS kg (NM J J hmo) (hT hm)
   |some go =>
    have kg:=NM J J hgo;cases mo with
    |none =>
     cases hm;exact b0U hI hx1 hx2 hP hlp hz hll hbS kg (hT hg) (NP J J hmo)
    |some mo=>exact b0V hI hx1 hx2 hP hlp hz hll hbS kg (hT hg) (NM J J hmo) (hT hm)
theorem a8M:F7 8 [] [] (.own 0 25) [some (.buf 28 2 (I7.map mP))] :=
 sW 0 [0] ([.av (.dt (.row (I7.map bW))),.no,.no,.no,.av (y7 x8 [105,102])]++nK 5 (.av (y7 x8 [101,113,117,97,108])::nK 5 (.av (y7 x8 [99,111,110,115])::nK 5 (.av (y7 x8 [99,97,114])::nK 5 (.av (y7 x8 [99,100,114])::nK 5 (.av (y7 x8 [99,111,110,115,112])::nK 5 (.av (y7 x8 [115,121,109,98,111,108,112])::nK 5 (.av (y7 x8 [115,116,114,105,110,103,112])::nK 5 (.av (y7 x8 [114,97,116,105,111,110,97,108,112])::nK 5 (.av (y7 x8 [105,110,116,101,103,101,114,112])::nK 5 (.av (y7 x8 [98,105,110,97,114,121,45,43])::nK 5 (.av (y7 x8 [98,105,110,97,114,121,45,42])::nK 5 (.av (y7 x8 [117,110,97,114,121,45,45])::nK 5 (.av (y7 x8 [117,110,97,114,121,45,47])::nK 5 (.av (y7 x8 [60])::nK 5 (.av (y7 x8 [110,117,109,101,114,97,116,111,114])::nK 5 (.av (y7 x8 [100,101,110,111,109,105,110,97,116,111,114])::nK 5 (.av (y7 x8 [102,108,111,111,114])::nK 5 (.av (y7 x8 [115,121,109,98,111,108,45,110,97,109,101])::nK 5 (.av (y7 x8 [115,121,109,98,111,108,45,112,97,99,107,97,103,101,45,110,97,109,101])::nK 5 (.av (y7 x8 [105,110,116,101,114,110])::nK 5 (.av (y7 x8 [115,116,114,105,110,103,45,97,112,112,101,110,100])::nK 5 (.av (y7 x8 [115,116,114,105,110,103,45,108,101,110,103,116,104])::nK 5 (.av (y7 x8 [115,116,114,105,110,103,45,98,121,116,101])::nK 5 [.av (y7 x8 [98,121,116,101,45,115,116,114,105,110,103]),.no,.no])))))))))))))))))))))))) [.run 26] [_,l7 29 [(stA ([105,102],3).fst)] (y7 x8 [105,102]),l7 29 [(stA ([101,113,117,97,108],2).fst)] (y7 x8 [101,113,117,97,108]),l7 29 [(stA ([99,111,110,115],2).fst)] (y7 x8 [99,111,110,115]),l7 29 [(stA ([99,97,114],1).fst)] (y7 x8 [99,97,114]),l7 29 [(stA ([99,100,114],1).fst)] (y7 x8 [99,100,114]),l7 29 [(stA ([99,111,110,115,112],1).fst)] (y7 x8 [99,111,110,115,112]),l7 29 [(stA ([115,121,109,98,111,108,112],1).fst)] (y7 x8 [115,121,109,98,111,108,112]),l7 29 [(stA ([115,116,114,105,110,103,112],1).fst)] (y7 x8 [115,116,114,105,110,103,112]),l7 29 [(stA ([114,97,116,105,111,110,97,108,112],1).fst)] (y7 x8 [114,97,116,105,111,110,97,108,112]),l7 29 [(stA ([105,110,116,101,103,101,114,112],1).fst)] (y7 x8 [105,110,116,101,103,101,114,112]),l7 29 [(stA ([98,105,110,97,114,121,45,43],2).fst)] (y7 x8 [98,105,110,97,114,121,45,43]),l7 29 [(stA ([98,105,110,97,114,121,45,42],2).fst)] (y7 x8 [98,105,110,97,114,121,45,42]),l7 29 [(stA ([117,110,97,114,121,45,45],1).fst)] (y7 x8 [117,110,97,114,121,45,45]),l7 29 [(stA ([117,110,97,114,121,45,47],1).fst)] (y7 x8 [117,110,97,114,121,45,47]),l7 29 [(stA ([60],2).fst)] (y7 x8 [60]),l7 29 [(stA ([110,117,109,101,114,97,116,111,114],1).fst)] (y7 x8 [110,117,109,101,114,97,116,111,114]),l7 29 [(stA ([100,101,110,111,109,105,110,97,116,111,114],1).fst)] (y7 x8 [100,101,110,111,109,105,110,97,116,111,114]),l7 29 [(stA ([102,108,111,111,114],1).fst)] (y7 x8 [102,108,111,111,114]),l7 29 [(stA ([115,121,109,98,111,108,45,110,97,109,101],1).fst)] (y7 x8 [115,121,109,98,111,108,45,110,97,109,101]),l7 29 [(stA ([115,121,109,98,111,108,45,112,97,99,107,97,103,101,45,110,97,109,101],1).fst)] (y7 x8 [115,121,109,98,111,108,45,112,97,99,107,97,103,101,45,110,97,109,101]),l7 29 [(stA ([105,110,116,101,114,110],2).fst)] (y7 x8 [105,110,116,101,114,110]),l7 29 [(stA ([115,116,114,105,110,103,45,97,112,112,101,110,100],2).fst)] (y7 x8 [115,116,114,105,110,103,45,97,112,112,101,110,100]),l7 29 [(stA ([115,116,114,105,110,103,45,108,101,110,103,116,104],1).fst)] (y7 x8 [115,116,114,105,110,103,45,108,101,110,103,116,104]),l7 29 [(stA ([115,116,114,105,110,103,45,98,121,116,101],2).fst)] (y7 x8 [115,116,114,105,110,103,45,98,121,116,101]),l7 29 [(stA ([98,121,116,101,45,115,116,114,105,110,103],1).fst)] (y7 x8 [98,121,116,101,45,115,116,114,105,110,103])] func8 ⟨cZ,O1 _,O1 _,O1 _,O1 _,O1 _,O1 _,O1 _,O1 _,O1 _,O1 _,O1 _,O1 _,O1 _,O1 _,O1 _,O1 _,O1 _,O1 _,O1 _,O1 _,O1 _,O1 _,O1 _,O1 _,O1 _,Z⟩
def jX:List (aa0):=[[110,105,108],[116],[113,117,111,116,101],[108,101,116],[108,101,116,42],[99,111,110,100],[97,110,100],[111,114],[108,105,115,116],[108,105,115,116,42],[43],[42],[45],[47],[60,61],[62],[62,61],[97,112,112,101,110,100],[100,101,102,112,107,103],[100,101,102,109,97,99,114,111],[100,101,102,117,110],[109,117,116,117,97,108,45,114,101,99,117,114,115,105,111,110],[100,101,102,116,104,109],[101,110,99,97,112,115,117,108,97,116,101],[100,101,102,99,104,111,111,115,101],[100,101,102,115,116,111,98,106],[105,110,45,116,104,101,111,114,121],[105,110,99,108,117,100,101,45,98,111,111,107],[100,101,102,108,97,98,101,108],[117,110,100,111]]++([[100,101,102,105,110,115,116,97,110,99,101],[100,101,102,101,113,117,105,118],[100,101,102,112,114,111,99,101,115,115,111,114],[108,111,99,97,108],[100,101,99,108,97,114,101],[103,117,97,114,100],[109,101,97,115,117,114,101],[115,105,103,110,97,116,117,114,101],[114,101,115,116],[101,110,97,98,108,101],[100,105,115,97,98,108,101],[104,105,110,116,115],[117,115,101],[105,110,100,117,99,116],[119,105,116,104,111,117,116],[114,117,108,101,45,99,108,97,115,115,101,115],[114,101,119,114,105,116,101],[116,121,112,101,45,112,114,101,115,99,114,105,112,116,105,111,110],[102,111,114,119,97,114,100,45,99,104,97,105,110,105,110,103],[108,105,110,101,97,114],[101,108,105,109],[101,113,117,105,118,97,108,101,110,99,101],[99,111,110,103,114,117,101,110,99,101],[103,101,110,101,114,97,108,105,122,101],[112,114,111,99,101,115,115,111,114],[115,105,109,112,108,105,102,121],[100,101,115,116,114,117,99,116,111,114,115],[102,101,114,116,105,108,105,122,101],[103,101,110,101,114,97,108,105,122,97,116,105,111,110],[105,114,114,101,108,101,118,97,110,99,101],[105,110,100,117,99,116,105,111,110]]:List (aa0))
theorem Zd{b n:Nat}(hb:b≤100000)(h:n≤1000000):X8 b n:=⟨by show n≤2 ^ 63 - 1;omega,by
 have:=Nat.mul_le_mul h hb;omega⟩
abbrev tC(fs rs:aa1)(i:Int):AS:=⟨stt 47 [(1,.own 0 rs.length),(2,.dt (.row fs)),(3,inA i)],[some (.buf 28 2 rs)]⟩
noncomputable abbrev Lt:Code:=V5 (ai f32) [1,1,1,0,1,0,0]
theorem b8t{fs os rs:aa1}{n:aa0}{x:Ob}{i:Nat}(hi:i < fs.length)(hl:fs.length≤1000)(hr:rs.length≤1000)(hx:E5 fs (i:Int) 7 (D9 x))(h:l7 63 [x9 x] (.o7 [.dt (.row os),o6 true]))(hn:E5 os 1 7 (D9 (Q5 n))):D7 EX Lt (tC fs rs i) .I4 (tC fs (rs++[L9 n]) ((i+1:Nat):Int)) :=
 tW [.av (inA fs.length),yT,.av (.pin ((D9 x).map .dt)),.av (.o7 [.dt (.row os),o6 true]),.av (.pin ((D9 (Q5 n)).map .dt)),.av (.un),.av (inA ((i+1:Nat):Int))] [] [1,2,3] 1 [(vi ↑fs.length)=(vi ↑fs.length),Bt .lss 3 10 12 ↑i ↑fs.length bT,_,_,_,(rs.length)=(rs.length),X8 32 ((rs++[[Dt.val (str (Q5 n).sp),Dt.val (str (Q5 n).sn)]]).length),S9 2 [[(.val (str (Q5 n).sp)),(.val (str (Q5 n).sn))]],Bk .add 3 14 1 ↑i (vi (↑(i+1)))] ⟨rfl,F8 (UV J),hx,h,hn,rfl,ig J (by simp;omega),Ia n,N8 J J J,Z⟩
theorem b8u{fs rs:aa1}{i:Nat}(hi:i=fs.length):D7 EX Lt (tC fs rs i) (.out 0) (tC fs rs i) :=
 tW [.av (inA fs.length),yF] [] [1,2,3] 1 [(vi ↑fs.length)=(vi ↑fs.length),Bt .lss 3 10 12 ↑i ↑fs.length bF] ⟨rfl,F8 (WF J),Z⟩
abbrev xh(w:aa0):List Dt:=[.val (str w)]
abbrev tH(ws:List (aa0))(rs:aa1)(i:Int):AS:=⟨stt 47 [(1,.own 0 rs.length),(6,.aW (ws.map xh)),(7,inA i)],[some (.buf 28 2 rs)]⟩
noncomputable abbrev Lu:Code:=V5 (ai f32) [1,1,1,1,1,0,1,0,0]
theorem a2M(l:List (aa0)):Value.int .i64 (l.length:Int)=Value.int .i64 ((l.map xh).length:Int):=by rw[EQ]
theorem b8v{ws:List (aa0)}{i:Nat}{w:aa0}(h:ws[i]?=some w):E5 (ws.map xh) (i:Int) 1 (xh w):=⟨Int.natCast_nonneg _,by rw[Int.toNat_natCast,Zag,h];rfl,rfl⟩
theorem b8w{ws:List (aa0)}{rs:aa1}{w:aa0}{i:Nat}(hl:ws.length≤1000)(hr:rs.length≤1000)(hx:ws[i]?=some w):D7 EX Lu (tH ws rs i) .I4 (tH ws (rs++[L9 w]) ((i+1:Nat):Int)) :=
 have hi:=(Pi.1 hx).1
 tW [.av (inA ws.length),yT,.av (.pin [stA w]),.av (y7 x8 w),.av (.un),.av (inA ((i+1:Nat):Int))] [] [1,6,7] 1 [(vi ↑ws.length)=(vi (↑(List.map xh ws).length)),Bt .lss 3 32 34 ↑i ↑ws.length bT,E5 (List.map xh ws) ↑i 1 ([(.val (str w))]),l7 29 [(stA w)] (y7 x8 w),(rs.length)=(rs.length),X8 32 ((rs++[[Dt.val (str x8),Dt.val (str w)]]).length),S9 2 [[(.val (str x8)),(.val (str w))]],Bk .add 3 36 1 ↑i (vi (↑(i+1)))] ⟨a2M _,F8 (UV J),b8v hx,O1 _,rfl,ig J (by simp;omega),Ia w,N8 J J J,Z⟩
theorem b8x{ws:List (aa0)}{rs:aa1}{i:Nat}(hi:i=ws.length):D7 EX Lu (tH ws rs i) (.out 2) (tH ws rs i) :=
 tW [.av (inA ws.length),yF] [] [1,6,7] 1 [(vi ↑ws.length)=(vi (↑(List.map xh ws).length)),Bt .lss 3 32 34 ↑i ↑ws.length bF] ⟨a2M _,F8 (WF J),Z⟩
theorem b0Y{ws:List (aa0)}(hl:ws.length≤100):∀(s:List (aa0)) (i:Nat) (rs:aa1),ws.drop i=s→i≤ws.length→rs.length≤100+i→Lps EX Lu (tH ws rs i) (.out 2) (tH ws (rs++s.map L9) ws.length):=by
 intro s
 induction s with
 |nil =>
  intro i rs hd hi _;have e1:=congrArg List.length hd;rw[Za7,List.length_nil]at e1;obtain rfl:i=ws.length:=J;rw[Zb4,ZaI];exact .stop (b8x rfl) (fun h=>by cases h)
 |cons x s ih =>
  intro i rs hd hi hr;have hx:ws[i]?=some x:=by rw[←Zak,hd];rfl
  have hlt:=(Pi.1 hx).1;have hn:=ih (i+1) (rs++[L9 x]) (by rw[←Zaj,hd];rfl) J (by simp;omega);rw[Zah,List.singleton_append,←ZaC]at hn;exact .more (b8w J J hx) hn
theorem b0Z{fs rs:aa1}{k:Int}(hd:l7 30 [] (.dt (.row fs)))(h1:D7 EX (.loop Lt) (tC fs (I7.map mP) 0) (.out 0) (tC fs rs k))(h2:D7 EX (.loop Lu) (tH jX rs 0) (.out 2) (tH jX (rs++jX.map L9) jX.length)):l7 32 [] (.dt (.row (rs++jX.map L9))) :=
 pW [.av (.dt (.row fs))] [.P5 1 0 [] (.own 0 25) [some (.buf 28 2 (I7.map mP))],.inv [1,2,3] 1 (.out 0) (tC fs rs k),.inv [1,6,7] 1 (.out 2) (tH jX (rs++jX.map L9) jX.length)] [_,_,_,_,((rs++List.map L9 jX).length)=((rs++List.map L9 jX).length)] func32 ⟨a8M,hd,h1,h2,rfl,Z⟩
theorem a8N(f:y8.H8):S9 32 [I9 f]:=by
 intro x hx;rw[ut]at hx;subst hx;exact⟨rfl,fun d hd=>by
  have h:(I9 f).all Dt.one=true:=rfl;exact Zav.1 h d hd⟩
theorem XH(ns:aa1):S9 32 [bG ns]:=by
 intro x hx;rw[ut]at hx;subst hx;exact⟨rfl,fun d hd=>by
  have h:(bG ns).all Dt.one=true:=rfl;exact Zav.1 h d hd⟩
abbrev LC(fs:aa1):AS:=⟨stt 27 [(1,.nil),(2,.dt (.row fs)),(3,inA 0)],[]⟩
abbrev ny(fs es:aa1)(i:Int):AS:=⟨stt 27 [(1,.own 0 es.length),(2,.dt (.row fs)),(3,inA i)],[wB es]⟩
noncomputable abbrev yx:Code:=V5 (ai f7) [1,1,1,0,1,0,0]
theorem b8y{fs es:aa1}{x:Ob}{f:y8.H8}{i:Nat}(hi:i < fs.length)(hl:fs.length≤1000)(hr:es.length≤1000)(hx:E5 fs (i:Int) 7 (D9 x))(h:F7 31 [.own 0 es.length,x9 x] [wB es] (xI f) [wB es]):D7 EX yx (ny fs es i) .I4 (ny fs (es++[I9 f]) ((i+1:Nat):Int)) :=
 tW [.av (inA fs.length),yT,.av (.pin ((D9 x).map .dt)),.av (.un),.av (inA ((i+1:Nat):Int))] [.P5 6 6 [0] (xI f) [some (.buf 70 32 es)]] [1,2,3] 1 [(vi ↑fs.length)=(vi ↑fs.length),Bt .lss 3 5 7 ↑i ↑fs.length bT,_,_,(es.length)=(es.length),X8 568 ((es++[[Dt.val (vi 3),Dt.val (str x8),Dt.val (str f.nm),Dt.val (str []),Dt.row [],Dt.val (str []),Dt.val (str []),Dt.row [],Dt.val bF,Dt.val (vi 0),Dt.val (str []),Dt.val (str []),Dt.val (vi 0),Dt.val (str []),Dt.val (str []),Dt.val (str []),Dt.val (str []),Dt.val (str []),Dt.row [],Dt.row [],Dt.row [I8 f],Dt.row [],Dt.row [],Dt.row [],Dt.val (str []),Dt.val (str []),Dt.row [],Dt.row [],Dt.row [],Dt.row [],Dt.val (str []),Dt.val (Value.int .u64 0)]]).length),S9 32 [I9 f],Bk .add 3 9 1 ↑i (vi (↑(i+1)))] ⟨rfl,F8 (UV J),hx,h,rfl,Zd J (by simp;omega),a8N f,N8 J J J,Z⟩
theorem b8z{fs es:aa1}{i:Nat}(hi:i=fs.length):D7 EX yx (ny fs es i) (.out 0) (ny fs es i) :=
 tW [.av (inA fs.length),yF] [] [1,2,3] 1 [(vi ↑fs.length)=(vi ↑fs.length),Bt .lss 3 5 7 ↑i ↑fs.length bF] ⟨rfl,F8 (WF J),Z⟩
theorem b03{fs es ns:aa1}{k:Int}(hd:l7 30 [] (.dt (.row fs)))(hlp:D7 EX (.loop yx) (LC fs) (.out 0) (ny fs es k))(hn:l7 32 [] (.dt (.row ns)))(hl:es.length≤1000):l7 7 [] (.dt (.row (es++[bG ns]))) :=
 pW [.av (.dt (.row fs)),.av (y7 x8 [117,115,101,114,45,112,97,99,107,97,103,101]),.av (.dt (.row ns)),.av (.un)] [.inv [1,2,3] 0 (.out 0) (ny fs es k)] [_,_,l7 29 [(stA [117,115,101,114,45,112,97,99,107,97,103,101])] (y7 x8 [117,115,101,114,45,112,97,99,107,97,103,101]),_,(es.length)=(es.length),X8 568 ((es++[[Dt.val (vi 1),Dt.val (str x8),Dt.val (str [117,115,101,114,45,112,97,99,107,97,103,101]),Dt.val (Value.string { data:=#[117,115,101,114]:ByteArray }),Dt.row ns,Dt.val (Value.string { data:=#[]:ByteArray }),Dt.val (Value.string { data:=#[]:ByteArray }),Dt.row [],Dt.val bF,Dt.val (vi 0),Dt.val (Value.string { data:=#[]:ByteArray }),Dt.val (Value.string { data:=#[]:ByteArray }),Dt.val (vi 0),Dt.val (Value.string { data:=#[]:ByteArray }),Dt.val (Value.string { data:=#[]:ByteArray }),Dt.val (Value.string { data:=#[]:ByteArray }),Dt.val (Value.string { data:=#[]:ByteArray }),Dt.val (Value.string { data:=#[]:ByteArray }),Dt.row [],Dt.row [],Dt.row [],Dt.row [],Dt.row [],Dt.row [],Dt.val (Value.string { data:=#[]:ByteArray }),Dt.val (Value.string { data:=#[]:ByteArray }),Dt.row [],Dt.row [],Dt.row [],Dt.row [],Dt.val (Value.string { data:=#[]:ByteArray }),Dt.val (Value.int .u64 0)]]).length),S9 32 [[(.val (vi 1)),(.val (str x8)),(.val (str [117,115,101,114,45,112,97,99,107,97,103,101])),(.val (str [117,115,101,114])),(.row ns),(.val (str [])),(.val (str [])),(.row []),(.val bF),(.val (vi 0)),(.val (str [])),(.val (str [])),(.val (vi 0)),(.val (str [])),(.val (str [])),(.val (str [])),(.val (str [])),(.val (str [])),(.row []),(.row []),(.row []),(.row []),(.row []),(.row []),(.val (str [])),(.val (str [])),(.row []),(.row []),(.row []),(.row []),(.val (str [])),(.val (Value.int .u64 0))]],((es++[[Dt.val (vi 1),Dt.val (str x8),Dt.val (str [117,115,101,114,45,112,97,99,107,97,103,101]),Dt.val (Value.string { data:=#[117,115,101,114]:ByteArray }),Dt.row ns,Dt.val (Value.string { data:=#[]:ByteArray }),Dt.val (Value.string { data:=#[]:ByteArray }),Dt.row [],Dt.val bF,Dt.val (vi 0),Dt.val (Value.string { data:=#[]:ByteArray }),Dt.val (Value.string { data:=#[]:ByteArray }),Dt.val (vi 0),Dt.val (Value.string { data:=#[]:ByteArray }),Dt.val (Value.string { data:=#[]:ByteArray }),Dt.val (Value.string { data:=#[]:ByteArray }),Dt.val (Value.string { data:=#[]:ByteArray }),Dt.val (Value.string { data:=#[]:ByteArray }),Dt.row [],Dt.row [],Dt.row [],Dt.row [],Dt.row [],Dt.row [],Dt.val (Value.string { data:=#[]:ByteArray }),Dt.val (Value.string { data:=#[]:ByteArray }),Dt.row [],Dt.row [],Dt.row [],Dt.row [],Dt.val (Value.string { data:=#[]:ByteArray }),Dt.val (Value.int .u64 0)]]).length)=((es++[[Dt.val (vi 1),Dt.val (str x8),Dt.val (str [117,115,101,114,45,112,97,99,107,97,103,101]),Dt.val (Value.string { data:=#[117,115,101,114]:ByteArray }),Dt.row ns,Dt.val (Value.string { data:=#[]:ByteArray }),Dt.val (Value.string { data:=#[]:ByteArray }),Dt.row [],Dt.val bF,Dt.val (vi 0),Dt.val (Value.string { data:=#[]:ByteArray }),Dt.val (Value.string { data:=#[]:ByteArray }),Dt.val (vi 0),Dt.val (Value.string { data:=#[]:ByteArray }),Dt.val (Value.string { data:=#[]:ByteArray }),Dt.val (Value.string { data:=#[]:ByteArray }),Dt.val (Value.string { data:=#[]:ByteArray }),Dt.val (Value.string { data:=#[]:ByteArray }),Dt.row [],Dt.row [],Dt.row [],Dt.row [],Dt.row [],Dt.row [],Dt.val (Value.string { data:=#[]:ByteArray }),Dt.val (Value.string { data:=#[]:ByteArray }),Dt.row [],Dt.row [],Dt.row [],Dt.row [],Dt.val (Value.string { data:=#[]:ByteArray }),Dt.val (Value.int .u64 0)]]).length)] func7 ⟨hd,hlp,O1 _,hn,rfl,Zd J (by simp;omega),XH ns,rfl,Z⟩
theorem a5T{ws:List y8.H8}{x:Tr}{f:y8.H8}(h:y8.entry I7 ws x=some f):∃d r,r.length≤200∧x=Tr.list (d::Tr.sym x8 f.nm::r):=by
 unfold y8.entry at h;split at h
 case h_2=>cases h
 rename_i d p nm px y r hi;split at h
 case h_2=>cases h
 split at h
 case h_2=>cases h
 split at h
 case isFalse=>cases h
 rename_i hc;obtain⟨rfl,hnm,hpn,hpl,hr⟩:=hc;split at h
 case h_2=>cases h
 cases h;exact⟨d,px::y::r,by simp only[Za1];omega,wH hi⟩
theorem Ze{L:List Tr}{i:Nat}{x:Tr}(h:L[i]?=some x):E5 (G7 L) (i:Int) 7 (D9 x.ob):=⟨Int.natCast_nonneg _,by rw[Int.toNat_natCast];unfold G7;rw[Zag,h];rfl,rfl⟩
theorem Zf{L:List Tr}(hl:L.length≤100){wf:List y8.H8}:∀(s:List Tr) (i:Nat) (ws:List y8.H8),L.drop i=s→i≤L.length→ws.length=i→y8.world I7 s ws=some wf→Lps EX yx (ny (G7 L) (ws.map I9) i) (.out 0) (ny (G7 L) (wf.map I9) L.length):=by
 have hlo:(G7 L).length=L.length:=by unfold G7;rw[EQ]
 intro s
 induction s with
 |nil =>
  intro i ws hd hi hw h;cases h;have e1:=congrArg List.length hd;rw[Za7,List.length_nil]at e1;obtain rfl:i=L.length:=J;exact .stop (b8z hlo.symm) (fun h=>by cases h)
 |cons x s ih =>
  intro i ws hd hi hw h;rw[y8.world]at h;split at h
  case h_2=>cases h
  rename_i f hf;have hx:L[i]?=some x:=by rw[←Zak,hd];rfl
  have hlt:=(Pi.1 hx).1;have hs:=b8y (fs:=G7 L) (es:=ws.map I9) (i:=i) J J (by rw[EQ];omega) (Ze hx) (b0X J hf);have e:ws.map I9++[I9 f]=(ws++[f]).map I9:=by rw[ZaL];rfl
  rw[e]at hs;exact .more hs (ih (i+1) (ws++[f]) (by rw[←Zaj,hd];rfl) hlt (by simp[hw]) h)
theorem b04{L:List Tr}(hl:L.length≤100){wf:List y8.H8}:∀(s:List Tr) (i:Nat) (ws:List y8.H8),L.drop i=s→i≤L.length→ws.length=i→y8.world I7 s ws=some wf→Lps EX Lt (tC (G7 L) (I7.map mP++ws.map fun f=>L9 f.nm) i) (.out 0) (tC (G7 L) (I7.map mP++wf.map fun f=>L9 f.nm) L.length):=by
 have hlo:(G7 L).length=L.length:=by unfold G7;rw[EQ]
 have hpl:I7.length=25:=rfl;intro s
 induction s with
 |nil =>
  intro i ws hd hi hw h;cases h;have e1:=congrArg List.length hd;rw[Za7,List.length_nil]at e1;obtain rfl:i=L.length:=J;exact .stop (b8u hlo.symm) (fun h=>by cases h)
 |cons x s ih =>
  intro i ws hd hi hw h;rw[y8.world]at h;split at h
  case h_2=>cases h
  rename_i f hf;have hx:L[i]?=some x:=by rw[←Zak,hd];rfl
  have hlt:=(Pi.1 hx).1;obtain⟨d,r,hr,hxe⟩:=a5T hf;have hI:=zo (l:=d::Tr.sym x8 f.nm::r) (by simp only[Za1];omega);rw[←hxe]at hI;have hs:=b8t (fs:=G7 L) (rs:=I7.map mP++ws.map fun f=>L9 f.nm) (i:=i) J J (by rw[Za4,EQ,EQ];omega) (Ze hx) hI (b3w _ _ _);have e:(I7.map mP++ws.map fun f=>L9 f.nm)++[L9 f.nm]=I7.map mP++(ws++[f]).map fun f=>L9 f.nm:=by rw[Zah,ZaL];rfl
  rw[e]at hs;exact .more hs (ih (i+1) (ws++[f]) (by rw[←Zaj,hd];rfl) hlt (by simp[hw]) h)
def F9:List y8.H8:=(y8.world I7 forms []).getD []
theorem NQ:y8.world I7 forms []=some F9:=by
 have h:(y8.world I7 forms []).isSome=true:=by decide +kernel
 obtain⟨l,hl⟩:=Option.isSome_iff_exists.1 h;unfold F9;rw[hl];rfl
theorem lW:F9.length=28:=by decide +kernel
theorem a6u:jX.length=61:=by decide +kernel
def kZ:aa1:=(I7.map mP++F9.map fun f=>L9 f.nm)++jX.map L9
theorem OA:forms.length≤100:=by rw[WS];decide
theorem WT:l7 32 [] (.dt (.row kZ)):=by
 have h1:=(b04 OA forms 0 [] rfl (ww _) rfl NQ).tri;have h2:=(b0Y (ws:=jX) (by rw[a6u];decide) jX 0 (I7.map mP++F9.map fun f=>L9 f.nm) rfl (ww _) (by rw[Za4,EQ,EQ,lW];decide)).tri;rw[Zb4,ZaI]at h1;exact b0Z MQ h1 h2
def fJ:aa1:=F9.map I9++[bG kZ]
theorem b05:l7 7 [] (.dt (.row fJ)):=by
 have h:=(Zf OA forms 0 [] rfl (ww _) rfl NQ).tri;have ht:D7 EX (.loop yx) (LC (G7 forms)) (.out 0) (ny (G7 forms) (F9.map I9) forms.length):=D7.aS 1 70 32 (by show 1 < 27;omega) rfl h;exact b03 MQ ht WT (by rw[EQ,lW];decide)
theorem b8A{es is:aa1}{n:aa0}{i:Nat}(h:E5 es (i:Int) 32 (bG is))(hi:i < es.length)(hl:es.length≤1000):D7 EX sV (iM es n i) .I4 (iM es n ((i+1:Nat):Int)) :=
 tW [.av (inA es.length),yT,.av (.pin ((bG is).map .dt)),.av (.dt (.row [])),.no,.no,.av (inA ((i+1:Nat):Int))] [.run 1] [0,3,7] 1 [(vi ↑es.length)=(vi ↑es.length),Bt .lss 3 10 12 ↑i ↑es.length bT,E5 es ↑i 32 ([(.val (vi 1)),(.val (str x8)),(.val (str [117,115,101,114,45,112,97,99,107,97,103,101])),(.val (str [117,115,101,114])),(.row is),(.val (str [])),(.val (str [])),(.row []),(.val bF),(.val (vi 0)),(.val (str [])),(.val (str [])),(.val (vi 0)),(.val (str [])),(.val (str [])),(.val (str [])),(.val (str [])),(.val (str [])),(.row []),(.row []),(.row []),(.row []),(.row []),(.row []),(.val (str [])),(.val (str [])),(.row []),(.row []),(.row []),(.row []),(.val (str [])),(.val (Value.int .u64 0))]),l7 115 [(.agg [(inA 1),(stA x8),(stA [117,115,101,114,45,112,97,99,107,97,103,101]),(stA [117,115,101,114]),(.dt (.row is)),(stA []),(stA []),(.dt (.row [])),(o6 false),(inA 0),(stA []),(stA []),(inA 0),(stA []),(stA []),(stA []),(stA []),(stA []),(.dt (.row [])),(.dt (.row [])),(.dt (.row [])),(.dt (.row [])),(.dt (.row [])),(.dt (.row [])),(stA []),(stA []),(.dt (.row [])),(.dt (.row [])),(.dt (.row [])),(.dt (.row [])),(stA []),(.dt (.val (Value.int .u64 0)))])] (.dt (.row [])),Bk .add 3 14 1 ↑i (vi (↑(i+1)))]     ⟨rfl,F8 (UV J),h,b0M is,N8 J J J,Z⟩
theorem b8B{es:aa1}{n:aa0}{i:Nat}(hi:i=es.length):D7 EX sV (iM es n i) (.out 0) (iM es n i) :=
 tW [.av (inA es.length),yF] [] [0,3,7] 1 [(vi ↑es.length)=(vi ↑es.length),Bt .lss 3 10 12 ↑i ↑es.length bF]     ⟨rfl,F8 (WF J),Z⟩
theorem b3L{es:aa1}{n:aa0}{k:Int}(h:D7 EX (.loop sV) (iM es n 0) (.out 0) (iM es n k)):l7 114 [.dt (.row es),y7 x8 n] (.o7 [inA 0,inA 0,o6 false]) :=
 pW [] [.inv [0,3,7] 1 (.out 0) (iM es n k)] [_] func114 ⟨h,Z⟩
abbrev encZ:List Dt:=[.val (str []),.val (str []),.row [],.val (.int .i64 0)]++(C9 N9++(C9 N9++C9 N9))
theorem JD(f:y8.H8):l7 75 [.agg ((I9 f).map .dt)] (.dt (.row [I8 f])) :=
 pV [.no] [] func75 trivial
theorem a0s(is:aa1):l7 75 [.agg ((bG is).map .dt)] (.dt (.row [])) :=
 pV (nK 4 []) [] func75 trivial
abbrev UD(n:aa0):AV:=.ak 111 [.pin [stA x8,stA n]]
theorem a1H{f:y8.H8}{n:aa0}{b:Bool}(h:(decide (x8=x8) && decide (f.nm=n))=b):l7 111 [.agg ((I8 f).map .dt),.pin [stA x8,stA n]] (o6 b) :=
 pV [.av (o6 b)] [Bn .eql 28 (.tmp 5) (.tmp 6) (Value.agg #[str x8,str f.nm]) (Value.agg #[str x8,str n]) (Value.bool b)] func111 ⟨aO h,Z⟩
theorem a8O{n:aa0}:l7 110 [.dt (.row []),UD n] (.o7 [inA 0,o6 false]) :=
 pW [.no,.no] [.run 1] [] func110 trivial
theorem a8P{f:y8.H8}{n:aa0}(h:l7 111 [.agg ((I8 f).map .dt),.pin [stA x8,stA n]] (o6 true)):l7 110 [.dt (.row [I8 f]),UD n] (.o7 [inA 0,o6 true]) :=
 pW [.no,.no,.no,yT] [.run 1] [_] func110 ⟨h,Z⟩
theorem a8Q{f:y8.H8}{n:aa0}(h:l7 111 [.agg ((I8 f).map .dt),.pin [stA x8,stA n]] (o6 false)):l7 110 [.dt (.row [I8 f]),UD n] (.o7 [inA 0,o6 false]) :=
 pW [.no,.no,.no,yF,.no,.no] [.run 2] [_] func110 ⟨h,Z⟩
abbrev kM(es:aa1)(n:aa0)(i:Int):AS:=⟨stt 29 [(3,.ptr 0 0),(11,.dt (.row es)),(12,inA es.length),(13,inA i)],[some (.cells [stA x8,stA n])]⟩
abbrev LD(n:aa0)(i:Int):AS:=⟨stt 29 [(4,inA i),(5,inA 0),(6,o6 true)],[some (.cells [stA x8,stA n])]⟩
noncomputable abbrev gW:Code:=V5 (ai f74) [1,0,1,0,0]
theorem a2N{es:aa1}{n:aa0}{i:Nat}{f:y8.H8}(h:E5 es (i:Int) 32 (I9 f))(hi:i < es.length)(hl:es.length≤1000)(hn:¬f.nm=n):D7 EX gW (kM es n i) .I4 (kM es n ((i+1:Nat):Int)) :=
 tW [yT,.av (.pin ((I9 f).map .dt)),.av (.dt (.row [I8 f])),.av (.o7 [inA 0,o6 false]),.av (inA ((i+1:Nat):Int))] [] [3,11,12,13] 1 [Bt .lss 3 13 12 ↑i ↑es.length bT,_,l7 75 [(.agg ((I9 f).map .dt))] (.dt (.row [I8 f])),l7 110 [(.dt (.row [I8 f])),(.ak 111 [(.pin [(stA x8),(stA n)])])] (.o7 [(inA 0),(o6 false)]),Bk .add 3 13 1 ↑i (vi (↑(i+1)))] ⟨F8 (UV J),h,JD f,a8Q (a1H (by rw[WF hn,Bool.and_false])),N8 J J J,Z⟩
theorem b8C{es:aa1}{n:aa0}{i:Nat}{f:y8.H8}(h:E5 es (i:Int) 32 (I9 f))(hi:i < es.length)(hn:f.nm=n):D7 EX gW (kM es n i) .ret (LD n i) :=
 tW [yT,.av (.pin ((I9 f).map .dt)),.av (.dt (.row [I8 f])),.av (.o7 [inA 0,o6 true])] [] [4,5,6] 1 [Bt .lss 3 13 12 ↑i ↑es.length bT,_,l7 75 [(.agg ((I9 f).map .dt))] (.dt (.row [I8 f])),l7 110 [(.dt (.row [I8 f])),(.ak 111 [(.pin [(stA x8),(stA n)])])] (.o7 [(inA 0),(o6 true)])] ⟨F8 (UV J),h,JD f,a8P (a1H (by rw[UV hn];rfl)),Z⟩
theorem b06{ws:List y8.H8}{r:aa1}{n:aa0}{f:y8.H8}(hl:(ws.map I9++r).length≤1000):∀(s:List y8.H8) (i:Nat),ws.drop i=s→(s.find? fun f=>f.nm == n)=some f→∃j:Nat,ws[j]?=some f∧Lps EX gW (kM (ws.map I9++r) n i) .ret (LD n j):=by
 intro s
 induction s with
 |nil=>intro i _ h;cases h
 |cons x s ih =>
  intro i hd h;have hx:ws[i]?=some x:=by rw[←Zak,hd];rfl
  have hlt:=(Pi.1 hx).1;have hi:i < (ws.map I9++r).length:=by rw[Za4,EQ];omega
  rw[List.find?_cons]at h;split at h
  ·rename_i e;cases h;exact⟨i,hx,.stop (b8C (rW hx) hi (by simpa using e)) (fun h=>by cases h)⟩
  ·rename_i e;obtain⟨j,k1,k2⟩:=ih (i+1) (by rw[←Zaj,hd];rfl) h;exact⟨j,k1,.more (a2N (rW hx) hi hl (by simpa using e)) k2⟩
theorem b5P{es:aa1}{n:aa0}{j:Nat}(h:D7 EX (.loop gW) (kM es n 0) .ret (LD n j)):l7 74 [.dt (.row es),y7 x8 n] (.o7 [inA j,inA 0,o6 true]) :=
 pW [.av (inA es.length)] [.inv [3,11,12,13] 1 (.ret) (LD n j)] [(vi ↑es.length)=(vi ↑es.length),_] func74 ⟨rfl,h,Z⟩
theorem b07{es:aa1}{n:aa0}{j:Nat}{f:y8.H8}(ht:l7 74 [.dt (.row es),y7 x8 n] (.o7 [inA j,inA 0,o6 true]))(h:E5 es (j:Int) 32 (I9 f)):l7 39 [.dt (.row es),y7 x8 n] (.o7 [.agg ((I8 f).map .dt),o6 true]) :=
 pV [.av (.o7 [inA j,inA 0,o6 true]),.av (.pin ((I9 f).map .dt)),.av (.dt (.row [I8 f])),.no] [_,_,l7 75 [(.agg ((I9 f).map .dt))] (.dt (.row [I8 f]))] func39 ⟨ht,h,JD f,Z⟩
theorem OB{ws:List y8.H8}{r:aa1}{n:aa0}{f:y8.H8}(hl:(ws.map I9++r).length≤1000)(hf:(ws.find? fun f=>f.nm == n)=some f):l7 39 [.dt (.row (ws.map I9++r)),y7 x8 n] (.o7 [.agg ((I8 f).map .dt),o6 true]):=by
 obtain⟨j,hj,h⟩:=b06 (r:=r) hl ws 0 rfl hf;exact b07 (j:=j) (b5P h.tri) (rW hj)
end Go.Proofs.YthhknjlmjefklaaGreatDoor
namespace Go.Proofs.YthhknjlmjefklaaGreatDoor
open Go.Proofs.Tryz
open Go.RowKit
theorem RV.sy{M:Mm}{w:World}{p n:aa0}{v:Value}(h:RV M w (y7 p n) v):v=.agg #[str p,str n]:=by
 obtain⟨vs,rfl,u0,_,rfl,h0,u1,_,rfl,h1,rfl⟩:=h;rw[Rd.Z9 h0,Rd.Z9 h1]
theorem IX:l7 38 [y7 x8 [105,102]] (.o7 [inA 3,o6 true]):=pV [] [] func38 trivial
theorem QA:l7 38 [y7 x8 [101,113,117,97,108]] (.o7 [inA 2,o6 true]):=pV [] [] func38 trivial
theorem IY:l7 38 [y7 x8 [99,111,110,115]] (.o7 [inA 2,o6 true]):=pV [] [] func38 trivial
theorem QB:l7 38 [y7 x8 [99,97,114]] (.o7 [inA 1,o6 true]):=pV [] [] func38 trivial
theorem QC:l7 38 [y7 x8 [99,100,114]] (.o7 [inA 1,o6 true]):=pV [] [] func38 trivial
theorem QD:l7 38 [y7 x8 [99,111,110,115,112]] (.o7 [inA 1,o6 true]):=pV [] [] func38 trivial
theorem QE:l7 38 [y7 x8 [115,121,109,98,111,108,112]] (.o7 [inA 1,o6 true]):=pV [] [] func38 trivial
theorem QF:l7 38 [y7 x8 [115,116,114,105,110,103,112]] (.o7 [inA 1,o6 true]):=pV [] [] func38 trivial
theorem QG:l7 38 [y7 x8 [114,97,116,105,111,110,97,108,112]] (.o7 [inA 1,o6 true]):=pV [] [] func38 trivial
theorem QH:l7 38 [y7 x8 [105,110,116,101,103,101,114,112]] (.o7 [inA 1,o6 true]):=pV [] [] func38 trivial
theorem Iq:l7 38 [y7 x8 [98,105,110,97,114,121,45,43]] (.o7 [inA 2,o6 true]):=pV [] [] func38 trivial
theorem Ir:l7 38 [y7 x8 [98,105,110,97,114,121,45,42]] (.o7 [inA 2,o6 true]):=pV [] [] func38 trivial
theorem PG:l7 38 [y7 x8 [117,110,97,114,121,45,45]] (.o7 [inA 1,o6 true]):=pV [] [] func38 trivial
theorem PH:l7 38 [y7 x8 [117,110,97,114,121,45,47]] (.o7 [inA 1,o6 true]):=pV [] [] func38 trivial
theorem PI:l7 38 [y7 x8 [60]] (.o7 [inA 2,o6 true]):=pV [] [] func38 trivial
theorem PK:l7 38 [y7 x8 [110,117,109,101,114,97,116,111,114]] (.o7 [inA 1,o6 true]):=pV [] [] func38 trivial
theorem PL:l7 38 [y7 x8 [100,101,110,111,109,105,110,97,116,111,114]] (.o7 [inA 1,o6 true]):=pV [] [] func38 trivial
theorem PM:l7 38 [y7 x8 [102,108,111,111,114]] (.o7 [inA 1,o6 true]):=pV [] [] func38 trivial
theorem PN:l7 38 [y7 x8 [115,121,109,98,111,108,45,110,97,109,101]] (.o7 [inA 1,o6 true]):=pV [] [] func38 trivial
theorem PO:l7 38 [y7 x8 [115,121,109,98,111,108,45,112,97,99,107,97,103,101,45,110,97,109,101]] (.o7 [inA 1,o6 true]):=pV [] [] func38 trivial
theorem PQ:l7 38 [y7 x8 [105,110,116,101,114,110]] (.o7 [inA 2,o6 true]):=pV [] [] func38 trivial
theorem Iu:l7 38 [y7 x8 [115,116,114,105,110,103,45,97,112,112,101,110,100]] (.o7 [inA 2,o6 true]):=pV [] [] func38 trivial
theorem PR:l7 38 [y7 x8 [115,116,114,105,110,103,45,108,101,110,103,116,104]] (.o7 [inA 1,o6 true]):=pV [] [] func38 trivial
theorem Iw:l7 38 [y7 x8 [115,116,114,105,110,103,45,98,121,116,101]] (.o7 [inA 2,o6 true]):=pV [] [] func38 trivial
theorem PS:l7 38 [y7 x8 [98,121,116,101,45,115,116,114,105,110,103]] (.o7 [inA 1,o6 true]):=pV [] [] func38 trivial
theorem a0t{n:aa0}(hn:∀x∈I7,n≠x.1):l7 38 [y7 x8 n] (.o7 [inA 0,o6 false]):=pV [.no,yF,yF,yF,yF,yF,yF,yF,yF,yF,yF,yF,yF,yF,yF,yF,yF,yF,yF,yF,yF,yF,yF,yF,yF,yF] [Bl .eql 9 8 [105,102] n bF,Bl .eql 9 8 [101,113,117,97,108] n bF,Bl .eql 9 8 [99,111,110,115] n bF,Bl .eql 9 8 [98,105,110,97,114,121,45,43] n bF,Bl .eql 9 8 [98,105,110,97,114,121,45,42] n bF,Bl .eql 9 8 [60] n bF,Bl .eql 9 8 [105,110,116,101,114,110] n bF,Bl .eql 9 8 [115,116,114,105,110,103,45,97,112,112,101,110,100] n bF,Bl .eql 9 8 [115,116,114,105,110,103,45,98,121,116,101] n bF,Bl .eql 9 8 [99,97,114] n bF,Bl .eql 9 8 [99,100,114] n bF,Bl .eql 9 8 [99,111,110,115,112] n bF,Bl .eql 9 8 [115,121,109,98,111,108,112] n bF,Bl .eql 9 8 [115,116,114,105,110,103,112] n bF,Bl .eql 9 8 [114,97,116,105,111,110,97,108,112] n bF,Bl .eql 9 8 [105,110,116,101,103,101,114,112] n bF,Bl .eql 9 8 [117,110,97,114,121,45,45] n bF,Bl .eql 9 8 [117,110,97,114,121,45,47] n bF,Bl .eql 9 8 [110,117,109,101,114,97,116,111,114] n bF,Bl .eql 9 8 [100,101,110,111,109,105,110,97,116,111,114] n bF,Bl .eql 9 8 [102,108,111,111,114] n bF,Bl .eql 9 8 [115,121,109,98,111,108,45,110,97,109,101] n bF,Bl .eql 9 8 [115,121,109,98,111,108,45,112,97,99,107,97,103,101,45,110,97,109,101] n bF,Bl .eql 9 8 [115,116,114,105,110,103,45,108,101,110,103,116,104] n bF,Bl .eql 9 8 [98,121,116,101,45,115,116,114,105,110,103] n bF] func38 ⟨L6 (WF (hn ([105,102],3) O)),L6 (WF (hn ([101,113,117,97,108],2) O)),L6 (WF (hn ([99,111,110,115],2) O)),L6 (WF (hn ([98,105,110,97,114,121,45,43],2) O)),L6 (WF (hn ([98,105,110,97,114,121,45,42],2) O)),L6 (WF (hn ([60],2) O)),L6 (WF (hn ([105,110,116,101,114,110],2) O)),L6 (WF (hn ([115,116,114,105,110,103,45,97,112,112,101,110,100],2) O)),L6 (WF (hn ([115,116,114,105,110,103,45,98,121,116,101],2) O)),L6 (WF (hn ([99,97,114],1) O)),L6 (WF (hn ([99,100,114],1) O)),L6 (WF (hn ([99,111,110,115,112],1) O)),L6 (WF (hn ([115,121,109,98,111,108,112],1) O)),L6 (WF (hn ([115,116,114,105,110,103,112],1) O)),L6 (WF (hn ([114,97,116,105,111,110,97,108,112],1) O)),L6 (WF (hn ([105,110,116,101,103,101,114,112],1) O)),L6 (WF (hn ([117,110,97,114,121,45,45],1) O)),L6 (WF (hn ([117,110,97,114,121,45,47],1) O)),L6 (WF (hn ([110,117,109,101,114,97,116,111,114],1) O)),L6 (WF (hn ([100,101,110,111,109,105,110,97,116,111,114],1) O)),L6 (WF (hn ([102,108,111,111,114],1) O)),L6 (WF (hn ([115,121,109,98,111,108,45,110,97,109,101],1) O)),L6 (WF (hn ([115,121,109,98,111,108,45,112,97,99,107,97,103,101,45,110,97,109,101],1) O)),L6 (WF (hn ([115,116,114,105,110,103,45,108,101,110,103,116,104],1) O)),L6 (WF (hn ([98,121,116,101,45,115,116,114,105,110,103],1) O)),Z⟩
theorem a4J(o:Ob)(A:Option Addr)(n c:Nat)(w:World):Calls prog 203 #[N7 o (.slice A n c)] w (P6 (.bool (decide (o.kind=1∧o.den=[49]))) w):=by
 obtain⟨k,nm,d,p,s,t,l⟩:=o;dsimp only;by_cases hk:k=1
 ·subst hk;by_cases h1:d=[49]
  ·subst h1;rw[UV ⟨rfl,rfl⟩]
   go_enter func203,ntmps203
   go_wp2;go_ret;exact⟨rfl,box _ _⟩
  ·rw[WF (fun h=>h1 h.2)];have hz:(d == [49])=false:=by rw[IR];exact h1
   clear h1
   go_enter func203,ntmps203
   go_wp2;go_ret;exact⟨rfl,box _ _⟩
 ·rw[WF (fun h=>hk h.1)];have hz:(k == 1)=false:=by rw[IR];exact hk
  clear hk
  go_enter func203,ntmps203
  go_wp2;go_ret;exact⟨rfl,box _ _⟩
theorem a4K(o:Ob)(A:Option Addr)(n c:Nat)(w:World):Calls prog 90 #[N7 o (.slice A n c)] w (P6 (.bool (decide (o.kind=1∧o.den=[49]))) w):=by
 obtain⟨k,nm,d,p,s,t,l⟩:=o;dsimp only;by_cases hk:k=1
 ·subst hk;by_cases h1:d=[49]
  ·subst h1;rw[UV ⟨rfl,rfl⟩]
   go_enter func90,ntmps90
   go_wp2;go_ret;exact⟨rfl,box _ _⟩
  ·rw[WF (fun h=>h1 h.2)];have hz:(d == [49])=false:=by rw[IR];exact h1
   clear h1
   go_enter func90,ntmps90
   go_wp2;go_ret;exact⟨rfl,box _ _⟩
 ·rw[WF (fun h=>hk h.1)];have hz:(k == 1)=false:=by rw[IR];exact hk
  clear hk
  go_enter func90,ntmps90
  go_wp2;go_ret;exact⟨rfl,box _ _⟩
end Go.Proofs.YthhknjlmjefklaaGreatDoor
