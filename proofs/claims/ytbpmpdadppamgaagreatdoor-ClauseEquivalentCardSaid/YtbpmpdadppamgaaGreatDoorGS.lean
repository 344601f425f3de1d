/- Entries of the built-in world, of the reference. -/
import Derived.Test.YtbpmpdadppamgaaGreatDoorGR
import Derived.Test.YtbpmpdadppamgaaGreatDoorGQ
import Derived.Test.YtbpmpdadppamgaaGreatDoorGH
import Derived.Deep.RegionHeld3
import Derived.Deep.RegionLaw
import Derived.Test.YtbpmpdadppamgaaGreatDoorGG
set_option maxRecDepth 100000
set_option maxHeartbeats 4000000
namespace Go.Proofs.YtbpmpdadppamgaaGreatDoor
open Go.Proofs.Tryz
open Go.RowKit
open Te
abbrev zT:List AV:=[j4 0,stA [],stA [],j4 0,stA [],stA [],stA [],stA [],stA [],.nil,.nil]
abbrev enZ:List AV:=j4 0::stA []::stA []::stA []::.nil::stA []::stA []::.nil::l5 false::(zT++[.nil,.nil,.nil,.nil,stA [],stA [],.nil,.nil,.nil,.nil,stA [],.dt (.val (.int .u64 0))])
abbrev enF(nm:lw)(p:AV):List AV:=stA o9::stA nm::p::j4 1::((o8 r9).map .dt++(zT++zT))
abbrev tL(f:p9.F7):AV:=.agg (j4 3::stA o9::stA f.nm::stA []::.nil::stA []::stA []::.nil::l5 false::(zT++[.dt (.row [G7 f]),.nil,.nil,.nil,stA [],stA [],.nil,.nil,.nil,.nil,stA [],.dt (.val (.int .u64 0))]))
abbrev en0(es os:aa0)(form:Ob)(nm:lw)(qs:aa0):AS:=⟨stt 99 [(0,.own 0 es.length),(3,.ptr 1 0),(4,.ptr 2 0),(5,.dt (.row os)),(7,.ptr 3 0),(8,.dt (.row qs)),(10,j4 0)],[wB es,some (.cells ((A9 form).map .dt)),some (.cells enZ),some (.cells (enF nm .nil))]⟩
abbrev fK(es os:aa0)(form:Ob)(nm:lw)(qs rs:aa0)(i:Int):AS:=⟨stt 99 [(0,.own 0 es.length),(3,.ptr 1 0),(4,.ptr 2 0),(5,.dt (.row os)),(7,.ptr 3 0),(8,.dt (.row qs)),(10,j4 i)],[wB es,some (.cells ((A9 form).map .dt)),some (.cells enZ),some (.cells (enF nm (.own 4 rs.length))),some (.buf 42 2 rs)]⟩
theorem yK(n:lw):L8 2 [H5 n]:=by
 intro x hx;rw[Cf]at hx;subst hx;exact⟨rfl,fun d hd=>by simp only[Za3,Zat,Zb4]at hd;rcases hd with rfl | rfl <;> rfl⟩
noncomputable abbrev oU:Code:=M6 (O4 f33) [1,1,1,1,0,1,0,0]
theorem b6s{es os qs:aa0}{form:Ob}{nm n:lw}(hi:0 < qs.length)(hx:z8 qs 0 7 (A9 (N8 n))):y7 (J3 1) oU (en0 es os form nm qs) .F6 (fK es os form nm qs [H5 n] 1) :=
 tW [.av (j4 qs.length),yT,.av (.pin ((A9 (N8 n)).map .dt)),.av (.un),.no] [] [0,3,4,5,7,8,10] 5 [(vi ↑qs.length)=(vi ↑qs.length),Bt .lss 3 35 37 0 ↑qs.length bT,_,P7 32 (([[Dt.val (str (N8 n).sp),Dt.val (str (N8 n).sn)]]).length),L8 2 [[(.val (str (N8 n).sp)),(.val (str (N8 n).sn))]]] ⟨rfl,D8 (Pi J),hx,bE J I,yK n,Z⟩
theorem b6t{es os qs rs:aa0}{form:Ob}{nm n:lw}{i:Nat}(hi:i < qs.length)(hl:qs.length≤1000)(hr:rs.length≤1000)(hx:z8 qs (i:Int) 7 (A9 (N8 n))):y7 (J3 1) oU (fK es os form nm qs rs i) .F6 (fK es os form nm qs (rs++[H5 n]) ((i+1:Nat):Int)) :=
 tW [.av (j4 qs.length),yT,.av (.pin ((A9 (N8 n)).map .dt)),.av (.un),.av (j4 ((i+1:Nat):Int))] [] [0,3,4,5,7,8,10] 5 [(vi ↑qs.length)=(vi ↑qs.length),Bt .lss 3 35 37 ↑i ↑qs.length bT,_,(rs.length)=(rs.length),P7 32 ((rs++[[Dt.val (str (N8 n).sp),Dt.val (str (N8 n).sn)]]).length),L8 2 [[(.val (str (N8 n).sp)),(.val (str (N8 n).sn))]],Bk .add 3 39 1 ↑i (vi (↑(i+1)))] ⟨rfl,D8 (Pi J),hx,rfl,bE J (by simp;omega),yK n,H6 J J J,Z⟩
theorem b6u{es os qs rs:aa0}{form:Ob}{nm:lw}{i:Nat}(hi:i=qs.length):y7 (J3 1) oU (fK es os form nm qs rs i) (.out 0) (fK es os form nm qs rs i) :=
 tW [.av (j4 qs.length),yF] [] [0,3,4,5,7,8,10] 5 [(vi ↑qs.length)=(vi ↑qs.length),Bt .lss 3 35 37 ↑i ↑qs.length bF] ⟨rfl,D8 (WF J),Z⟩
theorem a8l{es os qs:aa0}{ps:List (lw)}{nm:lw}{form px b:Ob}{bt:Te}{k:Int}(h1:j5 68 [o7 form] (.l7 [.dt (.row os),l5 true]))(hx1:z8 os 1 7 (A9 (N8 nm)))(hx2:z8 os 2 7 (A9 px))(h2:j5 68 [o7 px] (.l7 [.dt (.row qs),l5 true]))(hlp:y7 (J3 1) (.loop oU) (en0 es os form nm qs) (.out 0) (fK es os form nm qs (ps.map H5) k))(hz:z8 os (os.length - 1) 7 (A9 b))(hl:os.length≤1000)(hb:D6 69 [.own 0 es.length,.dt (.row [G7 ⟨nm,ps,r9,F4,F4⟩]),o7 b] [wB es] (.l7 [o6 bt,j4 0]) [wB es])(hg:j5 70 [.dt (.row os),stA p9.wz] (.l7 [o7 Q9,l5 false]))(hm:j5 70 [.dt (.row os),stA p9.wM] (.l7 [o7 Q9,l5 false])):D6 33 [.own 0 es.length,o7 form] [wB es] (tL ⟨nm,ps,r9,bt,F4⟩) [wB es] :=
 sW 1 [0] [.av (.l7 [.dt (.row os),l5 true]),.av (.pin ((A9 (N8 nm)).map .dt)),.av (o7 tO),.av (o6 r9),.av (.pin ((A9 px).map .dt)),.av (.l7 [.dt (.row qs),l5 true]),.av (j4 os.length),.av (j4 (os.length - 1)),.av (.pin ((A9 b).map .dt)),.av (.l7 [o7 Q9,l5 false]),.av (.l7 [o7 Q9,l5 false])] [.inv [0,3,4,5,7,8,10] 4 (.out 0) (fK es os form nm qs (ps.map H5) k),.J5 9 8 [0] (.l7 [o6 bt,j4 0]) [some (.buf 84 32 es)]] [_,_,_,j5 51 [(o7 tO)] (.agg [(j4 2),(stA r9.np),(stA r9.nn),(j4 2),(stA r9.val.num),(stA r9.val.den),(stA r9.val.sp),(stA r9.val.sn),(stA r9.val.text),(.dt (.row (List.map Ob.enc r9.val.pair))),(.dt (.row (List.map Te.enc r9.args)))]),_,_,_,((List.map H5 ps).length)=((List.map H5 ps).length),(vi ↑os.length)=(vi ↑os.length),Bk .sub 3 58 1 ↑os.length (vi (↑os.length - 1)),_,_,_,_,((List.map H5 ps).length)=((List.map H5 ps).length)] func33 ⟨h1,hx1,tH,ku _,hx2,h2,hlp,rfl,rfl,bL rfl J J,hz,hb,hg,hm,rfl,Z⟩
theorem a8m{es os qs:aa0}{ps:List (lw)}{nm:lw}{form px b mo:Ob}{bt mt:Te}{k:Int}(h1:j5 68 [o7 form] (.l7 [.dt (.row os),l5 true]))(hx1:z8 os 1 7 (A9 (N8 nm)))(hx2:z8 os 2 7 (A9 px))(h2:j5 68 [o7 px] (.l7 [.dt (.row qs),l5 true]))(hlp:y7 (J3 1) (.loop oU) (en0 es os form nm qs) (.out 0) (fK es os form nm qs (ps.map H5) k))(hz:z8 os (os.length - 1) 7 (A9 b))(hl:os.length≤1000)(hb:D6 69 [.own 0 es.length,.dt (.row [G7 ⟨nm,ps,r9,F4,F4⟩]),o7 b] [wB es] (.l7 [o6 bt,j4 0]) [wB es])(hg:j5 70 [.dt (.row os),stA p9.wz] (.l7 [o7 Q9,l5 false]))(hm:j5 70 [.dt (.row os),stA p9.wM] (.l7 [o7 mo,l5 true]))(hmt:D6 69 [.own 0 es.length,.dt (.row [G7 ⟨nm,ps,r9,F4,F4⟩]),o7 mo] [wB es] (.l7 [o6 mt,j4 0]) [wB es]):D6 33 [.own 0 es.length,o7 form] [wB es] (tL ⟨nm,ps,r9,bt,mt⟩) [wB es] :=
 sW 1 [0] [.av (.l7 [.dt (.row os),l5 true]),.av (.pin ((A9 (N8 nm)).map .dt)),.av (o7 tO),.av (o6 r9),.av (.pin ((A9 px).map .dt)),.av (.l7 [.dt (.row qs),l5 true]),.av (j4 os.length),.av (j4 (os.length - 1)),.av (.pin ((A9 b).map .dt)),.av (.l7 [o7 Q9,l5 false]),.av (.l7 [o7 mo,l5 true])] [.inv [0,3,4,5,7,8,10] 4 (.out 0) (fK es os form nm qs (ps.map H5) k),.J5 9 8 [0] (.l7 [o6 bt,j4 0]) [some (.buf 84 32 es)],.J5 15 3 [0] (.l7 [o6 mt,j4 0]) [some (.buf 84 32 es)]] [_,_,_,j5 51 [(o7 tO)] (.agg [(j4 2),(stA r9.np),(stA r9.nn),(j4 2),(stA r9.val.num),(stA r9.val.den),(stA r9.val.sp),(stA r9.val.sn),(stA r9.val.text),(.dt (.row (List.map Ob.enc r9.val.pair))),(.dt (.row (List.map Te.enc r9.args)))]),_,_,_,((List.map H5 ps).length)=((List.map H5 ps).length),(vi ↑os.length)=(vi ↑os.length),Bk .sub 3 58 1 ↑os.length (vi (↑os.length - 1)),_,_,_,_,_,((List.map H5 ps).length)=((List.map H5 ps).length)] func33 ⟨h1,hx1,tH,ku _,hx2,h2,hlp,rfl,rfl,bL rfl J J,hz,hb,hg,hm,hmt,rfl,Z⟩
theorem a8n{es os qs:aa0}{ps:List (lw)}{nm:lw}{form px b go:Ob}{bt gt:Te}{k:Int}(h1:j5 68 [o7 form] (.l7 [.dt (.row os),l5 true]))(hx1:z8 os 1 7 (A9 (N8 nm)))(hx2:z8 os 2 7 (A9 px))(h2:j5 68 [o7 px] (.l7 [.dt (.row qs),l5 true]))(hlp:y7 (J3 1) (.loop oU) (en0 es os form nm qs) (.out 0) (fK es os form nm qs (ps.map H5) k))(hz:z8 os (os.length - 1) 7 (A9 b))(hl:os.length≤1000)(hb:D6 69 [.own 0 es.length,.dt (.row [G7 ⟨nm,ps,r9,F4,F4⟩]),o7 b] [wB es] (.l7 [o6 bt,j4 0]) [wB es])(hg:j5 70 [.dt (.row os),stA p9.wz] (.l7 [o7 go,l5 true]))(hgt:D6 69 [.own 0 es.length,.dt (.row [G7 ⟨nm,ps,r9,F4,F4⟩]),o7 go] [wB es] (.l7 [o6 gt,j4 0]) [wB es])(hm:j5 70 [.dt (.row os),stA p9.wM] (.l7 [o7 Q9,l5 false])):D6 33 [.own 0 es.length,o7 form] [wB es] (tL ⟨nm,ps,gt,bt,F4⟩) [wB es] :=
 sW 1 [0] [.av (.l7 [.dt (.row os),l5 true]),.av (.pin ((A9 (N8 nm)).map .dt)),.av (o7 tO),.av (o6 r9),.av (.pin ((A9 px).map .dt)),.av (.l7 [.dt (.row qs),l5 true]),.av (j4 os.length),.av (j4 (os.length - 1)),.av (.pin ((A9 b).map .dt)),.av (.l7 [o7 go,l5 true]),.av (.l7 [o7 Q9,l5 false])] [.inv [0,3,4,5,7,8,10] 4 (.out 0) (fK es os form nm qs (ps.map H5) k),.J5 9 8 [0] (.l7 [o6 bt,j4 0]) [some (.buf 84 32 es)],.J5 12 3 [0] (.l7 [o6 gt,j4 0]) [some (.buf 84 32 es)]] [_,_,_,j5 51 [(o7 tO)] (.agg [(j4 2),(stA r9.np),(stA r9.nn),(j4 2),(stA r9.val.num),(stA r9.val.den),(stA r9.val.sp),(stA r9.val.sn),(stA r9.val.text),(.dt (.row (List.map Ob.enc r9.val.pair))),(.dt (.row (List.map Te.enc r9.args)))]),_,_,_,((List.map H5 ps).length)=((List.map H5 ps).length),(vi ↑os.length)=(vi ↑os.length),Bk .sub 3 58 1 ↑os.length (vi (↑os.length - 1)),_,_,_,_,_,((List.map H5 ps).length)=((List.map H5 ps).length)] func33 ⟨h1,hx1,tH,ku _,hx2,h2,hlp,rfl,rfl,bL rfl J J,hz,hb,hg,hgt,hm,rfl,Z⟩
theorem a8o{es os qs:aa0}{ps:List (lw)}{nm:lw}{form px b go mo:Ob}{bt gt mt:Te}{k:Int}(h1:j5 68 [o7 form] (.l7 [.dt (.row os),l5 true]))(hx1:z8 os 1 7 (A9 (N8 nm)))(hx2:z8 os 2 7 (A9 px))(h2:j5 68 [o7 px] (.l7 [.dt (.row qs),l5 true]))(hlp:y7 (J3 1) (.loop oU) (en0 es os form nm qs) (.out 0) (fK es os form nm qs (ps.map H5) k))(hz:z8 os (os.length - 1) 7 (A9 b))(hl:os.length≤1000)(hb:D6 69 [.own 0 es.length,.dt (.row [G7 ⟨nm,ps,r9,F4,F4⟩]),o7 b] [wB es] (.l7 [o6 bt,j4 0]) [wB es])(hg:j5 70 [.dt (.row os),stA p9.wz] (.l7 [o7 go,l5 true]))(hgt:D6 69 [.own 0 es.length,.dt (.row [G7 ⟨nm,ps,r9,F4,F4⟩]),o7 go] [wB es] (.l7 [o6 gt,j4 0]) [wB es])(hm:j5 70 [.dt (.row os),stA p9.wM] (.l7 [o7 mo,l5 true]))(hmt:D6 69 [.own 0 es.length,.dt (.row [G7 ⟨nm,ps,r9,F4,F4⟩]),o7 mo] [wB es] (.l7 [o6 mt,j4 0]) [wB es]):D6 33 [.own 0 es.length,o7 form] [wB es] (tL ⟨nm,ps,gt,bt,mt⟩) [wB es] :=
 sW 1 [0] [.av (.l7 [.dt (.row os),l5 true]),.av (.pin ((A9 (N8 nm)).map .dt)),.av (o7 tO),.av (o6 r9),.av (.pin ((A9 px).map .dt)),.av (.l7 [.dt (.row qs),l5 true]),.av (j4 os.length),.av (j4 (os.length - 1)),.av (.pin ((A9 b).map .dt)),.av (.l7 [o7 go,l5 true]),.av (.l7 [o7 mo,l5 true])] [.inv [0,3,4,5,7,8,10] 4 (.out 0) (fK es os form nm qs (ps.map H5) k),.J5 9 8 [0] (.l7 [o6 bt,j4 0]) [some (.buf 84 32 es)],.J5 12 3 [0] (.l7 [o6 gt,j4 0]) [some (.buf 84 32 es)],.J5 15 3 [0] (.l7 [o6 mt,j4 0]) [some (.buf 84 32 es)]] [_,_,_,j5 51 [(o7 tO)] (.agg [(j4 2),(stA r9.np),(stA r9.nn),(j4 2),(stA r9.val.num),(stA r9.val.den),(stA r9.val.sp),(stA r9.val.sn),(stA r9.val.text),(.dt (.row (List.map Ob.enc r9.val.pair))),(.dt (.row (List.map Te.enc r9.args)))]),_,_,_,((List.map H5 ps).length)=((List.map H5 ps).length),(vi ↑os.length)=(vi ↑os.length),Bk .sub 3 58 1 ↑os.length (vi (↑os.length - 1)),_,_,_,_,_,_,((List.map H5 ps).length)=((List.map H5 ps).length)] func33 ⟨h1,hx1,tH,ku _,hx2,h2,hlp,rfl,rfl,bL rfl J J,hz,hb,hg,hgt,hm,hmt,rfl,Z⟩
theorem Sc:∀{l:List Tr} {ps:List (lw)},p9.Ff l=some ps→l=ps.map (Tr.sym o9 ·)
 |[],ps,h=>by cases h;rfl
 |.sym p n::r,ps,h=>by
  rw[p9.Ff]at h;split at h
  ·rename_i e;subst e;rw[ZaH]at h;obtain⟨qs,h1,rfl⟩:=h;rw[Zaq,←Sc h1]
  ·cases h
 |.num _::_,_,h=>by cases h
 |.txt _::_,_,h=>by cases h
 |.cons _ _::_,_,h=>by cases h
theorem VZ{ps:List (lw)}{i:Nat}{n:lw}(h:ps[i]?=some n):z8 (F3 (ps.map (Tr.sym o9 ·))) (i:Int) 7 (A9 (N8 n)):=⟨Int.natCast_nonneg _,by rw[Int.toNat_natCast];unfold F3;rw[bi,bi,h];rfl,rfl⟩
theorem a8p{es os:aa0}{form:Ob}{nm:lw}{ps:List (lw)}(hl:ps.length≤8):∀(s:List (lw)) (i:Nat),ps.drop i=s→i≤ps.length→I7 (J3 1) oU (fK es os form nm (F3 (ps.map (Tr.sym o9 ·))) ((ps.take i).map H5) i) (.out 0) (fK es os form nm (F3 (ps.map (Tr.sym o9 ·))) (ps.map H5) ps.length):=by
 have hlo:(F3 (ps.map (Tr.sym o9 ·))).length=ps.length:=by unfold F3;rw[Cc,Cc]
 intro s
 induction s with
 |nil =>
  intro i hd hi;have e1:=congrArg List.length hd;rw[ut,List.length_nil]at e1;obtain rfl:i=ps.length:=J;rw[List.take_length];exact .stop (b6u hlo.symm) (fun h=>by cases h)
 |cons x s ih =>
  intro i hd hi;have hx:ps[i]?=some x:=by rw[←Za1,hd];rfl
  have hlt:=(UV.1 hx).1;have hs:=b6t (es:=es) (os:=os) (form:=form) (nm:=nm) (rs:=(ps.take i).map H5) J J (by rw[Cc,Zal];omega) (VZ hx);have e:(ps.take i).map H5++[H5 x]=(ps.take (i+1)).map H5:=by rw[List.take_add_one,hx,Zam];rfl
  rw[e]at hs;exact .more hs (ih (i+1) (by rw[←Za0,hd];rfl) J)
theorem a8q{ws:List p9.F7}(hw:ws.length≤900){x:Tr}{f:p9.F7}(h:p9.entry I5 ws x=some f):D6 33 [.own 0 (ws.map F8).length,l9 x] [wB (ws.map F8)] (tL f) [wB (ws.map F8)]:=by
 unfold p9.entry at h;split at h
 case h_2=>cases h
 rename_i d p nm px y r hi;split at h
 case h_2=>cases h
 rename_i pl hpx;split at h
 case h_2=>cases h
 rename_i ps hps;split at h
 case isFalse=>cases h
 rename_i hc;obtain⟨rfl,hnm,hpn,hpl,hr⟩:=hc;split at h
 case h_2=>cases h
 rename_i bt gt mt hb hg hm;cases h;have hx:=rP hi;have hpx:=rP hpx;have b6v:=Sc hps;subst b6v;subst hx;subst hpx;have hI:=vF (l:=d::Tr.sym o9 nm::Tr.list (ps.map (Tr.sym o9 ·))::y::r) (by simp only[yM];omega);have hP:=vF (l:=ps.map (Tr.sym o9 ·)) (by rw[Cc];omega);have hL3:(d::Tr.sym o9 nm::Tr.list (ps.map (Tr.sym o9 ·))::y::r).drop 3=y::r:=rfl;have hLl:(d::Tr.sym o9 nm::Tr.list (ps.map (Tr.sym o9 ·))::y::r).length=r.length+4:=rfl;have hlast:(d::Tr.sym o9 nm::Tr.list (ps.map (Tr.sym o9 ·))::y::r)[r.length+3]?=some ((y::r).getLast I):=by
  show (y::r)[r.length]?=_;rw[List.getLast_eq_getElem,ww I];rfl
 generalize hLe:(d::Tr.sym o9 nm::Tr.list (ps.map (Tr.sym o9 ·))::y::r)=L at *;have hlo:(F3 L).length=r.length+4:=by unfold F3;rw[Cc,hLl]
 have hx1:z8 (F3 L) 1 7 (A9 (N8 nm)):=by subst hLe;exact⟨O,rfl,rfl⟩
 have hx2:z8 (F3 L) 2 7 (A9 (Tr.list (ps.map (Tr.sym o9 ·))).ob):=by subst hLe;exact⟨O,rfl,rfl⟩
 have hz:z8 (F3 L) ((F3 L).length - 1) 7 (A9 ((y::r).getLast I).ob):=⟨J,by
  rw[hlo];have:((((r.length+4:Nat):Int) - 1)).toNat=r.length+3:=J;rw[this];unfold F3;rw[bi,hlast];rfl,rfl⟩
 have hlp:y7 (J3 1) (.loop oU) (en0 (ws.map F8) (F3 L) (Tr.list L).ob nm (F3 (ps.map (Tr.sym o9 ·)))) (.out 0) (fK (ws.map F8) (F3 L) (Tr.list L).ob nm (F3 (ps.map (Tr.sym o9 ·))) (ps.map H5) ps.length):=by
  cases ps with
  |nil=>exact absurd rfl hpn
  |cons n0 ps' =>
   have hs:=b6s (es:=ws.map F8) (os:=F3 L) (form:=(Tr.list L).ob) (nm:=nm) (n:=n0) (qs:=F3 ((n0::ps').map (Tr.sym o9 ·))) (by simp[F3]) (VZ (i:=0) rfl);have hn:=a8p (es:=ws.map F8) (os:=F3 L) (form:=(Tr.list L).ob) (nm:=nm) hpl _ 1 rfl I;exact (I7.more hs hn).I8
 have hT:∀{o:Tr} {t:Te},p9.Bv (p9.arity I5 ws nm ps) o=some t→D6 69 [.own 0 (ws.map F8).length,.dt (.row [G7 ⟨nm,ps,r9,F4,F4⟩]),l9 o] [wB (ws.map F8)] (.l7 [o6 t,j4 0]) [wB (ws.map F8)]:=fun h=>a5q (f:=⟨nm,ps,r9,F4,F4⟩) J h
 have hbS:=hT hb;have hll:(F3 L).length≤1000:=J;cases hgo:p9.option p9.wz (y::r) with
 |none=>rw[hgo]at hg;cases hg
 |some go =>
  rw[hgo]at hg;cases hmo:p9.option p9.wM (y::r) with
  |none=>rw[hmo]at hm;cases hm
  |some mo =>
   rw[hmo]at hm;rw[←hL3]at hgo hmo;cases go with
   |none =>
    cases hg;have kg:=IP J J hgo;cases mo with
    |none =>
     cases hm;exact a8l hI hx1 hx2 hP hlp hz hll hbS kg (IP J J hmo)
    |some mo=>exact a8m hI hx1 hx2 hP hlp hz hll hbS kg (IM J J hmo) (hT hm)
   |some go =>
    have kg:=IM J J hgo;cases mo with
    |none =>
     cases hm;exact a8n hI hx1 hx2 hP hlp hz hll hbS kg (hT hg) (IP J J hmo)
    |some mo=>exact a8o hI hx1 hx2 hP hlp hz hll hbS kg (hT hg) (IM J J hmo) (hT hm)
theorem Sd:D6 71 [] [] (.own 0 25) [some (.buf 42 2 (I5.map gB))] :=
 sW 0 [0] ([.av (.dt (.row (I5.map aT))),.no,.no,.no,.av (p8 o9 [105,102])]++nK 5 (.av (p8 o9 [101,113,117,97,108])::nK 5 (.av (p8 o9 [99,111,110,115])::nK 5 (.av (p8 o9 [99,97,114])::nK 5 (.av (p8 o9 [99,100,114])::nK 5 (.av (p8 o9 [99,111,110,115,112])::nK 5 (.av (p8 o9 [115,121,109,98,111,108,112])::nK 5 (.av (p8 o9 [115,116,114,105,110,103,112])::nK 5 (.av (p8 o9 [114,97,116,105,111,110,97,108,112])::nK 5 (.av (p8 o9 [105,110,116,101,103,101,114,112])::nK 5 (.av (p8 o9 [98,105,110,97,114,121,45,43])::nK 5 (.av (p8 o9 [98,105,110,97,114,121,45,42])::nK 5 (.av (p8 o9 [117,110,97,114,121,45,45])::nK 5 (.av (p8 o9 [117,110,97,114,121,45,47])::nK 5 (.av (p8 o9 [60])::nK 5 (.av (p8 o9 [110,117,109,101,114,97,116,111,114])::nK 5 (.av (p8 o9 [100,101,110,111,109,105,110,97,116,111,114])::nK 5 (.av (p8 o9 [102,108,111,111,114])::nK 5 (.av (p8 o9 [115,121,109,98,111,108,45,110,97,109,101])::nK 5 (.av (p8 o9 [115,121,109,98,111,108,45,112,97,99,107,97,103,101,45,110,97,109,101])::nK 5 (.av (p8 o9 [105,110,116,101,114,110])::nK 5 (.av (p8 o9 [115,116,114,105,110,103,45,97,112,112,101,110,100])::nK 5 (.av (p8 o9 [115,116,114,105,110,103,45,108,101,110,103,116,104])::nK 5 (.av (p8 o9 [115,116,114,105,110,103,45,98,121,116,101])::nK 5 [.av (p8 o9 [98,121,116,101,45,115,116,114,105,110,103]),.no,.no])))))))))))))))))))))))) [.run 26] [_,j5 34 [(stA ([105,102],3).fst)] (p8 o9 [105,102]),j5 34 [(stA ([101,113,117,97,108],2).fst)] (p8 o9 [101,113,117,97,108]),j5 34 [(stA ([99,111,110,115],2).fst)] (p8 o9 [99,111,110,115]),j5 34 [(stA ([99,97,114],1).fst)] (p8 o9 [99,97,114]),j5 34 [(stA ([99,100,114],1).fst)] (p8 o9 [99,100,114]),j5 34 [(stA ([99,111,110,115,112],1).fst)] (p8 o9 [99,111,110,115,112]),j5 34 [(stA ([115,121,109,98,111,108,112],1).fst)] (p8 o9 [115,121,109,98,111,108,112]),j5 34 [(stA ([115,116,114,105,110,103,112],1).fst)] (p8 o9 [115,116,114,105,110,103,112]),j5 34 [(stA ([114,97,116,105,111,110,97,108,112],1).fst)] (p8 o9 [114,97,116,105,111,110,97,108,112]),j5 34 [(stA ([105,110,116,101,103,101,114,112],1).fst)] (p8 o9 [105,110,116,101,103,101,114,112]),j5 34 [(stA ([98,105,110,97,114,121,45,43],2).fst)] (p8 o9 [98,105,110,97,114,121,45,43]),j5 34 [(stA ([98,105,110,97,114,121,45,42],2).fst)] (p8 o9 [98,105,110,97,114,121,45,42]),j5 34 [(stA ([117,110,97,114,121,45,45],1).fst)] (p8 o9 [117,110,97,114,121,45,45]),j5 34 [(stA ([117,110,97,114,121,45,47],1).fst)] (p8 o9 [117,110,97,114,121,45,47]),j5 34 [(stA ([60],2).fst)] (p8 o9 [60]),j5 34 [(stA ([110,117,109,101,114,97,116,111,114],1).fst)] (p8 o9 [110,117,109,101,114,97,116,111,114]),j5 34 [(stA ([100,101,110,111,109,105,110,97,116,111,114],1).fst)] (p8 o9 [100,101,110,111,109,105,110,97,116,111,114]),j5 34 [(stA ([102,108,111,111,114],1).fst)] (p8 o9 [102,108,111,111,114]),j5 34 [(stA ([115,121,109,98,111,108,45,110,97,109,101],1).fst)] (p8 o9 [115,121,109,98,111,108,45,110,97,109,101]),j5 34 [(stA ([115,121,109,98,111,108,45,112,97,99,107,97,103,101,45,110,97,109,101],1).fst)] (p8 o9 [115,121,109,98,111,108,45,112,97,99,107,97,103,101,45,110,97,109,101]),j5 34 [(stA ([105,110,116,101,114,110],2).fst)] (p8 o9 [105,110,116,101,114,110]),j5 34 [(stA ([115,116,114,105,110,103,45,97,112,112,101,110,100],2).fst)] (p8 o9 [115,116,114,105,110,103,45,97,112,112,101,110,100]),j5 34 [(stA ([115,116,114,105,110,103,45,108,101,110,103,116,104],1).fst)] (p8 o9 [115,116,114,105,110,103,45,108,101,110,103,116,104]),j5 34 [(stA ([115,116,114,105,110,103,45,98,121,116,101],2).fst)] (p8 o9 [115,116,114,105,110,103,45,98,121,116,101]),j5 34 [(stA ([98,121,116,101,45,115,116,114,105,110,103],1).fst)] (p8 o9 [98,121,116,101,45,115,116,114,105,110,103])] func71 ⟨aW,Q8 _,Q8 _,Q8 _,Q8 _,Q8 _,Q8 _,Q8 _,Q8 _,Q8 _,Q8 _,Q8 _,Q8 _,Q8 _,Q8 _,Q8 _,Q8 _,Q8 _,Q8 _,Q8 _,Q8 _,Q8 _,Q8 _,Q8 _,Q8 _,Q8 _,Z⟩
def ig:List (lw):=[[110,105,108],[116],[113,117,111,116,101],[108,101,116],[108,101,116,42],[99,111,110,100],[97,110,100],[111,114],[108,105,115,116],[108,105,115,116,42],[43],[42],[45],[47],[60,61],[62],[62,61],[97,112,112,101,110,100],[100,101,102,112,107,103],[100,101,102,109,97,99,114,111],[100,101,102,117,110],[109,117,116,117,97,108,45,114,101,99,117,114,115,105,111,110],[100,101,102,116,104,109],[101,110,99,97,112,115,117,108,97,116,101],[100,101,102,99,104,111,111,115,101],[100,101,102,115,116,111,98,106],[105,110,45,116,104,101,111,114,121],[105,110,99,108,117,100,101,45,98,111,111,107],[100,101,102,108,97,98,101,108],[117,110,100,111]]++([[100,101,102,105,110,115,116,97,110,99,101],[100,101,102,101,113,117,105,118],[100,101,102,112,114,111,99,101,115,115,111,114],[108,111,99,97,108],[100,101,99,108,97,114,101],[103,117,97,114,100],[109,101,97,115,117,114,101],[115,105,103,110,97,116,117,114,101],[114,101,115,116],[101,110,97,98,108,101],[100,105,115,97,98,108,101],[104,105,110,116,115],[117,115,101],[105,110,100,117,99,116],[119,105,116,104,111,117,116],[114,117,108,101,45,99,108,97,115,115,101,115],[114,101,119,114,105,116,101],[116,121,112,101,45,112,114,101,115,99,114,105,112,116,105,111,110],[102,111,114,119,97,114,100,45,99,104,97,105,110,105,110,103],[108,105,110,101,97,114],[101,108,105,109],[101,113,117,105,118,97,108,101,110,99,101],[99,111,110,103,114,117,101,110,99,101],[103,101,110,101,114,97,108,105,122,101],[112,114,111,99,101,115,115,111,114],[115,105,109,112,108,105,102,121],[100,101,115,116,114,117,99,116,111,114,115],[102,101,114,116,105,108,105,122,101],[103,101,110,101,114,97,108,105,122,97,116,105,111,110],[105,114,114,101,108,101,118,97,110,99,101],[105,110,100,117,99,116,105,111,110]]:List (lw))
theorem Uz{b n:Nat}(hb:b≤100000)(h:n≤1000000):P7 b n:=⟨by show n≤2 ^ 63 - 1;omega,by
 have:=Nat.mul_le_mul h hb;omega⟩
abbrev oV(fs rs:aa0)(i:Int):AS:=⟨stt 47 [(1,.own 0 rs.length),(2,.dt (.row fs)),(3,j4 i)],[some (.buf 42 2 rs)]⟩
noncomputable abbrev GK:Code:=M6 (O4 f35) [1,1,1,0,1,0,0]
theorem b6w{fs os rs:aa0}{n:lw}{x:Ob}{i:Nat}(hi:i < fs.length)(hl:fs.length≤1000)(hr:rs.length≤1000)(hx:z8 fs (i:Int) 7 (A9 x))(h:j5 68 [o7 x] (.l7 [.dt (.row os),l5 true]))(hn:z8 os 1 7 (A9 (N8 n))):y7 EX GK (oV fs rs i) .F6 (oV fs (rs++[H5 n]) ((i+1:Nat):Int)) :=
 tW [.av (j4 fs.length),yT,.av (.pin ((A9 x).map .dt)),.av (.l7 [.dt (.row os),l5 true]),.av (.pin ((A9 (N8 n)).map .dt)),.av (.un),.av (j4 ((i+1:Nat):Int))] [] [1,2,3] 1 [(vi ↑fs.length)=(vi ↑fs.length),Bt .lss 3 10 12 ↑i ↑fs.length bT,_,_,_,(rs.length)=(rs.length),P7 32 ((rs++[[Dt.val (str (N8 n).sp),Dt.val (str (N8 n).sn)]]).length),L8 2 [[(.val (str (N8 n).sp)),(.val (str (N8 n).sn))]],Bk .add 3 14 1 ↑i (vi (↑(i+1)))] ⟨rfl,D8 (Pi J),hx,h,hn,rfl,bE J (by simp;omega),yK n,H6 J J J,Z⟩
theorem b6x{fs rs:aa0}{i:Nat}(hi:i=fs.length):y7 EX GK (oV fs rs i) (.out 0) (oV fs rs i) :=
 tW [.av (j4 fs.length),yF] [] [1,2,3] 1 [(vi ↑fs.length)=(vi ↑fs.length),Bt .lss 3 10 12 ↑i ↑fs.length bF] ⟨rfl,D8 (WF J),Z⟩
abbrev sS(w:lw):List Dt:=[.val (str w)]
abbrev oW(ws:List (lw))(rs:aa0)(i:Int):AS:=⟨stt 47 [(1,.own 0 rs.length),(6,.ax (ws.map sS)),(7,j4 i)],[some (.buf 42 2 rs)]⟩
noncomputable abbrev GL:Code:=M6 (O4 f35) [1,1,1,1,1,0,1,0,0]
theorem YY(l:List (lw)):Value.int .i64 (l.length:Int)=Value.int .i64 ((l.map sS).length:Int):=by rw[Cc]
theorem b6y{ws:List (lw)}{i:Nat}{w:lw}(h:ws[i]?=some w):z8 (ws.map sS) (i:Int) 1 (sS w):=⟨Int.natCast_nonneg _,by rw[Int.toNat_natCast,bi,h];rfl,rfl⟩
theorem b6z{ws:List (lw)}{rs:aa0}{w:lw}{i:Nat}(hl:ws.length≤1000)(hr:rs.length≤1000)(hx:ws[i]?=some w):y7 EX GL (oW ws rs i) .F6 (oW ws (rs++[H5 w]) ((i+1:Nat):Int)) :=
 have hi:=(UV.1 hx).1
 tW [.av (j4 ws.length),yT,.av (.pin [stA w]),.av (p8 o9 w),.av (.un),.av (j4 ((i+1:Nat):Int))] [] [1,6,7] 1 [(vi ↑ws.length)=(vi (↑(List.map sS ws).length)),Bt .lss 3 32 34 ↑i ↑ws.length bT,z8 (List.map sS ws) ↑i 1 ([(.val (str w))]),j5 34 [(stA w)] (p8 o9 w),(rs.length)=(rs.length),P7 32 ((rs++[[Dt.val (str o9),Dt.val (str w)]]).length),L8 2 [[(.val (str o9)),(.val (str w))]],Bk .add 3 36 1 ↑i (vi (↑(i+1)))] ⟨YY _,D8 (Pi J),b6y hx,Q8 _,rfl,bE J (by simp;omega),yK w,H6 J J J,Z⟩
theorem b6A{ws:List (lw)}{rs:aa0}{i:Nat}(hi:i=ws.length):y7 EX GL (oW ws rs i) (.out 2) (oW ws rs i) :=
 tW [.av (j4 ws.length),yF] [] [1,6,7] 1 [(vi ↑ws.length)=(vi (↑(List.map sS ws).length)),Bt .lss 3 32 34 ↑i ↑ws.length bF] ⟨YY _,D8 (WF J),Z⟩
theorem a8r{ws:List (lw)}(hl:ws.length≤100):∀(s:List (lw)) (i:Nat) (rs:aa0),ws.drop i=s→i≤ws.length→rs.length≤100+i→I7 EX GL (oW ws rs i) (.out 2) (oW ws (rs++s.map H5) ws.length):=by
 intro s
 induction s with
 |nil =>
  intro i rs hd hi _;have e1:=congrArg List.length hd;rw[ut,List.length_nil]at e1;obtain rfl:i=ws.length:=J;rw[List.map_nil,ZaB];exact .stop (b6A rfl) (fun h=>by cases h)
 |cons x s ih =>
  intro i rs hd hi hr;have hx:ws[i]?=some x:=by rw[←Za1,hd];rfl
  have hlt:=(UV.1 hx).1;have hn:=ih (i+1) (rs++[H5 x]) (by rw[←Za0,hd];rfl) J (by simp;omega);rw[Zaf,List.singleton_append,←Zaq]at hn;exact .more (b6z J J hx) hn
theorem a8s{fs rs:aa0}{k:Int}(hd:j5 32 [] (.dt (.row fs)))(h1:y7 EX (.loop GK) (oV fs (I5.map gB) 0) (.out 0) (oV fs rs k))(h2:y7 EX (.loop GL) (oW ig rs 0) (.out 2) (oW ig (rs++ig.map H5) ig.length)):j5 35 [] (.dt (.row (rs++ig.map H5))) :=
 pW [.av (.dt (.row fs))] [.J5 1 0 [] (.own 0 25) [some (.buf 42 2 (I5.map gB))],.inv [1,2,3] 1 (.out 0) (oV fs rs k),.inv [1,6,7] 1 (.out 2) (oW ig (rs++ig.map H5) ig.length)] [_,_,_,_,((rs++List.map H5 ig).length)=((rs++List.map H5 ig).length)] func35 ⟨Sd,hd,h1,h2,rfl,Z⟩
theorem a5r(f:p9.F7):L8 32 [F8 f]:=by
 intro x hx;rw[Cf]at hx;subst hx;exact⟨rfl,fun d hd=>by
  have h:(F8 f).all Dt.one=true:=rfl;exact Zag.1 h d hd⟩
theorem a5s(ns:aa0):L8 32 [bu ns]:=by
 intro x hx;rw[Cf]at hx;subst hx;exact⟨rfl,fun d hd=>by
  have h:(bu ns).all Dt.one=true:=rfl;exact Zag.1 h d hd⟩
abbrev wo0(fs:aa0):AS:=⟨stt 27 [(1,.nil),(2,.dt (.row fs)),(3,j4 0)],[]⟩
abbrev oZ(fs es:aa0)(i:Int):AS:=⟨stt 27 [(1,.own 0 es.length),(2,.dt (.row fs)),(3,j4 i)],[wB es]⟩
noncomputable abbrev BQ:Code:=M6 (O4 f8) [1,1,1,0,1,0,0]
theorem b6B{fs es:aa0}{x:Ob}{f:p9.F7}{i:Nat}(hi:i < fs.length)(hl:fs.length≤1000)(hr:es.length≤1000)(hx:z8 fs (i:Int) 7 (A9 x))(h:D6 33 [.own 0 es.length,o7 x] [wB es] (tL f) [wB es]):y7 EX BQ (oZ fs es i) .F6 (oZ fs (es++[F8 f]) ((i+1:Nat):Int)) :=
 tW [.av (j4 fs.length),yT,.av (.pin ((A9 x).map .dt)),.av (.un),.av (j4 ((i+1:Nat):Int))] [.J5 6 6 [0] (tL f) [some (.buf 84 32 es)]] [1,2,3] 1 [(vi ↑fs.length)=(vi ↑fs.length),Bt .lss 3 5 7 ↑i ↑fs.length bT,_,_,(es.length)=(es.length),P7 568 ((es++[[Dt.val (vi 3),Dt.val (str o9),Dt.val (str f.nm),Dt.val (str []),Dt.row [],Dt.val (str []),Dt.val (str []),Dt.row [],Dt.val bF,Dt.val (vi 0),Dt.val (str []),Dt.val (str []),Dt.val (vi 0),Dt.val (str []),Dt.val (str []),Dt.val (str []),Dt.val (str []),Dt.val (str []),Dt.row [],Dt.row [],Dt.row [G7 f],Dt.row [],Dt.row [],Dt.row [],Dt.val (str []),Dt.val (str []),Dt.row [],Dt.row [],Dt.row [],Dt.row [],Dt.val (str []),Dt.val (Value.int .u64 0)]]).length),L8 32 [F8 f],Bk .add 3 9 1 ↑i (vi (↑(i+1)))] ⟨rfl,D8 (Pi J),hx,h,rfl,Uz J (by simp;omega),a5r f,H6 J J J,Z⟩
theorem b6C{fs es:aa0}{i:Nat}(hi:i=fs.length):y7 EX BQ (oZ fs es i) (.out 0) (oZ fs es i) :=
 tW [.av (j4 fs.length),yF] [] [1,2,3] 1 [(vi ↑fs.length)=(vi ↑fs.length),Bt .lss 3 5 7 ↑i ↑fs.length bF] ⟨rfl,D8 (WF J),Z⟩
theorem a8t{fs es ns:aa0}{k:Int}(hd:j5 32 [] (.dt (.row fs)))(hlp:y7 EX (.loop BQ) (wo0 fs) (.out 0) (oZ fs es k))(hn:j5 35 [] (.dt (.row ns)))(hl:es.length≤1000):j5 8 [] (.dt (.row (es++[bu ns]))) :=
 pW [.av (.dt (.row fs)),.av (p8 o9 [117,115,101,114,45,112,97,99,107,97,103,101]),.av (.dt (.row ns)),.av (.un)] [.inv [1,2,3] 0 (.out 0) (oZ fs es k)] [_,_,j5 34 [(stA [117,115,101,114,45,112,97,99,107,97,103,101])] (p8 o9 [117,115,101,114,45,112,97,99,107,97,103,101]),_,(es.length)=(es.length),P7 568 ((es++[[Dt.val (vi 1),Dt.val (str o9),Dt.val (str [117,115,101,114,45,112,97,99,107,97,103,101]),Dt.val (Value.string { data:=#[117,115,101,114]:ByteArray }),Dt.row ns,Dt.val (Value.string { data:=#[]:ByteArray }),Dt.val (Value.string { data:=#[]:ByteArray }),Dt.row [],Dt.val bF,Dt.val (vi 0),Dt.val (Value.string { data:=#[]:ByteArray }),Dt.val (Value.string { data:=#[]:ByteArray }),Dt.val (vi 0),Dt.val (Value.string { data:=#[]:ByteArray }),Dt.val (Value.string { data:=#[]:ByteArray }),Dt.val (Value.string { data:=#[]:ByteArray }),Dt.val (Value.string { data:=#[]:ByteArray }),Dt.val (Value.string { data:=#[]:ByteArray }),Dt.row [],Dt.row [],Dt.row [],Dt.row [],Dt.row [],Dt.row [],Dt.val (Value.string { data:=#[]:ByteArray }),Dt.val (Value.string { data:=#[]:ByteArray }),Dt.row [],Dt.row [],Dt.row [],Dt.row [],Dt.val (Value.string { data:=#[]:ByteArray }),Dt.val (Value.int .u64 0)]]).length),L8 32 [[(.val (vi 1)),(.val (str o9)),(.val (str [117,115,101,114,45,112,97,99,107,97,103,101])),(.val (str [117,115,101,114])),(.row ns),(.val (str [])),(.val (str [])),(.row []),(.val bF),(.val (vi 0)),(.val (str [])),(.val (str [])),(.val (vi 0)),(.val (str [])),(.val (str [])),(.val (str [])),(.val (str [])),(.val (str [])),(.row []),(.row []),(.row []),(.row []),(.row []),(.row []),(.val (str [])),(.val (str [])),(.row []),(.row []),(.row []),(.row []),(.val (str [])),(.val (Value.int .u64 0))]],((es++[[Dt.val (vi 1),Dt.val (str o9),Dt.val (str [117,115,101,114,45,112,97,99,107,97,103,101]),Dt.val (Value.string { data:=#[117,115,101,114]:ByteArray }),Dt.row ns,Dt.val (Value.string { data:=#[]:ByteArray }),Dt.val (Value.string { data:=#[]:ByteArray }),Dt.row [],Dt.val bF,Dt.val (vi 0),Dt.val (Value.string { data:=#[]:ByteArray }),Dt.val (Value.string { data:=#[]:ByteArray }),Dt.val (vi 0),Dt.val (Value.string { data:=#[]:ByteArray }),Dt.val (Value.string { data:=#[]:ByteArray }),Dt.val (Value.string { data:=#[]:ByteArray }),Dt.val (Value.string { data:=#[]:ByteArray }),Dt.val (Value.string { data:=#[]:ByteArray }),Dt.row [],Dt.row [],Dt.row [],Dt.row [],Dt.row [],Dt.row [],Dt.val (Value.string { data:=#[]:ByteArray }),Dt.val (Value.string { data:=#[]:ByteArray }),Dt.row [],Dt.row [],Dt.row [],Dt.row [],Dt.val (Value.string { data:=#[]:ByteArray }),Dt.val (Value.int .u64 0)]]).length)=((es++[[Dt.val (vi 1),Dt.val (str o9),Dt.val (str [117,115,101,114,45,112,97,99,107,97,103,101]),Dt.val (Value.string { data:=#[117,115,101,114]:ByteArray }),Dt.row ns,Dt.val (Value.string { data:=#[]:ByteArray }),Dt.val (Value.string { data:=#[]:ByteArray }),Dt.row [],Dt.val bF,Dt.val (vi 0),Dt.val (Value.string { data:=#[]:ByteArray }),Dt.val (Value.string { data:=#[]:ByteArray }),Dt.val (vi 0),Dt.val (Value.string { data:=#[]:ByteArray }),Dt.val (Value.string { data:=#[]:ByteArray }),Dt.val (Value.string { data:=#[]:ByteArray }),Dt.val (Value.string { data:=#[]:ByteArray }),Dt.val (Value.string { data:=#[]:ByteArray }),Dt.row [],Dt.row [],Dt.row [],Dt.row [],Dt.row [],Dt.row [],Dt.val (Value.string { data:=#[]:ByteArray }),Dt.val (Value.string { data:=#[]:ByteArray }),Dt.row [],Dt.row [],Dt.row [],Dt.row [],Dt.val (Value.string { data:=#[]:ByteArray }),Dt.val (Value.int .u64 0)]]).length)] func8 ⟨hd,hlp,Q8 _,hn,rfl,Uz J (by simp;omega),a5s ns,rfl,Z⟩
theorem a2c{ws:List p9.F7}{x:Tr}{f:p9.F7}(h:p9.entry I5 ws x=some f):∃d r,r.length≤200∧x=Tr.list (d::Tr.sym o9 f.nm::r):=by
 unfold p9.entry at h;split at h
 case h_2=>cases h
 rename_i d p nm px y r hi;split at h
 case h_2=>cases h
 split at h
 case h_2=>cases h
 split at h
 case isFalse=>cases h
 rename_i hc;obtain⟨rfl,hnm,hpn,hpl,hr⟩:=hc;split at h
 case h_2=>cases h
 cases h;exact⟨d,px::y::r,by simp only[yM];omega,rP hi⟩
theorem UA{L:List Tr}{i:Nat}{x:Tr}(h:L[i]?=some x):z8 (F3 L) (i:Int) 7 (A9 x.ob):=⟨Int.natCast_nonneg _,by rw[Int.toNat_natCast];unfold F3;rw[bi,h];rfl,rfl⟩
theorem a8u{L:List Tr}(hl:L.length≤100){wf:List p9.F7}:∀(s:List Tr) (i:Nat) (ws:List p9.F7),L.drop i=s→i≤L.length→ws.length=i→p9.world I5 s ws=some wf→I7 EX BQ (oZ (F3 L) (ws.map F8) i) (.out 0) (oZ (F3 L) (wf.map F8) L.length):=by
 have hlo:(F3 L).length=L.length:=by unfold F3;rw[Cc]
 intro s
 induction s with
 |nil =>
  intro i ws hd hi hw h;cases h;have e1:=congrArg List.length hd;rw[ut,List.length_nil]at e1;obtain rfl:i=L.length:=J;exact .stop (b6C hlo.symm) (fun h=>by cases h)
 |cons x s ih =>
  intro i ws hd hi hw h;rw[p9.world]at h;split at h
  case h_2=>cases h
  rename_i f hf;have hx:L[i]?=some x:=by rw[←Za1,hd];rfl
  have hlt:=(UV.1 hx).1;have hs:=b6B (fs:=F3 L) (es:=ws.map F8) (i:=i) J J (by rw[Cc];omega) (UA hx) (a8q J hf);have e:ws.map F8++[F8 f]=(ws++[f]).map F8:=by rw[Zam];rfl
  rw[e]at hs;exact .more hs (ih (i+1) (ws++[f]) (by rw[←Za0,hd];rfl) hlt (by simp[hw]) h)
theorem a8v{L:List Tr}(hl:L.length≤100){wf:List p9.F7}:∀(s:List Tr) (i:Nat) (ws:List p9.F7),L.drop i=s→i≤L.length→ws.length=i→p9.world I5 s ws=some wf→I7 EX GK (oV (F3 L) (I5.map gB++ws.map fun f=>H5 f.nm) i) (.out 0) (oV (F3 L) (I5.map gB++wf.map fun f=>H5 f.nm) L.length):=by
 have hlo:(F3 L).length=L.length:=by unfold F3;rw[Cc]
 have hpl:I5.length=25:=rfl;intro s
 induction s with
 |nil =>
  intro i ws hd hi hw h;cases h;have e1:=congrArg List.length hd;rw[ut,List.length_nil]at e1;obtain rfl:i=L.length:=J;exact .stop (b6x hlo.symm) (fun h=>by cases h)
 |cons x s ih =>
  intro i ws hd hi hw h;rw[p9.world]at h;split at h
  case h_2=>cases h
  rename_i f hf;have hx:L[i]?=some x:=by rw[←Za1,hd];rfl
  have hlt:=(UV.1 hx).1;obtain⟨d,r,hr,hxe⟩:=a2c hf;have hI:=vF (l:=d::Tr.sym o9 f.nm::r) (by simp only[yM];omega);rw[←hxe]at hI;have hs:=b6w (fs:=F3 L) (rs:=I5.map gB++ws.map fun f=>H5 f.nm) (i:=i) J J (by rw[lm,Cc,Cc];omega) (UA hx) hI (b0U _ _ _);have e:(I5.map gB++ws.map fun f=>H5 f.nm)++[H5 f.nm]=I5.map gB++(ws++[f]).map fun f=>H5 f.nm:=by rw[Zaf,Zam];rfl
  rw[e]at hs;exact .more hs (ih (i+1) (ws++[f]) (by rw[←Za0,hd];rfl) hlt (by simp[hw]) h)
def G5:List p9.F7:=(p9.world I5 forms []).getD []
theorem QS:p9.world I5 forms []=some G5:=by
 have h:(p9.world I5 forms []).isSome=true:=by decide +kernel
 obtain⟨l,hl⟩:=Option.isSome_iff_exists.1 h;unfold G5;rw[hl];rfl
theorem ve:G5.length=28:=by decide +kernel
theorem a2F:ig.length=61:=by decide +kernel
def nN:aa0:=(I5.map gB++G5.map fun f=>H5 f.nm)++ig.map H5
theorem Sg:forms.length≤100:=by rw[QR];decide
theorem a3z:j5 35 [] (.dt (.row nN)):=by
 have h1:=(a8v Sg forms 0 [] rfl (Ci _) rfl QS).I8;have h2:=(a8r (ws:=ig) (by rw[a2F];decide) ig 0 (I5.map gB++G5.map fun f=>H5 f.nm) rfl (Ci _) (by rw[lm,Cc,Cc,ve];decide)).I8;rw[List.map_nil,ZaB]at h1;exact a8s Pf h1 h2
def P6:aa0:=G5.map F8++[bu nN]
theorem Dr:j5 8 [] (.dt (.row P6)):=by
 have h:=(a8u Sg forms 0 [] rfl (Ci _) rfl QS).I8;have ht:y7 EX (.loop BQ) (wo0 (F3 forms)) (.out 0) (oZ (F3 forms) (G5.map F8) forms.length):=y7.Z9 1 84 32 (by show 1 < 27;omega) rfl h;exact a8t Pf ht a3z (by rw[Cc,ve];decide)
theorem b6D{es is:aa0}{n:lw}{i:Nat}(h:z8 es (i:Int) 32 (bu is))(hi:i < es.length)(hl:es.length≤1000):y7 EX uJ (jo es n i) .F6 (jo es n ((i+1:Nat):Int)) :=
 tW [.av (j4 es.length),yT,.av (.pin ((bu is).map .dt)),.av (.dt (.row [])),.no,.no,.av (j4 ((i+1:Nat):Int))] [.run 1] [0,3,7] 1 [(vi ↑es.length)=(vi ↑es.length),Bt .lss 3 10 12 ↑i ↑es.length bT,z8 es ↑i 32 ([(.val (vi 1)),(.val (str o9)),(.val (str [117,115,101,114,45,112,97,99,107,97,103,101])),(.val (str [117,115,101,114])),(.row is),(.val (str [])),(.val (str [])),(.row []),(.val bF),(.val (vi 0)),(.val (str [])),(.val (str [])),(.val (vi 0)),(.val (str [])),(.val (str [])),(.val (str [])),(.val (str [])),(.val (str [])),(.row []),(.row []),(.row []),(.row []),(.row []),(.row []),(.val (str [])),(.val (str [])),(.row []),(.row []),(.row []),(.row []),(.val (str [])),(.val (Value.int .u64 0))]),j5 123 [(.agg [(j4 1),(stA o9),(stA [117,115,101,114,45,112,97,99,107,97,103,101]),(stA [117,115,101,114]),(.dt (.row is)),(stA []),(stA []),(.dt (.row [])),(l5 false),(j4 0),(stA []),(stA []),(j4 0),(stA []),(stA []),(stA []),(stA []),(stA []),(.dt (.row [])),(.dt (.row [])),(.dt (.row [])),(.dt (.row [])),(.dt (.row [])),(.dt (.row [])),(stA []),(stA []),(.dt (.row [])),(.dt (.row [])),(.dt (.row [])),(.dt (.row [])),(stA []),(.dt (.val (Value.int .u64 0)))])] (.dt (.row [])),Bk .add 3 14 1 ↑i (vi (↑(i+1)))]     ⟨rfl,D8 (Pi J),h,a8f is,H6 J J J,Z⟩
theorem b6E{es:aa0}{n:lw}{i:Nat}(hi:i=es.length):y7 EX uJ (jo es n i) (.out 0) (jo es n i) :=
 tW [.av (j4 es.length),yF] [] [0,3,7] 1 [(vi ↑es.length)=(vi ↑es.length),Bt .lss 3 10 12 ↑i ↑es.length bF]     ⟨rfl,D8 (WF J),Z⟩
theorem b3O{ws:List p9.F7}{is:aa0}{n:lw}(hl:ws.length≤900):∀(s:List p9.F7) (i:Nat),ws.drop i=s→i≤ws.length→(s.find? fun f=>f.nm == n)=none→I7 EX uJ (jo (ws.map F8++[bu is]) n i) (.out 0) (jo (ws.map F8++[bu is]) n (ws.length+1:Nat)):=by
 have hlen:(ws.map F8++[bu is]).length=ws.length+1:=by rw[lm,Cc];rfl
 intro s
 induction s with
 |nil =>
  intro i hd hi _;have e1:=congrArg List.length hd;rw[ut,List.length_nil]at e1;obtain rfl:i=ws.length:=J;have hx:z8 (ws.map F8++[bu is]) (ws.length:Int) 32 (bu is):=⟨Int.natCast_nonneg _,by rw[Int.toNat_natCast,ZaI (by rw[Cc];exact PP _),Cc,Zb5];rfl,rfl⟩;exact .more (b6D hx J J) (.stop (b6E hlen.symm) (fun h=>by cases h))
 |cons x s ih =>
  intro i hd hi h;have hx:ws[i]?=some x:=by rw[←Za1,hd];rfl
  have hlt:=(UV.1 hx).1;rw[List.find?_cons]at h;split at h
  ·cases h
  ·rename_i e;exact .more (YW (oh hx) J J (WF (by simpa using e))) (ih (i+1) (by rw[←Za0,hd];rfl) hlt h)
theorem b1c{es:aa0}{n:lw}{k:Int}(h:y7 EX (.loop uJ) (jo es n 0) (.out 0) (jo es n k)):j5 122 [.dt (.row es),p8 o9 n] (.l7 [j4 0,j4 0,l5 false]) :=
 pW [] [.inv [0,3,7] 1 (.out 0) (jo es n k)] [_] func122 ⟨h,Z⟩
abbrev encZ:List Dt:=[.val (str []),.val (str []),.row [],.val (.int .i64 0)]++(o8 F4++(o8 F4++o8 F4))
theorem Mq(f:p9.F7):j5 220 [.agg ((F8 f).map .dt)] (.dt (.row [G7 f])) :=
 pV [.no] [] func220 trivial
abbrev lcC(n:lw):AV:=.au 251 [.pin [stA o9,stA n]]
theorem XM{f:p9.F7}{n:lw}{b:Bool}(h:(decide (o9=o9) && decide (f.nm=n))=b):j5 251 [.agg ((G7 f).map .dt),.pin [stA o9,stA n]] (l5 b) :=
 pV [.av (l5 b)] [Bn .eql 42 (.tmp 5) (.tmp 6) (Value.agg #[str o9,str f.nm]) (Value.agg #[str o9,str n]) (Value.bool b)] func251 ⟨ae h,Z⟩
theorem a5t{f:p9.F7}{n:lw}(h:j5 251 [.agg ((G7 f).map .dt),.pin [stA o9,stA n]] (l5 true)):j5 250 [.dt (.row [G7 f]),lcC n] (.l7 [j4 0,l5 true]) :=
 pW [.no,.no,.no,yT] [.run 1] [_] func250 ⟨h,Z⟩
theorem a5u{f:p9.F7}{n:lw}(h:j5 251 [.agg ((G7 f).map .dt),.pin [stA o9,stA n]] (l5 false)):j5 250 [.dt (.row [G7 f]),lcC n] (.l7 [j4 0,l5 false]) :=
 pW [.no,.no,.no,yF,.no,.no] [.run 2] [_] func250 ⟨h,Z⟩
abbrev BR(es:aa0)(n:lw)(i:Int):AS:=⟨stt 29 [(3,.ptr 0 0),(11,.dt (.row es)),(12,j4 es.length),(13,j4 i)],[some (.cells [stA o9,stA n])]⟩
abbrev GM(n:lw)(i:Int):AS:=⟨stt 29 [(4,j4 i),(5,j4 0),(6,l5 true)],[some (.cells [stA o9,stA n])]⟩
noncomputable abbrev GN:Code:=M6 (O4 f219) [1,0,1,0,0]
theorem b6F{es:aa0}{n:lw}{i:Nat}{f:p9.F7}(h:z8 es (i:Int) 32 (F8 f))(hi:i < es.length)(hl:es.length≤1000)(hn:¬f.nm=n):y7 EX GN (BR es n i) .F6 (BR es n ((i+1:Nat):Int)) :=
 tW [yT,.av (.pin ((F8 f).map .dt)),.av (.dt (.row [G7 f])),.av (.l7 [j4 0,l5 false]),.av (j4 ((i+1:Nat):Int))] [] [3,11,12,13] 1 [Bt .lss 3 13 12 ↑i ↑es.length bT,_,j5 220 [(.agg ((F8 f).map .dt))] (.dt (.row [G7 f])),j5 250 [(.dt (.row [G7 f])),(.au 251 [(.pin [(stA o9),(stA n)])])] (.l7 [(j4 0),(l5 false)]),Bk .add 3 13 1 ↑i (vi (↑(i+1)))] ⟨D8 (Pi J),h,Mq f,a5u (XM (by rw[WF hn,Bool.and_false])),H6 J J J,Z⟩
theorem b6G{es:aa0}{n:lw}{i:Nat}{f:p9.F7}(h:z8 es (i:Int) 32 (F8 f))(hi:i < es.length)(hn:f.nm=n):y7 EX GN (BR es n i) .ret (GM n i) :=
 tW [yT,.av (.pin ((F8 f).map .dt)),.av (.dt (.row [G7 f])),.av (.l7 [j4 0,l5 true])] [] [4,5,6] 1 [Bt .lss 3 13 12 ↑i ↑es.length bT,_,j5 220 [(.agg ((F8 f).map .dt))] (.dt (.row [G7 f])),j5 250 [(.dt (.row [G7 f])),(.au 251 [(.pin [(stA o9),(stA n)])])] (.l7 [(j4 0),(l5 true)])] ⟨D8 (Pi J),h,Mq f,a5t (XM (by rw[Pi hn];rfl)),Z⟩
theorem a8w{ws:List p9.F7}{r:aa0}{n:lw}{f:p9.F7}(hl:(ws.map F8++r).length≤1000):∀(s:List p9.F7) (i:Nat),ws.drop i=s→(s.find? fun f=>f.nm == n)=some f→∃j:Nat,ws[j]?=some f∧I7 EX GN (BR (ws.map F8++r) n i) .ret (GM n j):=by
 intro s
 induction s with
 |nil=>intro i _ h;cases h
 |cons x s ih =>
  intro i hd h;have hx:ws[i]?=some x:=by rw[←Za1,hd];rfl
  have hlt:=(UV.1 hx).1;have hi:i < (ws.map F8++r).length:=by rw[lm,Cc];omega
  rw[List.find?_cons]at h;split at h
  ·rename_i e;cases h;exact⟨i,hx,.stop (b6G (oh hx) hi (by simpa using e)) (fun h=>by cases h)⟩
  ·rename_i e;obtain⟨j,k1,k2⟩:=ih (i+1) (by rw[←Za0,hd];rfl) h;exact⟨j,k1,.more (b6F (oh hx) hi hl (by simpa using e)) k2⟩
theorem b3P{es:aa0}{n:lw}{j:Nat}(h:y7 EX (.loop GN) (BR es n 0) .ret (GM n j)):j5 219 [.dt (.row es),p8 o9 n] (.l7 [j4 j,j4 0,l5 true]) :=
 pW [.av (j4 es.length)] [.inv [3,11,12,13] 1 (.ret) (GM n j)] [(vi ↑es.length)=(vi ↑es.length),_] func219 ⟨rfl,h,Z⟩
theorem a8x{es:aa0}{n:lw}{j:Nat}{f:p9.F7}(ht:j5 219 [.dt (.row es),p8 o9 n] (.l7 [j4 j,j4 0,l5 true]))(h:z8 es (j:Int) 32 (F8 f)):j5 190 [.dt (.row es),p8 o9 n] (.l7 [.agg ((G7 f).map .dt),l5 true]) :=
 pV [.av (.l7 [j4 j,j4 0,l5 true]),.av (.pin ((F8 f).map .dt)),.av (.dt (.row [G7 f])),.no] [_,_,j5 220 [(.agg ((F8 f).map .dt))] (.dt (.row [G7 f]))] func190 ⟨ht,h,Mq f,Z⟩
theorem a5v{ws:List p9.F7}{r:aa0}{n:lw}{f:p9.F7}(hl:(ws.map F8++r).length≤1000)(hf:(ws.find? fun f=>f.nm == n)=some f):j5 190 [.dt (.row (ws.map F8++r)),p8 o9 n] (.l7 [.agg ((G7 f).map .dt),l5 true]):=by
 obtain⟨j,hj,h⟩:=a8w (r:=r) hl ws 0 rfl hf;exact a8x (j:=j) (b3P h.I8) (oh hj)
end Go.Proofs.YtbpmpdadppamgaaGreatDoor
namespace Go.Proofs.YtbpmpdadppamgaaGreatDoor
open Go.Proofs.Tryz
open Go.RowKit
theorem RV.sy{M:Mm}{w:World}{p n:lw}{v:Value}(h:RV M w (p8 p n) v):v=.agg #[str p,str n]:=by
 obtain⟨vs,rfl,u0,_,rfl,h0,u1,_,rfl,h1,rfl⟩:=h;rw[Rd.Q7 h0,Rd.Q7 h1]
theorem Ld:j5 151 [p8 o9 [105,102]] (.l7 [j4 3,l5 true]):=pV [] [] func151 trivial
theorem We:j5 151 [p8 o9 [101,113,117,97,108]] (.l7 [j4 2,l5 true]):=pV [] [] func151 trivial
theorem Le:j5 151 [p8 o9 [99,111,110,115]] (.l7 [j4 2,l5 true]):=pV [] [] func151 trivial
theorem Wh:j5 151 [p8 o9 [99,97,114]] (.l7 [j4 1,l5 true]):=pV [] [] func151 trivial
theorem Wi:j5 151 [p8 o9 [99,100,114]] (.l7 [j4 1,l5 true]):=pV [] [] func151 trivial
theorem Wj:j5 151 [p8 o9 [99,111,110,115,112]] (.l7 [j4 1,l5 true]):=pV [] [] func151 trivial
theorem Wl:j5 151 [p8 o9 [115,121,109,98,111,108,112]] (.l7 [j4 1,l5 true]):=pV [] [] func151 trivial
theorem Wm:j5 151 [p8 o9 [115,116,114,105,110,103,112]] (.l7 [j4 1,l5 true]):=pV [] [] func151 trivial
theorem Wn:j5 151 [p8 o9 [114,97,116,105,111,110,97,108,112]] (.l7 [j4 1,l5 true]):=pV [] [] func151 trivial
theorem Wo:j5 151 [p8 o9 [105,110,116,101,103,101,114,112]] (.l7 [j4 1,l5 true]):=pV [] [] func151 trivial
theorem Kh:j5 151 [p8 o9 [98,105,110,97,114,121,45,43]] (.l7 [j4 2,l5 true]):=pV [] [] func151 trivial
theorem Ki:j5 151 [p8 o9 [98,105,110,97,114,121,45,42]] (.l7 [j4 2,l5 true]):=pV [] [] func151 trivial
theorem UB:j5 151 [p8 o9 [117,110,97,114,121,45,45]] (.l7 [j4 1,l5 true]):=pV [] [] func151 trivial
theorem UC:j5 151 [p8 o9 [117,110,97,114,121,45,47]] (.l7 [j4 1,l5 true]):=pV [] [] func151 trivial
theorem UD:j5 151 [p8 o9 [60]] (.l7 [j4 2,l5 true]):=pV [] [] func151 trivial
theorem UE:j5 151 [p8 o9 [110,117,109,101,114,97,116,111,114]] (.l7 [j4 1,l5 true]):=pV [] [] func151 trivial
theorem UF:j5 151 [p8 o9 [100,101,110,111,109,105,110,97,116,111,114]] (.l7 [j4 1,l5 true]):=pV [] [] func151 trivial
theorem UG:j5 151 [p8 o9 [102,108,111,111,114]] (.l7 [j4 1,l5 true]):=pV [] [] func151 trivial
theorem UH:j5 151 [p8 o9 [115,121,109,98,111,108,45,110,97,109,101]] (.l7 [j4 1,l5 true]):=pV [] [] func151 trivial
theorem UI:j5 151 [p8 o9 [115,121,109,98,111,108,45,112,97,99,107,97,103,101,45,110,97,109,101]] (.l7 [j4 1,l5 true]):=pV [] [] func151 trivial
theorem UJ:j5 151 [p8 o9 [105,110,116,101,114,110]] (.l7 [j4 2,l5 true]):=pV [] [] func151 trivial
theorem Kj:j5 151 [p8 o9 [115,116,114,105,110,103,45,97,112,112,101,110,100]] (.l7 [j4 2,l5 true]):=pV [] [] func151 trivial
theorem UK:j5 151 [p8 o9 [115,116,114,105,110,103,45,108,101,110,103,116,104]] (.l7 [j4 1,l5 true]):=pV [] [] func151 trivial
theorem Kk:j5 151 [p8 o9 [115,116,114,105,110,103,45,98,121,116,101]] (.l7 [j4 2,l5 true]):=pV [] [] func151 trivial
theorem UL:j5 151 [p8 o9 [98,121,116,101,45,115,116,114,105,110,103]] (.l7 [j4 1,l5 true]):=pV [] [] func151 trivial
theorem b1d{n:lw}(hn:∀x∈I5,n≠x.1):j5 151 [p8 o9 n] (.l7 [j4 0,l5 false]):=pV [.no,yF,yF,yF,yF,yF,yF,yF,yF,yF,yF,yF,yF,yF,yF,yF,yF,yF,yF,yF,yF,yF,yF,yF,yF,yF] [Bl .eql 9 8 [105,102] n bF,Bl .eql 9 8 [101,113,117,97,108] n bF,Bl .eql 9 8 [99,111,110,115] n bF,Bl .eql 9 8 [98,105,110,97,114,121,45,43] n bF,Bl .eql 9 8 [98,105,110,97,114,121,45,42] n bF,Bl .eql 9 8 [60] n bF,Bl .eql 9 8 [105,110,116,101,114,110] n bF,Bl .eql 9 8 [115,116,114,105,110,103,45,97,112,112,101,110,100] n bF,Bl .eql 9 8 [115,116,114,105,110,103,45,98,121,116,101] n bF,Bl .eql 9 8 [99,97,114] n bF,Bl .eql 9 8 [99,100,114] n bF,Bl .eql 9 8 [99,111,110,115,112] n bF,Bl .eql 9 8 [115,121,109,98,111,108,112] n bF,Bl .eql 9 8 [115,116,114,105,110,103,112] n bF,Bl .eql 9 8 [114,97,116,105,111,110,97,108,112] n bF,Bl .eql 9 8 [105,110,116,101,103,101,114,112] n bF,Bl .eql 9 8 [117,110,97,114,121,45,45] n bF,Bl .eql 9 8 [117,110,97,114,121,45,47] n bF,Bl .eql 9 8 [110,117,109,101,114,97,116,111,114] n bF,Bl .eql 9 8 [100,101,110,111,109,105,110,97,116,111,114] n bF,Bl .eql 9 8 [102,108,111,111,114] n bF,Bl .eql 9 8 [115,121,109,98,111,108,45,110,97,109,101] n bF,Bl .eql 9 8 [115,121,109,98,111,108,45,112,97,99,107,97,103,101,45,110,97,109,101] n bF,Bl .eql 9 8 [115,116,114,105,110,103,45,108,101,110,103,116,104] n bF,Bl .eql 9 8 [98,121,116,101,45,115,116,114,105,110,103] n bF] func151 ⟨I6 (WF (hn ([105,102],3) O)),I6 (WF (hn ([101,113,117,97,108],2) O)),I6 (WF (hn ([99,111,110,115],2) O)),I6 (WF (hn ([98,105,110,97,114,121,45,43],2) O)),I6 (WF (hn ([98,105,110,97,114,121,45,42],2) O)),I6 (WF (hn ([60],2) O)),I6 (WF (hn ([105,110,116,101,114,110],2) O)),I6 (WF (hn ([115,116,114,105,110,103,45,97,112,112,101,110,100],2) O)),I6 (WF (hn ([115,116,114,105,110,103,45,98,121,116,101],2) O)),I6 (WF (hn ([99,97,114],1) O)),I6 (WF (hn ([99,100,114],1) O)),I6 (WF (hn ([99,111,110,115,112],1) O)),I6 (WF (hn ([115,121,109,98,111,108,112],1) O)),I6 (WF (hn ([115,116,114,105,110,103,112],1) O)),I6 (WF (hn ([114,97,116,105,111,110,97,108,112],1) O)),I6 (WF (hn ([105,110,116,101,103,101,114,112],1) O)),I6 (WF (hn ([117,110,97,114,121,45,45],1) O)),I6 (WF (hn ([117,110,97,114,121,45,47],1) O)),I6 (WF (hn ([110,117,109,101,114,97,116,111,114],1) O)),I6 (WF (hn ([100,101,110,111,109,105,110,97,116,111,114],1) O)),I6 (WF (hn ([102,108,111,111,114],1) O)),I6 (WF (hn ([115,121,109,98,111,108,45,110,97,109,101],1) O)),I6 (WF (hn ([115,121,109,98,111,108,45,112,97,99,107,97,103,101,45,110,97,109,101],1) O)),I6 (WF (hn ([115,116,114,105,110,103,45,108,101,110,103,116,104],1) O)),I6 (WF (hn ([98,121,116,101,45,115,116,114,105,110,103],1) O)),Z⟩
theorem a05(o:Ob)(A:Option Addr)(n c:Nat)(w:World):Calls prog 227 #[G6 o (.slice A n c)] w (J7 (.bool (decide (o.kind=1∧o.den=[49]))) w):=by
 obtain⟨k,nm,d,p,s,t,l⟩:=o;dsimp only;by_cases hk:k=1
 ·subst hk;by_cases h1:d=[49]
  ·subst h1;rw[Pi ⟨rfl,rfl⟩]
   go_enter func227,ntmps227
   go_wp2;go_ret;exact⟨rfl,box _ _⟩
  ·rw[WF (fun h=>h1 h.2)];have hz:(d == [49])=false:=by rw[IR];exact h1
   clear h1
   go_enter func227,ntmps227
   go_wp2;go_ret;exact⟨rfl,box _ _⟩
 ·rw[WF (fun h=>hk h.1)];have hz:(k == 1)=false:=by rw[IR];exact hk
  clear hk
  go_enter func227,ntmps227
  go_wp2;go_ret;exact⟨rfl,box _ _⟩
theorem a06(o:Ob)(A:Option Addr)(n c:Nat)(w:World):Calls prog 156 #[G6 o (.slice A n c)] w (J7 (.bool (decide (o.kind=1∧o.den=[49]))) w):=by
 obtain⟨k,nm,d,p,s,t,l⟩:=o;dsimp only;by_cases hk:k=1
 ·subst hk;by_cases h1:d=[49]
  ·subst h1;rw[Pi ⟨rfl,rfl⟩]
   go_enter func156,ntmps156
   go_wp2;go_ret;exact⟨rfl,box _ _⟩
  ·rw[WF (fun h=>h1 h.2)];have hz:(d == [49])=false:=by rw[IR];exact h1
   clear h1
   go_enter func156,ntmps156
   go_wp2;go_ret;exact⟨rfl,box _ _⟩
 ·rw[WF (fun h=>hk h.1)];have hz:(k == 1)=false:=by rw[IR];exact hk
  clear hk
  go_enter func156,ntmps156
  go_wp2;go_ret;exact⟨rfl,box _ _⟩
end Go.Proofs.YtbpmpdadppamgaaGreatDoor
