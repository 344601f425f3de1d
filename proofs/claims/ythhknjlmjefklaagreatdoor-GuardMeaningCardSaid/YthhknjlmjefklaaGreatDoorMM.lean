/- Entries of the built-in world, of the reference. -/
import Derived.Test.YthhknjlmjefklaaGreatDoorML
import Derived.Test.YthhknjlmjefklaaGreatDoorMK
import Derived.Test.YthhknjlmjefklaaGreatDoorMD
import Derived.Deep.RegionHeld3
import Derived.Deep.RegionLaw
namespace Go.Proofs.YthhknjlmjefklaaGreatDoor
open Go.RowKit
open Te
abbrev zT:List AV:=[inA 0,stA [],stA [],inA 0,stA [],stA [],stA [],stA [],stA [],.nil,.nil]
abbrev enZ:List AV:=inA 0::stA []::stA []::stA []::.nil::stA []::stA []::.nil::boA false::(zT++[.nil,.nil,.nil,.nil,stA [],stA [],.nil,.nil,.nil,.nil,stA [],.dt (.val (.int .u64 0))])
abbrev enF (nm:List UInt8) (p:AV):List AV:=stA lispB::stA nm::p::inA 1::((encT yesT).map .dt++(zT++zT))
abbrev entA (f:Rdr.Fnc):AV:=.agg (inA 3::stA lispB::stA f.nm::stA []::.nil::stA []::stA []::.nil::boA false::(zT++[.dt (.row [encF f]),.nil,.nil,.nil,stA [],stA [],.nil,.nil,.nil,.nil,stA [],.dt (.val (.int .u64 0))]))
abbrev en0 (es os:List (List Dt)) (form:Ob) (nm:List UInt8) (qs:List (List Dt)):AS:=⟨stt 99 [(0,.own 0 es.length),(3,.ptr 1 0),(4,.ptr 2 0),(5,.dt (.row os)),(7,.ptr 3 0),(8,.dt (.row qs)),(10,inA 0)],[wB es,some (.cells ((encL form).map .dt)),some (.cells enZ),some (.cells (enF nm .nil))]⟩
abbrev enS (es os:List (List Dt)) (form:Ob) (nm:List UInt8) (qs rs:List (List Dt)) (i:Int):AS:=⟨stt 99 [(0,.own 0 es.length),(3,.ptr 1 0),(4,.ptr 2 0),(5,.dt (.row os)),(7,.ptr 3 0),(8,.dt (.row qs)),(10,inA i)],[wB es,some (.cells ((encL form).map .dt)),some (.cells enZ),some (.cells (enF nm (.own 4 rs.length))),some (.buf 28 2 rs)]⟩
theorem src_lrow (n:List UInt8):SrcOK 2 [lrow n]:=by
 intro x hx
 rw [List.mem_singleton] at hx
 subst hx
 exact ⟨rfl,fun d hd=>by simp only [List.mem_cons,List.not_mem_nil,or_false] at hd;rcases hd with rfl | rfl <;> rfl⟩
noncomputable abbrev enB:Code:=subC (bodyOf Tryz.f31) [1,1,1,1,0,1,0,0]
theorem enB0 {es os qs:List (List Dt)} {form:Ob} {nm n:List UInt8} (hi:0 < qs.length) (hx:IxAt qs 0 7 (encL (symB n))):Tri (EXn 1) enB (en0 es os form nm qs) .nxt (enS es os form nm qs [lrow n] 1) :=
 tw (E:=EXn 1) (c:=subC (bodyOf Tryz.f31) [1,1,1,1,0,1,0,0]) (s:=en0 es os form nm qs) (an:=[.av (inA qs.length),yT,.av (.pin ((encL (symB n)).map .dt)),.av (.un),.no]) (ls:=[]) (ft:=[0,3,4,5,7,8,10]) (nb:=5) (e:=.nxt) (s':=enS es os form nm qs [lrow n] 1) (ps:=[(vi ↑qs.length)=(vi ↑qs.length),Bn .lss 3 (.tmp 35) (.tmp 37) (vi 0) (vi ↑qs.length) bT,IxAt qs 0 7 (encL (symB n)),FitB 32 (([[Dt.val (str (symB n).sp),Dt.val (str (symB n).sn)]]).length),SrcOK 2 [[(.val (str (symB n).sp)),(.val (str (symB n).sn))]]]) (by kernel_rfl) ⟨rfl,bin_ilt (decide_eq_true (by omega)),hx,fit_of (by omega) (by simp),src_lrow n,trivial⟩
theorem enB1 {es os qs rs:List (List Dt)} {form:Ob} {nm n:List UInt8} {i:Nat} (hi:i < qs.length) (hl:qs.length≤1000) (hr:rs.length≤1000) (hx:IxAt qs (i:Int) 7 (encL (symB n))):Tri (EXn 1) enB (enS es os form nm qs rs i) .nxt (enS es os form nm qs (rs++[lrow n]) ((i+1:Nat):Int)) :=
 tw (E:=EXn 1) (c:=subC (bodyOf Tryz.f31) [1,1,1,1,0,1,0,0]) (s:=enS es os form nm qs rs i) (an:=[.av (inA qs.length),yT,.av (.pin ((encL (symB n)).map .dt)),.av (.un),.av (inA ((i+1:Nat):Int))]) (ls:=[]) (ft:=[0,3,4,5,7,8,10]) (nb:=5) (e:=.nxt) (s':=enS es os form nm qs (rs++[lrow n]) ((i+1:Nat):Int)) (ps:=[(vi ↑qs.length)=(vi ↑qs.length),Bn .lss 3 (.tmp 35) (.tmp 37) (vi ↑i) (vi ↑qs.length) bT,IxAt qs ↑i 7 (encL (symB n)),(rs.length)=(rs.length),FitB 32 ((rs++[[Dt.val (str (symB n).sp),Dt.val (str (symB n).sn)]]).length),SrcOK 2 [[(.val (str (symB n).sp)),(.val (str (symB n).sn))]],Bn .add 3 (.tmp 39) (.const (vi 1)) (vi ↑i) (vi 1) (vi (↑(i+1)))]) (by kernel_rfl) ⟨rfl,bin_ilt (decide_eq_true (by omega)),hx,rfl,fit_of (by omega) (by simp;omega),src_lrow n,bin_iadd (by omega) (by omega) (by omega),trivial⟩
theorem enB2 {es os qs rs:List (List Dt)} {form:Ob} {nm:List UInt8} {i:Nat} (hi:i=qs.length):Tri (EXn 1) enB (enS es os form nm qs rs i) (.out 0) (enS es os form nm qs rs i) :=
 tw (E:=EXn 1) (c:=subC (bodyOf Tryz.f31) [1,1,1,1,0,1,0,0]) (s:=enS es os form nm qs rs i) (an:=[.av (inA qs.length),yF]) (ls:=[]) (ft:=[0,3,4,5,7,8,10]) (nb:=5) (e:=.out 0) (s':=enS es os form nm qs rs i) (ps:=[(vi ↑qs.length)=(vi ↑qs.length),Bn .lss 3 (.tmp 35) (.tmp 37) (vi ↑i) (vi ↑qs.length) bF]) (by kernel_rfl) ⟨rfl,bin_ilt (decide_eq_false (by omega)),trivial⟩
theorem w_ent00 {es os qs:List (List Dt)} {ps:List (List UInt8)} {nm:List UInt8} {form px b:Ob} {bt:Te} {k:Int} (h1:Puk 63 [obA form] (.tup [.dt (.row os),boA true])) (hx1:IxAt os 1 7 (encL (symB nm))) (hx2:IxAt os 2 7 (encL px)) (h2:Puk 63 [obA px] (.tup [.dt (.row qs),boA true])) (hlp:Tri (EXn 1) (.loop enB) (en0 es os form nm qs) (.out 0) (enS es os form nm qs (ps.map lrow) k)) (hz:IxAt os (os.length - 1) 7 (encL b)) (hl:os.length≤1000) (hb:Suk 65 [.own 0 es.length,.dt (.row [encF ⟨nm,ps,yesT,zTe,zTe⟩]),obA b] [wB es] (.tup [teA bt,inA 0]) [wB es]) (hg:Puk 66 [.dt (.row os),stA Rdr.guardB] (.tup [obA zOb,boA false])) (hm:Puk 66 [.dt (.row os),stA Rdr.measB] (.tup [obA zOb,boA false])):Suk 31 [.own 0 es.length,obA form] [wB es] (entA ⟨nm,ps,yesT,bt,zTe⟩) [wB es] :=
 psw (n:=1) (ks:=[0]) (an:=[.av (.tup [.dt (.row os),boA true]),.av (.pin ((encL (symB nm)).map .dt)),.av (obA tO),.av (teA yesT),.av (.pin ((encL px).map .dt)),.av (.tup [.dt (.row qs),boA true]),.av (inA os.length),.av (inA (os.length - 1)),.av (.pin ((encL b).map .dt)),.av (.tup [obA zOb,boA false]),.av (.tup [obA zOb,boA false])]) (ls:=[.inv [0,3,4,5,7,8,10] 4 (.out 0) (enS es os form nm qs (ps.map lrow) k),.scl 9 8 [0] (.tup [teA bt,inA 0]) [some (.buf 70 32 es)]]) (ps:=[Puk 63 [(obA form)] (.tup [(.dt (.row os)),(boA true)]),IxAt os 1 7 (encL (symB nm)),Puk 64 [] (obA tO),Puk 13 [(obA tO)] (.agg [(inA 2),(stA yesT.np),(stA yesT.nn),(inA 2),(stA yesT.val.num),(stA yesT.val.den),(stA yesT.val.sp),(stA yesT.val.sn),(stA yesT.val.text),(.dt (.row (List.map Ob.enc yesT.val.pair))),(.dt (.row (List.map Te.enc yesT.args)))]),IxAt os 2 7 (encL px),Puk 63 [(obA px)] (.tup [(.dt (.row qs)),(boA true)]),Tri (EXn 1) (.loop (subC (bodyOf Tryz.f31) [1,1,1,1,0,1,0,0])) (en0 es os form nm qs) (.out 0) (enS es os form nm qs (ps.map lrow) k),((List.map lrow ps).length)=((List.map lrow ps).length),(vi ↑os.length)=(vi ↑os.length),Bn .sub 3 (.tmp 58) (.const (vi 1)) (vi ↑os.length) (vi 1) (vi (↑os.length - 1)),IxAt os (↑os.length - 1) 7 (encL b),Suk 65 [AV.own 0 es.length,AV.dt (Dt.row ([(Dt.val (str lispB)::Dt.val (str nm)::Dt.row (List.map lrow ps)::Dt.val (vi 1)::Dt.val (vi yesT.kind)::Dt.val (str yesT.np)::Dt.val (str yesT.nn)::Dt.val (vi yesT.val.kind)::Dt.val (str yesT.val.num)::Dt.val (str yesT.val.den)::Dt.val (str yesT.val.sp)::Dt.val (str yesT.val.sn)::Dt.val (str yesT.val.text)::Dt.row (List.map Ob.enc yesT.val.pair)::Dt.row (List.map Te.enc yesT.args)::Dt.val (vi 0)::Dt.val (str [])::Dt.val (str [])::Dt.val (vi 0)::Dt.val (str [])::Dt.val (str [])::Dt.val (str [])::Dt.val (str [])::Dt.val (str [])::Dt.row []::Dt.row []::Dt.val (vi 0)::Dt.val (str [])::Dt.val (str [])::Dt.val (vi 0)::Dt.val (str [])::Dt.val (str [])::Dt.val (str [])::Dt.val (str [])::Dt.val (str [])::Dt.row []::Dt.row []::[])])),AV.agg [AV.dt (Dt.val (vi b.kind)),AV.dt (Dt.val (str b.num)),AV.dt (Dt.val (str b.den)),AV.dt (Dt.val (str b.sp)),AV.dt (Dt.val (str b.sn)),AV.dt (Dt.val (str b.text)),AV.dt (Dt.row (List.map Ob.enc b.pair))]] [some (Bx.buf 70 32 es)] (AV.tup [teA bt,inA 0]) [some (Bx.buf 70 32 es)],Puk 66 [(.dt (.row os)),(stA [103,117,97,114,100])] (.tup [(obA zOb),(boA false)]),Puk 66 [(.dt (.row os)),(stA [109,101,97,115,117,114,101])] (.tup [(obA zOb),(boA false)]),((List.map lrow ps).length)=((List.map lrow ps).length)]) Tryz.func31 (by kernel_rfl) (by kernel_rfl) ⟨h1,hx1,p_rT,p_rConst _,hx2,h2,hlp,rfl,rfl,bin_isub rfl (by omega) (by omega),hz,hb,hg,hm,rfl,trivial⟩
theorem w_ent01 {es os qs:List (List Dt)} {ps:List (List UInt8)} {nm:List UInt8} {form px b mo:Ob} {bt mt:Te} {k:Int} (h1:Puk 63 [obA form] (.tup [.dt (.row os),boA true])) (hx1:IxAt os 1 7 (encL (symB nm))) (hx2:IxAt os 2 7 (encL px)) (h2:Puk 63 [obA px] (.tup [.dt (.row qs),boA true])) (hlp:Tri (EXn 1) (.loop enB) (en0 es os form nm qs) (.out 0) (enS es os form nm qs (ps.map lrow) k)) (hz:IxAt os (os.length - 1) 7 (encL b)) (hl:os.length≤1000) (hb:Suk 65 [.own 0 es.length,.dt (.row [encF ⟨nm,ps,yesT,zTe,zTe⟩]),obA b] [wB es] (.tup [teA bt,inA 0]) [wB es]) (hg:Puk 66 [.dt (.row os),stA Rdr.guardB] (.tup [obA zOb,boA false])) (hm:Puk 66 [.dt (.row os),stA Rdr.measB] (.tup [obA mo,boA true])) (hmt:Suk 65 [.own 0 es.length,.dt (.row [encF ⟨nm,ps,yesT,zTe,zTe⟩]),obA mo] [wB es] (.tup [teA mt,inA 0]) [wB es]):Suk 31 [.own 0 es.length,obA form] [wB es] (entA ⟨nm,ps,yesT,bt,mt⟩) [wB es] :=
 psw (n:=1) (ks:=[0]) (an:=[.av (.tup [.dt (.row os),boA true]),.av (.pin ((encL (symB nm)).map .dt)),.av (obA tO),.av (teA yesT),.av (.pin ((encL px).map .dt)),.av (.tup [.dt (.row qs),boA true]),.av (inA os.length),.av (inA (os.length - 1)),.av (.pin ((encL b).map .dt)),.av (.tup [obA zOb,boA false]),.av (.tup [obA mo,boA true])]) (ls:=[.inv [0,3,4,5,7,8,10] 4 (.out 0) (enS es os form nm qs (ps.map lrow) k),.scl 9 8 [0] (.tup [teA bt,inA 0]) [some (.buf 70 32 es)],.scl 15 3 [0] (.tup [teA mt,inA 0]) [some (.buf 70 32 es)]]) (ps:=[Puk 63 [(obA form)] (.tup [(.dt (.row os)),(boA true)]),IxAt os 1 7 (encL (symB nm)),Puk 64 [] (obA tO),Puk 13 [(obA tO)] (.agg [(inA 2),(stA yesT.np),(stA yesT.nn),(inA 2),(stA yesT.val.num),(stA yesT.val.den),(stA yesT.val.sp),(stA yesT.val.sn),(stA yesT.val.text),(.dt (.row (List.map Ob.enc yesT.val.pair))),(.dt (.row (List.map Te.enc yesT.args)))]),IxAt os 2 7 (encL px),Puk 63 [(obA px)] (.tup [(.dt (.row qs)),(boA true)]),Tri (EXn 1) (.loop (subC (bodyOf Tryz.f31) [1,1,1,1,0,1,0,0])) (en0 es os form nm qs) (.out 0) (enS es os form nm qs (ps.map lrow) k),((List.map lrow ps).length)=((List.map lrow ps).length),(vi ↑os.length)=(vi ↑os.length),Bn .sub 3 (.tmp 58) (.const (vi 1)) (vi ↑os.length) (vi 1) (vi (↑os.length - 1)),IxAt os (↑os.length - 1) 7 (encL b),Suk 65 [AV.own 0 es.length,AV.dt (Dt.row ([(Dt.val (str lispB)::Dt.val (str nm)::Dt.row (List.map lrow ps)::Dt.val (vi 1)::Dt.val (vi yesT.kind)::Dt.val (str yesT.np)::Dt.val (str yesT.nn)::Dt.val (vi yesT.val.kind)::Dt.val (str yesT.val.num)::Dt.val (str yesT.val.den)::Dt.val (str yesT.val.sp)::Dt.val (str yesT.val.sn)::Dt.val (str yesT.val.text)::Dt.row (List.map Ob.enc yesT.val.pair)::Dt.row (List.map Te.enc yesT.args)::Dt.val (vi 0)::Dt.val (str [])::Dt.val (str [])::Dt.val (vi 0)::Dt.val (str [])::Dt.val (str [])::Dt.val (str [])::Dt.val (str [])::Dt.val (str [])::Dt.row []::Dt.row []::Dt.val (vi 0)::Dt.val (str [])::Dt.val (str [])::Dt.val (vi 0)::Dt.val (str [])::Dt.val (str [])::Dt.val (str [])::Dt.val (str [])::Dt.val (str [])::Dt.row []::Dt.row []::[])])),AV.agg [AV.dt (Dt.val (vi b.kind)),AV.dt (Dt.val (str b.num)),AV.dt (Dt.val (str b.den)),AV.dt (Dt.val (str b.sp)),AV.dt (Dt.val (str b.sn)),AV.dt (Dt.val (str b.text)),AV.dt (Dt.row (List.map Ob.enc b.pair))]] [some (Bx.buf 70 32 es)] (AV.tup [teA bt,inA 0]) [some (Bx.buf 70 32 es)],Puk 66 [(.dt (.row os)),(stA [103,117,97,114,100])] (.tup [(obA zOb),(boA false)]),Puk 66 [(.dt (.row os)),(stA [109,101,97,115,117,114,101])] (.tup [(obA mo),(boA true)]),Suk 65 [AV.own 0 es.length,AV.dt (Dt.row ([(Dt.val (str lispB)::Dt.val (str nm)::Dt.row (List.map lrow ps)::Dt.val (vi 1)::Dt.val (vi yesT.kind)::Dt.val (str yesT.np)::Dt.val (str yesT.nn)::Dt.val (vi yesT.val.kind)::Dt.val (str yesT.val.num)::Dt.val (str yesT.val.den)::Dt.val (str yesT.val.sp)::Dt.val (str yesT.val.sn)::Dt.val (str yesT.val.text)::Dt.row (List.map Ob.enc yesT.val.pair)::Dt.row (List.map Te.enc yesT.args)::Dt.val (vi 0)::Dt.val (str [])::Dt.val (str [])::Dt.val (vi 0)::Dt.val (str [])::Dt.val (str [])::Dt.val (str [])::Dt.val (str [])::Dt.val (str [])::Dt.row []::Dt.row []::Dt.val (vi 0)::Dt.val (str [])::Dt.val (str [])::Dt.val (vi 0)::Dt.val (str [])::Dt.val (str [])::Dt.val (str [])::Dt.val (str [])::Dt.val (str [])::Dt.row []::Dt.row []::[])])),AV.agg [AV.dt (Dt.val (vi mo.kind)),AV.dt (Dt.val (str mo.num)),AV.dt (Dt.val (str mo.den)),AV.dt (Dt.val (str mo.sp)),AV.dt (Dt.val (str mo.sn)),AV.dt (Dt.val (str mo.text)),AV.dt (Dt.row (List.map Ob.enc mo.pair))]] [some (Bx.buf 70 32 es)] (AV.tup [teA mt,inA 0]) [some (Bx.buf 70 32 es)],((List.map lrow ps).length)=((List.map lrow ps).length)]) Tryz.func31 (by kernel_rfl) (by kernel_rfl) ⟨h1,hx1,p_rT,p_rConst _,hx2,h2,hlp,rfl,rfl,bin_isub rfl (by omega) (by omega),hz,hb,hg,hm,hmt,rfl,trivial⟩
theorem w_ent10 {es os qs:List (List Dt)} {ps:List (List UInt8)} {nm:List UInt8} {form px b go:Ob} {bt gt:Te} {k:Int} (h1:Puk 63 [obA form] (.tup [.dt (.row os),boA true])) (hx1:IxAt os 1 7 (encL (symB nm))) (hx2:IxAt os 2 7 (encL px)) (h2:Puk 63 [obA px] (.tup [.dt (.row qs),boA true])) (hlp:Tri (EXn 1) (.loop enB) (en0 es os form nm qs) (.out 0) (enS es os form nm qs (ps.map lrow) k)) (hz:IxAt os (os.length - 1) 7 (encL b)) (hl:os.length≤1000) (hb:Suk 65 [.own 0 es.length,.dt (.row [encF ⟨nm,ps,yesT,zTe,zTe⟩]),obA b] [wB es] (.tup [teA bt,inA 0]) [wB es]) (hg:Puk 66 [.dt (.row os),stA Rdr.guardB] (.tup [obA go,boA true])) (hgt:Suk 65 [.own 0 es.length,.dt (.row [encF ⟨nm,ps,yesT,zTe,zTe⟩]),obA go] [wB es] (.tup [teA gt,inA 0]) [wB es]) (hm:Puk 66 [.dt (.row os),stA Rdr.measB] (.tup [obA zOb,boA false])):Suk 31 [.own 0 es.length,obA form] [wB es] (entA ⟨nm,ps,gt,bt,zTe⟩) [wB es] :=
 psw (n:=1) (ks:=[0]) (an:=[.av (.tup [.dt (.row os),boA true]),.av (.pin ((encL (symB nm)).map .dt)),.av (obA tO),.av (teA yesT),.av (.pin ((encL px).map .dt)),.av (.tup [.dt (.row qs),boA true]),.av (inA os.length),.av (inA (os.length - 1)),.av (.pin ((encL b).map .dt)),.av (.tup [obA go,boA true]),.av (.tup [obA zOb,boA false])]) (ls:=[.inv [0,3,4,5,7,8,10] 4 (.out 0) (enS es os form nm qs (ps.map lrow) k),.scl 9 8 [0] (.tup [teA bt,inA 0]) [some (.buf 70 32 es)],.scl 12 3 [0] (.tup [teA gt,inA 0]) [some (.buf 70 32 es)]]) (ps:=[Puk 63 [(obA form)] (.tup [(.dt (.row os)),(boA true)]),IxAt os 1 7 (encL (symB nm)),Puk 64 [] (obA tO),Puk 13 [(obA tO)] (.agg [(inA 2),(stA yesT.np),(stA yesT.nn),(inA 2),(stA yesT.val.num),(stA yesT.val.den),(stA yesT.val.sp),(stA yesT.val.sn),(stA yesT.val.text),(.dt (.row (List.map Ob.enc yesT.val.pair))),(.dt (.row (List.map Te.enc yesT.args)))]),IxAt os 2 7 (encL px),Puk 63 [(obA px)] (.tup [(.dt (.row qs)),(boA true)]),Tri (EXn 1) (.loop (subC (bodyOf Tryz.f31) [1,1,1,1,0,1,0,0])) (en0 es os form nm qs) (.out 0) (enS es os form nm qs (ps.map lrow) k),((List.map lrow ps).length)=((List.map lrow ps).length),(vi ↑os.length)=(vi ↑os.length),Bn .sub 3 (.tmp 58) (.const (vi 1)) (vi ↑os.length) (vi 1) (vi (↑os.length - 1)),IxAt os (↑os.length - 1) 7 (encL b),Suk 65 [AV.own 0 es.length,AV.dt (Dt.row ([(Dt.val (str lispB)::Dt.val (str nm)::Dt.row (List.map lrow ps)::Dt.val (vi 1)::Dt.val (vi yesT.kind)::Dt.val (str yesT.np)::Dt.val (str yesT.nn)::Dt.val (vi yesT.val.kind)::Dt.val (str yesT.val.num)::Dt.val (str yesT.val.den)::Dt.val (str yesT.val.sp)::Dt.val (str yesT.val.sn)::Dt.val (str yesT.val.text)::Dt.row (List.map Ob.enc yesT.val.pair)::Dt.row (List.map Te.enc yesT.args)::Dt.val (vi 0)::Dt.val (str [])::Dt.val (str [])::Dt.val (vi 0)::Dt.val (str [])::Dt.val (str [])::Dt.val (str [])::Dt.val (str [])::Dt.val (str [])::Dt.row []::Dt.row []::Dt.val (vi 0)::Dt.val (str [])::Dt.val (str [])::Dt.val (vi 0)::Dt.val (str [])::Dt.val (str [])::Dt.val (str [])::Dt.val (str [])::Dt.val (str [])::Dt.row []::Dt.row []::[])])),AV.agg [AV.dt (Dt.val (vi b.kind)),AV.dt (Dt.val (str b.num)),AV.dt (Dt.val (str b.den)),AV.dt (Dt.val (str b.sp)),AV.dt (Dt.val (str b.sn)),AV.dt (Dt.val (str b.text)),AV.dt (Dt.row (List.map Ob.enc b.pair))]] [some (Bx.buf 70 32 es)] (AV.tup [teA bt,inA 0]) [some (Bx.buf 70 32 es)],Puk 66 [(.dt (.row os)),(stA [103,117,97,114,100])] (.tup [(obA go),(boA true)]),Suk 65 [AV.own 0 es.length,AV.dt (Dt.row ([(Dt.val (str lispB)::Dt.val (str nm)::Dt.row (List.map lrow ps)::Dt.val (vi 1)::Dt.val (vi yesT.kind)::Dt.val (str yesT.np)::Dt.val (str yesT.nn)::Dt.val (vi yesT.val.kind)::Dt.val (str yesT.val.num)::Dt.val (str yesT.val.den)::Dt.val (str yesT.val.sp)::Dt.val (str yesT.val.sn)::Dt.val (str yesT.val.text)::Dt.row (List.map Ob.enc yesT.val.pair)::Dt.row (List.map Te.enc yesT.args)::Dt.val (vi 0)::Dt.val (str [])::Dt.val (str [])::Dt.val (vi 0)::Dt.val (str [])::Dt.val (str [])::Dt.val (str [])::Dt.val (str [])::Dt.val (str [])::Dt.row []::Dt.row []::Dt.val (vi 0)::Dt.val (str [])::Dt.val (str [])::Dt.val (vi 0)::Dt.val (str [])::Dt.val (str [])::Dt.val (str [])::Dt.val (str [])::Dt.val (str [])::Dt.row []::Dt.row []::[])])),AV.agg [AV.dt (Dt.val (vi go.kind)),AV.dt (Dt.val (str go.num)),AV.dt (Dt.val (str go.den)),AV.dt (Dt.val (str go.sp)),AV.dt (Dt.val (str go.sn)),AV.dt (Dt.val (str go.text)),AV.dt (Dt.row (List.map Ob.enc go.pair))]] [some (Bx.buf 70 32 es)] (AV.tup [teA gt,inA 0]) [some (Bx.buf 70 32 es)],Puk 66 [(.dt (.row os)),(stA [109,101,97,115,117,114,101])] (.tup [(obA zOb),(boA false)]),((List.map lrow ps).length)=((List.map lrow ps).length)]) Tryz.func31 (by kernel_rfl) (by kernel_rfl) ⟨h1,hx1,p_rT,p_rConst _,hx2,h2,hlp,rfl,rfl,bin_isub rfl (by omega) (by omega),hz,hb,hg,hgt,hm,rfl,trivial⟩
theorem w_ent11 {es os qs:List (List Dt)} {ps:List (List UInt8)} {nm:List UInt8} {form px b go mo:Ob} {bt gt mt:Te} {k:Int} (h1:Puk 63 [obA form] (.tup [.dt (.row os),boA true])) (hx1:IxAt os 1 7 (encL (symB nm))) (hx2:IxAt os 2 7 (encL px)) (h2:Puk 63 [obA px] (.tup [.dt (.row qs),boA true])) (hlp:Tri (EXn 1) (.loop enB) (en0 es os form nm qs) (.out 0) (enS es os form nm qs (ps.map lrow) k)) (hz:IxAt os (os.length - 1) 7 (encL b)) (hl:os.length≤1000) (hb:Suk 65 [.own 0 es.length,.dt (.row [encF ⟨nm,ps,yesT,zTe,zTe⟩]),obA b] [wB es] (.tup [teA bt,inA 0]) [wB es]) (hg:Puk 66 [.dt (.row os),stA Rdr.guardB] (.tup [obA go,boA true])) (hgt:Suk 65 [.own 0 es.length,.dt (.row [encF ⟨nm,ps,yesT,zTe,zTe⟩]),obA go] [wB es] (.tup [teA gt,inA 0]) [wB es]) (hm:Puk 66 [.dt (.row os),stA Rdr.measB] (.tup [obA mo,boA true])) (hmt:Suk 65 [.own 0 es.length,.dt (.row [encF ⟨nm,ps,yesT,zTe,zTe⟩]),obA mo] [wB es] (.tup [teA mt,inA 0]) [wB es]):Suk 31 [.own 0 es.length,obA form] [wB es] (entA ⟨nm,ps,gt,bt,mt⟩) [wB es] :=
 psw (n:=1) (ks:=[0]) (an:=[.av (.tup [.dt (.row os),boA true]),.av (.pin ((encL (symB nm)).map .dt)),.av (obA tO),.av (teA yesT),.av (.pin ((encL px).map .dt)),.av (.tup [.dt (.row qs),boA true]),.av (inA os.length),.av (inA (os.length - 1)),.av (.pin ((encL b).map .dt)),.av (.tup [obA go,boA true]),.av (.tup [obA mo,boA true])]) (ls:=[.inv [0,3,4,5,7,8,10] 4 (.out 0) (enS es os form nm qs (ps.map lrow) k),.scl 9 8 [0] (.tup [teA bt,inA 0]) [some (.buf 70 32 es)],.scl 12 3 [0] (.tup [teA gt,inA 0]) [some (.buf 70 32 es)],.scl 15 3 [0] (.tup [teA mt,inA 0]) [some (.buf 70 32 es)]]) (ps:=[Puk 63 [(obA form)] (.tup [(.dt (.row os)),(boA true)]),IxAt os 1 7 (encL (symB nm)),Puk 64 [] (obA tO),Puk 13 [(obA tO)] (.agg [(inA 2),(stA yesT.np),(stA yesT.nn),(inA 2),(stA yesT.val.num),(stA yesT.val.den),(stA yesT.val.sp),(stA yesT.val.sn),(stA yesT.val.text),(.dt (.row (List.map Ob.enc yesT.val.pair))),(.dt (.row (List.map Te.enc yesT.args)))]),IxAt os 2 7 (encL px),Puk 63 [(obA px)] (.tup [(.dt (.row qs)),(boA true)]),Tri (EXn 1) (.loop (subC (bodyOf Tryz.f31) [1,1,1,1,0,1,0,0])) (en0 es os form nm qs) (.out 0) (enS es os form nm qs (ps.map lrow) k),((List.map lrow ps).length)=((List.map lrow ps).length),(vi ↑os.length)=(vi ↑os.length),Bn .sub 3 (.tmp 58) (.const (vi 1)) (vi ↑os.length) (vi 1) (vi (↑os.length - 1)),IxAt os (↑os.length - 1) 7 (encL b),Suk 65 [AV.own 0 es.length,AV.dt (Dt.row ([(Dt.val (str lispB)::Dt.val (str nm)::Dt.row (List.map lrow ps)::Dt.val (vi 1)::Dt.val (vi yesT.kind)::Dt.val (str yesT.np)::Dt.val (str yesT.nn)::Dt.val (vi yesT.val.kind)::Dt.val (str yesT.val.num)::Dt.val (str yesT.val.den)::Dt.val (str yesT.val.sp)::Dt.val (str yesT.val.sn)::Dt.val (str yesT.val.text)::Dt.row (List.map Ob.enc yesT.val.pair)::Dt.row (List.map Te.enc yesT.args)::Dt.val (vi 0)::Dt.val (str [])::Dt.val (str [])::Dt.val (vi 0)::Dt.val (str [])::Dt.val (str [])::Dt.val (str [])::Dt.val (str [])::Dt.val (str [])::Dt.row []::Dt.row []::Dt.val (vi 0)::Dt.val (str [])::Dt.val (str [])::Dt.val (vi 0)::Dt.val (str [])::Dt.val (str [])::Dt.val (str [])::Dt.val (str [])::Dt.val (str [])::Dt.row []::Dt.row []::[])])),AV.agg [AV.dt (Dt.val (vi b.kind)),AV.dt (Dt.val (str b.num)),AV.dt (Dt.val (str b.den)),AV.dt (Dt.val (str b.sp)),AV.dt (Dt.val (str b.sn)),AV.dt (Dt.val (str b.text)),AV.dt (Dt.row (List.map Ob.enc b.pair))]] [some (Bx.buf 70 32 es)] (AV.tup [teA bt,inA 0]) [some (Bx.buf 70 32 es)],Puk 66 [(.dt (.row os)),(stA [103,117,97,114,100])] (.tup [(obA go),(boA true)]),Suk 65 [AV.own 0 es.length,AV.dt (Dt.row ([(Dt.val (str lispB)::Dt.val (str nm)::Dt.row (List.map lrow ps)::Dt.val (vi 1)::Dt.val (vi yesT.kind)::Dt.val (str yesT.np)::Dt.val (str yesT.nn)::Dt.val (vi yesT.val.kind)::Dt.val (str yesT.val.num)::Dt.val (str yesT.val.den)::Dt.val (str yesT.val.sp)::Dt.val (str yesT.val.sn)::Dt.val (str yesT.val.text)::Dt.row (List.map Ob.enc yesT.val.pair)::Dt.row (List.map Te.enc yesT.args)::Dt.val (vi 0)::Dt.val (str [])::Dt.val (str [])::Dt.val (vi 0)::Dt.val (str [])::Dt.val (str [])::Dt.val (str [])::Dt.val (str [])::Dt.val (str [])::Dt.row []::Dt.row []::Dt.val (vi 0)::Dt.val (str [])::Dt.val (str [])::Dt.val (vi 0)::Dt.val (str [])::Dt.val (str [])::Dt.val (str [])::Dt.val (str [])::Dt.val (str [])::Dt.row []::Dt.row []::[])])),AV.agg [AV.dt (Dt.val (vi go.kind)),AV.dt (Dt.val (str go.num)),AV.dt (Dt.val (str go.den)),AV.dt (Dt.val (str go.sp)),AV.dt (Dt.val (str go.sn)),AV.dt (Dt.val (str go.text)),AV.dt (Dt.row (List.map Ob.enc go.pair))]] [some (Bx.buf 70 32 es)] (AV.tup [teA gt,inA 0]) [some (Bx.buf 70 32 es)],Puk 66 [(.dt (.row os)),(stA [109,101,97,115,117,114,101])] (.tup [(obA mo),(boA true)]),Suk 65 [AV.own 0 es.length,AV.dt (Dt.row ([(Dt.val (str lispB)::Dt.val (str nm)::Dt.row (List.map lrow ps)::Dt.val (vi 1)::Dt.val (vi yesT.kind)::Dt.val (str yesT.np)::Dt.val (str yesT.nn)::Dt.val (vi yesT.val.kind)::Dt.val (str yesT.val.num)::Dt.val (str yesT.val.den)::Dt.val (str yesT.val.sp)::Dt.val (str yesT.val.sn)::Dt.val (str yesT.val.text)::Dt.row (List.map Ob.enc yesT.val.pair)::Dt.row (List.map Te.enc yesT.args)::Dt.val (vi 0)::Dt.val (str [])::Dt.val (str [])::Dt.val (vi 0)::Dt.val (str [])::Dt.val (str [])::Dt.val (str [])::Dt.val (str [])::Dt.val (str [])::Dt.row []::Dt.row []::Dt.val (vi 0)::Dt.val (str [])::Dt.val (str [])::Dt.val (vi 0)::Dt.val (str [])::Dt.val (str [])::Dt.val (str [])::Dt.val (str [])::Dt.val (str [])::Dt.row []::Dt.row []::[])])),AV.agg [AV.dt (Dt.val (vi mo.kind)),AV.dt (Dt.val (str mo.num)),AV.dt (Dt.val (str mo.den)),AV.dt (Dt.val (str mo.sp)),AV.dt (Dt.val (str mo.sn)),AV.dt (Dt.val (str mo.text)),AV.dt (Dt.row (List.map Ob.enc mo.pair))]] [some (Bx.buf 70 32 es)] (AV.tup [teA mt,inA 0]) [some (Bx.buf 70 32 es)],((List.map lrow ps).length)=((List.map lrow ps).length)]) Tryz.func31 (by kernel_rfl) (by kernel_rfl) ⟨h1,hx1,p_rT,p_rConst _,hx2,h2,hlp,rfl,rfl,bin_isub rfl (by omega) (by omega),hz,hb,hg,hgt,hm,hmt,rfl,trivial⟩
theorem pars_map:∀ {l:List Tr} {ps:List (List UInt8)},Rdr.pars l=some ps→l=ps.map (Tr.sym lispB ·)
 | [],ps,h=>by cases h;rfl
 | .sym p n::r,ps,h=>by
  rw [Rdr.pars] at h
  split at h
  ·rename_i e
   subst e
   rw [Option.map_eq_some_iff] at h
   obtain ⟨qs,h1,rfl⟩:=h
   rw [List.map_cons,← pars_map h1]
  ·cases h
 | .num _::_,_,h=>by cases h
 | .txt _::_,_,h=>by cases h
 | .cons _ _::_,_,h=>by cases h
theorem ix_par {ps:List (List UInt8)} {i:Nat} {n:List UInt8} (h:ps[i]?=some n):IxAt (encOs (ps.map (Tr.sym lispB ·))) (i:Int) 7 (encL (symB n)):=⟨Int.natCast_nonneg _,by rw [Int.toNat_natCast];unfold encOs;rw [List.getElem?_map,List.getElem?_map,h];rfl,rfl⟩
theorem en_loop {es os:List (List Dt)} {form:Ob} {nm:List UInt8} {ps:List (List UInt8)} (hl:ps.length≤8):∀ (s:List (List UInt8)) (i:Nat),ps.drop i=s→i≤ps.length→Lps (EXn 1) enB (enS es os form nm (encOs (ps.map (Tr.sym lispB ·))) ((ps.take i).map lrow) i) (.out 0) (enS es os form nm (encOs (ps.map (Tr.sym lispB ·))) (ps.map lrow) ps.length):=by
 have hlo:(encOs (ps.map (Tr.sym lispB ·))).length=ps.length:=by unfold encOs;rw [List.length_map,List.length_map]
 intro s
 induction s with
 | nil =>
  intro i hd hi
  have e1:=congrArg List.length hd
  rw [List.length_drop,List.length_nil] at e1
  obtain rfl:i=ps.length:=by omega
  rw [List.take_length]
  exact .stop (enB2 hlo.symm) (fun h=>by cases h)
 | cons x s ih =>
  intro i hd hi
  have hx:ps[i]?=some x:=by rw [← List.head?_drop,hd];rfl
  have hlt:=(List.getElem?_eq_some_iff.1 hx).1
  have hs:=enB1 (es:=es) (os:=os) (form:=form) (nm:=nm) (rs:=(ps.take i).map lrow) (by omega) (by omega) (by rw [List.length_map,List.length_take];omega) (ix_par hx)
  have e:(ps.take i).map lrow++[lrow x]=(ps.take (i+1)).map lrow:=by rw [List.take_add_one,hx,List.map_append];rfl
  rw [e] at hs
  exact .more hs (ih (i+1) (by rw [← List.drop_drop,hd];rfl) (by omega))
theorem p_entry {ws:List Rdr.Fnc} (hw:ws.length≤900) {x:Tr} {f:Rdr.Fnc} (h:Rdr.entry primL ws x=some f):Suk 31 [.own 0 (ws.map encE).length,trA x] [wB (ws.map encE)] (entA f) [wB (ws.map encE)]:=by
 unfold Rdr.entry at h
 split at h
 case h_2=>cases h
 rename_i d p nm px y r hi
 split at h
 case h_2=>cases h
 rename_i pl hpx
 split at h
 case h_2=>cases h
 rename_i ps hps
 split at h
 case isFalse=>cases h
 rename_i hc
 obtain ⟨rfl,hnm,hpn,hpl,hr⟩:=hc
 split at h
 case h_2=>cases h
 rename_i bt gt mt hb hg hm
 cases h
 have hx:=items_list hi
 have hpx:=items_list hpx
 have hpl2:=pars_map hps
 subst hpl2
 subst hx
 subst hpx
 have hI:=p_rItems (l:=d::Tr.sym lispB nm::Tr.list (ps.map (Tr.sym lispB ·))::y::r) (by simp only [List.length_cons];omega)
 have hP:=p_rItems (l:=ps.map (Tr.sym lispB ·)) (by rw [List.length_map];omega)
 have hL3:(d::Tr.sym lispB nm::Tr.list (ps.map (Tr.sym lispB ·))::y::r).drop 3=y::r:=rfl
 have hLl:(d::Tr.sym lispB nm::Tr.list (ps.map (Tr.sym lispB ·))::y::r).length=r.length+4:=rfl
 have hlast:(d::Tr.sym lispB nm::Tr.list (ps.map (Tr.sym lispB ·))::y::r)[r.length+3]?=some ((y::r).getLast (by simp)):=by
  show (y::r)[r.length]?=_
  rw [List.getLast_eq_getElem,List.getElem?_eq_getElem (by simp)]
  rfl
 generalize hLe:(d::Tr.sym lispB nm::Tr.list (ps.map (Tr.sym lispB ·))::y::r)=L at *
 have hlo:(encOs L).length=r.length+4:=by unfold encOs;rw [List.length_map,hLl]
 have hx1:IxAt (encOs L) 1 7 (encL (symB nm)):=by subst hLe;exact ⟨by decide,rfl,rfl⟩
 have hx2:IxAt (encOs L) 2 7 (encL (Tr.list (ps.map (Tr.sym lispB ·))).ob):=by subst hLe;exact ⟨by decide,rfl,rfl⟩
 have hz:IxAt (encOs L) ((encOs L).length - 1) 7 (encL ((y::r).getLast (by simp)).ob):=⟨by omega,by
  rw [hlo]
  have:((((r.length+4:Nat):Int) - 1)).toNat=r.length+3:=by omega
  rw [this]
  unfold encOs
  rw [List.getElem?_map,hlast]
  rfl,rfl⟩
 have hlp:Tri (EXn 1) (.loop enB) (en0 (ws.map encE) (encOs L) (Tr.list L).ob nm (encOs (ps.map (Tr.sym lispB ·)))) (.out 0) (enS (ws.map encE) (encOs L) (Tr.list L).ob nm (encOs (ps.map (Tr.sym lispB ·))) (ps.map lrow) ps.length):=by
  cases ps with
  | nil=>exact absurd rfl hpn
  | cons n0 ps' =>
   have hs:=enB0 (es:=ws.map encE) (os:=encOs L) (form:=(Tr.list L).ob) (nm:=nm) (n:=n0) (qs:=encOs ((n0::ps').map (Tr.sym lispB ·))) (by simp [encOs]) (ix_par (i:=0) rfl)
   have hn:=en_loop (es:=ws.map encE) (os:=encOs L) (form:=(Tr.list L).ob) (nm:=nm) hpl _ 1 rfl (by simp)
   exact (Lps.more hs hn).tri
 have hT:∀ {o:Tr} {t:Te},Rdr.trm (Rdr.arity primL ws nm ps) o=some t→Suk 65 [.own 0 (ws.map encE).length,.dt (.row [encF ⟨nm,ps,yesT,zTe,zTe⟩]),trA o] [wB (ws.map encE)] (.tup [teA t,inA 0]) [wB (ws.map encE)]:=fun h=>p_Term12 (f:=⟨nm,ps,yesT,zTe,zTe⟩) (by omega) h
 have hbS:=hT hb
 have hll:(encOs L).length≤1000:=by omega
 cases hgo:Rdr.option Rdr.guardB (y::r) with
 | none=>rw [hgo] at hg;cases hg
 | some go =>
  rw [hgo] at hg
  cases hmo:Rdr.option Rdr.measB (y::r) with
  | none=>rw [hmo] at hm;cases hm
  | some mo =>
   rw [hmo] at hm
   rw [← hL3] at hgo hmo
   cases go with
   | none =>
    cases hg
    have kg:=p_option0 (by omega) (by omega) hgo
    cases mo with
    | none =>
     cases hm
     exact w_ent00 hI hx1 hx2 hP hlp hz hll hbS kg (p_option0 (by omega) (by omega) hmo)
    | some mo=>exact w_ent01 hI hx1 hx2 hP hlp hz hll hbS kg (p_option1 (by omega) (by omega) hmo) (hT hm)
   | some go =>
    have kg:=p_option1 (by omega) (by omega) hgo
    cases mo with
    | none =>
     cases hm
     exact w_ent10 hI hx1 hx2 hP hlp hz hll hbS kg (hT hg) (p_option0 (by omega) (by omega) hmo)
    | some mo=>exact w_ent11 hI hx1 hx2 hP hlp hz hll hbS kg (hT hg) (p_option1 (by omega) (by omega) hmo) (hT hm)
end Go.Proofs.YthhknjlmjefklaaGreatDoor
namespace Go.Proofs.YthhknjlmjefklaaGreatDoor
open Go.RowKit
open Te
theorem s_Names7:Suk 8 [] [] (.own 0 25) [some (.buf 28 2 (primL.map prow))] :=
 psw (n:=0) (ks:=[0]) (an:=[.av (.dt (.row (primL.map rrow))),.no,.no,.no,.av (syA lispB [105,102]),.no,.no,.no,.no,.no,.av (syA lispB [101,113,117,97,108]),.no,.no,.no,.no,.no,.av (syA lispB [99,111,110,115]),.no,.no,.no,.no,.no,.av (syA lispB [99,97,114]),.no,.no,.no,.no,.no,.av (syA lispB [99,100,114]),.no,.no,.no,.no,.no,.av (syA lispB [99,111,110,115,112]),.no,.no,.no,.no,.no,.av (syA lispB [115,121,109,98,111,108,112]),.no,.no,.no,.no,.no,.av (syA lispB [115,116,114,105,110,103,112]),.no,.no,.no,.no,.no,.av (syA lispB [114,97,116,105,111,110,97,108,112]),.no,.no,.no,.no,.no,.av (syA lispB [105,110,116,101,103,101,114,112]),.no,.no,.no,.no,.no,.av (syA lispB [98,105,110,97,114,121,45,43]),.no,.no,.no,.no,.no,.av (syA lispB [98,105,110,97,114,121,45,42]),.no,.no,.no,.no,.no,.av (syA lispB [117,110,97,114,121,45,45]),.no,.no,.no,.no,.no,.av (syA lispB [117,110,97,114,121,45,47]),.no,.no,.no,.no,.no,.av (syA lispB [60]),.no,.no,.no,.no,.no,.av (syA lispB [110,117,109,101,114,97,116,111,114]),.no,.no,.no,.no,.no,.av (syA lispB [100,101,110,111,109,105,110,97,116,111,114]),.no,.no,.no,.no,.no,.av (syA lispB [102,108,111,111,114]),.no,.no,.no,.no,.no,.av (syA lispB [115,121,109,98,111,108,45,110,97,109,101]),.no,.no,.no,.no,.no,.av (syA lispB [115,121,109,98,111,108,45,112,97,99,107,97,103,101,45,110,97,109,101]),.no,.no,.no,.no,.no,.av (syA lispB [105,110,116,101,114,110]),.no,.no,.no,.no,.no,.av (syA lispB [115,116,114,105,110,103,45,97,112,112,101,110,100]),.no,.no,.no,.no,.no,.av (syA lispB [115,116,114,105,110,103,45,108,101,110,103,116,104]),.no,.no,.no,.no,.no,.av (syA lispB [115,116,114,105,110,103,45,98,121,116,101]),.no,.no,.no,.no,.no,.av (syA lispB [98,121,116,101,45,115,116,114,105,110,103]),.no,.no]) (ls:=[.run 26]) (ps:=[Puk 33 [] (.dt (.row (List.map rrow primL))),Puk 29 [(stA ([105,102],3).fst)] (syA lispB [105,102]),Puk 29 [(stA ([101,113,117,97,108],2).fst)] (syA lispB [101,113,117,97,108]),Puk 29 [(stA ([99,111,110,115],2).fst)] (syA lispB [99,111,110,115]),Puk 29 [(stA ([99,97,114],1).fst)] (syA lispB [99,97,114]),Puk 29 [(stA ([99,100,114],1).fst)] (syA lispB [99,100,114]),Puk 29 [(stA ([99,111,110,115,112],1).fst)] (syA lispB [99,111,110,115,112]),Puk 29 [(stA ([115,121,109,98,111,108,112],1).fst)] (syA lispB [115,121,109,98,111,108,112]),Puk 29 [(stA ([115,116,114,105,110,103,112],1).fst)] (syA lispB [115,116,114,105,110,103,112]),Puk 29 [(stA ([114,97,116,105,111,110,97,108,112],1).fst)] (syA lispB [114,97,116,105,111,110,97,108,112]),Puk 29 [(stA ([105,110,116,101,103,101,114,112],1).fst)] (syA lispB [105,110,116,101,103,101,114,112]),Puk 29 [(stA ([98,105,110,97,114,121,45,43],2).fst)] (syA lispB [98,105,110,97,114,121,45,43]),Puk 29 [(stA ([98,105,110,97,114,121,45,42],2).fst)] (syA lispB [98,105,110,97,114,121,45,42]),Puk 29 [(stA ([117,110,97,114,121,45,45],1).fst)] (syA lispB [117,110,97,114,121,45,45]),Puk 29 [(stA ([117,110,97,114,121,45,47],1).fst)] (syA lispB [117,110,97,114,121,45,47]),Puk 29 [(stA ([60],2).fst)] (syA lispB [60]),Puk 29 [(stA ([110,117,109,101,114,97,116,111,114],1).fst)] (syA lispB [110,117,109,101,114,97,116,111,114]),Puk 29 [(stA ([100,101,110,111,109,105,110,97,116,111,114],1).fst)] (syA lispB [100,101,110,111,109,105,110,97,116,111,114]),Puk 29 [(stA ([102,108,111,111,114],1).fst)] (syA lispB [102,108,111,111,114]),Puk 29 [(stA ([115,121,109,98,111,108,45,110,97,109,101],1).fst)] (syA lispB [115,121,109,98,111,108,45,110,97,109,101]),Puk 29 [(stA ([115,121,109,98,111,108,45,112,97,99,107,97,103,101,45,110,97,109,101],1).fst)] (syA lispB [115,121,109,98,111,108,45,112,97,99,107,97,103,101,45,110,97,109,101]),Puk 29 [(stA ([105,110,116,101,114,110],2).fst)] (syA lispB [105,110,116,101,114,110]),Puk 29 [(stA ([115,116,114,105,110,103,45,97,112,112,101,110,100],2).fst)] (syA lispB [115,116,114,105,110,103,45,97,112,112,101,110,100]),Puk 29 [(stA ([115,116,114,105,110,103,45,108,101,110,103,116,104],1).fst)] (syA lispB [115,116,114,105,110,103,45,108,101,110,103,116,104]),Puk 29 [(stA ([115,116,114,105,110,103,45,98,121,116,101],2).fst)] (syA lispB [115,116,114,105,110,103,45,98,121,116,101]),Puk 29 [(stA ([98,121,116,101,45,115,116,114,105,110,103],1).fst)] (syA lispB [98,121,116,101,45,115,116,114,105,110,103])]) Tryz.func8 (by kernel_rfl) (by kernel_rfl) ⟨p_rows,p_lisp _,p_lisp _,p_lisp _,p_lisp _,p_lisp _,p_lisp _,p_lisp _,p_lisp _,p_lisp _,p_lisp _,p_lisp _,p_lisp _,p_lisp _,p_lisp _,p_lisp _,p_lisp _,p_lisp _,p_lisp _,p_lisp _,p_lisp _,p_lisp _,p_lisp _,p_lisp _,p_lisp _,p_lisp _,trivial⟩
def wordsL:List (List UInt8):=[[110,105,108],[116],[113,117,111,116,101],[108,101,116],[108,101,116,42],[99,111,110,100],[97,110,100],[111,114],[108,105,115,116],[108,105,115,116,42],[43],[42],[45],[47],[60,61],[62],[62,61],[97,112,112,101,110,100],[100,101,102,112,107,103],[100,101,102,109,97,99,114,111],[100,101,102,117,110],[109,117,116,117,97,108,45,114,101,99,117,114,115,105,111,110],[100,101,102,116,104,109],[101,110,99,97,112,115,117,108,97,116,101],[100,101,102,99,104,111,111,115,101],[100,101,102,115,116,111,98,106],[105,110,45,116,104,101,111,114,121],[105,110,99,108,117,100,101,45,98,111,111,107],[100,101,102,108,97,98,101,108],[117,110,100,111]]++([[100,101,102,105,110,115,116,97,110,99,101],[100,101,102,101,113,117,105,118],[100,101,102,112,114,111,99,101,115,115,111,114],[108,111,99,97,108],[100,101,99,108,97,114,101],[103,117,97,114,100],[109,101,97,115,117,114,101],[115,105,103,110,97,116,117,114,101],[114,101,115,116],[101,110,97,98,108,101],[100,105,115,97,98,108,101],[104,105,110,116,115],[117,115,101],[105,110,100,117,99,116],[119,105,116,104,111,117,116],[114,117,108,101,45,99,108,97,115,115,101,115],[114,101,119,114,105,116,101],[116,121,112,101,45,112,114,101,115,99,114,105,112,116,105,111,110],[102,111,114,119,97,114,100,45,99,104,97,105,110,105,110,103],[108,105,110,101,97,114],[101,108,105,109],[101,113,117,105,118,97,108,101,110,99,101],[99,111,110,103,114,117,101,110,99,101],[103,101,110,101,114,97,108,105,122,101],[112,114,111,99,101,115,115,111,114],[115,105,109,112,108,105,102,121],[100,101,115,116,114,117,99,116,111,114,115],[102,101,114,116,105,108,105,122,101],[103,101,110,101,114,97,108,105,122,97,116,105,111,110],[105,114,114,101,108,101,118,97,110,99,101],[105,110,100,117,99,116,105,111,110]]:List (List UInt8))
theorem fit_big {b n:Nat} (hb:b≤100000) (h:n≤1000000):FitB b n:=⟨by show n≤2 ^ 63 - 1;omega,by
 have:=Nat.mul_le_mul h hb
 omega⟩
abbrev nmS (fs rs:List (List Dt)) (i:Int):AS:=⟨stt 47 [(1,.own 0 rs.length),(2,.dt (.row fs)),(3,inA i)],[some (.buf 28 2 rs)]⟩
noncomputable abbrev nmB:Code:=subC (bodyOf Tryz.f32) [1,1,1,0,1,0,0]
theorem nmB1 {fs os rs:List (List Dt)} {n:List UInt8} {x:Ob} {i:Nat} (hi:i < fs.length) (hl:fs.length≤1000) (hr:rs.length≤1000) (hx:IxAt fs (i:Int) 7 (encL x)) (h:Puk 63 [obA x] (.tup [.dt (.row os),boA true])) (hn:IxAt os 1 7 (encL (symB n))):Tri EX nmB (nmS fs rs i) .nxt (nmS fs (rs++[lrow n]) ((i+1:Nat):Int)) :=
 twalk (c:=subC (bodyOf Tryz.f32) [1,1,1,0,1,0,0]) (s:=nmS fs rs i) (an:=[.av (inA fs.length),yT,.av (.pin ((encL x).map .dt)),.av (.tup [.dt (.row os),boA true]),.av (.pin ((encL (symB n)).map .dt)),.av (.un),.av (inA ((i+1:Nat):Int))]) (ls:=[]) (ft:=[1,2,3]) (nb:=1) (e:=.nxt) (s':=nmS fs (rs++[lrow n]) ((i+1:Nat):Int)) (ps:=[(vi ↑fs.length)=(vi ↑fs.length),Bn .lss 3 (.tmp 10) (.tmp 12) (vi ↑i) (vi ↑fs.length) bT,IxAt fs ↑i 7 (encL x),Puk 63 [(obA x)] (.tup [(.dt (.row os)),(boA true)]),IxAt os 1 7 (encL (symB n)),(rs.length)=(rs.length),FitB 32 ((rs++[[Dt.val (str (symB n).sp),Dt.val (str (symB n).sn)]]).length),SrcOK 2 [[(.val (str (symB n).sp)),(.val (str (symB n).sn))]],Bn .add 3 (.tmp 14) (.const (vi 1)) (vi ↑i) (vi 1) (vi (↑(i+1)))]) (by kernel_rfl) ⟨rfl,bin_ilt (decide_eq_true (by omega)),hx,h,hn,rfl,fit_of (by omega) (by simp;omega),src_lrow n,bin_iadd (by omega) (by omega) (by omega),trivial⟩
theorem nmB2 {fs rs:List (List Dt)} {i:Nat} (hi:i=fs.length):Tri EX nmB (nmS fs rs i) (.out 0) (nmS fs rs i) :=
 twalk (c:=subC (bodyOf Tryz.f32) [1,1,1,0,1,0,0]) (s:=nmS fs rs i) (an:=[.av (inA fs.length),yF]) (ls:=[]) (ft:=[1,2,3]) (nb:=1) (e:=.out 0) (s':=nmS fs rs i) (ps:=[(vi ↑fs.length)=(vi ↑fs.length),Bn .lss 3 (.tmp 10) (.tmp 12) (vi ↑i) (vi ↑fs.length) bF]) (by kernel_rfl) ⟨rfl,bin_ilt (decide_eq_false (by omega)),trivial⟩
abbrev wdrow (w:List UInt8):List Dt:=[.val (str w)]
abbrev nwS (ws:List (List UInt8)) (rs:List (List Dt)) (i:Int):AS:=⟨stt 47 [(1,.own 0 rs.length),(6,.ful (ws.map wdrow)),(7,inA i)],[some (.buf 28 2 rs)]⟩
noncomputable abbrev nwB:Code:=subC (bodyOf Tryz.f32) [1,1,1,1,1,0,1,0,0]
theorem lenW (l:List (List UInt8)):Value.int .i64 (l.length:Int)=Value.int .i64 ((l.map wdrow).length:Int):=by rw [List.length_map]
theorem ix_w {ws:List (List UInt8)} {i:Nat} {w:List UInt8} (h:ws[i]?=some w):IxAt (ws.map wdrow) (i:Int) 1 (wdrow w):=⟨Int.natCast_nonneg _,by rw [Int.toNat_natCast,List.getElem?_map,h];rfl,rfl⟩
theorem nwB1 {ws:List (List UInt8)} {rs:List (List Dt)} {w:List UInt8} {i:Nat} (hl:ws.length≤1000) (hr:rs.length≤1000) (hx:ws[i]?=some w):Tri EX nwB (nwS ws rs i) .nxt (nwS ws (rs++[lrow w]) ((i+1:Nat):Int)) :=
 have hi:=(List.getElem?_eq_some_iff.1 hx).1
 twalk (c:=subC (bodyOf Tryz.f32) [1,1,1,1,1,0,1,0,0]) (s:=nwS ws rs i) (an:=[.av (inA ws.length),yT,.av (.pin [stA w]),.av (syA lispB w),.av (.un),.av (inA ((i+1:Nat):Int))]) (ls:=[]) (ft:=[1,6,7]) (nb:=1) (e:=.nxt) (s':=nwS ws (rs++[lrow w]) ((i+1:Nat):Int)) (ps:=[(vi ↑ws.length)=(vi (↑(List.map wdrow ws).length)),Bn .lss 3 (.tmp 32) (.tmp 34) (vi ↑i) (vi ↑ws.length) bT,IxAt (List.map wdrow ws) ↑i 1 ([(.val (str w))]),Puk 29 [(stA w)] (syA lispB w),(rs.length)=(rs.length),FitB 32 ((rs++[[Dt.val (str lispB),Dt.val (str w)]]).length),SrcOK 2 [[(.val (str lispB)),(.val (str w))]],Bn .add 3 (.tmp 36) (.const (vi 1)) (vi ↑i) (vi 1) (vi (↑(i+1)))]) (by kernel_rfl) ⟨lenW _,bin_ilt (decide_eq_true (by omega)),ix_w hx,p_lisp _,rfl,fit_of (by omega) (by simp;omega),src_lrow w,bin_iadd (by omega) (by omega) (by omega),trivial⟩
theorem nwB2 {ws:List (List UInt8)} {rs:List (List Dt)} {i:Nat} (hi:i=ws.length):Tri EX nwB (nwS ws rs i) (.out 2) (nwS ws rs i) :=
 twalk (c:=subC (bodyOf Tryz.f32) [1,1,1,1,1,0,1,0,0]) (s:=nwS ws rs i) (an:=[.av (inA ws.length),yF]) (ls:=[]) (ft:=[1,6,7]) (nb:=1) (e:=.out 2) (s':=nwS ws rs i) (ps:=[(vi ↑ws.length)=(vi (↑(List.map wdrow ws).length)),Bn .lss 3 (.tmp 32) (.tmp 34) (vi ↑i) (vi ↑ws.length) bF]) (by kernel_rfl) ⟨lenW _,bin_ilt (decide_eq_false (by omega)),trivial⟩
theorem nw_loop {ws:List (List UInt8)} (hl:ws.length≤100):∀ (s:List (List UInt8)) (i:Nat) (rs:List (List Dt)),ws.drop i=s→i≤ws.length→rs.length≤100+i→Lps EX nwB (nwS ws rs i) (.out 2) (nwS ws (rs++s.map lrow) ws.length):=by
 intro s
 induction s with
 | nil =>
  intro i rs hd hi _
  have e1:=congrArg List.length hd
  rw [List.length_drop,List.length_nil] at e1
  obtain rfl:i=ws.length:=by omega
  rw [List.map_nil,List.append_nil]
  exact .stop (nwB2 rfl) (fun h=>by cases h)
 | cons x s ih =>
  intro i rs hd hi hr
  have hx:ws[i]?=some x:=by rw [← List.head?_drop,hd];rfl
  have hlt:=(List.getElem?_eq_some_iff.1 hx).1
  have hn:=ih (i+1) (rs++[lrow x]) (by rw [← List.drop_drop,hd];rfl) (by omega) (by simp;omega)
  rw [List.append_assoc,List.singleton_append,← List.map_cons] at hn
  exact .more (nwB1 (by omega) (by omega) hx) hn
theorem w_Names {fs rs:List (List Dt)} {k:Int} (hd:Puk 30 [] (.dt (.row fs))) (h1:Tri EX (.loop nmB) (nmS fs (primL.map prow) 0) (.out 0) (nmS fs rs k)) (h2:Tri EX (.loop nwB) (nwS wordsL rs 0) (.out 2) (nwS wordsL (rs++wordsL.map lrow) wordsL.length)):Puk 32 [] (.dt (.row (rs++wordsL.map lrow))) :=
 pwalk (an:=[.av (.dt (.row fs))]) (ls:=[.scl 1 0 [] (.own 0 25) [some (.buf 28 2 (primL.map prow))],.inv [1,2,3] 1 (.out 0) (nmS fs rs k),.inv [1,6,7] 1 (.out 2) (nwS wordsL (rs++wordsL.map lrow) wordsL.length)]) (ps:=[Suk 8 [] [] (AV.own 0 25) [some (Bx.buf 28 2 (List.map prow primL))],Puk 30 [] (.dt (.row fs)),Tri EX (.loop (subC (bodyOf Tryz.f32) [1,1,1,0,1,0,0])) (nmS fs (primL.map prow) 0) (.out 0) (nmS fs rs k),Tri EX (.loop (subC (bodyOf Tryz.f32) [1,1,1,1,1,0,1,0,0])) (nwS wordsL rs 0) (.out 2) (nwS wordsL (rs++wordsL.map lrow) wordsL.length),((rs++List.map lrow wordsL).length)=((rs++List.map lrow wordsL).length)]) Tryz.func32 (by kernel_rfl) (by kernel_rfl) ⟨s_Names7,hd,h1,h2,rfl,trivial⟩
theorem src_encE (f:Rdr.Fnc):SrcOK 32 [encE f]:=by
 intro x hx
 rw [List.mem_singleton] at hx
 subst hx
 exact ⟨rfl,fun d hd=>by
  have h:(encE f).all Dt.one=true:=rfl
  exact List.all_eq_true.1 h d hd⟩
theorem src_encP (ns:List (List Dt)):SrcOK 32 [encP ns]:=by
 intro x hx
 rw [List.mem_singleton] at hx
 subst hx
 exact ⟨rfl,fun d hd=>by
  have h:(encP ns).all Dt.one=true:=rfl
  exact List.all_eq_true.1 h d hd⟩
abbrev wo0 (fs:List (List Dt)):AS:=⟨stt 27 [(1,.nil),(2,.dt (.row fs)),(3,inA 0)],[]⟩
abbrev woS (fs es:List (List Dt)) (i:Int):AS:=⟨stt 27 [(1,.own 0 es.length),(2,.dt (.row fs)),(3,inA i)],[wB es]⟩
noncomputable abbrev woB:Code:=subC (bodyOf Tryz.f7) [1,1,1,0,1,0,0]
theorem woB1 {fs es:List (List Dt)} {x:Ob} {f:Rdr.Fnc} {i:Nat} (hi:i < fs.length) (hl:fs.length≤1000) (hr:es.length≤1000) (hx:IxAt fs (i:Int) 7 (encL x)) (h:Suk 31 [.own 0 es.length,obA x] [wB es] (entA f) [wB es]):Tri EX woB (woS fs es i) .nxt (woS fs (es++[encE f]) ((i+1:Nat):Int)) :=
 twalk (c:=subC (bodyOf Tryz.f7) [1,1,1,0,1,0,0]) (s:=woS fs es i) (an:=[.av (inA fs.length),yT,.av (.pin ((encL x).map .dt)),.av (.un),.av (inA ((i+1:Nat):Int))]) (ls:=[.scl 6 6 [0] (entA f) [some (.buf 70 32 es)]]) (ft:=[1,2,3]) (nb:=1) (e:=.nxt) (s':=woS fs (es++[encE f]) ((i+1:Nat):Int)) (ps:=[(vi ↑fs.length)=(vi ↑fs.length),Bn .lss 3 (.tmp 5) (.tmp 7) (vi ↑i) (vi ↑fs.length) bT,IxAt fs ↑i 7 (encL x),Suk 31 [AV.own 0 es.length,AV.agg [AV.dt (Dt.val (vi x.kind)),AV.dt (Dt.val (str x.num)),AV.dt (Dt.val (str x.den)),AV.dt (Dt.val (str x.sp)),AV.dt (Dt.val (str x.sn)),AV.dt (Dt.val (str x.text)),AV.dt (Dt.row (List.map Ob.enc x.pair))]] [some (Bx.buf 70 32 es)] (entA f) [some (Bx.buf 70 32 es)],(es.length)=(es.length),FitB 568 ((es++[[Dt.val (vi 3),Dt.val (str lispB),Dt.val (str f.nm),Dt.val (str []),Dt.row [],Dt.val (str []),Dt.val (str []),Dt.row [],Dt.val bF,Dt.val (vi 0),Dt.val (str []),Dt.val (str []),Dt.val (vi 0),Dt.val (str []),Dt.val (str []),Dt.val (str []),Dt.val (str []),Dt.val (str []),Dt.row [],Dt.row [],Dt.row [encF f],Dt.row [],Dt.row [],Dt.row [],Dt.val (str []),Dt.val (str []),Dt.row [],Dt.row [],Dt.row [],Dt.row [],Dt.val (str []),Dt.val (Value.int .u64 0)]]).length),SrcOK 32 [encE f],Bn .add 3 (.tmp 9) (.const (vi 1)) (vi ↑i) (vi 1) (vi (↑(i+1)))]) (by kernel_rfl) ⟨rfl,bin_ilt (decide_eq_true (by omega)),hx,h,rfl,fit_big (by omega) (by simp;omega),src_encE f,bin_iadd (by omega) (by omega) (by omega),trivial⟩
theorem woB2 {fs es:List (List Dt)} {i:Nat} (hi:i=fs.length):Tri EX woB (woS fs es i) (.out 0) (woS fs es i) :=
 twalk (c:=subC (bodyOf Tryz.f7) [1,1,1,0,1,0,0]) (s:=woS fs es i) (an:=[.av (inA fs.length),yF]) (ls:=[]) (ft:=[1,2,3]) (nb:=1) (e:=.out 0) (s':=woS fs es i) (ps:=[(vi ↑fs.length)=(vi ↑fs.length),Bn .lss 3 (.tmp 5) (.tmp 7) (vi ↑i) (vi ↑fs.length) bF]) (by kernel_rfl) ⟨rfl,bin_ilt (decide_eq_false (by omega)),trivial⟩
theorem w_World {fs es ns:List (List Dt)} {k:Int} (hd:Puk 30 [] (.dt (.row fs))) (hlp:Tri EX (.loop woB) (wo0 fs) (.out 0) (woS fs es k)) (hn:Puk 32 [] (.dt (.row ns))) (hl:es.length≤1000):Puk 7 [] (.dt (.row (es++[encP ns]))) :=
 pwalk (an:=[.av (.dt (.row fs)),.av (syA lispB [117,115,101,114,45,112,97,99,107,97,103,101]),.av (.dt (.row ns)),.av (.un)]) (ls:=[.inv [1,2,3] 0 (.out 0) (woS fs es k)]) (ps:=[Puk 30 [] (.dt (.row fs)),Tri EX (.loop (subC (bodyOf Tryz.f7) [1,1,1,0,1,0,0])) (wo0 fs) (.out 0) (woS fs es k),Puk 29 [(stA [117,115,101,114,45,112,97,99,107,97,103,101])] (syA lispB [117,115,101,114,45,112,97,99,107,97,103,101]),Puk 32 [] (.dt (.row ns)),(es.length)=(es.length),FitB 568 ((es++[[Dt.val (vi 1),Dt.val (str lispB),Dt.val (str [117,115,101,114,45,112,97,99,107,97,103,101]),Dt.val (Value.string { data:=#[117,115,101,114]:ByteArray }),Dt.row ns,Dt.val (Value.string { data:=#[]:ByteArray }),Dt.val (Value.string { data:=#[]:ByteArray }),Dt.row [],Dt.val bF,Dt.val (vi 0),Dt.val (Value.string { data:=#[]:ByteArray }),Dt.val (Value.string { data:=#[]:ByteArray }),Dt.val (vi 0),Dt.val (Value.string { data:=#[]:ByteArray }),Dt.val (Value.string { data:=#[]:ByteArray }),Dt.val (Value.string { data:=#[]:ByteArray }),Dt.val (Value.string { data:=#[]:ByteArray }),Dt.val (Value.string { data:=#[]:ByteArray }),Dt.row [],Dt.row [],Dt.row [],Dt.row [],Dt.row [],Dt.row [],Dt.val (Value.string { data:=#[]:ByteArray }),Dt.val (Value.string { data:=#[]:ByteArray }),Dt.row [],Dt.row [],Dt.row [],Dt.row [],Dt.val (Value.string { data:=#[]:ByteArray }),Dt.val (Value.int .u64 0)]]).length),SrcOK 32 [[(.val (vi 1)),(.val (str lispB)),(.val (str [117,115,101,114,45,112,97,99,107,97,103,101])),(.val (str [117,115,101,114])),(.row ns),(.val (str [])),(.val (str [])),(.row []),(.val bF),(.val (vi 0)),(.val (str [])),(.val (str [])),(.val (vi 0)),(.val (str [])),(.val (str [])),(.val (str [])),(.val (str [])),(.val (str [])),(.row []),(.row []),(.row []),(.row []),(.row []),(.row []),(.val (str [])),(.val (str [])),(.row []),(.row []),(.row []),(.row []),(.val (str [])),(.val (Value.int .u64 0))]],((es++[[Dt.val (vi 1),Dt.val (str lispB),Dt.val (str [117,115,101,114,45,112,97,99,107,97,103,101]),Dt.val (Value.string { data:=#[117,115,101,114]:ByteArray }),Dt.row ns,Dt.val (Value.string { data:=#[]:ByteArray }),Dt.val (Value.string { data:=#[]:ByteArray }),Dt.row [],Dt.val bF,Dt.val (vi 0),Dt.val (Value.string { data:=#[]:ByteArray }),Dt.val (Value.string { data:=#[]:ByteArray }),Dt.val (vi 0),Dt.val (Value.string { data:=#[]:ByteArray }),Dt.val (Value.string { data:=#[]:ByteArray }),Dt.val (Value.string { data:=#[]:ByteArray }),Dt.val (Value.string { data:=#[]:ByteArray }),Dt.val (Value.string { data:=#[]:ByteArray }),Dt.row [],Dt.row [],Dt.row [],Dt.row [],Dt.row [],Dt.row [],Dt.val (Value.string { data:=#[]:ByteArray }),Dt.val (Value.string { data:=#[]:ByteArray }),Dt.row [],Dt.row [],Dt.row [],Dt.row [],Dt.val (Value.string { data:=#[]:ByteArray }),Dt.val (Value.int .u64 0)]]).length)=((es++[[Dt.val (vi 1),Dt.val (str lispB),Dt.val (str [117,115,101,114,45,112,97,99,107,97,103,101]),Dt.val (Value.string { data:=#[117,115,101,114]:ByteArray }),Dt.row ns,Dt.val (Value.string { data:=#[]:ByteArray }),Dt.val (Value.string { data:=#[]:ByteArray }),Dt.row [],Dt.val bF,Dt.val (vi 0),Dt.val (Value.string { data:=#[]:ByteArray }),Dt.val (Value.string { data:=#[]:ByteArray }),Dt.val (vi 0),Dt.val (Value.string { data:=#[]:ByteArray }),Dt.val (Value.string { data:=#[]:ByteArray }),Dt.val (Value.string { data:=#[]:ByteArray }),Dt.val (Value.string { data:=#[]:ByteArray }),Dt.val (Value.string { data:=#[]:ByteArray }),Dt.row [],Dt.row [],Dt.row [],Dt.row [],Dt.row [],Dt.row [],Dt.val (Value.string { data:=#[]:ByteArray }),Dt.val (Value.string { data:=#[]:ByteArray }),Dt.row [],Dt.row [],Dt.row [],Dt.row [],Dt.val (Value.string { data:=#[]:ByteArray }),Dt.val (Value.int .u64 0)]]).length)]) Tryz.func7 (by kernel_rfl) (by kernel_rfl) ⟨hd,hlp,p_lisp _,hn,rfl,fit_big (by omega) (by simp;omega),src_encP ns,rfl,trivial⟩
end Go.Proofs.YthhknjlmjefklaaGreatDoor
namespace Go.Proofs.YthhknjlmjefklaaGreatDoor
open Go.RowKit
open Te
theorem entry_items {ws:List Rdr.Fnc} {x:Tr} {f:Rdr.Fnc} (h:Rdr.entry primL ws x=some f):∃ d r,r.length≤200∧x=Tr.list (d::Tr.sym lispB f.nm::r):=by
 unfold Rdr.entry at h
 split at h
 case h_2=>cases h
 rename_i d p nm px y r hi
 split at h
 case h_2=>cases h
 split at h
 case h_2=>cases h
 split at h
 case isFalse=>cases h
 rename_i hc
 obtain ⟨rfl,hnm,hpn,hpl,hr⟩:=hc
 split at h
 case h_2=>cases h
 cases h
 exact ⟨d,px::y::r,by simp only [List.length_cons];omega,items_list hi⟩
theorem ix_form {L:List Tr} {i:Nat} {x:Tr} (h:L[i]?=some x):IxAt (encOs L) (i:Int) 7 (encL x.ob):=⟨Int.natCast_nonneg _,by rw [Int.toNat_natCast];unfold encOs;rw [List.getElem?_map,h];rfl,rfl⟩
theorem wo_loop {L:List Tr} (hl:L.length≤100) {wf:List Rdr.Fnc}:∀ (s:List Tr) (i:Nat) (ws:List Rdr.Fnc),L.drop i=s→i≤L.length→ws.length=i→Rdr.world primL s ws=some wf→Lps EX woB (woS (encOs L) (ws.map encE) i) (.out 0) (woS (encOs L) (wf.map encE) L.length):=by
 have hlo:(encOs L).length=L.length:=by unfold encOs;rw [List.length_map]
 intro s
 induction s with
 | nil =>
  intro i ws hd hi hw h
  cases h
  have e1:=congrArg List.length hd
  rw [List.length_drop,List.length_nil] at e1
  obtain rfl:i=L.length:=by omega
  exact .stop (woB2 hlo.symm) (fun h=>by cases h)
 | cons x s ih =>
  intro i ws hd hi hw h
  rw [Rdr.world] at h
  split at h
  case h_2=>cases h
  rename_i f hf
  have hx:L[i]?=some x:=by rw [← List.head?_drop,hd];rfl
  have hlt:=(List.getElem?_eq_some_iff.1 hx).1
  have hs:=woB1 (fs:=encOs L) (es:=ws.map encE) (i:=i) (by omega) (by omega) (by rw [List.length_map];omega) (ix_form hx) (p_entry (by omega) hf)
  have e:ws.map encE++[encE f]=(ws++[f]).map encE:=by rw [List.map_append];rfl
  rw [e] at hs
  exact .more hs (ih (i+1) (ws++[f]) (by rw [← List.drop_drop,hd];rfl) hlt (by simp [hw]) h)
theorem nm_loop {L:List Tr} (hl:L.length≤100) {wf:List Rdr.Fnc}:∀ (s:List Tr) (i:Nat) (ws:List Rdr.Fnc),L.drop i=s→i≤L.length→ws.length=i→Rdr.world primL s ws=some wf→Lps EX nmB (nmS (encOs L) (primL.map prow++ws.map fun f=>lrow f.nm) i) (.out 0) (nmS (encOs L) (primL.map prow++wf.map fun f=>lrow f.nm) L.length):=by
 have hlo:(encOs L).length=L.length:=by unfold encOs;rw [List.length_map]
 have hpl:primL.length=25:=rfl
 intro s
 induction s with
 | nil =>
  intro i ws hd hi hw h
  cases h
  have e1:=congrArg List.length hd
  rw [List.length_drop,List.length_nil] at e1
  obtain rfl:i=L.length:=by omega
  exact .stop (nmB2 hlo.symm) (fun h=>by cases h)
 | cons x s ih =>
  intro i ws hd hi hw h
  rw [Rdr.world] at h
  split at h
  case h_2=>cases h
  rename_i f hf
  have hx:L[i]?=some x:=by rw [← List.head?_drop,hd];rfl
  have hlt:=(List.getElem?_eq_some_iff.1 hx).1
  obtain ⟨d,r,hr,hxe⟩:=entry_items hf
  have hI:=p_rItems (l:=d::Tr.sym lispB f.nm::r) (by simp only [List.length_cons];omega)
  rw [← hxe] at hI
  have hs:=nmB1 (fs:=encOs L) (rs:=primL.map prow++ws.map fun f=>lrow f.nm) (i:=i) (by omega) (by omega) (by rw [List.length_append,List.length_map,List.length_map];omega) (ix_form hx) hI (ix_os1 _ _ _)
  have e:(primL.map prow++ws.map fun f=>lrow f.nm)++[lrow f.nm]=primL.map prow++(ws++[f]).map fun f=>lrow f.nm:=by rw [List.append_assoc,List.map_append];rfl
  rw [e] at hs
  exact .more hs (ih (i+1) (ws++[f]) (by rw [← List.drop_drop,hd];rfl) hlt (by simp [hw]) h)
def worldB:List Rdr.Fnc:=(Rdr.world primL forms []).getD []
theorem worldB_eq:Rdr.world primL forms []=some worldB:=by
 have h:(Rdr.world primL forms []).isSome=true:=by decide +kernel
 obtain ⟨l,hl⟩:=Option.isSome_iff_exists.1 h
 unfold worldB
 rw [hl]
 rfl
theorem worldB_len:worldB.length=28:=by decide +kernel
theorem wordsL_len:wordsL.length=61:=by decide +kernel
def namesR:List (List Dt):=(primL.map prow++worldB.map fun f=>lrow f.nm)++wordsL.map lrow
theorem forms_le:forms.length≤100:=by rw [forms_len];decide
theorem p_Names13:Puk 32 [] (.dt (.row namesR)):=by
 have h1:=(nm_loop forms_le forms 0 [] rfl (Nat.zero_le _) rfl worldB_eq).tri
 have h2:=(nw_loop (ws:=wordsL) (by rw [wordsL_len];decide) wordsL 0 (primL.map prow++worldB.map fun f=>lrow f.nm) rfl (Nat.zero_le _) (by rw [List.length_append,List.length_map,List.length_map,worldB_len];decide)).tri
 rw [List.map_nil,List.append_nil] at h1
 exact w_Names p_definitions h1 h2
def wrows:List (List Dt):=worldB.map encE++[encP namesR]
theorem p_World:Puk 7 [] (.dt (.row wrows)):=by
 have h:=(wo_loop forms_le forms 0 [] rfl (Nat.zero_le _) rfl worldB_eq).tri
 have ht:Tri EX (.loop woB) (wo0 (encOs forms)) (.out 0) (woS (encOs forms) (worldB.map encE) forms.length):=Tri.own0 1 70 32 (by show 1 < 27;omega) rfl h
 exact w_World p_definitions ht p_Names13 (by rw [List.length_map,worldB_len];decide)
end Go.Proofs.YthhknjlmjefklaaGreatDoor
namespace Go.Proofs.YthhknjlmjefklaaGreatDoor
open Go.RowKit
open Te
theorem plB3 {es is:List (List Dt)} {n:List UInt8} {i:Nat} (h:IxAt es (i:Int) 32 (encP is)) (hi:i < es.length) (hl:es.length≤1000):Tri EX plB (plS es n i) .nxt (plS es n ((i+1:Nat):Int)) :=
 twalk (c:=subC (bodyOf Tryz.f114) [1,0,1,0,0]) (s:=plS es n i) (an:=[.av (inA es.length),yT,.av (.pin ((encP is).map .dt)),.av (.dt (.row [])),.no,.no,.av (inA ((i+1:Nat):Int))]) (ls:=[.run 1]) (ft:=[0,3,7]) (nb:=1) (e:=.nxt) (s':=plS es n ((i+1:Nat):Int)) (ps:=[(vi ↑es.length)=(vi ↑es.length),Bn .lss 3 (.tmp 10) (.tmp 12) (vi ↑i) (vi ↑es.length) bT,IxAt es ↑i 32 ([(.val (vi 1)),(.val (str lispB)),(.val (str [117,115,101,114,45,112,97,99,107,97,103,101])),(.val (str [117,115,101,114])),(.row is),(.val (str [])),(.val (str [])),(.row []),(.val bF),(.val (vi 0)),(.val (str [])),(.val (str [])),(.val (vi 0)),(.val (str [])),(.val (str [])),(.val (str [])),(.val (str [])),(.val (str [])),(.row []),(.row []),(.row []),(.row []),(.row []),(.row []),(.val (str [])),(.val (str [])),(.row []),(.row []),(.row []),(.row []),(.val (str [])),(.val (Value.int .u64 0))]),Puk 115 [(.agg [(inA 1),(stA lispB),(stA [117,115,101,114,45,112,97,99,107,97,103,101]),(stA [117,115,101,114]),(.dt (.row is)),(stA []),(stA []),(.dt (.row [])),(boA false),(inA 0),(stA []),(stA []),(inA 0),(stA []),(stA []),(stA []),(stA []),(stA []),(.dt (.row [])),(.dt (.row [])),(.dt (.row [])),(.dt (.row [])),(.dt (.row [])),(.dt (.row [])),(stA []),(stA []),(.dt (.row [])),(.dt (.row [])),(.dt (.row [])),(.dt (.row [])),(stA []),(.dt (.val (Value.int .u64 0)))])] (.dt (.row [])),Bn .add 3 (.tmp 14) (.const (vi 1)) (vi ↑i) (vi 1) (vi (↑(i+1)))]) (by kernel_rfl)
  ⟨rfl,bin_ilt (decide_eq_true (by omega)),h,p_funsP is,bin_iadd (by omega) (by omega) (by omega),trivial⟩
theorem plB4 {es:List (List Dt)} {n:List UInt8} {i:Nat} (hi:i=es.length):Tri EX plB (plS es n i) (.out 0) (plS es n i) :=
 twalk (c:=subC (bodyOf Tryz.f114) [1,0,1,0,0]) (s:=plS es n i) (an:=[.av (inA es.length),yF]) (ls:=[]) (ft:=[0,3,7]) (nb:=1) (e:=.out 0) (s':=plS es n i) (ps:=[(vi ↑es.length)=(vi ↑es.length),Bn .lss 3 (.tmp 10) (.tmp 12) (vi ↑i) (vi ↑es.length) bF]) (by kernel_rfl)
  ⟨rfl,bin_ilt (decide_eq_false (by omega)),trivial⟩
theorem pl_no {ws:List Rdr.Fnc} {is:List (List Dt)} {n:List UInt8} (hl:ws.length≤900):∀ (s:List Rdr.Fnc) (i:Nat),ws.drop i=s→i≤ws.length→(s.find? fun f=>f.nm == n)=none→Lps EX plB (plS (ws.map encE++[encP is]) n i) (.out 0) (plS (ws.map encE++[encP is]) n (ws.length+1:Nat)):=by
 have hlen:(ws.map encE++[encP is]).length=ws.length+1:=by rw [List.length_append,List.length_map];rfl
 intro s
 induction s with
 | nil =>
  intro i hd hi _
  have e1:=congrArg List.length hd
  rw [List.length_drop,List.length_nil] at e1
  obtain rfl:i=ws.length:=by omega
  have hx:IxAt (ws.map encE++[encP is]) (ws.length:Int) 32 (encP is):=⟨Int.natCast_nonneg _,by rw [Int.toNat_natCast,List.getElem?_append_right (by rw [List.length_map];exact Nat.le_refl _),List.length_map,Nat.sub_self];rfl,rfl⟩
  exact .more (plB3 hx (by omega) (by omega)) (.stop (plB4 hlen.symm) (fun h=>by cases h))
 | cons x s ih =>
  intro i hd hi h
  have hx:ws[i]?=some x:=by rw [← List.head?_drop,hd];rfl
  have hlt:=(List.getElem?_eq_some_iff.1 hx).1
  rw [List.find?_cons] at h
  split at h
  ·cases h
  ·rename_i e
   exact .more (plB1 (ix_E hx) (by omega) (by omega) (decide_eq_false (by simpa using e))) (ih (i+1) (by rw [← List.drop_drop,hd];rfl) hlt h)
theorem w_plNo {es:List (List Dt)} {n:List UInt8} {k:Int} (h:Tri EX (.loop plB) (plS es n 0) (.out 0) (plS es n k)):Puk 114 [.dt (.row es),syA lispB n] (.tup [inA 0,inA 0,boA false]) :=
 pwalk (an:=[]) (ls:=[.inv [0,3,7] 1 (.out 0) (plS es n k)]) (ps:=[Tri EX (.loop (subC (bodyOf Tryz.f114) [1,0,1,0,0])) (plS es n 0) (.out 0) (plS es n k)]) Tryz.func114 (by kernel_rfl) (by kernel_rfl) ⟨h,trivial⟩
abbrev encZ:List Dt:=[.val (str []),.val (str []),.row [],.val (.int .i64 0)]++(encT zTe++(encT zTe++encT zTe))
theorem w_fns (f:Rdr.Fnc):Puk 75 [.agg ((encE f).map .dt)] (.dt (.row [encF f])) :=
 pwalk (an:=[.no]) (ls:=[]) (ps:=[]) Tryz.func75 (by kernel_rfl) (by kernel_rfl) trivial
theorem w_fnsP (is:List (List Dt)):Puk 75 [.agg ((encP is).map .dt)] (.dt (.row [])) :=
 pwalk (an:=[.no,.no,.no,.no]) (ls:=[]) (ps:=[]) Tryz.func75 (by kernel_rfl) (by kernel_rfl) trivial
abbrev lcC (n:List UInt8):AV:=.clf 111 [.pin [stA lispB,stA n]]
theorem w_lc1 {f:Rdr.Fnc} {n:List UInt8} {b:Bool} (h:(decide (lispB=lispB) && decide (f.nm=n))=b):Puk 111 [.agg ((encF f).map .dt),.pin [stA lispB,stA n]] (boA b) :=
 pwalk (an:=[.av (boA b)]) (ls:=[]) (ps:=[Bn .eql 28 (.tmp 5) (.tmp 6) (Value.agg #[str lispB,str f.nm]) (Value.agg #[str lispB,str n]) (Value.bool b)]) Tryz.func111 (by kernel_rfl) (by kernel_rfl) ⟨bin_syeq h,trivial⟩
theorem w_first0 {n:List UInt8}:Puk 110 [.dt (.row []),lcC n] (.tup [inA 0,boA false]) :=
 pwalk (an:=[.no,.no]) (ls:=[.run 1]) (ps:=[]) Tryz.func110 (by kernel_rfl) (by kernel_rfl) trivial
theorem w_first1 {f:Rdr.Fnc} {n:List UInt8} (h:Puk 111 [.agg ((encF f).map .dt),.pin [stA lispB,stA n]] (boA true)):Puk 110 [.dt (.row [encF f]),lcC n] (.tup [inA 0,boA true]) :=
 pwalk (an:=[.no,.no,.no,yT]) (ls:=[.run 1]) (ps:=[Puk 111 [(.agg ((encF f).map .dt)),(.pin [(stA lispB),(stA n)])] (boA true)]) Tryz.func110 (by kernel_rfl) (by kernel_rfl) ⟨h,trivial⟩
theorem w_first2 {f:Rdr.Fnc} {n:List UInt8} (h:Puk 111 [.agg ((encF f).map .dt),.pin [stA lispB,stA n]] (boA false)):Puk 110 [.dt (.row [encF f]),lcC n] (.tup [inA 0,boA false]) :=
 pwalk (an:=[.no,.no,.no,yF,.no,.no]) (ls:=[.run 2]) (ps:=[Puk 111 [(.agg ((encF f).map .dt)),(.pin [(stA lispB),(stA n)])] (boA false)]) Tryz.func110 (by kernel_rfl) (by kernel_rfl) ⟨h,trivial⟩
abbrev lcS (es:List (List Dt)) (n:List UInt8) (i:Int):AS:=⟨stt 29 [(3,.ptr 0 0),(11,.dt (.row es)),(12,inA es.length),(13,inA i)],[some (.cells [stA lispB,stA n])]⟩
abbrev lcR (n:List UInt8) (i:Int):AS:=⟨stt 29 [(4,inA i),(5,inA 0),(6,boA true)],[some (.cells [stA lispB,stA n])]⟩
noncomputable abbrev lcB:Code:=subC (bodyOf Tryz.f74) [1,0,1,0,0]
theorem lqB1 {es:List (List Dt)} {n:List UInt8} {i:Nat} {f:Rdr.Fnc} (h:IxAt es (i:Int) 32 (encE f)) (hi:i < es.length) (hl:es.length≤1000) (hn:¬ f.nm=n):Tri EX lcB (lcS es n i) .nxt (lcS es n ((i+1:Nat):Int)) :=
 twalk (c:=subC (bodyOf Tryz.f74) [1,0,1,0,0]) (s:=lcS es n i) (an:=[yT,.av (.pin ((encE f).map .dt)),.av (.dt (.row [encF f])),.av (.tup [inA 0,boA false]),.av (inA ((i+1:Nat):Int))]) (ls:=[]) (ft:=[3,11,12,13]) (nb:=1) (e:=.nxt) (s':=lcS es n ((i+1:Nat):Int)) (ps:=[Bn .lss 3 (.tmp 13) (.tmp 12) (vi ↑i) (vi ↑es.length) bT,IxAt es ↑i 32 (encE f),Puk 75 [(.agg ((encE f).map .dt))] (.dt (.row [encF f])),Puk 110 [(.dt (.row [encF f])),(.clf 111 [(.pin [(stA lispB),(stA n)])])] (.tup [(inA 0),(boA false)]),Bn .add 3 (.tmp 13) (.const (vi 1)) (vi ↑i) (vi 1) (vi (↑(i+1)))]) (by kernel_rfl) ⟨bin_ilt (decide_eq_true (by omega)),h,w_fns f,w_first2 (w_lc1 (by rw [decide_eq_false hn,Bool.and_false])),bin_iadd (by omega) (by omega) (by omega),trivial⟩
theorem lqB2 {es:List (List Dt)} {n:List UInt8} {i:Nat} {f:Rdr.Fnc} (h:IxAt es (i:Int) 32 (encE f)) (hi:i < es.length) (hn:f.nm=n):Tri EX lcB (lcS es n i) .ret (lcR n i) :=
 twalk (c:=subC (bodyOf Tryz.f74) [1,0,1,0,0]) (s:=lcS es n i) (an:=[yT,.av (.pin ((encE f).map .dt)),.av (.dt (.row [encF f])),.av (.tup [inA 0,boA true])]) (ls:=[]) (ft:=[4,5,6]) (nb:=1) (e:=.ret) (s':=lcR n i) (ps:=[Bn .lss 3 (.tmp 13) (.tmp 12) (vi ↑i) (vi ↑es.length) bT,IxAt es ↑i 32 (encE f),Puk 75 [(.agg ((encE f).map .dt))] (.dt (.row [encF f])),Puk 110 [(.dt (.row [encF f])),(.clf 111 [(.pin [(stA lispB),(stA n)])])] (.tup [(inA 0),(boA true)])]) (by kernel_rfl) ⟨bin_ilt (decide_eq_true (by omega)),h,w_fns f,w_first1 (w_lc1 (by rw [decide_eq_true hn];rfl)),trivial⟩
theorem lq_loop {ws:List Rdr.Fnc} {r:List (List Dt)} {n:List UInt8} {f:Rdr.Fnc} (hl:(ws.map encE++r).length≤1000):∀ (s:List Rdr.Fnc) (i:Nat),ws.drop i=s→(s.find? fun f=>f.nm == n)=some f→∃ j:Nat,ws[j]?=some f∧Lps EX lcB (lcS (ws.map encE++r) n i) .ret (lcR n j):=by
 intro s
 induction s with
 | nil=>intro i _ h;cases h
 | cons x s ih =>
  intro i hd h
  have hx:ws[i]?=some x:=by rw [← List.head?_drop,hd];rfl
  have hlt:=(List.getElem?_eq_some_iff.1 hx).1
  have hi:i < (ws.map encE++r).length:=by rw [List.length_append,List.length_map];omega
  rw [List.find?_cons] at h
  split at h
  ·rename_i e
   cases h
   exact ⟨i,hx,.stop (lqB2 (ix_E hx) hi (by simpa using e)) (fun h=>by cases h)⟩
  ·rename_i e
   obtain ⟨j,k1,k2⟩:=ih (i+1) (by rw [← List.drop_drop,hd];rfl) h
   exact ⟨j,k1,.more (lqB1 (ix_E hx) hi hl (by simpa using e)) k2⟩
theorem w_loc {es:List (List Dt)} {n:List UInt8} {j:Nat} (h:Tri EX (.loop lcB) (lcS es n 0) .ret (lcR n j)):Puk 74 [.dt (.row es),syA lispB n] (.tup [inA j,inA 0,boA true]) :=
 pwalk (an:=[.av (inA es.length)]) (ls:=[.inv [3,11,12,13] 1 (.ret) (lcR n j)]) (ps:=[(vi ↑es.length)=(vi ↑es.length),Tri EX (.loop (subC (bodyOf Tryz.f74) [1,0,1,0,0])) (lcS es n 0) (.ret) (lcR n j)]) Tryz.func74 (by kernel_rfl) (by kernel_rfl) ⟨rfl,h,trivial⟩
theorem w_wFunc {es:List (List Dt)} {n:List UInt8} {j:Nat} {f:Rdr.Fnc} (ht:Puk 74 [.dt (.row es),syA lispB n] (.tup [inA j,inA 0,boA true])) (h:IxAt es (j:Int) 32 (encE f)):Puk 39 [.dt (.row es),syA lispB n] (.tup [.agg ((encF f).map .dt),boA true]) :=
 pwalk (an:=[.av (.tup [inA j,inA 0,boA true]),.av (.pin ((encE f).map .dt)),.av (.dt (.row [encF f])),.no]) (ls:=[]) (ps:=[Puk 74 [(.dt (.row es)),(syA lispB n)] (.tup [(inA ↑j),(inA 0),(boA true)]),IxAt es ↑j 32 (encE f),Puk 75 [(.agg ((encE f).map .dt))] (.dt (.row [encF f]))]) Tryz.func39 (by kernel_rfl) (by kernel_rfl) ⟨ht,h,w_fns f,trivial⟩
theorem p_worldF {ws:List Rdr.Fnc} {r:List (List Dt)} {n:List UInt8} {f:Rdr.Fnc} (hl:(ws.map encE++r).length≤1000) (hf:(ws.find? fun f=>f.nm == n)=some f):Puk 39 [.dt (.row (ws.map encE++r)),syA lispB n] (.tup [.agg ((encF f).map .dt),boA true]):=by
 obtain ⟨j,hj,h⟩:=lq_loop (r:=r) hl ws 0 rfl hf
 exact w_wFunc (j:=j) (w_loc h.tri) (ix_E hj)
end Go.Proofs.YthhknjlmjefklaaGreatDoor
namespace Go.Proofs.YthhknjlmjefklaaGreatDoor
open Go.RowKit
theorem RV.sy {M:Mm} {w:World} {p n:List UInt8} {v:Value} (h:RV M w (syA p n) v):v=.agg #[str p,str n]:=by
 obtain ⟨vs,rfl,u0,_,rfl,h0,u1,_,rfl,h1,rfl⟩:=h
 rw [Rd.val_eq h0,Rd.val_eq h1]
theorem p_oAr0:Puk 38 [syA lispB [105,102]] (.tup [inA 3,boA true]):=pwalk (an:=[]) (ls:=[]) (ps:=[]) Tryz.func38 (by kernel_rfl) (by kernel_rfl) trivial
theorem p_oAr1:Puk 38 [syA lispB [101,113,117,97,108]] (.tup [inA 2,boA true]):=pwalk (an:=[]) (ls:=[]) (ps:=[]) Tryz.func38 (by kernel_rfl) (by kernel_rfl) trivial
theorem p_oAr2:Puk 38 [syA lispB [99,111,110,115]] (.tup [inA 2,boA true]):=pwalk (an:=[]) (ls:=[]) (ps:=[]) Tryz.func38 (by kernel_rfl) (by kernel_rfl) trivial
theorem p_oAr3:Puk 38 [syA lispB [99,97,114]] (.tup [inA 1,boA true]):=pwalk (an:=[]) (ls:=[]) (ps:=[]) Tryz.func38 (by kernel_rfl) (by kernel_rfl) trivial
theorem p_oAr4:Puk 38 [syA lispB [99,100,114]] (.tup [inA 1,boA true]):=pwalk (an:=[]) (ls:=[]) (ps:=[]) Tryz.func38 (by kernel_rfl) (by kernel_rfl) trivial
theorem p_oAr5:Puk 38 [syA lispB [99,111,110,115,112]] (.tup [inA 1,boA true]):=pwalk (an:=[]) (ls:=[]) (ps:=[]) Tryz.func38 (by kernel_rfl) (by kernel_rfl) trivial
theorem p_oAr6:Puk 38 [syA lispB [115,121,109,98,111,108,112]] (.tup [inA 1,boA true]):=pwalk (an:=[]) (ls:=[]) (ps:=[]) Tryz.func38 (by kernel_rfl) (by kernel_rfl) trivial
theorem p_oAr7:Puk 38 [syA lispB [115,116,114,105,110,103,112]] (.tup [inA 1,boA true]):=pwalk (an:=[]) (ls:=[]) (ps:=[]) Tryz.func38 (by kernel_rfl) (by kernel_rfl) trivial
theorem p_oAr8:Puk 38 [syA lispB [114,97,116,105,111,110,97,108,112]] (.tup [inA 1,boA true]):=pwalk (an:=[]) (ls:=[]) (ps:=[]) Tryz.func38 (by kernel_rfl) (by kernel_rfl) trivial
theorem p_oAr9:Puk 38 [syA lispB [105,110,116,101,103,101,114,112]] (.tup [inA 1,boA true]):=pwalk (an:=[]) (ls:=[]) (ps:=[]) Tryz.func38 (by kernel_rfl) (by kernel_rfl) trivial
theorem p_oAr10:Puk 38 [syA lispB [98,105,110,97,114,121,45,43]] (.tup [inA 2,boA true]):=pwalk (an:=[]) (ls:=[]) (ps:=[]) Tryz.func38 (by kernel_rfl) (by kernel_rfl) trivial
theorem p_oAr11:Puk 38 [syA lispB [98,105,110,97,114,121,45,42]] (.tup [inA 2,boA true]):=pwalk (an:=[]) (ls:=[]) (ps:=[]) Tryz.func38 (by kernel_rfl) (by kernel_rfl) trivial
theorem p_oAr12:Puk 38 [syA lispB [117,110,97,114,121,45,45]] (.tup [inA 1,boA true]):=pwalk (an:=[]) (ls:=[]) (ps:=[]) Tryz.func38 (by kernel_rfl) (by kernel_rfl) trivial
theorem p_oAr13:Puk 38 [syA lispB [117,110,97,114,121,45,47]] (.tup [inA 1,boA true]):=pwalk (an:=[]) (ls:=[]) (ps:=[]) Tryz.func38 (by kernel_rfl) (by kernel_rfl) trivial
theorem p_oAr14:Puk 38 [syA lispB [60]] (.tup [inA 2,boA true]):=pwalk (an:=[]) (ls:=[]) (ps:=[]) Tryz.func38 (by kernel_rfl) (by kernel_rfl) trivial
theorem p_oAr15:Puk 38 [syA lispB [110,117,109,101,114,97,116,111,114]] (.tup [inA 1,boA true]):=pwalk (an:=[]) (ls:=[]) (ps:=[]) Tryz.func38 (by kernel_rfl) (by kernel_rfl) trivial
theorem p_oAr16:Puk 38 [syA lispB [100,101,110,111,109,105,110,97,116,111,114]] (.tup [inA 1,boA true]):=pwalk (an:=[]) (ls:=[]) (ps:=[]) Tryz.func38 (by kernel_rfl) (by kernel_rfl) trivial
theorem p_oAr17:Puk 38 [syA lispB [102,108,111,111,114]] (.tup [inA 1,boA true]):=pwalk (an:=[]) (ls:=[]) (ps:=[]) Tryz.func38 (by kernel_rfl) (by kernel_rfl) trivial
theorem p_oAr18:Puk 38 [syA lispB [115,121,109,98,111,108,45,110,97,109,101]] (.tup [inA 1,boA true]):=pwalk (an:=[]) (ls:=[]) (ps:=[]) Tryz.func38 (by kernel_rfl) (by kernel_rfl) trivial
theorem p_oAr19:Puk 38 [syA lispB [115,121,109,98,111,108,45,112,97,99,107,97,103,101,45,110,97,109,101]] (.tup [inA 1,boA true]):=pwalk (an:=[]) (ls:=[]) (ps:=[]) Tryz.func38 (by kernel_rfl) (by kernel_rfl) trivial
theorem p_oAr20:Puk 38 [syA lispB [105,110,116,101,114,110]] (.tup [inA 2,boA true]):=pwalk (an:=[]) (ls:=[]) (ps:=[]) Tryz.func38 (by kernel_rfl) (by kernel_rfl) trivial
theorem p_oAr21:Puk 38 [syA lispB [115,116,114,105,110,103,45,97,112,112,101,110,100]] (.tup [inA 2,boA true]):=pwalk (an:=[]) (ls:=[]) (ps:=[]) Tryz.func38 (by kernel_rfl) (by kernel_rfl) trivial
theorem p_oAr22:Puk 38 [syA lispB [115,116,114,105,110,103,45,108,101,110,103,116,104]] (.tup [inA 1,boA true]):=pwalk (an:=[]) (ls:=[]) (ps:=[]) Tryz.func38 (by kernel_rfl) (by kernel_rfl) trivial
theorem p_oAr23:Puk 38 [syA lispB [115,116,114,105,110,103,45,98,121,116,101]] (.tup [inA 2,boA true]):=pwalk (an:=[]) (ls:=[]) (ps:=[]) Tryz.func38 (by kernel_rfl) (by kernel_rfl) trivial
theorem p_oAr24:Puk 38 [syA lispB [98,121,116,101,45,115,116,114,105,110,103]] (.tup [inA 1,boA true]):=pwalk (an:=[]) (ls:=[]) (ps:=[]) Tryz.func38 (by kernel_rfl) (by kernel_rfl) trivial
theorem p_oArU {n:List UInt8} (hn:∀ x∈primL,n≠x.1):Puk 38 [syA lispB n] (.tup [inA 0,boA false]):=pwalk (an:=[.no,yF,yF,yF,yF,yF,yF,yF,yF,yF,yF,yF,yF,yF,yF,yF,yF,yF,yF,yF,yF,yF,yF,yF,yF,yF]) (ls:=[]) (ps:=[Bn .eql 9 (.tmp 8) (.const (Value.string { data:=#[105,102]:ByteArray })) (str n) (str [105,102]) bF,Bn .eql 9 (.tmp 8) (.const (Value.string { data:=#[101,113,117,97,108]:ByteArray })) (str n) (str [101,113,117,97,108]) bF,Bn .eql 9 (.tmp 8) (.const (Value.string { data:=#[99,111,110,115]:ByteArray })) (str n) (str [99,111,110,115]) bF,Bn .eql 9 (.tmp 8) (.const (Value.string { data:=#[98,105,110,97,114,121,45,43]:ByteArray })) (str n) (str [98,105,110,97,114,121,45,43]) bF,Bn .eql 9 (.tmp 8) (.const (Value.string { data:=#[98,105,110,97,114,121,45,42]:ByteArray })) (str n) (str [98,105,110,97,114,121,45,42]) bF,Bn .eql 9 (.tmp 8) (.const (Value.string { data:=#[60]:ByteArray })) (str n) (str [60]) bF,Bn .eql 9 (.tmp 8) (.const (Value.string { data:=#[105,110,116,101,114,110]:ByteArray })) (str n) (str [105,110,116,101,114,110]) bF,Bn .eql 9 (.tmp 8) (.const (Value.string { data:=#[115,116,114,105,110,103,45,97,112,112,101,110,100]:ByteArray })) (str n) (str [115,116,114,105,110,103,45,97,112,112,101,110,100]) bF,Bn .eql 9 (.tmp 8) (.const (Value.string { data:=#[115,116,114,105,110,103,45,98,121,116,101]:ByteArray })) (str n) (str [115,116,114,105,110,103,45,98,121,116,101]) bF,Bn .eql 9 (.tmp 8) (.const (Value.string { data:=#[99,97,114]:ByteArray })) (str n) (str [99,97,114]) bF,Bn .eql 9 (.tmp 8) (.const (Value.string { data:=#[99,100,114]:ByteArray })) (str n) (str [99,100,114]) bF,Bn .eql 9 (.tmp 8) (.const (Value.string { data:=#[99,111,110,115,112]:ByteArray })) (str n) (str [99,111,110,115,112]) bF,Bn .eql 9 (.tmp 8) (.const (Value.string { data:=#[115,121,109,98,111,108,112]:ByteArray })) (str n) (str [115,121,109,98,111,108,112]) bF,Bn .eql 9 (.tmp 8) (.const (Value.string { data:=#[115,116,114,105,110,103,112]:ByteArray })) (str n) (str [115,116,114,105,110,103,112]) bF,Bn .eql 9 (.tmp 8) (.const (Value.string { data:=#[114,97,116,105,111,110,97,108,112]:ByteArray })) (str n) (str [114,97,116,105,111,110,97,108,112]) bF,Bn .eql 9 (.tmp 8) (.const (Value.string { data:=#[105,110,116,101,103,101,114,112]:ByteArray })) (str n) (str [105,110,116,101,103,101,114,112]) bF,Bn .eql 9 (.tmp 8) (.const (Value.string { data:=#[117,110,97,114,121,45,45]:ByteArray })) (str n) (str [117,110,97,114,121,45,45]) bF,Bn .eql 9 (.tmp 8) (.const (Value.string { data:=#[117,110,97,114,121,45,47]:ByteArray })) (str n) (str [117,110,97,114,121,45,47]) bF,Bn .eql 9 (.tmp 8) (.const (Value.string { data:=#[110,117,109,101,114,97,116,111,114]:ByteArray })) (str n) (str [110,117,109,101,114,97,116,111,114]) bF,Bn .eql 9 (.tmp 8) (.const (Value.string { data:=#[100,101,110,111,109,105,110,97,116,111,114]:ByteArray })) (str n) (str [100,101,110,111,109,105,110,97,116,111,114]) bF,Bn .eql 9 (.tmp 8) (.const (Value.string { data:=#[102,108,111,111,114]:ByteArray })) (str n) (str [102,108,111,111,114]) bF,Bn .eql 9 (.tmp 8) (.const (Value.string { data:=#[115,121,109,98,111,108,45,110,97,109,101]:ByteArray })) (str n) (str [115,121,109,98,111,108,45,110,97,109,101]) bF,Bn .eql 9 (.tmp 8) (.const (Value.string { data:=#[115,121,109,98,111,108,45,112,97,99,107,97,103,101,45,110,97,109,101]:ByteArray })) (str n) (str [115,121,109,98,111,108,45,112,97,99,107,97,103,101,45,110,97,109,101]) bF,Bn .eql 9 (.tmp 8) (.const (Value.string { data:=#[115,116,114,105,110,103,45,108,101,110,103,116,104]:ByteArray })) (str n) (str [115,116,114,105,110,103,45,108,101,110,103,116,104]) bF,Bn .eql 9 (.tmp 8) (.const (Value.string { data:=#[98,121,116,101,45,115,116,114,105,110,103]:ByteArray })) (str n) (str [98,121,116,101,45,115,116,114,105,110,103]) bF]) Tryz.func38 (by kernel_rfl) (by kernel_rfl) ⟨bin_seq (decide_eq_false (hn ([105,102],3) (by decide))),bin_seq (decide_eq_false (hn ([101,113,117,97,108],2) (by decide))),bin_seq (decide_eq_false (hn ([99,111,110,115],2) (by decide))),bin_seq (decide_eq_false (hn ([98,105,110,97,114,121,45,43],2) (by decide))),bin_seq (decide_eq_false (hn ([98,105,110,97,114,121,45,42],2) (by decide))),bin_seq (decide_eq_false (hn ([60],2) (by decide))),bin_seq (decide_eq_false (hn ([105,110,116,101,114,110],2) (by decide))),bin_seq (decide_eq_false (hn ([115,116,114,105,110,103,45,97,112,112,101,110,100],2) (by decide))),bin_seq (decide_eq_false (hn ([115,116,114,105,110,103,45,98,121,116,101],2) (by decide))),bin_seq (decide_eq_false (hn ([99,97,114],1) (by decide))),bin_seq (decide_eq_false (hn ([99,100,114],1) (by decide))),bin_seq (decide_eq_false (hn ([99,111,110,115,112],1) (by decide))),bin_seq (decide_eq_false (hn ([115,121,109,98,111,108,112],1) (by decide))),bin_seq (decide_eq_false (hn ([115,116,114,105,110,103,112],1) (by decide))),bin_seq (decide_eq_false (hn ([114,97,116,105,111,110,97,108,112],1) (by decide))),bin_seq (decide_eq_false (hn ([105,110,116,101,103,101,114,112],1) (by decide))),bin_seq (decide_eq_false (hn ([117,110,97,114,121,45,45],1) (by decide))),bin_seq (decide_eq_false (hn ([117,110,97,114,121,45,47],1) (by decide))),bin_seq (decide_eq_false (hn ([110,117,109,101,114,97,116,111,114],1) (by decide))),bin_seq (decide_eq_false (hn ([100,101,110,111,109,105,110,97,116,111,114],1) (by decide))),bin_seq (decide_eq_false (hn ([102,108,111,111,114],1) (by decide))),bin_seq (decide_eq_false (hn ([115,121,109,98,111,108,45,110,97,109,101],1) (by decide))),bin_seq (decide_eq_false (hn ([115,121,109,98,111,108,45,112,97,99,107,97,103,101,45,110,97,109,101],1) (by decide))),bin_seq (decide_eq_false (hn ([115,116,114,105,110,103,45,108,101,110,103,116,104],1) (by decide))),bin_seq (decide_eq_false (hn ([98,121,116,101,45,115,116,114,105,110,103],1) (by decide))),trivial⟩
end Go.Proofs.YthhknjlmjefklaaGreatDoor
namespace Go.Proofs.YthhknjlmjefklaaGreatDoor
open Go.RowKit
set_option maxHeartbeats 400000 in
theorem rIsInteger_any (o:Ob) (A:Option Addr) (n c:Nat) (w:World):Calls Tryz.prog 90 #[objV o (.slice A n c)] w (RetBel (.bool (decide (o.kind=1∧o.den=[49]))) w):=by
 obtain ⟨k,nm,d,p,s,t,l⟩:=o
 dsimp only
 by_cases hk:k=1
 ·subst hk
  by_cases h1:d=[49]
  ·subst h1
   rw [decide_eq_true ⟨rfl,rfl⟩]
   go_enter Tryz.func90,Tryz.ntmps90
   go_wp2
   go_ret
   exact ⟨rfl,box _ _⟩
  ·rw [decide_eq_false (fun h=>h1 h.2)]
   have hz:(d == [49])=false:=by rw [beq_eq_false_iff_ne];exact h1
   clear h1
   go_enter Tryz.func90,Tryz.ntmps90
   go_wp2
   go_ret
   exact ⟨rfl,box _ _⟩
 ·rw [decide_eq_false (fun h=>hk h.1)]
  have hz:(k == 1)=false:=by rw [beq_eq_false_iff_ne];exact hk
  clear hk
  go_enter Tryz.func90,Tryz.ntmps90
  go_wp2
  go_ret
  exact ⟨rfl,box _ _⟩
end Go.Proofs.YthhknjlmjefklaaGreatDoor
namespace Go.Proofs.YthhknjlmjefklaaGreatDoor
open Go.RowKit
theorem pk_s {f:FuncId} (hf:Fn f) {a r:List UInt8} (h:∀ w,Tab w→Calls Tryz.prog f #[str a] w (RetStr r w)):Puk f [stA a] (stA r) :=
 ⟨hf,fun ok w vs ht hv=>by
  obtain rfl:=hv.one_val
  exact (h w ht.1).mono fun _ _ ⟨h1,h2⟩=>⟨_,h1,h2,.val _⟩⟩
theorem pk_ss {f:FuncId} (hf:Fn f) {a b r:List UInt8} (h:∀ w,Tab w→Calls Tryz.prog f #[str a,str b] w (RetStr r w)):Puk f [stA a,stA b] (stA r) :=
 ⟨hf,fun ok w vs ht hv=>by
  obtain ⟨u,us,rfl,h1,h2⟩:=hv
  obtain rfl:=RL.one_val h2
  rw [Rd.val_eq h1]
  exact (h w ht.1).mono fun _ _ ⟨h1,h2⟩=>⟨_,h1,h2,.val _⟩⟩
section
variable {a b:List UInt8} {x y:Int} (ha:Dec.dval a=x) (hb:Dec.dval b=y) (la:a.length≤2500000) (lb:b.length≤2500000)
include ha hb la lb
theorem p_rMulS:Puk 200 [stA a,stA b] (stA (Lib.itoa (x * y))) :=
 pk_ss (fnm Tryz.func200 rfl (by kernel_rfl)) fun w _=>by rw [← ha,← hb];exact refMul_any a b w la lb
theorem p_rAddS:Puk 199 [stA a,stA b] (stA (Lib.itoa (x+y))) :=
 pk_ss (fnm Tryz.func199 rfl (by kernel_rfl)) fun w _=>by rw [← ha,← hb];exact refAdd_any a b w la lb
end
theorem p_rNegS {a:List UInt8} {x:Int} (ha:Dec.dval a=x) (la:a.length≤2500000):Puk 197 [stA a] (stA (Lib.itoa (-x))) :=
 pk_s (fnm Tryz.func197 rfl (by kernel_rfl)) fun w _=>by rw [← ha];exact refNegate_any a w la
theorem p_rFix (t:Tr):Puk 146 [trA t] (trA (.num t.val)) :=
 ⟨fnm Tryz.func146 rfl (by kernel_rfl),fun ok w vs ht hv=>by
  obtain ⟨A,n,c,rfl,hr⟩:=hv.one_obj
  have e1:=hr.len
  rw [List.length_map] at e1
  exact (rFix_any t.ob t.val t.val_ob A n c e1 w ht.1).mono fun _ _=>RetNum.pure⟩
section
variable {a b:Tr} {p q r:Rat} {m n d:List UInt8} {k:Nat}
theorem w_rProd (f1:Puk 146 [trA a] (trA (.num p))) (f2:Puk 146 [trA b] (trA (.num q))) (m1:Puk 200 [stA (Tr.num p).ob.num,stA (Tr.num q).ob.num] (stA m)) (m2:Puk 200 [stA (Tr.num p).ob.den,stA (Tr.num q).ob.den] (stA d)) (r1:Puk 35 [stA m,stA d] (trA (.num r))):Puk 153 [trA a,trA b] (trA (.num r)) :=
 pwalk (an:=[.av (trA (.num p)),.av (trA (.num q)),.av (stA m),.av (stA d),.av (trA (.num r))]) (ls:=[]) (ps:=[Puk 146 [(obA a.ob)] (trA (Tr.num p)),Puk 146 [(obA b.ob)] (trA (Tr.num q)),Puk 200 [(stA (Tr.num p).ob.num),(stA (Tr.num q).ob.num)] (stA m),Puk 200 [(stA (Tr.num p).ob.den),(stA (Tr.num q).ob.den)] (stA d),Puk 35 [(stA m),(stA d)] (trA (Tr.num r))]) Tryz.func153 (by kernel_rfl) (by kernel_rfl) ⟨f1,f2,m1,m2,r1,trivial⟩
theorem w_rSum {s:List UInt8} (f1:Puk 146 [trA a] (trA (.num p))) (f2:Puk 146 [trA b] (trA (.num q))) (m1:Puk 200 [stA (Tr.num p).ob.num,stA (Tr.num q).ob.den] (stA m)) (m2:Puk 200 [stA (Tr.num q).ob.num,stA (Tr.num p).ob.den] (stA n)) (m3:Puk 199 [stA m,stA n] (stA s)) (m4:Puk 200 [stA (Tr.num p).ob.den,stA (Tr.num q).ob.den] (stA d)) (r1:Puk 35 [stA s,stA d] (trA (.num r))):Puk 152 [trA a,trA b] (trA (.num r)) :=
 pwalk (an:=[.av (trA (.num p)),.av (trA (.num q)),.av (stA m),.av (stA n),.av (stA s),.av (stA d),.av (trA (.num r))]) (ls:=[]) (ps:=[Puk 146 [(obA a.ob)] (trA (Tr.num p)),Puk 146 [(obA b.ob)] (trA (Tr.num q)),Puk 200 [(stA (Tr.num p).ob.num),(stA (Tr.num q).ob.den)] (stA m),Puk 200 [(stA (Tr.num q).ob.num),(stA (Tr.num p).ob.den)] (stA n),Puk 199 [(stA m),(stA n)] (stA s),Puk 200 [(stA (Tr.num p).ob.den),(stA (Tr.num q).ob.den)] (stA d),Puk 35 [(stA s),(stA d)] (trA (Tr.num r))]) Tryz.func152 (by kernel_rfl) (by kernel_rfl) ⟨f1,f2,m1,m2,m3,m4,r1,trivial⟩
theorem w_rOpp (f1:Puk 146 [trA a] (trA (.num p))) (m1:Puk 197 [stA (Tr.num p).ob.num] (stA m)) (r1:Puk 35 [stA m,stA (Tr.num p).ob.den] (trA (.num r))):Puk 148 [trA a] (trA (.num r)) :=
 pwalk (an:=[.av (trA (.num p)),.av (stA m),.av (trA (.num r))]) (ls:=[]) (ps:=[Puk 146 [(obA a.ob)] (trA (Tr.num p)),Puk 197 [(stA (Tr.num p).ob.num)] (stA m),Puk 35 [(stA m),(stA (Tr.num p).ob.den)] (trA (Tr.num r))]) Tryz.func148 (by kernel_rfl) (by kernel_rfl) ⟨f1,m1,r1,trivial⟩
theorem w_rInv (f1:Puk 146 [trA a] (trA (.num p))) (r1:Puk 35 [stA (Tr.num p).ob.den,stA (Tr.num p).ob.num] (trA (.num r))):Puk 149 [trA a] (trA (.num r)) :=
 pwalk (an:=[.av (trA (.num p)),.av (trA (.num r))]) (ls:=[]) (ps:=[Puk 146 [(obA a.ob)] (trA (Tr.num p)),Puk 35 [(stA (Tr.num p).ob.den),(stA (Tr.num p).ob.num)] (trA (Tr.num r))]) Tryz.func149 (by kernel_rfl) (by kernel_rfl) ⟨f1,r1,trivial⟩
end
section
variable {k:Nat} {a b:Tr}
theorem nvl (q:Rat):Dec.dval (Tr.num q).ob.num=q.num:=Dec.dval_itoa _
theorem dvl (q:Rat):Dec.dval (Tr.num q).ob.den=q.den:=Dec.dval_itoa (q.den:Int)
theorem nl {q:Rat} (h:Rb k q) (hk:k≤10000):(Tr.num q).ob.num.length≤20000:=Nat.le_trans (Rb.nlen h) (by omega)
theorem dl {q:Rat} (h:Rb k q) (hk:k≤10000):(Tr.num q).ob.den.length≤20000:=Nat.le_trans (Rb.dlen h) (by omega)
theorem ml {x y:Int} (hx:x.natAbs < 10 ^ k) (hy:y.natAbs < 10 ^ k) (h1:1≤k) (hk:k≤10000):(Lib.itoa (x * y)).length≤50000:=by
 have h:(x * y).natAbs < 10 ^ (k+k):=by
  rw [Int.natAbs_mul,Nat.pow_add]
  exact Nat.mul_lt_mul'' hx hy
 exact Nat.le_trans (itoa_length_any _ (k:=k+k) (by omega) h) (by omega)
theorem al' {x y:Int} (hx:(Lib.itoa x).length≤k) (hy:(Lib.itoa y).length≤k):(Lib.itoa (x+y)).length≤k+2:=by
 have h1:=dval_lt18 hx
 have h2:=dval_lt18 hy
 rw [Dec.dval_itoa] at h1 h2
 refine itoa_length_any _ (k:=k+1) (by omega) ?_
 rw [Nat.pow_succ]
 generalize 10 ^ k=z at *
 have:=Int.natAbs_add_le x y
 omega
theorem al {x y:Int} (hx:(Lib.itoa x).length≤50000) (hy:(Lib.itoa y).length≤50000):(Lib.itoa (x+y)).length≤100010:=Nat.le_trans (al' hx hy) (by decide)
variable (ha:a.Ok k) (hb:b.Ok k) (h1:1≤k) (hk:k≤10000)
include ha h1 hk
theorem p_rOpp:Puk 148 [trA a] (trA (.num (-a.val))):=by
 have ba:=ha.val h1
 refine w_rOpp (p_rFix a) (p_rNegS (nvl _) (Nat.le_trans (nl ba hk) (by decide))) ?_
 have h:=p_rRat (a:=Lib.itoa (-a.val.num)) (b:=(Tr.num a.val).ob.den) (Nat.le_trans (itoa_length_any _ (k:=k) h1 (by rw [Int.natAbs_neg];exact ba.num)) (by omega)) (Nat.le_trans (dl ba hk) (by decide))
 rw [Dec.dval_itoa,dvl,show Rat.divInt (-a.val.num) (a.val.den:Int)=-a.val by rw [← Rat.neg_divInt,Rat.num_divInt_den]] at h
 exact h
theorem p_rInv:Puk 149 [trA a] (trA (.num a.val⁻¹)):=by
 have ba:=ha.val h1
 refine w_rInv (p_rFix a) ?_
 have h:=p_rRat (a:=(Tr.num a.val).ob.den) (b:=(Tr.num a.val).ob.num) (Nat.le_trans (dl ba hk) (by decide)) (Nat.le_trans (nl ba hk) (by decide))
 rw [dvl,nvl,← Rat.inv_def] at h
 exact h
include hb
theorem p_rProd:Puk 153 [trA a,trA b] (trA (.num (a.val * b.val))):=by
 have ba:=ha.val h1
 have bb:=hb.val h1
 refine w_rProd (p_rFix a) (p_rFix b) (p_rMulS (nvl _) (nvl _) (Nat.le_trans (nl ba hk) (by decide)) (Nat.le_trans (nl bb hk) (by decide))) (p_rMulS (dvl _) (dvl _) (Nat.le_trans (dl ba hk) (by decide)) (Nat.le_trans (dl bb hk) (by decide))) ?_
 have h:=p_rRat (Nat.le_trans (ml ba.num bb.num h1 hk) (by decide)) (Nat.le_trans (ml (x:=(a.val.den:Int)) (y:=(b.val.den:Int)) (by rw [Int.natAbs_natCast];exact ba.den) (by rw [Int.natAbs_natCast];exact bb.den) h1 hk) (by decide))
 rw [Dec.dval_itoa,Dec.dval_itoa,← Rat.mul_div] at h
 exact h
theorem p_rSum:Puk 152 [trA a,trA b] (trA (.num (a.val+b.val))):=by
 have ba:=ha.val h1
 have bb:=hb.val h1
 have l1:=ml (x:=a.val.num) (y:=(b.val.den:Int)) ba.num (by rw [Int.natAbs_natCast];exact bb.den) h1 hk
 have l2:=ml (x:=b.val.num) (y:=(a.val.den:Int)) bb.num (by rw [Int.natAbs_natCast];exact ba.den) h1 hk
 have l3:=ml (x:=(a.val.den:Int)) (y:=(b.val.den:Int)) (by rw [Int.natAbs_natCast];exact ba.den) (by rw [Int.natAbs_natCast];exact bb.den) h1 hk
 refine w_rSum (p_rFix a) (p_rFix b) (p_rMulS (nvl _) (dvl _) (Nat.le_trans (nl ba hk) (by decide)) (Nat.le_trans (dl bb hk) (by decide))) (p_rMulS (nvl _) (dvl _) (Nat.le_trans (nl bb hk) (by decide)) (Nat.le_trans (dl ba hk) (by decide))) (p_rAddS (Dec.dval_itoa _) (Dec.dval_itoa _) (by omega) (by omega)) (p_rMulS (dvl _) (dvl _) (Nat.le_trans (dl ba hk) (by decide)) (Nat.le_trans (dl bb hk) (by decide))) ?_
 have h:=p_rRat (Nat.le_trans (al l1 l2) (by decide)) (Nat.le_trans l3 (by decide))
 rw [Dec.dval_itoa,Dec.dval_itoa,← Rat.add_div] at h
 exact h
end
end Go.Proofs.YthhknjlmjefklaaGreatDoor
