/- The built-in world, of the reference. -/
import Derived.Test.YtdkehabacmlegaaGreatDoorVP
import Derived.Test.YtdkehabacmlegaaGreatDoorVO
import Derived.Test.YtdkehabacmlegaaGreatDoorVG
import Derived.Deep.RegionHeld3
import Derived.Deep.RegionLaw
import Derived.Test.YtdkehabacmlegaaGreatDoorVF
set_option maxRecDepth 100000
set_option maxHeartbeats 4000000
namespace Go.Proofs.YtdkehabacmlegaaGreatDoor
open Go.Proofs.Tryz
open Go.RowKit
open Te
theorem Oo:C8 72 [] [] (.own 0 25) [some (.buf 45 2 (I5.map eX))] :=
 sW 0 [0] ([.av (.dt (.row (I5.map aC))),.no,.no,.no,.av (o9 o6 [105,102])]++nK 5 (.av (o9 o6 [101,113,117,97,108])::nK 5 (.av (o9 o6 [99,111,110,115])::nK 5 (.av (o9 o6 [99,97,114])::nK 5 (.av (o9 o6 [99,100,114])::nK 5 (.av (o9 o6 [99,111,110,115,112])::nK 5 (.av (o9 o6 [115,121,109,98,111,108,112])::nK 5 (.av (o9 o6 [115,116,114,105,110,103,112])::nK 5 (.av (o9 o6 [114,97,116,105,111,110,97,108,112])::nK 5 (.av (o9 o6 [105,110,116,101,103,101,114,112])::nK 5 (.av (o9 o6 [98,105,110,97,114,121,45,43])::nK 5 (.av (o9 o6 [98,105,110,97,114,121,45,42])::nK 5 (.av (o9 o6 [117,110,97,114,121,45,45])::nK 5 (.av (o9 o6 [117,110,97,114,121,45,47])::nK 5 (.av (o9 o6 [60])::nK 5 (.av (o9 o6 [110,117,109,101,114,97,116,111,114])::nK 5 (.av (o9 o6 [100,101,110,111,109,105,110,97,116,111,114])::nK 5 (.av (o9 o6 [102,108,111,111,114])::nK 5 (.av (o9 o6 [115,121,109,98,111,108,45,110,97,109,101])::nK 5 (.av (o9 o6 [115,121,109,98,111,108,45,112,97,99,107,97,103,101,45,110,97,109,101])::nK 5 (.av (o9 o6 [105,110,116,101,114,110])::nK 5 (.av (o9 o6 [115,116,114,105,110,103,45,97,112,112,101,110,100])::nK 5 (.av (o9 o6 [115,116,114,105,110,103,45,108,101,110,103,116,104])::nK 5 (.av (o9 o6 [115,116,114,105,110,103,45,98,121,116,101])::nK 5 [.av (o9 o6 [98,121,116,101,45,115,116,114,105,110,103]),.no,.no])))))))))))))))))))))))) [.run 26] [_,j5 36 [(stA ([105,102],3).fst)] (o9 o6 [105,102]),j5 36 [(stA ([101,113,117,97,108],2).fst)] (o9 o6 [101,113,117,97,108]),j5 36 [(stA ([99,111,110,115],2).fst)] (o9 o6 [99,111,110,115]),j5 36 [(stA ([99,97,114],1).fst)] (o9 o6 [99,97,114]),j5 36 [(stA ([99,100,114],1).fst)] (o9 o6 [99,100,114]),j5 36 [(stA ([99,111,110,115,112],1).fst)] (o9 o6 [99,111,110,115,112]),j5 36 [(stA ([115,121,109,98,111,108,112],1).fst)] (o9 o6 [115,121,109,98,111,108,112]),j5 36 [(stA ([115,116,114,105,110,103,112],1).fst)] (o9 o6 [115,116,114,105,110,103,112]),j5 36 [(stA ([114,97,116,105,111,110,97,108,112],1).fst)] (o9 o6 [114,97,116,105,111,110,97,108,112]),j5 36 [(stA ([105,110,116,101,103,101,114,112],1).fst)] (o9 o6 [105,110,116,101,103,101,114,112]),j5 36 [(stA ([98,105,110,97,114,121,45,43],2).fst)] (o9 o6 [98,105,110,97,114,121,45,43]),j5 36 [(stA ([98,105,110,97,114,121,45,42],2).fst)] (o9 o6 [98,105,110,97,114,121,45,42]),j5 36 [(stA ([117,110,97,114,121,45,45],1).fst)] (o9 o6 [117,110,97,114,121,45,45]),j5 36 [(stA ([117,110,97,114,121,45,47],1).fst)] (o9 o6 [117,110,97,114,121,45,47]),j5 36 [(stA ([60],2).fst)] (o9 o6 [60]),j5 36 [(stA ([110,117,109,101,114,97,116,111,114],1).fst)] (o9 o6 [110,117,109,101,114,97,116,111,114]),j5 36 [(stA ([100,101,110,111,109,105,110,97,116,111,114],1).fst)] (o9 o6 [100,101,110,111,109,105,110,97,116,111,114]),j5 36 [(stA ([102,108,111,111,114],1).fst)] (o9 o6 [102,108,111,111,114]),j5 36 [(stA ([115,121,109,98,111,108,45,110,97,109,101],1).fst)] (o9 o6 [115,121,109,98,111,108,45,110,97,109,101]),j5 36 [(stA ([115,121,109,98,111,108,45,112,97,99,107,97,103,101,45,110,97,109,101],1).fst)] (o9 o6 [115,121,109,98,111,108,45,112,97,99,107,97,103,101,45,110,97,109,101]),j5 36 [(stA ([105,110,116,101,114,110],2).fst)] (o9 o6 [105,110,116,101,114,110]),j5 36 [(stA ([115,116,114,105,110,103,45,97,112,112,101,110,100],2).fst)] (o9 o6 [115,116,114,105,110,103,45,97,112,112,101,110,100]),j5 36 [(stA ([115,116,114,105,110,103,45,108,101,110,103,116,104],1).fst)] (o9 o6 [115,116,114,105,110,103,45,108,101,110,103,116,104]),j5 36 [(stA ([115,116,114,105,110,103,45,98,121,116,101],2).fst)] (o9 o6 [115,116,114,105,110,103,45,98,121,116,101]),j5 36 [(stA ([98,121,116,101,45,115,116,114,105,110,103],1).fst)] (o9 o6 [98,121,116,101,45,115,116,114,105,110,103])] func72 ⟨aG,O7 _,O7 _,O7 _,O7 _,O7 _,O7 _,O7 _,O7 _,O7 _,O7 _,O7 _,O7 _,O7 _,O7 _,O7 _,O7 _,O7 _,O7 _,O7 _,O7 _,O7 _,O7 _,O7 _,O7 _,O7 _,Z⟩
def fQ:List (bi):=[[110,105,108],[116],[113,117,111,116,101],[108,101,116],[108,101,116,42],[99,111,110,100],[97,110,100],[111,114],[108,105,115,116],[108,105,115,116,42],[43],[42],[45],[47],[60,61],[62],[62,61],[97,112,112,101,110,100],[100,101,102,112,107,103],[100,101,102,109,97,99,114,111],[100,101,102,117,110],[109,117,116,117,97,108,45,114,101,99,117,114,115,105,111,110],[100,101,102,116,104,109],[101,110,99,97,112,115,117,108,97,116,101],[100,101,102,99,104,111,111,115,101],[100,101,102,115,116,111,98,106],[105,110,45,116,104,101,111,114,121],[105,110,99,108,117,100,101,45,98,111,111,107],[100,101,102,108,97,98,101,108],[117,110,100,111]]++([[100,101,102,105,110,115,116,97,110,99,101],[100,101,102,101,113,117,105,118],[100,101,102,112,114,111,99,101,115,115,111,114],[108,111,99,97,108],[100,101,99,108,97,114,101],[103,117,97,114,100],[109,101,97,115,117,114,101],[115,105,103,110,97,116,117,114,101],[114,101,115,116],[101,110,97,98,108,101],[100,105,115,97,98,108,101],[104,105,110,116,115],[117,115,101],[105,110,100,117,99,116],[119,105,116,104,111,117,116],[114,117,108,101,45,99,108,97,115,115,101,115],[114,101,119,114,105,116,101],[116,121,112,101,45,112,114,101,115,99,114,105,112,116,105,111,110],[102,111,114,119,97,114,100,45,99,104,97,105,110,105,110,103],[108,105,110,101,97,114],[101,108,105,109],[101,113,117,105,118,97,108,101,110,99,101],[99,111,110,103,114,117,101,110,99,101],[103,101,110,101,114,97,108,105,122,101],[112,114,111,99,101,115,115,111,114],[115,105,109,112,108,105,102,121],[100,101,115,116,114,117,99,116,111,114,115],[102,101,114,116,105,108,105,122,101],[103,101,110,101,114,97,108,105,122,97,116,105,111,110],[105,114,114,101,108,101,118,97,110,99,101],[105,110,100,117,99,116,105,111,110]]:List (bi))
theorem Qi{b n:Nat}(hb:b≤100000)(h:n≤1000000):P9 b n:=⟨by show n≤2 ^ 63 - 1;omega,by
 have:=Nat.mul_le_mul h hb;omega⟩
abbrev mR(fs rs:bv)(i:Int):AS:=⟨stt 47 [(1,.own 0 rs.length),(2,.dt (.row fs)),(3,j3 i)],[some (.buf 45 2 rs)]⟩
noncomputable abbrev DF:Code:=M9 (P6 f37) [1,1,1,0,1,0,0]
theorem b1u{fs os rs:bv}{n:bi}{x:Ob}{i:Nat}(hi:i < fs.length)(hl:fs.length≤1000)(hr:rs.length≤1000)(hx:z8 fs (i:Int) 7 (y8 x))(h:j5 69 [l9 x] (.l7 [.dt (.row os),j6 true]))(hn:z8 os 1 7 (y8 (K8 n))):y7 EX DF (mR fs rs i) .F4 (mR fs (rs++[G5 n]) ((i+1:Nat):Int)) :=
 tW [.av (j3 fs.length),yT,.av (.pin ((y8 x).map .dt)),.av (.l7 [.dt (.row os),j6 true]),.av (.pin ((y8 (K8 n)).map .dt)),.av (.un),.av (j3 ((i+1:Nat):Int))] [] [1,2,3] 1 [(vi ↑fs.length)=(vi ↑fs.length),Bt .lss 3 10 12 ↑i ↑fs.length bT,_,_,_,(rs.length)=(rs.length),P9 32 ((rs++[[Dt.val (str (K8 n).sp),Dt.val (str (K8 n).sn)]]).length),L6 2 [[(.val (str (K8 n).sp)),(.val (str (K8 n).sn))]],Bk .add 3 14 1 ↑i (vi (↑(i+1)))] ⟨rfl,C9 (decide_eq_true J),hx,h,hn,rfl,bG J (by simp;omega),wD n,I4 J J J,Z⟩
theorem b1v{fs rs:bv}{i:Nat}(hi:i=fs.length):y7 EX DF (mR fs rs i) (.out 0) (mR fs rs i) :=
 tW [.av (j3 fs.length),yF] [] [1,2,3] 1 [(vi ↑fs.length)=(vi ↑fs.length),Bt .lss 3 10 12 ↑i ↑fs.length bF] ⟨rfl,C9 (decide_eq_false J),Z⟩
abbrev qy(w:bi):List Dt:=[.val (str w)]
abbrev mU(ws:List (bi))(rs:bv)(i:Int):AS:=⟨stt 47 [(1,.own 0 rs.length),(6,.X8 (ws.map qy)),(7,j3 i)],[some (.buf 45 2 rs)]⟩
noncomputable abbrev DI:Code:=M9 (P6 f37) [1,1,1,1,1,0,1,0,0]
theorem UO(l:List (bi)):Value.int .i64 (l.length:Int)=Value.int .i64 ((l.map qy).length:Int):=by rw[List.length_map]
theorem b1w{ws:List (bi)}{i:Nat}{w:bi}(h:ws[i]?=some w):z8 (ws.map qy) (i:Int) 1 (qy w):=⟨Int.natCast_nonneg _,by rw[Int.toNat_natCast,List.getElem?_map,h];rfl,rfl⟩
theorem b1x{ws:List (bi)}{rs:bv}{w:bi}{i:Nat}(hl:ws.length≤1000)(hr:rs.length≤1000)(hx:ws[i]?=some w):y7 EX DI (mU ws rs i) .F4 (mU ws (rs++[G5 w]) ((i+1:Nat):Int)) :=
 have hi:=(List.getElem?_eq_some_iff.1 hx).1
 tW [.av (j3 ws.length),yT,.av (.pin [stA w]),.av (o9 o6 w),.av (.un),.av (j3 ((i+1:Nat):Int))] [] [1,6,7] 1 [(vi ↑ws.length)=(vi (↑(List.map qy ws).length)),Bt .lss 3 32 34 ↑i ↑ws.length bT,z8 (List.map qy ws) ↑i 1 ([(.val (str w))]),j5 36 [(stA w)] (o9 o6 w),(rs.length)=(rs.length),P9 32 ((rs++[[Dt.val (str o6),Dt.val (str w)]]).length),L6 2 [[(.val (str o6)),(.val (str w))]],Bk .add 3 36 1 ↑i (vi (↑(i+1)))] ⟨UO _,C9 (decide_eq_true J),b1w hx,O7 _,rfl,bG J (by simp;omega),wD w,I4 J J J,Z⟩
theorem b1y{ws:List (bi)}{rs:bv}{i:Nat}(hi:i=ws.length):y7 EX DI (mU ws rs i) (.out 2) (mU ws rs i) :=
 tW [.av (j3 ws.length),yF] [] [1,6,7] 1 [(vi ↑ws.length)=(vi (↑(List.map qy ws).length)),Bt .lss 3 32 34 ↑i ↑ws.length bF] ⟨UO _,C9 (decide_eq_false J),Z⟩
theorem a3Y{ws:List (bi)}(hl:ws.length≤100):∀(s:List (bi)) (i:Nat) (rs:bv),ws.drop i=s→i≤ws.length→rs.length≤100+i→J7 EX DI (mU ws rs i) (.out 2) (mU ws (rs++s.map G5) ws.length):=by
 intro s
 induction s with
 |nil =>
  intro i rs hd hi _;have e1:=congrArg List.length hd;rw[List.length_drop,List.length_nil]at e1;obtain rfl:i=ws.length:=J;rw[List.map_nil,List.append_nil];exact .stop (b1y rfl) (fun h=>by cases h)
 |cons x s ih =>
  intro i rs hd hi hr;have hx:ws[i]?=some x:=by rw[←List.head?_drop,hd];rfl
  have hlt:=(List.getElem?_eq_some_iff.1 hx).1;have hn:=ih (i+1) (rs++[G5 x]) (by rw[←List.drop_drop,hd];rfl) J (by simp;omega);rw[List.append_assoc,List.singleton_append,←List.map_cons]at hn;exact .more (b1x J J hx) hn
theorem a3Z{fs rs:bv}{k:Int}(hd:j5 34 [] (.dt (.row fs)))(h1:y7 EX (.loop DF) (mR fs (I5.map eX) 0) (.out 0) (mR fs rs k))(h2:y7 EX (.loop DI) (mU fQ rs 0) (.out 2) (mU fQ (rs++fQ.map G5) fQ.length)):j5 37 [] (.dt (.row (rs++fQ.map G5))) :=
 pW [.av (.dt (.row fs))] [.J6 1 0 [] (.own 0 25) [some (.buf 45 2 (I5.map eX))],.inv [1,2,3] 1 (.out 0) (mR fs rs k),.inv [1,6,7] 1 (.out 2) (mU fQ (rs++fQ.map G5) fQ.length)] [_,_,_,_,((rs++List.map G5 fQ).length)=((rs++List.map G5 fQ).length)] func37 ⟨Oo,hd,h1,h2,rfl,Z⟩
theorem a1A(f:o8.E8):L6 32 [F3 f]:=by
 intro x hx;rw[List.mem_singleton]at hx;subst hx;exact⟨rfl,fun d hd=>by
  have h:(F3 f).all Dt.one=true:=rfl;exact List.all_eq_true.1 h d hd⟩
theorem a1B(ns:bv):L6 32 [aM ns]:=by
 intro x hx;rw[List.mem_singleton]at hx;subst hx;exact⟨rfl,fun d hd=>by
  have h:(aM ns).all Dt.one=true:=rfl;exact List.all_eq_true.1 h d hd⟩
abbrev WG(fs:bv):AS:=⟨stt 27 [(1,.nil),(2,.dt (.row fs)),(3,j3 0)],[]⟩
abbrev mV(fs es:bv)(i:Int):AS:=⟨stt 27 [(1,.own 0 es.length),(2,.dt (.row fs)),(3,j3 i)],[wB es]⟩
noncomputable abbrev zA:Code:=M9 (P6 f9) [1,1,1,0,1,0,0]
theorem b1z{fs es:bv}{x:Ob}{f:o8.E8}{i:Nat}(hi:i < fs.length)(hl:fs.length≤1000)(hr:es.length≤1000)(hx:z8 fs (i:Int) 7 (y8 x))(h:C8 35 [.own 0 es.length,l9 x] [wB es] (qI f) [wB es]):y7 EX zA (mV fs es i) .F4 (mV fs (es++[F3 f]) ((i+1:Nat):Int)) :=
 tW [.av (j3 fs.length),yT,.av (.pin ((y8 x).map .dt)),.av (.un),.av (j3 ((i+1:Nat):Int))] [.J6 6 6 [0] (qI f) [some (.buf 87 32 es)]] [1,2,3] 1 [(vi ↑fs.length)=(vi ↑fs.length),Bt .lss 3 5 7 ↑i ↑fs.length bT,_,_,(es.length)=(es.length),P9 568 ((es++[[Dt.val (vi 3),Dt.val (str o6),Dt.val (str f.nm),Dt.val (str []),Dt.row [],Dt.val (str []),Dt.val (str []),Dt.row [],Dt.val bF,Dt.val (vi 0),Dt.val (str []),Dt.val (str []),Dt.val (vi 0),Dt.val (str []),Dt.val (str []),Dt.val (str []),Dt.val (str []),Dt.val (str []),Dt.row [],Dt.row [],Dt.row [F6 f],Dt.row [],Dt.row [],Dt.row [],Dt.val (str []),Dt.val (str []),Dt.row [],Dt.row [],Dt.row [],Dt.row [],Dt.val (str []),Dt.val (Value.int .u64 0)]]).length),L6 32 [F3 f],Bk .add 3 9 1 ↑i (vi (↑(i+1)))] ⟨rfl,C9 (decide_eq_true J),hx,h,rfl,Qi J (by simp;omega),a1A f,I4 J J J,Z⟩
theorem b1A{fs es:bv}{i:Nat}(hi:i=fs.length):y7 EX zA (mV fs es i) (.out 0) (mV fs es i) :=
 tW [.av (j3 fs.length),yF] [] [1,2,3] 1 [(vi ↑fs.length)=(vi ↑fs.length),Bt .lss 3 5 7 ↑i ↑fs.length bF] ⟨rfl,C9 (decide_eq_false J),Z⟩
theorem a4a{fs es ns:bv}{k:Int}(hd:j5 34 [] (.dt (.row fs)))(hlp:y7 EX (.loop zA) (WG fs) (.out 0) (mV fs es k))(hn:j5 37 [] (.dt (.row ns)))(hl:es.length≤1000):j5 9 [] (.dt (.row (es++[aM ns]))) :=
 pW [.av (.dt (.row fs)),.av (o9 o6 [117,115,101,114,45,112,97,99,107,97,103,101]),.av (.dt (.row ns)),.av (.un)] [.inv [1,2,3] 0 (.out 0) (mV fs es k)] [_,_,j5 36 [(stA [117,115,101,114,45,112,97,99,107,97,103,101])] (o9 o6 [117,115,101,114,45,112,97,99,107,97,103,101]),_,(es.length)=(es.length),P9 568 ((es++[[Dt.val (vi 1),Dt.val (str o6),Dt.val (str [117,115,101,114,45,112,97,99,107,97,103,101]),Dt.val (Value.string { data:=#[117,115,101,114]:ByteArray }),Dt.row ns,Dt.val (Value.string { data:=#[]:ByteArray }),Dt.val (Value.string { data:=#[]:ByteArray }),Dt.row [],Dt.val bF,Dt.val (vi 0),Dt.val (Value.string { data:=#[]:ByteArray }),Dt.val (Value.string { data:=#[]:ByteArray }),Dt.val (vi 0),Dt.val (Value.string { data:=#[]:ByteArray }),Dt.val (Value.string { data:=#[]:ByteArray }),Dt.val (Value.string { data:=#[]:ByteArray }),Dt.val (Value.string { data:=#[]:ByteArray }),Dt.val (Value.string { data:=#[]:ByteArray }),Dt.row [],Dt.row [],Dt.row [],Dt.row [],Dt.row [],Dt.row [],Dt.val (Value.string { data:=#[]:ByteArray }),Dt.val (Value.string { data:=#[]:ByteArray }),Dt.row [],Dt.row [],Dt.row [],Dt.row [],Dt.val (Value.string { data:=#[]:ByteArray }),Dt.val (Value.int .u64 0)]]).length),L6 32 [[(.val (vi 1)),(.val (str o6)),(.val (str [117,115,101,114,45,112,97,99,107,97,103,101])),(.val (str [117,115,101,114])),(.row ns),(.val (str [])),(.val (str [])),(.row []),(.val bF),(.val (vi 0)),(.val (str [])),(.val (str [])),(.val (vi 0)),(.val (str [])),(.val (str [])),(.val (str [])),(.val (str [])),(.val (str [])),(.row []),(.row []),(.row []),(.row []),(.row []),(.row []),(.val (str [])),(.val (str [])),(.row []),(.row []),(.row []),(.row []),(.val (str [])),(.val (Value.int .u64 0))]],((es++[[Dt.val (vi 1),Dt.val (str o6),Dt.val (str [117,115,101,114,45,112,97,99,107,97,103,101]),Dt.val (Value.string { data:=#[117,115,101,114]:ByteArray }),Dt.row ns,Dt.val (Value.string { data:=#[]:ByteArray }),Dt.val (Value.string { data:=#[]:ByteArray }),Dt.row [],Dt.val bF,Dt.val (vi 0),Dt.val (Value.string { data:=#[]:ByteArray }),Dt.val (Value.string { data:=#[]:ByteArray }),Dt.val (vi 0),Dt.val (Value.string { data:=#[]:ByteArray }),Dt.val (Value.string { data:=#[]:ByteArray }),Dt.val (Value.string { data:=#[]:ByteArray }),Dt.val (Value.string { data:=#[]:ByteArray }),Dt.val (Value.string { data:=#[]:ByteArray }),Dt.row [],Dt.row [],Dt.row [],Dt.row [],Dt.row [],Dt.row [],Dt.val (Value.string { data:=#[]:ByteArray }),Dt.val (Value.string { data:=#[]:ByteArray }),Dt.row [],Dt.row [],Dt.row [],Dt.row [],Dt.val (Value.string { data:=#[]:ByteArray }),Dt.val (Value.int .u64 0)]]).length)=((es++[[Dt.val (vi 1),Dt.val (str o6),Dt.val (str [117,115,101,114,45,112,97,99,107,97,103,101]),Dt.val (Value.string { data:=#[117,115,101,114]:ByteArray }),Dt.row ns,Dt.val (Value.string { data:=#[]:ByteArray }),Dt.val (Value.string { data:=#[]:ByteArray }),Dt.row [],Dt.val bF,Dt.val (vi 0),Dt.val (Value.string { data:=#[]:ByteArray }),Dt.val (Value.string { data:=#[]:ByteArray }),Dt.val (vi 0),Dt.val (Value.string { data:=#[]:ByteArray }),Dt.val (Value.string { data:=#[]:ByteArray }),Dt.val (Value.string { data:=#[]:ByteArray }),Dt.val (Value.string { data:=#[]:ByteArray }),Dt.val (Value.string { data:=#[]:ByteArray }),Dt.row [],Dt.row [],Dt.row [],Dt.row [],Dt.row [],Dt.row [],Dt.val (Value.string { data:=#[]:ByteArray }),Dt.val (Value.string { data:=#[]:ByteArray }),Dt.row [],Dt.row [],Dt.row [],Dt.row [],Dt.val (Value.string { data:=#[]:ByteArray }),Dt.val (Value.int .u64 0)]]).length)] func9 ⟨hd,hlp,O7 _,hn,rfl,Qi J (by simp;omega),a1B ns,rfl,Z⟩
theorem Yu{ws:List o8.E8}{x:Tr}{f:o8.E8}(h:o8.entry I5 ws x=some f):∃d r,r.length≤200∧x=Tr.list (d::Tr.sym o6 f.nm::r):=by
 unfold o8.entry at h;split at h
 case h_2=>cases h
 rename_i d p nm px y r hi;split at h
 case h_2=>cases h
 split at h
 case h_2=>cases h
 split at h
 case isFalse=>cases h
 rename_i hc;obtain⟨rfl,hnm,hpn,hpl,hr⟩:=hc;split at h
 case h_2=>cases h
 cases h;exact⟨d,px::y::r,by simp only[List.length_cons];omega,pR hi⟩
theorem Qj{L:List Tr}{i:Nat}{x:Tr}(h:L[i]?=some x):z8 (D8 L) (i:Int) 7 (y8 x.ob):=⟨Int.natCast_nonneg _,by rw[Int.toNat_natCast];unfold D8;rw[List.getElem?_map,h];rfl,rfl⟩
theorem a4b{L:List Tr}(hl:L.length≤100){wf:List o8.E8}:∀(s:List Tr) (i:Nat) (ws:List o8.E8),L.drop i=s→i≤L.length→ws.length=i→o8.world I5 s ws=some wf→J7 EX zA (mV (D8 L) (ws.map F3) i) (.out 0) (mV (D8 L) (wf.map F3) L.length):=by
 have hlo:(D8 L).length=L.length:=by unfold D8;rw[List.length_map]
 intro s
 induction s with
 |nil =>
  intro i ws hd hi hw h;cases h;have e1:=congrArg List.length hd;rw[List.length_drop,List.length_nil]at e1;obtain rfl:i=L.length:=J;exact .stop (b1A hlo.symm) (fun h=>by cases h)
 |cons x s ih =>
  intro i ws hd hi hw h;rw[o8.world]at h;split at h
  case h_2=>cases h
  rename_i f hf;have hx:L[i]?=some x:=by rw[←List.head?_drop,hd];rfl
  have hlt:=(List.getElem?_eq_some_iff.1 hx).1;have hs:=b1z (fs:=D8 L) (es:=ws.map F3) (i:=i) J J (by rw[List.length_map];omega) (Qj hx) (a3X J hf);have e:ws.map F3++[F3 f]=(ws++[f]).map F3:=by rw[List.map_append];rfl
  rw[e]at hs;exact .more hs (ih (i+1) (ws++[f]) (by rw[←List.drop_drop,hd];rfl) hlt (by simp[hw]) h)
theorem a4c{L:List Tr}(hl:L.length≤100){wf:List o8.E8}:∀(s:List Tr) (i:Nat) (ws:List o8.E8),L.drop i=s→i≤L.length→ws.length=i→o8.world I5 s ws=some wf→J7 EX DF (mR (D8 L) (I5.map eX++ws.map fun f=>G5 f.nm) i) (.out 0) (mR (D8 L) (I5.map eX++wf.map fun f=>G5 f.nm) L.length):=by
 have hlo:(D8 L).length=L.length:=by unfold D8;rw[List.length_map]
 have hpl:I5.length=25:=rfl;intro s
 induction s with
 |nil =>
  intro i ws hd hi hw h;cases h;have e1:=congrArg List.length hd;rw[List.length_drop,List.length_nil]at e1;obtain rfl:i=L.length:=J;exact .stop (b1v hlo.symm) (fun h=>by cases h)
 |cons x s ih =>
  intro i ws hd hi hw h;rw[o8.world]at h;split at h
  case h_2=>cases h
  rename_i f hf;have hx:L[i]?=some x:=by rw[←List.head?_drop,hd];rfl
  have hlt:=(List.getElem?_eq_some_iff.1 hx).1;obtain⟨d,r,hr,hxe⟩:=Yu hf;have hI:=sK (l:=d::Tr.sym o6 f.nm::r) (by simp only[List.length_cons];omega);rw[←hxe]at hI;have hs:=b1u (fs:=D8 L) (rs:=I5.map eX++ws.map fun f=>G5 f.nm) (i:=i) J J (by rw[List.length_append,List.length_map,List.length_map];omega) (Qj hx) hI (a6E _ _ _);have e:(I5.map eX++ws.map fun f=>G5 f.nm)++[G5 f.nm]=I5.map eX++(ws++[f]).map fun f=>G5 f.nm:=by rw[List.append_assoc,List.map_append];rfl
  rw[e]at hs;exact .more hs (ih (i+1) (ws++[f]) (by rw[←List.drop_drop,hd];rfl) hlt (by simp[hw]) h)
def H8:List o8.E8:=(o8.world I5 forms []).getD []
theorem Np:o8.world I5 forms []=some H8:=by
 have h:(o8.world I5 forms []).isSome=true:=by decide +kernel
 obtain⟨l,hl⟩:=Option.isSome_iff_exists.1 h;unfold H8;rw[hl];rfl
theorem su:H8.length=28:=by decide +kernel
theorem YX:fQ.length=61:=by decide +kernel
def lL:bv:=(I5.map eX++H8.map fun f=>G5 f.nm)++fQ.map G5
theorem Oq:forms.length≤100:=by rw[Nn];decide
theorem ZV:j5 37 [] (.dt (.row lL)):=by
 have h1:=(a4c Oq forms 0 [] rfl (Nat.zero_le _) rfl Np).K3;have h2:=(a3Y (ws:=fQ) (by rw[YX];decide) fQ 0 (I5.map eX++H8.map fun f=>G5 f.nm) rfl (Nat.zero_le _) (by rw[List.length_append,List.length_map,List.length_map,su];decide)).K3;rw[List.map_nil,List.append_nil]at h1;exact a3Z Lg h1 h2
def Q3:bv:=H8.map F3++[aM lL]
theorem Qk:j5 9 [] (.dt (.row Q3)):=by
 have h:=(a4b Oq forms 0 [] rfl (Nat.zero_le _) rfl Np).K3;have ht:y7 EX (.loop zA) (WG (D8 forms)) (.out 0) (mV (D8 forms) (H8.map F3) forms.length):=y7.Z4 1 87 32 (by show 1 < 27;omega) rfl h;exact a4a Lg ht ZV (by rw[List.length_map,su];decide)
theorem b1B{es is:bv}{n:bi}{i:Nat}(h:z8 es (i:Int) 32 (aM is))(hi:i < es.length)(hl:es.length≤1000):y7 EX rE (iq es n i) .F4 (iq es n ((i+1:Nat):Int)) :=
 tW [.av (j3 es.length),yT,.av (.pin ((aM is).map .dt)),.av (.dt (.row [])),.no,.no,.av (j3 ((i+1:Nat):Int))] [.run 1] [0,3,7] 1 [(vi ↑es.length)=(vi ↑es.length),Bt .lss 3 10 12 ↑i ↑es.length bT,z8 es ↑i 32 ([(.val (vi 1)),(.val (str o6)),(.val (str [117,115,101,114,45,112,97,99,107,97,103,101])),(.val (str [117,115,101,114])),(.row is),(.val (str [])),(.val (str [])),(.row []),(.val bF),(.val (vi 0)),(.val (str [])),(.val (str [])),(.val (vi 0)),(.val (str [])),(.val (str [])),(.val (str [])),(.val (str [])),(.val (str [])),(.row []),(.row []),(.row []),(.row []),(.row []),(.row []),(.val (str [])),(.val (str [])),(.row []),(.row []),(.row []),(.row []),(.val (str [])),(.val (Value.int .u64 0))]),j5 124 [(.agg [(j3 1),(stA o6),(stA [117,115,101,114,45,112,97,99,107,97,103,101]),(stA [117,115,101,114]),(.dt (.row is)),(stA []),(stA []),(.dt (.row [])),(j6 false),(j3 0),(stA []),(stA []),(j3 0),(stA []),(stA []),(stA []),(stA []),(stA []),(.dt (.row [])),(.dt (.row [])),(.dt (.row [])),(.dt (.row [])),(.dt (.row [])),(.dt (.row [])),(stA []),(stA []),(.dt (.row [])),(.dt (.row [])),(.dt (.row [])),(.dt (.row [])),(stA []),(.dt (.val (Value.int .u64 0)))])] (.dt (.row [])),Bk .add 3 14 1 ↑i (vi (↑(i+1)))]     ⟨rfl,C9 (decide_eq_true J),h,a3M is,I4 J J J,Z⟩
theorem b1C{es:bv}{n:bi}{i:Nat}(hi:i=es.length):y7 EX rE (iq es n i) (.out 0) (iq es n i) :=
 tW [.av (j3 es.length),yF] [] [0,3,7] 1 [(vi ↑es.length)=(vi ↑es.length),Bt .lss 3 10 12 ↑i ↑es.length bF]     ⟨rfl,C9 (decide_eq_false J),Z⟩
theorem a8W{ws:List o8.E8}{is:bv}{n:bi}(hl:ws.length≤900):∀(s:List o8.E8) (i:Nat),ws.drop i=s→i≤ws.length→(s.find? fun f=>f.nm == n)=none→J7 EX rE (iq (ws.map F3++[aM is]) n i) (.out 0) (iq (ws.map F3++[aM is]) n (ws.length+1:Nat)):=by
 have hlen:(ws.map F3++[aM is]).length=ws.length+1:=by rw[List.length_append,List.length_map];rfl
 intro s
 induction s with
 |nil =>
  intro i hd hi _;have e1:=congrArg List.length hd;rw[List.length_drop,List.length_nil]at e1;obtain rfl:i=ws.length:=J;have hx:z8 (ws.map F3++[aM is]) (ws.length:Int) 32 (aM is):=⟨Int.natCast_nonneg _,by rw[Int.toNat_natCast,List.getElem?_append_right (by rw[List.length_map];exact Nat.le_refl _),List.length_map,Nat.sub_self];rfl,rfl⟩;exact .more (b1B hx J J) (.stop (b1C hlen.symm) (fun h=>by cases h))
 |cons x s ih =>
  intro i hd hi h;have hx:ws[i]?=some x:=by rw[←List.head?_drop,hd];rfl
  have hlt:=(List.getElem?_eq_some_iff.1 hx).1;rw[List.find?_cons]at h;split at h
  ·cases h
  ·rename_i e;exact .more (UM (lZ hx) J J (decide_eq_false (by simpa using e))) (ih (i+1) (by rw[←List.drop_drop,hd];rfl) hlt h)
theorem a6T{es:bv}{n:bi}{k:Int}(h:y7 EX (.loop rE) (iq es n 0) (.out 0) (iq es n k)):j5 123 [.dt (.row es),o9 o6 n] (.l7 [j3 0,j3 0,j6 false]) :=
 pW [] [.inv [0,3,7] 1 (.out 0) (iq es n k)] [_] func123 ⟨h,Z⟩
abbrev encZ:List Dt:=[.val (str []),.val (str []),.row [],.val (.int .i64 0)]++(p9 E5++(p9 E5++p9 E5))
theorem IU(f:o8.E8):j5 221 [.agg ((F3 f).map .dt)] (.dt (.row [F6 f])) :=
 pV [.no] [] func221 trivial
abbrev WH(n:bi):AV:=.Z6 252 [.pin [stA o6,stA n]]
theorem TH{f:o8.E8}{n:bi}{b:Bool}(h:(decide (o6=o6) && decide (f.nm=n))=b):j5 252 [.agg ((F6 f).map .dt),.pin [stA o6,stA n]] (j6 b) :=
 pV [.av (j6 b)] [Bn .eql 45 (.tmp 5) (.tmp 6) (Value.agg #[str o6,str f.nm]) (Value.agg #[str o6,str n]) (Value.bool b)] func252 ⟨ah h,Z⟩
theorem a1C{f:o8.E8}{n:bi}(h:j5 252 [.agg ((F6 f).map .dt),.pin [stA o6,stA n]] (j6 true)):j5 251 [.dt (.row [F6 f]),WH n] (.l7 [j3 0,j6 true]) :=
 pW [.no,.no,.no,yT] [.run 1] [_] func251 ⟨h,Z⟩
theorem a1D{f:o8.E8}{n:bi}(h:j5 252 [.agg ((F6 f).map .dt),.pin [stA o6,stA n]] (j6 false)):j5 251 [.dt (.row [F6 f]),WH n] (.l7 [j3 0,j6 false]) :=
 pW [.no,.no,.no,yF,.no,.no] [.run 2] [_] func251 ⟨h,Z⟩
abbrev zB(es:bv)(n:bi)(i:Int):AS:=⟨stt 29 [(3,.ptr 0 0),(11,.dt (.row es)),(12,j3 es.length),(13,j3 i)],[some (.cells [stA o6,stA n])]⟩
abbrev DJ(n:bi)(i:Int):AS:=⟨stt 29 [(4,j3 i),(5,j3 0),(6,j6 true)],[some (.cells [stA o6,stA n])]⟩
noncomputable abbrev DK:Code:=M9 (P6 f220) [1,0,1,0,0]
theorem b1D{es:bv}{n:bi}{i:Nat}{f:o8.E8}(h:z8 es (i:Int) 32 (F3 f))(hi:i < es.length)(hl:es.length≤1000)(hn:¬f.nm=n):y7 EX DK (zB es n i) .F4 (zB es n ((i+1:Nat):Int)) :=
 tW [yT,.av (.pin ((F3 f).map .dt)),.av (.dt (.row [F6 f])),.av (.l7 [j3 0,j6 false]),.av (j3 ((i+1:Nat):Int))] [] [3,11,12,13] 1 [Bt .lss 3 13 12 ↑i ↑es.length bT,_,j5 221 [(.agg ((F3 f).map .dt))] (.dt (.row [F6 f])),j5 251 [(.dt (.row [F6 f])),(.Z6 252 [(.pin [(stA o6),(stA n)])])] (.l7 [(j3 0),(j6 false)]),Bk .add 3 13 1 ↑i (vi (↑(i+1)))] ⟨C9 (decide_eq_true J),h,IU f,a1D (TH (by rw[decide_eq_false hn,Bool.and_false])),I4 J J J,Z⟩
theorem b1E{es:bv}{n:bi}{i:Nat}{f:o8.E8}(h:z8 es (i:Int) 32 (F3 f))(hi:i < es.length)(hn:f.nm=n):y7 EX DK (zB es n i) .ret (DJ n i) :=
 tW [yT,.av (.pin ((F3 f).map .dt)),.av (.dt (.row [F6 f])),.av (.l7 [j3 0,j6 true])] [] [4,5,6] 1 [Bt .lss 3 13 12 ↑i ↑es.length bT,_,j5 221 [(.agg ((F3 f).map .dt))] (.dt (.row [F6 f])),j5 251 [(.dt (.row [F6 f])),(.Z6 252 [(.pin [(stA o6),(stA n)])])] (.l7 [(j3 0),(j6 true)])] ⟨C9 (decide_eq_true J),h,IU f,a1C (TH (by rw[decide_eq_true hn];rfl)),Z⟩
theorem a4d{ws:List o8.E8}{r:bv}{n:bi}{f:o8.E8}(hl:(ws.map F3++r).length≤1000):∀(s:List o8.E8) (i:Nat),ws.drop i=s→(s.find? fun f=>f.nm == n)=some f→∃j:Nat,ws[j]?=some f∧J7 EX DK (zB (ws.map F3++r) n i) .ret (DJ n j):=by
 intro s
 induction s with
 |nil=>intro i _ h;cases h
 |cons x s ih =>
  intro i hd h;have hx:ws[i]?=some x:=by rw[←List.head?_drop,hd];rfl
  have hlt:=(List.getElem?_eq_some_iff.1 hx).1;have hi:i < (ws.map F3++r).length:=by rw[List.length_append,List.length_map];omega
  rw[List.find?_cons]at h;split at h
  ·rename_i e;cases h;exact⟨i,hx,.stop (b1E (lZ hx) hi (by simpa using e)) (fun h=>by cases h)⟩
  ·rename_i e;obtain⟨j,k1,k2⟩:=ih (i+1) (by rw[←List.drop_drop,hd];rfl) h;exact⟨j,k1,.more (b1D (lZ hx) hi hl (by simpa using e)) k2⟩
theorem a8X{es:bv}{n:bi}{j:Nat}(h:y7 EX (.loop DK) (zB es n 0) .ret (DJ n j)):j5 220 [.dt (.row es),o9 o6 n] (.l7 [j3 j,j3 0,j6 true]) :=
 pW [.av (j3 es.length)] [.inv [3,11,12,13] 1 (.ret) (DJ n j)] [(vi ↑es.length)=(vi ↑es.length),_] func220 ⟨rfl,h,Z⟩
theorem a4e{es:bv}{n:bi}{j:Nat}{f:o8.E8}(ht:j5 220 [.dt (.row es),o9 o6 n] (.l7 [j3 j,j3 0,j6 true]))(h:z8 es (j:Int) 32 (F3 f)):j5 190 [.dt (.row es),o9 o6 n] (.l7 [.agg ((F6 f).map .dt),j6 true]) :=
 pV [.av (.l7 [j3 j,j3 0,j6 true]),.av (.pin ((F3 f).map .dt)),.av (.dt (.row [F6 f])),.no] [_,_,j5 221 [(.agg ((F3 f).map .dt))] (.dt (.row [F6 f]))] func190 ⟨ht,h,IU f,Z⟩
theorem a1E{ws:List o8.E8}{r:bv}{n:bi}{f:o8.E8}(hl:(ws.map F3++r).length≤1000)(hf:(ws.find? fun f=>f.nm == n)=some f):j5 190 [.dt (.row (ws.map F3++r)),o9 o6 n] (.l7 [.agg ((F6 f).map .dt),j6 true]):=by
 obtain⟨j,hj,h⟩:=a4d (r:=r) hl ws 0 rfl hf;exact a4e (j:=j) (a8X h.K3) (lZ hj)
end Go.Proofs.YtdkehabacmlegaaGreatDoor
namespace Go.Proofs.YtdkehabacmlegaaGreatDoor
open Go.Proofs.Tryz
open Go.RowKit
theorem RV.sy{M:Mm}{w:World}{p n:bi}{v:Value}(h:RV M w (o9 p n) v):v=.agg #[str p,str n]:=by
 obtain⟨vs,rfl,u0,_,rfl,h0,u1,_,rfl,h1,rfl⟩:=h;rw[Rd.Q9 h0,Rd.Q9 h1]
theorem Ia:j5 150 [o9 o6 [105,102]] (.l7 [j3 3,j6 true]):=pV [] [] func150 trivial
theorem RB:j5 150 [o9 o6 [101,113,117,97,108]] (.l7 [j3 2,j6 true]):=pV [] [] func150 trivial
theorem Ib:j5 150 [o9 o6 [99,111,110,115]] (.l7 [j3 2,j6 true]):=pV [] [] func150 trivial
theorem RD:j5 150 [o9 o6 [99,97,114]] (.l7 [j3 1,j6 true]):=pV [] [] func150 trivial
theorem RF:j5 150 [o9 o6 [99,100,114]] (.l7 [j3 1,j6 true]):=pV [] [] func150 trivial
theorem RG:j5 150 [o9 o6 [99,111,110,115,112]] (.l7 [j3 1,j6 true]):=pV [] [] func150 trivial
theorem RH:j5 150 [o9 o6 [115,121,109,98,111,108,112]] (.l7 [j3 1,j6 true]):=pV [] [] func150 trivial
theorem RI:j5 150 [o9 o6 [115,116,114,105,110,103,112]] (.l7 [j3 1,j6 true]):=pV [] [] func150 trivial
theorem RJ:j5 150 [o9 o6 [114,97,116,105,111,110,97,108,112]] (.l7 [j3 1,j6 true]):=pV [] [] func150 trivial
theorem RN:j5 150 [o9 o6 [105,110,116,101,103,101,114,112]] (.l7 [j3 1,j6 true]):=pV [] [] func150 trivial
theorem Gu:j5 150 [o9 o6 [98,105,110,97,114,121,45,43]] (.l7 [j3 2,j6 true]):=pV [] [] func150 trivial
theorem Gv:j5 150 [o9 o6 [98,105,110,97,114,121,45,42]] (.l7 [j3 2,j6 true]):=pV [] [] func150 trivial
theorem Ql:j5 150 [o9 o6 [117,110,97,114,121,45,45]] (.l7 [j3 1,j6 true]):=pV [] [] func150 trivial
theorem Qm:j5 150 [o9 o6 [117,110,97,114,121,45,47]] (.l7 [j3 1,j6 true]):=pV [] [] func150 trivial
theorem Qn:j5 150 [o9 o6 [60]] (.l7 [j3 2,j6 true]):=pV [] [] func150 trivial
theorem Qo:j5 150 [o9 o6 [110,117,109,101,114,97,116,111,114]] (.l7 [j3 1,j6 true]):=pV [] [] func150 trivial
theorem Qp:j5 150 [o9 o6 [100,101,110,111,109,105,110,97,116,111,114]] (.l7 [j3 1,j6 true]):=pV [] [] func150 trivial
theorem Qq:j5 150 [o9 o6 [102,108,111,111,114]] (.l7 [j3 1,j6 true]):=pV [] [] func150 trivial
theorem Qr:j5 150 [o9 o6 [115,121,109,98,111,108,45,110,97,109,101]] (.l7 [j3 1,j6 true]):=pV [] [] func150 trivial
theorem Qs:j5 150 [o9 o6 [115,121,109,98,111,108,45,112,97,99,107,97,103,101,45,110,97,109,101]] (.l7 [j3 1,j6 true]):=pV [] [] func150 trivial
theorem Qt:j5 150 [o9 o6 [105,110,116,101,114,110]] (.l7 [j3 2,j6 true]):=pV [] [] func150 trivial
theorem Gw:j5 150 [o9 o6 [115,116,114,105,110,103,45,97,112,112,101,110,100]] (.l7 [j3 2,j6 true]):=pV [] [] func150 trivial
theorem Qu:j5 150 [o9 o6 [115,116,114,105,110,103,45,108,101,110,103,116,104]] (.l7 [j3 1,j6 true]):=pV [] [] func150 trivial
theorem Gy:j5 150 [o9 o6 [115,116,114,105,110,103,45,98,121,116,101]] (.l7 [j3 2,j6 true]):=pV [] [] func150 trivial
theorem Qv:j5 150 [o9 o6 [98,121,116,101,45,115,116,114,105,110,103]] (.l7 [j3 1,j6 true]):=pV [] [] func150 trivial
theorem a6U{n:bi}(hn:∀x∈I5,n≠x.1):j5 150 [o9 o6 n] (.l7 [j3 0,j6 false]):=pV [.no,yF,yF,yF,yF,yF,yF,yF,yF,yF,yF,yF,yF,yF,yF,yF,yF,yF,yF,yF,yF,yF,yF,yF,yF,yF] [Bl .eql 9 8 [105,102] n bF,Bl .eql 9 8 [101,113,117,97,108] n bF,Bl .eql 9 8 [99,111,110,115] n bF,Bl .eql 9 8 [98,105,110,97,114,121,45,43] n bF,Bl .eql 9 8 [98,105,110,97,114,121,45,42] n bF,Bl .eql 9 8 [60] n bF,Bl .eql 9 8 [105,110,116,101,114,110] n bF,Bl .eql 9 8 [115,116,114,105,110,103,45,97,112,112,101,110,100] n bF,Bl .eql 9 8 [115,116,114,105,110,103,45,98,121,116,101] n bF,Bl .eql 9 8 [99,97,114] n bF,Bl .eql 9 8 [99,100,114] n bF,Bl .eql 9 8 [99,111,110,115,112] n bF,Bl .eql 9 8 [115,121,109,98,111,108,112] n bF,Bl .eql 9 8 [115,116,114,105,110,103,112] n bF,Bl .eql 9 8 [114,97,116,105,111,110,97,108,112] n bF,Bl .eql 9 8 [105,110,116,101,103,101,114,112] n bF,Bl .eql 9 8 [117,110,97,114,121,45,45] n bF,Bl .eql 9 8 [117,110,97,114,121,45,47] n bF,Bl .eql 9 8 [110,117,109,101,114,97,116,111,114] n bF,Bl .eql 9 8 [100,101,110,111,109,105,110,97,116,111,114] n bF,Bl .eql 9 8 [102,108,111,111,114] n bF,Bl .eql 9 8 [115,121,109,98,111,108,45,110,97,109,101] n bF,Bl .eql 9 8 [115,121,109,98,111,108,45,112,97,99,107,97,103,101,45,110,97,109,101] n bF,Bl .eql 9 8 [115,116,114,105,110,103,45,108,101,110,103,116,104] n bF,Bl .eql 9 8 [98,121,116,101,45,115,116,114,105,110,103] n bF] func150 ⟨H5 (decide_eq_false (hn ([105,102],3) O)),H5 (decide_eq_false (hn ([101,113,117,97,108],2) O)),H5 (decide_eq_false (hn ([99,111,110,115],2) O)),H5 (decide_eq_false (hn ([98,105,110,97,114,121,45,43],2) O)),H5 (decide_eq_false (hn ([98,105,110,97,114,121,45,42],2) O)),H5 (decide_eq_false (hn ([60],2) O)),H5 (decide_eq_false (hn ([105,110,116,101,114,110],2) O)),H5 (decide_eq_false (hn ([115,116,114,105,110,103,45,97,112,112,101,110,100],2) O)),H5 (decide_eq_false (hn ([115,116,114,105,110,103,45,98,121,116,101],2) O)),H5 (decide_eq_false (hn ([99,97,114],1) O)),H5 (decide_eq_false (hn ([99,100,114],1) O)),H5 (decide_eq_false (hn ([99,111,110,115,112],1) O)),H5 (decide_eq_false (hn ([115,121,109,98,111,108,112],1) O)),H5 (decide_eq_false (hn ([115,116,114,105,110,103,112],1) O)),H5 (decide_eq_false (hn ([114,97,116,105,111,110,97,108,112],1) O)),H5 (decide_eq_false (hn ([105,110,116,101,103,101,114,112],1) O)),H5 (decide_eq_false (hn ([117,110,97,114,121,45,45],1) O)),H5 (decide_eq_false (hn ([117,110,97,114,121,45,47],1) O)),H5 (decide_eq_false (hn ([110,117,109,101,114,97,116,111,114],1) O)),H5 (decide_eq_false (hn ([100,101,110,111,109,105,110,97,116,111,114],1) O)),H5 (decide_eq_false (hn ([102,108,111,111,114],1) O)),H5 (decide_eq_false (hn ([115,121,109,98,111,108,45,110,97,109,101],1) O)),H5 (decide_eq_false (hn ([115,121,109,98,111,108,45,112,97,99,107,97,103,101,45,110,97,109,101],1) O)),H5 (decide_eq_false (hn ([115,116,114,105,110,103,45,108,101,110,103,116,104],1) O)),H5 (decide_eq_false (hn ([98,121,116,101,45,115,116,114,105,110,103],1) O)),Z⟩
theorem Xg(o:Ob)(A:Option Addr)(n c:Nat)(w:World):Calls prog 228 #[F5 o (.slice A n c)] w (I7 (.bool (decide (o.kind=1∧o.den=[49]))) w):=by
 obtain⟨k,nm,d,p,s,t,l⟩:=o;dsimp only;by_cases hk:k=1
 ·subst hk;by_cases h1:d=[49]
  ·subst h1;rw[decide_eq_true ⟨rfl,rfl⟩]
   go_enter func228,ntmps228
   go_wp2;go_ret;exact⟨rfl,box _ _⟩
  ·rw[decide_eq_false (fun h=>h1 h.2)];have hz:(d == [49])=false:=by rw[beq_eq_false_iff_ne];exact h1
   clear h1
   go_enter func228,ntmps228
   go_wp2;go_ret;exact⟨rfl,box _ _⟩
 ·rw[decide_eq_false (fun h=>hk h.1)];have hz:(k == 1)=false:=by rw[beq_eq_false_iff_ne];exact hk
  clear hk
  go_enter func228,ntmps228
  go_wp2;go_ret;exact⟨rfl,box _ _⟩
theorem Xh(o:Ob)(A:Option Addr)(n c:Nat)(w:World):Calls prog 157 #[F5 o (.slice A n c)] w (I7 (.bool (decide (o.kind=1∧o.den=[49]))) w):=by
 obtain⟨k,nm,d,p,s,t,l⟩:=o;dsimp only;by_cases hk:k=1
 ·subst hk;by_cases h1:d=[49]
  ·subst h1;rw[decide_eq_true ⟨rfl,rfl⟩]
   go_enter func157,ntmps157
   go_wp2;go_ret;exact⟨rfl,box _ _⟩
  ·rw[decide_eq_false (fun h=>h1 h.2)];have hz:(d == [49])=false:=by rw[beq_eq_false_iff_ne];exact h1
   clear h1
   go_enter func157,ntmps157
   go_wp2;go_ret;exact⟨rfl,box _ _⟩
 ·rw[decide_eq_false (fun h=>hk h.1)];have hz:(k == 1)=false:=by rw[beq_eq_false_iff_ne];exact hk
  clear hk
  go_enter func157,ntmps157
  go_wp2;go_ret;exact⟨rfl,box _ _⟩
theorem UQ{f:FuncId}(hf:Fn f){a r:bi}(h:∀w,Q4 w→Calls prog f #[str a] w (aQ r w)):j5 f [stA a] (stA r) :=
 ⟨hf,fun ok w vs ht hv=>by
  obtain rfl:=hv.dA;exact (h w ht.1).mono fun _ _ ⟨h1,h2⟩=>⟨_,h1,h2,.val _⟩⟩
theorem Cf{f:FuncId}(hf:Fn f){a b r:bi}(h:∀w,Q4 w→Calls prog f #[str a,str b] w (aQ r w)):j5 f [stA a,stA b] (stA r) :=
 ⟨hf,fun ok w vs ht hv=>by
  obtain⟨u,us,rfl,h1,h2⟩:=hv;obtain rfl:=RL.dA h2;rw[Rd.Q9 h1];exact (h w ht.1).mono fun _ _ ⟨h1,h2⟩=>⟨_,h1,h2,.val _⟩⟩
section
variable {a b:bi} {x y:Int} (ha:j4.r9 a=x) (hb:j4.r9 b=y) (la:a.length≤2500000) (lb:b.length≤2500000)
include ha hb la lb
theorem wL:j5 226 [stA a,stA b] (stA (Lib.itoa (x * y))) :=
 Cf (O3 func226 rfl (by kernel_rfl)) fun w ht=>by rw[←ha,←hb];exact NB a b w la lb ht
theorem Qw:j5 224 [stA a,stA b] (stA (Lib.itoa (x+y))) :=
 Cf (O3 func224 rfl (by kernel_rfl)) fun w ht=>by rw[←ha,←hb];exact a0p a b w la lb ht
theorem wM:j5 207 [stA a,stA b] (stA (Lib.itoa (x * y))) :=
 Cf (O3 func207 rfl (by kernel_rfl)) fun w _=>by rw[←ha,←hb];exact Ma a b w la lb
theorem a4f:j5 206 [stA a,stA b] (stA (Lib.itoa (x+y))) :=
 Cf (O3 func206 rfl (by kernel_rfl)) fun w _=>by rw[←ha,←hb];exact YI a b w la lb
end
theorem a4g{a:bi}{x:Int}(ha:j4.r9 a=x)(la:a.length≤2500000):j5 264 [stA a] (stA (Lib.itoa (-x))) :=
 UQ (O3 func264 rfl (by kernel_rfl)) fun w _=>by
  rw[←ha];exact (EB a w la).mono fun _ _ ⟨h1,h2⟩=>⟨h1,by rw[←h2];exact Below.refl _ _⟩
theorem a4h{a:bi}{x:Int}(ha:j4.r9 a=x)(la:a.length≤2500000):j5 203 [stA a] (stA (Lib.itoa (-x))) :=
 UQ (O3 func203 rfl (by kernel_rfl)) fun w _=>by rw[←ha];exact Xq a w la
theorem Bz{a b:bi}(ha:a.length≤1100000)(hb:b.length≤1100000):j5 225 [stA a,stA b] (l5 (.num (Rat.divInt (j4.r9 a) (j4.r9 b)))) :=
 ⟨O3 func225 rfl (by kernel_rfl),fun ok w vs ht hv=>by
  obtain⟨u,us,rfl,h1,h2⟩:=hv;obtain rfl:=RL.dA h2;rw[Rd.Q9 h1];exact (YA a b w ha hb ht.1).mono fun _ _ h=>U8.pure (r:=R6 (Rat.divInt (j4.r9 a) (j4.r9 b))) rfl h⟩
theorem au(t:Tr):j5 155 [l5 t] (l5 (.num t.val)) :=
 ⟨O3 func155 rfl (by kernel_rfl),fun ok w vs ht hv=>by
  obtain⟨A,n,c,rfl,hr⟩:=hv.sV;have e1:=hr.len;rw[List.length_map]at e1;exact (Fu t.ob t.val t.Be A n c e1 w ht.1).mono fun _ _=>nQ.pure⟩
theorem jX(t:Tr):j5 222 [l5 t] (l5 (.num t.val)) :=
 ⟨O3 func222 rfl (by kernel_rfl),fun ok w vs ht hv=>by
  obtain⟨A,n,c,rfl,hr⟩:=hv.sV;have e1:=hr.len;rw[List.length_map]at e1;exact (a0w t.ob t.val t.Be A n c e1 w ht.1).mono fun _ _=>nQ.pure⟩
theorem a4i(a:bi):j5 223 [stA a] (l9 (U9 a [49])) :=
 ⟨O3 func223 rfl (by kernel_rfl),fun ok w vs ht hv=>by
  obtain rfl:=hv.dA;exact (Lt a w).mono fun _ _ h=>U8.pure (r:=U9 a [49]) rfl h⟩
theorem a4j{p q:Rat}{k:Nat}(bp:Rb k p)(bq:Rb k q)(hk:k≤10000):j5 231 [l5 (.num p),l5 (.num q)] (j3 (cB p q)) :=
 ⟨O3 func231 rfl (by kernel_rfl),fun ok w vs ht hv=>by
  obtain⟨A,n,c,A',n',c',rfl,hr,hr'⟩:=hv.qg;have e1:=hr.len;have e2:=hr'.len;obtain rfl:n=0:=e1.symm;obtain rfl:n'=0:=e2.symm;exact (YB p q bp bq hk hk A A' 0 0 c c' w ht.1).mono fun _ _ ⟨h1,h2⟩=>⟨_,h1,h2,.val _⟩⟩
section
variable {a b:Tr} {p q r:Rat} {m n d:bi} {k:Nat}
theorem a4k(f1:j5 155 [l5 a] (l5 (.num p)))(f2:j5 155 [l5 b] (l5 (.num q)))(m1:j5 207 [stA (Tr.num p).ob.num,stA (Tr.num q).ob.num] (stA m))(m2:j5 207 [stA (Tr.num p).ob.den,stA (Tr.num q).ob.den] (stA d))(r1:j5 74 [stA m,stA d] (l5 (.num r))):j5 164 [l5 a,l5 b] (l5 (.num r)) :=
 pV [.av (l5 (.num p)),.av (l5 (.num q)),.av (stA m),.av (stA d),.av (l5 (.num r))] [_,_,_,_,_] func164 ⟨f1,f2,m1,m2,r1,Z⟩
theorem a4l(f1:j5 222 [l5 a] (l5 (.num p)))(f2:j5 222 [l5 b] (l5 (.num q)))(m1:j5 226 [stA (Tr.num p).ob.num,stA (Tr.num q).ob.num] (stA m))(m2:j5 226 [stA (Tr.num p).ob.den,stA (Tr.num q).ob.den] (stA d))(r1:j5 225 [stA m,stA d] (l5 (.num r))):j5 193 [l5 a,l5 b] (l5 (.num r)) :=
 pV [.av (l5 (.num p)),.av (l5 (.num q)),.av (stA m),.av (stA d),.av (l5 (.num r))] [_,_,_,_,_] func193 ⟨f1,f2,m1,m2,r1,Z⟩
theorem a6V{s:bi}(f1:j5 155 [l5 a] (l5 (.num p)))(f2:j5 155 [l5 b] (l5 (.num q)))(m1:j5 207 [stA (Tr.num p).ob.num,stA (Tr.num q).ob.den] (stA m))(m2:j5 207 [stA (Tr.num q).ob.num,stA (Tr.num p).ob.den] (stA n))(m3:j5 206 [stA m,stA n] (stA s))(m4:j5 207 [stA (Tr.num p).ob.den,stA (Tr.num q).ob.den] (stA d))(r1:j5 74 [stA s,stA d] (l5 (.num r))):j5 163 [l5 a,l5 b] (l5 (.num r)) :=
 pV [.av (l5 (.num p)),.av (l5 (.num q)),.av (stA m),.av (stA n),.av (stA s),.av (stA d),.av (l5 (.num r))] [_,_,_,_,_,_,_] func163 ⟨f1,f2,m1,m2,m3,m4,r1,Z⟩
theorem a6W{s:bi}(hd:¬((Tr.num p).ob.den=[49]∧(Tr.num q).ob.den=[49]))(f1:j5 222 [l5 a] (l5 (.num p)))(f2:j5 222 [l5 b] (l5 (.num q)))(m1:j5 226 [stA (Tr.num p).ob.num,stA (Tr.num q).ob.den] (stA m))(m2:j5 226 [stA (Tr.num q).ob.num,stA (Tr.num p).ob.den] (stA n))(m3:j5 224 [stA m,stA n] (stA s))(m4:j5 226 [stA (Tr.num p).ob.den,stA (Tr.num q).ob.den] (stA d))(r1:j5 225 [stA s,stA d] (l5 (.num r))):j5 192 [l5 a,l5 b] (l5 (.num r)):=by
 by_cases h:(Tr.num p).ob.den=[49]
 ·exact pV [.av (l5 (.num p)),.av (l5 (.num q)),yT,yF,.av (stA m),.av (stA n),.av (stA s),.av (stA d),.av (l5 (.num r))] [_,_,Bl .eql 9 10 [49] ((Tr.num p).ob.den) bT,Bl .eql 9 14 [49] ((Tr.num q).ob.den) bF,_,_,_,_,_] func192 ⟨f1,f2,H5 (decide_eq_true h),H5 (decide_eq_false fun e=>hd ⟨h,e⟩),m1,m2,m3,m4,r1,Z⟩
 ·exact pV [.av (l5 (.num p)),.av (l5 (.num q)),yF,.av (stA m),.av (stA n),.av (stA s),.av (stA d),.av (l5 (.num r))] [_,_,Bl .eql 9 10 [49] ((Tr.num p).ob.den) bF,_,_,_,_,_] func192 ⟨f1,f2,H5 (decide_eq_false h),m1,m2,m3,m4,r1,Z⟩
theorem a4m(h1:(Tr.num p).ob.den=[49])(h2:(Tr.num q).ob.den=[49])(f1:j5 222 [l5 a] (l5 (.num p)))(f2:j5 222 [l5 b] (l5 (.num q)))(m1:j5 224 [stA (Tr.num p).ob.num,stA (Tr.num q).ob.num] (stA m))(r1:j5 223 [stA m] (l5 (.num r))):j5 192 [l5 a,l5 b] (l5 (.num r)) :=
 pV [.av (l5 (.num p)),.av (l5 (.num q)),yT,yT,.av (stA m),.av (l5 (.num r))] [_,_,Bl .eql 9 10 [49] ((Tr.num p).ob.den) bT,Bl .eql 9 14 [49] ((Tr.num q).ob.den) bT,_,_] func192 ⟨f1,f2,H5 (decide_eq_true h1),H5 (decide_eq_true h2),m1,r1,Z⟩
theorem a6X(f1:j5 155 [l5 a] (l5 (.num p)))(m1:j5 203 [stA (Tr.num p).ob.num] (stA m))(r1:j5 74 [stA m,stA (Tr.num p).ob.den] (l5 (.num r))):j5 158 [l5 a] (l5 (.num r)) :=
 pV [.av (l5 (.num p)),.av (stA m),.av (l5 (.num r))] [_,_,_] func158 ⟨f1,m1,r1,Z⟩
theorem a6Y(f1:j5 155 [l5 a] (l5 (.num p)))(r1:j5 74 [stA (Tr.num p).ob.den,stA (Tr.num p).ob.num] (l5 (.num r))):j5 159 [l5 a] (l5 (.num r)) :=
 pV [.av (l5 (.num p)),.av (l5 (.num r))] [_,_] func159 ⟨f1,r1,Z⟩
theorem a6Z(f1:j5 222 [l5 a] (l5 (.num p)))(m1:j5 264 [stA (Tr.num p).ob.num] (stA m)):j5 233 [l5 a] (l9 ⟨(Tr.num p).ob.kind,m,(Tr.num p).ob.den,(Tr.num p).ob.sp,(Tr.num p).ob.sn,(Tr.num p).ob.text,(Tr.num p).ob.pair⟩) :=
 pV [.av (l5 (.num p)),.av (stA m)] [_,_] func233 ⟨f1,m1,Z⟩
theorem a7a(f1:j5 222 [l5 a] (l5 (.num p)))(r1:j5 225 [stA (Tr.num p).ob.den,stA (Tr.num p).ob.num] (l5 (.num r))):j5 234 [l5 a] (l5 (.num r)) :=
 pV [.av (l5 (.num p)),.av (l5 (.num r))] [_,_] func234 ⟨f1,r1,Z⟩
theorem a4n{b':Bool}{c:Int}(f1:j5 222 [l5 a] (l5 (.num p)))(f2:j5 222 [l5 b] (l5 (.num q)))(m1:j5 231 [l5 (.num p),l5 (.num q)] (j3 c))(hc:decide (c < 0)=b'):j5 199 [l5 a,l5 b] (j6 b') :=
 pV [.av (l5 (.num p)),.av (l5 (.num q)),.av (j3 c),.av (j6 b')] [_,_,_,Bk .lss 3 9 0 c (Value.bool b')] func199 ⟨f1,f2,m1,C9 hc,Z⟩
end
section
variable {k:Nat} {a b:Tr}
theorem gF(q:Rat):j4.r9 (Tr.num q).ob.num=q.num:=j4.K5 _
theorem dL(q:Rat):j4.r9 (Tr.num q).ob.den=q.den:=j4.K5 (q.den:Int)
theorem nl{q:Rat}(h:Rb k q)(hk:k≤10000):(Tr.num q).ob.num.length≤20000:=Nat.le_trans (Rb.lV h) J
theorem dl{q:Rat}(h:Rb k q)(hk:k≤10000):(Tr.num q).ob.den.length≤20000:=Nat.le_trans (Rb.oo h) J
theorem ml{x y:Int}(hx:x.natAbs < 10 ^ k)(hy:y.natAbs < 10 ^ k)(h1:1≤k)(hk:k≤10000):(Lib.itoa (x * y)).length≤50000:=by
 have h:(x * y).natAbs < 10 ^ (k+k):=by
  rw[Int.natAbs_mul,Nat.pow_add];exact Nat.mul_lt_mul'' hx hy
 exact Nat.le_trans (gG _ (k:=k+k) J h) J
theorem al'{x y:Int}(hx:(Lib.itoa x).length≤k)(hy:(Lib.itoa y).length≤k):(Lib.itoa (x+y)).length≤k+2:=by
 have h1:=iH hx;have h2:=iH hy;rw[j4.K5]at h1 h2;refine gG _ (k:=k+1) J ?_;rw[Nat.pow_succ];generalize 10 ^ k=z at *;have:=Int.natAbs_add_le x y;omega
theorem al{x y:Int}(hx:(Lib.itoa x).length≤50000)(hy:(Lib.itoa y).length≤50000):(Lib.itoa (x+y)).length≤100010:=Nat.le_trans (al' hx hy) O
variable (ha:a.Ok k) (hb:b.Ok k) (h1:1≤k) (hk:k≤10000)
include ha h1 hk
theorem a7b:j5 158 [l5 a] (l5 (.num (-a.val))):=by
 have ba:=ha.val h1;refine a6X (au a) (a4h (gF _) (Nat.le_trans (nl ba hk) O)) ?_;have h:=tZ (a:=Lib.itoa (-a.val.num)) (b:=(Tr.num a.val).ob.den) (Nat.le_trans (gG _ (k:=k) h1 (by rw[Int.natAbs_neg];exact ba.num)) J) (Nat.le_trans (dl ba hk) O);rw[j4.K5,dL,show Rat.divInt (-a.val.num) (a.val.den:Int)=-a.val by rw[←Rat.neg_divInt,Rat.num_divInt_den]]at h
 exact h
theorem a7c:j5 159 [l5 a] (l5 (.num a.val⁻¹)):=by
 have ba:=ha.val h1;refine a6Y (au a) ?_;have h:=tZ (a:=(Tr.num a.val).ob.den) (b:=(Tr.num a.val).ob.num) (Nat.le_trans (dl ba hk) O) (Nat.le_trans (nl ba hk) O);rw[dL,gF,←Rat.inv_def]at h;exact h
theorem a7d:j5 233 [l5 a] (l5 (.num (-a.val))):=by
 have ba:=ha.val h1;refine (a6Z (jX a) (a4g (gF _) (Nat.le_trans (nl ba hk) O))).val (congrArg l9 ?_);show (⟨1,Lib.itoa (-a.val.num),Lib.itoa (a.val.den:Int),[],[],[],[]⟩:Ob)=⟨1,Lib.itoa (-a.val).num,Lib.itoa ((-a.val).den:Int),[],[],[],[]⟩;rw[Rat.neg_num,Rat.neg_den]
theorem a7e:j5 234 [l5 a] (l5 (.num a.val⁻¹)):=by
 have ba:=ha.val h1;refine a7a (jX a) ?_;have h:=Bz (a:=(Tr.num a.val).ob.den) (b:=(Tr.num a.val).ob.num) (Nat.le_trans (dl ba hk) O) (Nat.le_trans (nl ba hk) O);rw[dL,gF,←Rat.inv_def]at h;exact h
include hb
theorem a4o:j5 164 [l5 a,l5 b] (l5 (.num (a.val * b.val))):=by
 have ba:=ha.val h1;have bb:=hb.val h1;refine a4k (au a) (au b) (wM (gF _) (gF _) (Nat.le_trans (nl ba hk) O) (Nat.le_trans (nl bb hk) O)) (wM (dL _) (dL _) (Nat.le_trans (dl ba hk) O) (Nat.le_trans (dl bb hk) O)) ?_;have h:=tZ (Nat.le_trans (ml ba.num bb.num h1 hk) O) (Nat.le_trans (ml (x:=(a.val.den:Int)) (y:=(b.val.den:Int)) (by rw[Int.natAbs_natCast];exact ba.den) (by rw[Int.natAbs_natCast];exact bb.den) h1 hk) O);rw[j4.K5,j4.K5,←Rat.mul_div]at h;exact h
theorem Qx:j5 193 [l5 a,l5 b] (l5 (.num (a.val * b.val))):=by
 have ba:=ha.val h1;have bb:=hb.val h1;refine a4l (jX a) (jX b) (wL (gF _) (gF _) (Nat.le_trans (nl ba hk) O) (Nat.le_trans (nl bb hk) O)) (wL (dL _) (dL _) (Nat.le_trans (dl ba hk) O) (Nat.le_trans (dl bb hk) O)) ?_;have h:=Bz (Nat.le_trans (ml ba.num bb.num h1 hk) O) (Nat.le_trans (ml (x:=(a.val.den:Int)) (y:=(b.val.den:Int)) (by rw[Int.natAbs_natCast];exact ba.den) (by rw[Int.natAbs_natCast];exact bb.den) h1 hk) O);rw[j4.K5,j4.K5,←Rat.mul_div]at h;exact h
theorem a7f:j5 163 [l5 a,l5 b] (l5 (.num (a.val+b.val))):=by
 have ba:=ha.val h1;have bb:=hb.val h1;have l1:=ml (x:=a.val.num) (y:=(b.val.den:Int)) ba.num (by rw[Int.natAbs_natCast];exact bb.den) h1 hk;have l2:=ml (x:=b.val.num) (y:=(a.val.den:Int)) bb.num (by rw[Int.natAbs_natCast];exact ba.den) h1 hk;have l3:=ml (x:=(a.val.den:Int)) (y:=(b.val.den:Int)) (by rw[Int.natAbs_natCast];exact ba.den) (by rw[Int.natAbs_natCast];exact bb.den) h1 hk;refine a6V (au a) (au b) (wM (gF _) (dL _) (Nat.le_trans (nl ba hk) O) (Nat.le_trans (dl bb hk) O)) (wM (gF _) (dL _) (Nat.le_trans (nl bb hk) O) (Nat.le_trans (dl ba hk) O)) (a4f (j4.K5 _) (j4.K5 _) J J) (wM (dL _) (dL _) (Nat.le_trans (dl ba hk) O) (Nat.le_trans (dl bb hk) O)) ?_;have h:=tZ (Nat.le_trans (al l1 l2) O) (Nat.le_trans l3 O);rw[j4.K5,j4.K5,←Rat.add_div]at h;exact h
theorem RO:j5 192 [l5 a,l5 b] (l5 (.num (a.val+b.val))):=by
 have ba:=ha.val h1;have bb:=hb.val h1;by_cases hd:(Tr.num a.val).ob.den=[49]∧(Tr.num b.val).ob.den=[49]
 ·obtain⟨d1,d2⟩:=hd;refine a4m d1 d2 (jX a) (jX b) (Qw (gF _) (gF _) (Nat.le_trans (nl ba hk) O) (Nat.le_trans (nl bb hk) O)) ((a4i _).val (congrArg l9 ?_));have e1:(a.val.den:Int)=1:=by rw[←dL a.val,d1];decide +kernel
  have e2:(b.val.den:Int)=1:=by rw[←dL b.val,d2];decide +kernel
  have e:a.val+b.val=((a.val.num+b.val.num:Int):Rat):=by
   rw[Rat.add_div,e1,e2];simp only[Int.mul_one];exact zZ _
  rw[e];exact (Fj _).symm
 ·have l1:=ml (x:=a.val.num) (y:=(b.val.den:Int)) ba.num (by rw[Int.natAbs_natCast];exact bb.den) h1 hk;have l2:=ml (x:=b.val.num) (y:=(a.val.den:Int)) bb.num (by rw[Int.natAbs_natCast];exact ba.den) h1 hk;have l3:=ml (x:=(a.val.den:Int)) (y:=(b.val.den:Int)) (by rw[Int.natAbs_natCast];exact ba.den) (by rw[Int.natAbs_natCast];exact bb.den) h1 hk;refine a6W hd (jX a) (jX b) (wL (gF _) (dL _) (Nat.le_trans (nl ba hk) O) (Nat.le_trans (dl bb hk) O)) (wL (gF _) (dL _) (Nat.le_trans (nl bb hk) O) (Nat.le_trans (dl ba hk) O)) (Qw (j4.K5 _) (j4.K5 _) J J) (wL (dL _) (dL _) (Nat.le_trans (dl ba hk) O) (Nat.le_trans (dl bb hk) O)) ?_;have h:=Bz (Nat.le_trans (al l1 l2) O) (Nat.le_trans l3 O);rw[j4.K5,j4.K5,←Rat.add_div]at h;exact h
theorem a1F:j5 199 [l5 a,l5 b] (j6 (decide (a.val < b.val))) :=
 a4n (jX a) (jX b) (a4j (ha.val h1) (hb.val h1) hk) (NI _ _)
end
abbrev l6:Tr:=.sym o6 R4
abbrev U2(b:Bool):Tr:=if b then .sym o6 [116] else l6
theorem jg:j5 91 [] (l5 l6) :=
 ⟨O3 func91 rfl (by kernel_rfl),fun ok w vs ht hv=>by
  obtain rfl:vs=[]:=hv;exact (a0v w).mono fun _ _ h=>U8.pure (r:=M5) rfl h⟩
theorem a8Y:j5 90 [] (l5 (.sym o6 [116])) :=
 ⟨O3 func90 rfl (by kernel_rfl),fun ok w vs ht hv=>by
  obtain rfl:vs=[]:=hv;exact (a5s w).mono fun _ _ h=>U8.pure (r:=tO) rfl h⟩
theorem jh:j5 38 [] (l5 l6) :=
 ⟨O3 func38 rfl (by kernel_rfl),fun ok w vs ht hv=>by
  obtain rfl:vs=[]:=hv;exact (Fs w).mono fun _ _ h=>U8.pure (r:=M5) rfl h⟩
theorem a8Z:j5 54 [] (l5 (.sym o6 [116])) :=
 ⟨O3 func54 rfl (by kernel_rfl),fun ok w vs ht hv=>by
  obtain rfl:vs=[]:=hv;exact (a5v w).mono fun _ _ h=>U8.pure (r:=tO) rfl h⟩
theorem tC(t:bi):j5 194 [stA t] (l5 (.txt t)) :=
 ⟨O3 func194 rfl (by kernel_rfl),fun ok w vs ht hv=>by
  obtain rfl:=hv.dA;exact (Zm w t).mono fun _ _ h=>U8.pure (r:=jw t) rfl h⟩
theorem a4p(p s:bi):j5 122 [o9 p s] (l5 (.sym p s)) :=
 ⟨O3 func122 rfl (by kernel_rfl),fun ok w vs ht hv=>by
  obtain⟨u,us,rfl,h1,rfl⟩:=hv;rw[h1.sy];exact (Et w p s).mono fun _ _ h=>U8.pure (r:=gT p s) rfl h⟩
theorem Gz{q:Int}{a:bi}(ha:a.length≤1100000)(hq:j4.r9 a=q):j5 225 [stA a,stA [49]] (l5 (.num (q:Rat))):=by
 have h:=Bz (b:=[49]) ha O;have e:Rat.divInt (j4.r9 a) (j4.r9 [49])=(q:Rat):=by
  rw[hq,show j4.r9 [49]=1 by decide +kernel]
  exact zZ q
 rwa [e]at h
theorem jl(t:Tr):j5 228 [l5 t] (j6 (decide (t.ob.kind=1∧t.ob.den=[49]))) :=
 lQ (O3 func228 rfl (by kernel_rfl)) fun ok A n c w _ _=>Xg t.ob A n c w
theorem a4q(p s:bi):j5 73 [o9 p s] (l5 (.sym p s)) :=
 ⟨O3 func73 rfl (by kernel_rfl),fun ok w vs ht hv=>by
  obtain⟨u,us,rfl,h1,rfl⟩:=hv;rw[h1.sy];exact (Eu w p s).mono fun _ _ h=>U8.pure (r:=gT p s) rfl h⟩
theorem GA{q:Int}{a:bi}(ha:a.length≤1100000)(hq:j4.r9 a=q):j5 74 [stA a,stA [49]] (l5 (.num (q:Rat))):=by
 have h:=tZ (b:=[49]) ha O;have e:Rat.divInt (j4.r9 a) (j4.r9 [49])=(q:Rat):=by
  rw[hq,show j4.r9 [49]=1 by decide +kernel]
  exact zZ q
 rwa [e]at h
theorem jm(t:Tr):j5 157 [l5 t] (j6 (decide (t.ob.kind=1∧t.ob.den=[49]))) :=
 lQ (O3 func157 rfl (by kernel_rfl)) fun ok A n c w _ _=>Xh t.ob A n c w
theorem Al(t:Tr):j5 41 [l5 t] (j6 (decide (t=l6))):=by
 have h:j5 41 [l5 t] (j6 (decide (t.ob.kind=2∧t.ob.sp=o6∧t.ob.sn=R4))):=lQ (O3 func41 rfl (by kernel_rfl)) fun ok A n c w _ _=>LX t.ob A n c w
 refine h.b ?_;cases t with
 |sym p s =>
  by_cases hh:p=o6∧s=R4
  ·obtain⟨rfl,rfl⟩:=hh;rw[decide_eq_true ⟨rfl,rfl,rfl⟩,decide_eq_true rfl]
  ·rw[decide_eq_false (fun h=>hh ⟨h.2.1,h.2.2⟩),decide_eq_false (fun h=>by cases h;exact hh ⟨rfl,rfl⟩)]
 |num q=>rw[decide_eq_false (fun h=>absurd (show (1:Int)=2 from h.1) O),decide_eq_false (fun h=>by cases h)]
 |txt q=>rw[decide_eq_false (fun h=>absurd (show (3:Int)=2 from h.1) O),decide_eq_false (fun h=>by cases h)]
 |cons a d=>rw[decide_eq_false (fun h=>absurd (show (4:Int)=2 from h.1) O),decide_eq_false (fun h=>by cases h)]
theorem vS{k:Nat}{t:Tr}(h:t.Ok k)(hk:k≤100000):j5 23 [l5 t] (j6 (decide (t=l6))) :=
 ⟨O3 func23 rfl (by kernel_rfl),fun ok w vs ht hv=>by
  obtain⟨A,n,c,rfl,hr⟩:=hv.sV;exact (Me ok t.ob (h.wf hk) A n c w hr).mono fun e w' h=>(fT.iff (Tr.wO (a:=t) (b:=l6)) h).pure⟩
def V5(l:bi):Int×Bool:=if (j4.mag (norm l)).length≤9 then (j4.r9 l,true) else (0,false)
theorem Ot{l:bi}(hl:l.length≤2500000):j5 229 [stA l] (.l7 [j3 (V5 l).1,j6 (V5 l).2]) :=
 ⟨O3 func229 rfl (by kernel_rfl),fun ok w vs ht hv=>by
  obtain rfl:=hv.dA;unfold V5;split
  ·rename_i h;refine (Zl l w hl h).mono ?_;rintro e w' ⟨rfl,h2⟩;exact⟨_,rfl,h2,_,rfl,_,_,rfl,.val _,_,_,rfl,.val _,rfl⟩
  ·rename_i h;refine (a0q l w hl J).mono ?_;rintro e w' ⟨rfl,h2⟩;exact⟨_,rfl,h2,_,rfl,_,_,rfl,.val _,_,_,rfl,.val _,rfl⟩⟩
theorem Ou{l:bi}(hl:l.length≤2500000):j5 205 [stA l] (.l7 [j3 (V5 l).1,j6 (V5 l).2]) :=
 ⟨O3 func205 rfl (by kernel_rfl),fun ok w vs ht hv=>by
  obtain rfl:=hv.dA;unfold V5;split
  ·rename_i h;refine (XG l w hl h).mono ?_;rintro e w' ⟨rfl,h2⟩;exact⟨_,rfl,h2,_,rfl,_,_,rfl,.val _,_,_,rfl,.val _,rfl⟩
  ·rename_i h;refine (Yg l w hl J).mono ?_;rintro e w' ⟨rfl,h2⟩;exact⟨_,rfl,h2,_,rfl,_,_,rfl,.val _,_,_,rfl,.val _,rfl⟩⟩
theorem a7g{a b:bi}(ha:a.length≤2400000)(hb:b.length≤2400000):j5 236 [stA a,stA b] (.l7 [stA (Lib.itoa (qd (j4.r9 a) (j4.r9 b))),stA (Lib.itoa (rm (j4.r9 a) (j4.r9 b)))]) :=
 ⟨O3 func236 rfl (by kernel_rfl),fun ok w vs ht hv=>by
  obtain⟨u,us,rfl,h1,h2⟩:=hv;obtain rfl:=RL.dA h2;rw[Rd.Q9 h1];refine (vX a b w ha hb ht.1).mono ?_;rintro e w' ⟨rfl,h2⟩;exact⟨_,rfl,h2,_,rfl,_,_,rfl,.val _,_,_,rfl,.val _,rfl⟩⟩
theorem a7h{a b:bi}(ha:a.length≤2400000)(hb:b.length≤2400000):j5 160 [stA a,stA b] (.l7 [stA (Lib.itoa (qd (j4.r9 a) (j4.r9 b))),stA (Lib.itoa (rm (j4.r9 a) (j4.r9 b)))]) :=
 ⟨O3 func160 rfl (by kernel_rfl),fun ok w vs ht hv=>by
  obtain⟨u,us,rfl,h1,h2⟩:=hv;obtain rfl:=RL.dA h2;rw[Rd.Q9 h1];refine (YJ a b w ha hb).mono ?_;rintro e w' ⟨rfl,h2⟩;exact⟨_,rfl,h2,_,rfl,_,_,rfl,.val _,_,_,rfl,.val _,rfl⟩⟩
theorem RQ{p s:bi}(hp:p.length≤9223372036854775807)(hs:s.length≤9223372036854775807):j5 227 [o9 p s] (j6 (P7 ⟨p,s⟩)) :=
 ⟨O3 func227 rfl (by kernel_rfl),fun ok w vs ht hv=>by
  obtain⟨u,us,rfl,h1,rfl⟩:=hv;rw[h1.sy];exact (XK ⟨p,s⟩ w hp hs).mono fun _ _=>I7.pure⟩
theorem RS{p s:bi}(hp:p.length≤9223372036854775807)(hs:s.length≤9223372036854775807):j5 166 [o9 p s] (j6 (P7 ⟨p,s⟩)) :=
 ⟨O3 func166 rfl (by kernel_rfl),fun ok w vs ht hv=>by
  obtain⟨u,us,rfl,h1,rfl⟩:=hv;rw[h1.sy];exact (Lf ⟨p,s⟩ w hp hs).mono fun _ _=>I7.pure⟩
namespace Tr
abbrev tx(t:Tr):bi:=t.ob.text
def ae:Tr→Bool
 |.txt _=>true
 |_=>false
def iZ:Tr→Bool
 |.sym _ _=>true
 |_=>false
def ja:Tr→Bool
 |.num _=>true
 |_=>false
def bg:Tr→Bool
 |.num q=>decide (q.den=1)
 |_=>false
theorem bH(t:Tr):decide (t.ob.kind=1∧t.ob.den=[49])=t.bg:=by
 cases t with
 |num q =>
  have h:((R6 q).den=[49])↔q.den=1:=by
   show Lib.itoa (q.den:Int)=[49]↔_;have:=zX (v:=(q.den:Int));constructor
   ·intro h;rw[h]at this;have h2:decide ((q.den:Int)=1)=true:=by rw[←this];rfl
    have:=of_decide_eq_true h2;omega
   ·intro h;rw[h];exact sI
  by_cases hq:q.den=1
  ·show decide ((1:Int)=1∧(R6 q).den=[49])=decide (q.den=1);rw[decide_eq_true hq,decide_eq_true ⟨rfl,h.2 hq⟩]
  ·show decide ((1:Int)=1∧(R6 q).den=[49])=decide (q.den=1);rw[decide_eq_false hq,decide_eq_false fun hh=>hq (h.1 hh.2)]
 |txt s=>exact decide_eq_false fun h=>absurd (show (3:Int)=1 from h.1) O
 |sym p s=>exact decide_eq_false fun h=>absurd (show (2:Int)=1 from h.1) O
 |cons a d=>exact decide_eq_false fun h=>absurd (show (4:Int)=1 from h.1) O
def dn(x i:Tr):Option Int:=if x.ae && i.bg && (V5 i.ob.num).2 && decide (0≤(V5 i.ob.num).1) && decide ((V5 i.ob.num).1 < x.tx.length) then some (V5 i.ob.num).1 else none
def eZ(x:Tr):Option Int:=if x.bg && (V5 x.ob.num).2 && decide (0≤(V5 x.ob.num).1) && decide ((V5 x.ob.num).1≤255) then some (V5 x.ob.num).1 else none
def Cv:Tr→Tr
 |.cons a _=>a
 |_=>l6
def Cw:Tr→Tr
 |.cons _ d=>d
 |_=>l6
def ap:Nat→Tr→Tr→Tr→Tr
 |0,x,y,z=>if x=l6 then z else y
 |1,x,y,_=>U2 (decide (x=y))
 |2,x,y,_=>.cons x y
 |3,x,_,_=>x.Cv
 |4,x,_,_=>x.Cw
 |5,x,_,_=>U2 x.bU
 |6,x,_,_=>U2 x.iZ
 |7,x,_,_=>U2 x.ae
 |8,x,_,_=>U2 x.ja
 |9,x,_,_=>U2 x.bg
 |10,x,y,_=>.num (x.val+y.val)
 |11,x,y,_=>.num (x.val * y.val)
 |12,x,_,_=>.num (-x.val)
 |13,x,_,_=>.num x.val⁻¹
 |14,x,y,_=>U2 (decide (x.val < y.val))
 |15,x,_,_=>.num (x.val.num:Rat)
 |16,x,_,_=>.num ((x.val.den:Int):Rat)
 |17,x,_,_=>.num ((qd x.val.num x.val.den:Int):Rat)
 |18,x,_,_=>.txt x.ob.sn
 |19,x,_,_=>.txt x.ob.sp
 |20,x,y,_=>if x.ae && y.ae && P7 ⟨y.tx,x.tx⟩ then .sym y.tx x.tx else l6
 |21,x,y,_=>.txt (x.tx++y.tx)
 |22,x,_,_=>.num ((x.tx.length:Int):Rat)
 |23,x,y,_=>match dn x y with
  |some n=>.num ((x.tx.getD n.toNat 0).toNat:Int)
  |none=>l6
 |24,x,_,_=>match eZ x with
  |some n=>.txt [UInt8.ofNat n.toNat]
  |none=>.txt []
 |_,_,_,_=>l6
def kept'(t:Tr):Option Tr:=if t.valid then some t else none
def Y8(i:Nat)(x y z:Tr):Option Tr:=if i=2∨i=10∨i=11∨i=21 then kept' (ap i x y z) else some (ap i x y z)
end Tr
theorem Z9{t:Tr}(h:t.valid=true):Tr.kept' t=some t:=by unfold Tr.kept';rw[if_pos h]
theorem ai{t:Tr}(h:t.valid=false):Tr.kept' t=none:=by unfold Tr.kept';rw[if_neg (by rw[h];simp)]
theorem Tr.Ok.AZ{k:Nat}{t:Tr}(h:t.Ok k)(hk:k≤100000):t.ob.num.length≤100001:=by
 cases t with
 |num q=>exact Nat.le_trans (Rb.lV h) J
 |_=>exact Nat.zero_le _
theorem Tr.Ok.RU{k:Nat}{t:Tr}(h:t.Ok k):t.tx.length≤100000:=by
 cases t with
 |txt q=>exact h
 |_=>exact Nat.zero_le _
theorem TI(t:Tr):decide (t.ob.kind=4)=t.bU:=by cases t <;> rfl
theorem TJ(t:Tr):decide (t.ob.kind=2)=t.iZ:=by cases t <;> rfl
theorem dR(t:Tr):decide (t.ob.kind=3)=t.ae:=by cases t <;> rfl
theorem TK(t:Tr):decide (t.ob.kind=1)=t.ja:=by cases t <;> rfl
theorem fK{P:Program}{t:TypeId}{x y:Operand}{k:IntKind}{a b:Int}{r:Bool}(h:decide (a=b)=!r):aS P .neq t x y (.int k a) (.int k b) (.bool r):=by
 refine gJ ?_;simp only[gV,decide_true];rw[show (a != b)=!decide (a=b) by rw[bne,ve a b],h,Bool.not_not]
theorem Ov{P:Program}{t:TypeId}{x y:Operand}{k:IntKind}{a b:Int}{r:Bool}(h:decide (a≤b)=r):aS P .leq t x y (.int k a) (.int k b) (.bool r):=by
 refine gJ ?_;simp only[gV,decide_true];rw[h]
abbrev Cx(o:Ob):AV:=.pin ((y8 o).map .dt)
abbrev zO:Ob:=⟨0,[],[],[],[],[],[]⟩
abbrev N7(o:Option Tr):AV:=match o with
 |some t=>.l7 [l5 t,j3 0]
 |none=>.l7 [l9 zO,j3 2]
theorem j5.r{f:FuncId}{args:List AV}{a b:Option Tr}(h:j5 f args (N7 a))(e:a=b):j5 f args (N7 b):=e ▸ h
end Go.Proofs.YtdkehabacmlegaaGreatDoor
