/- Guards in the code: unguarded, negate, the conditions of a primitive. -/
import Derived.Test.YthhknjlmjefklaaGreatDoorBT
import Derived.Test.YthhknjlmjefklaaGreatDoorBL
import Derived.Test.YthhknjlmjefklaaGreatDoorBS
import Derived.Test.YthhknjlmjefklaaGreatDoorBP
namespace Go.Proofs.YthhknjlmjefklaaGreatDoor
open Go.Proofs.Tryz
open Go.RowKit
open Te
theorem RX{t:Te}(h:t.Wf):l7 40 [y9 t] (o6 (sameD t G8)) :=
 pV [.av (x9 tO),.av (y9 (Te.G9 tO)),.av (o6 (sameD t G8))] [_,l7 45 [(x9 tO)] (.agg [(inA 2),(stA (G9 tO).np),(stA (G9 tO).nn),(inA 2),(stA (G9 tO).val.num),(stA (G9 tO).val.den),(stA (G9 tO).val.sp),(stA (G9 tO).val.sn),(stA (G9 tO).val.text),(.dt (.row (List.map Ob.enc (G9 tO).val.pair))),(.dt (.row (List.map Te.enc (G9 tO).args)))]),l7 76 [(y9 t),(.agg [(inA 2),(stA (G9 tO).np),(stA (G9 tO).nn),(inA 2),(stA (G9 tO).val.num),(stA (G9 tO).val.den),(stA (G9 tO).val.sp),(stA (G9 tO).val.sn),(stA (G9 tO).val.text),(.dt (.row (List.map Ob.enc (G9 tO).val.pair))),(.dt (.row (List.map Te.enc (G9 tO).args)))])] (o6 (sameD t G8))] func40 ⟨SY,zn tO,a1z h (Te.G9 tO),Z⟩
theorem a0G(t:Te):l7 57 [y9 t] (y9 (neg t)):=by
 unfold neg;by_cases h:is t O8 1
 ·rw[Za0 h];have h0:=dQ h (show 0 < 1 by omega);generalize t.arg 0=a at *;exact pV [yT,yT,.av (inA t.args.length),yT,.av (.pin ((C9 a).map .dt))] [Bk .eql 3 4 3 t.kind bT,Bn .eql 28 (.tmp 8) (.tmp 9) (Value.agg #[str t.np,str t.nn]) (Value.agg #[Value.string { data:=#[108,105,115,112]:ByteArray },Value.string { data:=#[110,111,116]:ByteArray }]) bT,(vi ↑t.args.length)=(vi (↑(List.map Te.enc t.args).length)),Bk .eql 3 15 1 ↑t.args.length bT,E5 (List.map Te.enc t.args) 0 11 (C9 a)] func57 ⟨F6 (dh h.1),aO (by rw[UV h.2.1,UV h.2.2.1];rfl),O6 _,F6 (by have:=h.2.2.2;simp[this]),Y9 h0,Z⟩
 ·rw[lw h];by_cases h1:t.kind=3
  ·by_cases h2:t.np=x8∧t.nn=O8
   ·have h3:¬t.args.length=1:=fun e=>h ⟨h1,h2.1,h2.2,e⟩
    exact pV [yT,yT,.av (inA t.args.length),yF,.av (y9 (ap O8 [t]))] [Bk .eql 3 4 3 t.kind bT,Bn .eql 28 (.tmp 8) (.tmp 9) (Value.agg #[str t.np,str t.nn]) (Value.agg #[Value.string { data:=#[108,105,115,112]:ByteArray },Value.string { data:=#[110,111,116]:ByteArray }]) bT,(vi ↑t.args.length)=(vi (↑(List.map Te.enc t.args).length)),Bk .eql 3 15 1 ↑t.args.length bF,l7 43 [(stA [110,111,116]),(.dt (.row [C9 t]))] (y9 (ap O8 [t]))] func57 ⟨F6 (dh h1),aO (by rw[UV h2.1,UV h2.2];rfl),O6 _,F6 (WF J),mg O8 [t] (oH t),Z⟩
   ·exact pV [yT,yF,.av (y9 (ap O8 [t]))] [Bk .eql 3 4 3 t.kind bT,Bn .eql 28 (.tmp 8) (.tmp 9) (Value.agg #[str t.np,str t.nn]) (Value.agg #[Value.string { data:=#[108,105,115,112]:ByteArray },Value.string { data:=#[110,111,116]:ByteArray }]) bF,l7 43 [(stA [110,111,116]),(.dt (.row [C9 t]))] (y9 (ap O8 [t]))] func57 ⟨F6 (dh h1),aO (Ai h2),mg O8 [t] (oH t),Z⟩
  ·exact pV [yF,.av (y9 (ap O8 [t]))] [Bk .eql 3 4 3 t.kind bF,l7 43 [(stA [110,111,116]),(.dt (.row [C9 t]))] (y9 (ap O8 [t]))] func57 ⟨F6 (bI h1),mg O8 [t] (oH t),Z⟩
theorem xN(x y:Te):[C9 x,C9 y]=[x,y].map Te.enc:=by rw[ZaC,ZaC,xg,xg];rfl
abbrev Tj:FuncId:=42
theorem wY(n:aa0)(x:Te):l7 Tj [stA n,.pin [.dt (.row [C9 x])]] (.dt (.row [C9 (ap n [x])])) :=
 pW [.no,.no,.no,.av (y9 (ap n [x])),.no,.no,.no] [.run 2] [l7 43 [(stA n),(.dt (.row [C9 x]))] (y9 (ap n [x])),1=1] func42 ⟨jS n x,rfl,Z⟩
theorem DV(n:aa0)(x y:Te):l7 Tj [stA n,.pin [.dt (.row [C9 x,C9 y])]] (.dt (.row [C9 (ap n [x]),C9 (ap n [y])])) :=
 pW ([.no,.no,.no,.av (y9 (ap n [x]))]++nK 4 [.av (y9 (ap n [y])),.no,.no,.no]) [.run 3] [l7 43 [(stA n),(.dt (.row [C9 x]))] (y9 (ap n [x])),l7 43 [(stA n),(.dt (.row [C9 y]))] (y9 (ap n [y])),2=2] func42 ⟨jS n x,jS n y,rfl,Z⟩
theorem b4m(n:aa0)(x:Te):zy prog Gx Tj [stA n,.pin [.dt (.row [C9 x])]] 41 11 [C9 (ap n [x])] :=
 bP.YA (fun _ _ h hb=>h.below hb) (sW 0 [1] [.no,.no,.no,.av (y9 (ap n [x])),.no,.no,.no] [.run 2] [l7 43 [(stA n),(.dt (.row [C9 x]))] (y9 (ap n [x]))] func42 ⟨jS n x,Z⟩) rfl
theorem Jd{n:Int}(h0:-9223372036854775808≤n)(h1:n≤9223372036854775807):l7 44 [inA n] (y9 (kT n)) :=
 pV [.av (o9 (.num n)),.av (y9 (kT n))] [l7 46 [(inA n)] (o9 (Tr.num ↑n)),l7 45 [(o9 (Tr.num ↑n))] (y9 (kT n))] func44 ⟨zN n h0 h1,zn _,Z⟩
theorem V7(l:List Te):O3 l=.dt (.row (l.map C9)):=congrArg (fun r=>AV.dt (.row r)) (List.map_congr_left fun t _=>xg t)
structure GC (ws:aa1) (n:aa0) (a:Nat):Prop where
 w:l7 37 [.dt (.row ws),y7 x8 n] (.o7 [inA a,o6 true])
 p:l7 38 [y7 x8 n] (.o7 [inA a,o6 true])
abbrev bQ:FuncId:=14
theorem b6e{ws:aa1}(x y z:Te)(h:GC ws [105,102] 3):l7 bQ [.dt (.row ws),y7 x8 [105,102],.dt (.row [C9 x,C9 y,C9 z])] (.dt (.row [])) :=
 pV ([.av (.o7 [inA 3,o6 true]),.no,.no,.av (.o7 [inA 3,o6 true])]++nK 17 []) [_,_] func14 ⟨h.w,h.p,Z⟩
theorem b6f{ws:aa1}(x y:Te)(h:GC ws [101,113,117,97,108] 2):l7 bQ [.dt (.row ws),y7 x8 [101,113,117,97,108],.dt (.row [C9 x,C9 y])] (.dt (.row [])) :=
 pV ([.av (.o7 [inA 2,o6 true]),.no,.no,.av (.o7 [inA 2,o6 true])]++nK 17 []) [_,_] func14 ⟨h.w,h.p,Z⟩
theorem b6g{ws:aa1}(x y:Te)(h:GC ws [99,111,110,115] 2):l7 bQ [.dt (.row ws),y7 x8 [99,111,110,115],.dt (.row [C9 x,C9 y])] (.dt (.row [])) :=
 pV ([.av (.o7 [inA 2,o6 true]),.no,.no,.av (.o7 [inA 2,o6 true])]++nK 17 []) [_,_] func14 ⟨h.w,h.p,Z⟩
theorem b6h{ws:aa1}(x:Te)(h:GC ws [99,97,114] 1):l7 bQ [.dt (.row ws),y7 x8 [99,97,114],.dt (.row [C9 x])] (.dt (.row [C9 (oK x)])) :=
 pV [.av (.o7 [inA 1,o6 true]),.no,.no,.av (.o7 [inA 1,o6 true]),.no,.no,.av (y9 (ap kY [x])),.av (x9 tO),.av (y9 G8),.no,.av (x9 U6),.av (y9 noT),.av (y9 (ap eH [x,noT])),.av (y9 (oK x))] [_,_,l7 43 [(stA [99,111,110,115,112]),(.dt (.row [C9 x]))] (y9 (ap kY [x])),_,l7 45 [(x9 tO)] (.agg [(inA 2),(stA G8.np),(stA G8.nn),(inA 2),(stA G8.val.num),(stA G8.val.den),(stA G8.val.sp),(stA G8.val.sn),(stA G8.val.text),(.dt (.row (List.map Ob.enc G8.val.pair))),(.dt (.row (List.map Te.enc G8.args)))]),_,l7 45 [(x9 U6)] (.agg [(inA 2),(stA noT.np),(stA noT.nn),(inA 2),(stA noT.val.num),(stA noT.val.den),(stA noT.val.sp),(stA noT.val.sn),(stA noT.val.text),(.dt (.row (List.map Ob.enc noT.val.pair))),(.dt (.row (List.map Te.enc noT.args)))]),l7 43 [(stA [101,113,117,97,108]),(.dt (.row [C9 x,[(.val (vi 2)),(.val (str noT.np)),(.val (str noT.nn)),(.val (vi 2)),(.val (str noT.val.num)),(.val (str noT.val.den)),(.val (str noT.val.sp)),(.val (str noT.val.sn)),(.val (str noT.val.text)),(.row (List.map Ob.enc noT.val.pair)),(.row (List.map Te.enc noT.args))]]))] (y9 (ap eH [x,noT])),l7 43 [(stA [105,102]),(.dt (.row [C9 (ap kY [x]),[(.val (vi 2)),(.val (str G8.np)),(.val (str G8.nn)),(.val (vi 2)),(.val (str G8.val.num)),(.val (str G8.val.den)),(.val (str G8.val.sp)),(.val (str G8.val.sn)),(.val (str G8.val.text)),(.row (List.map Ob.enc G8.val.pair)),(.row (List.map Te.enc G8.args))],C9 (ap eH [x,noT])]))] (y9 (oK x))] func14 ⟨h.w,h.p,jS kY x,SY,zn tO,a0e,zn U6,mg eH [x,noT] (xN x noT),XB Q7 (ap kY [x]) G8 (ap eH [x,noT]),Z⟩
theorem b6i{ws:aa1}(x:Te)(h:GC ws [99,100,114] 1):l7 bQ [.dt (.row ws),y7 x8 [99,100,114],.dt (.row [C9 x])] (.dt (.row [C9 (oK x)])) :=
 pV [.av (.o7 [inA 1,o6 true]),.no,.no,.av (.o7 [inA 1,o6 true]),.no,.no,.no,.av (y9 (ap kY [x])),.av (x9 tO),.av (y9 G8),.no,.av (x9 U6),.av (y9 noT),.av (y9 (ap eH [x,noT])),.av (y9 (oK x))] [_,_,l7 43 [(stA [99,111,110,115,112]),(.dt (.row [C9 x]))] (y9 (ap kY [x])),_,l7 45 [(x9 tO)] (.agg [(inA 2),(stA G8.np),(stA G8.nn),(inA 2),(stA G8.val.num),(stA G8.val.den),(stA G8.val.sp),(stA G8.val.sn),(stA G8.val.text),(.dt (.row (List.map Ob.enc G8.val.pair))),(.dt (.row (List.map Te.enc G8.args)))]),_,l7 45 [(x9 U6)] (.agg [(inA 2),(stA noT.np),(stA noT.nn),(inA 2),(stA noT.val.num),(stA noT.val.den),(stA noT.val.sp),(stA noT.val.sn),(stA noT.val.text),(.dt (.row (List.map Ob.enc noT.val.pair))),(.dt (.row (List.map Te.enc noT.args)))]),l7 43 [(stA [101,113,117,97,108]),(.dt (.row [C9 x,[(.val (vi 2)),(.val (str noT.np)),(.val (str noT.nn)),(.val (vi 2)),(.val (str noT.val.num)),(.val (str noT.val.den)),(.val (str noT.val.sp)),(.val (str noT.val.sn)),(.val (str noT.val.text)),(.row (List.map Ob.enc noT.val.pair)),(.row (List.map Te.enc noT.args))]]))] (y9 (ap eH [x,noT])),l7 43 [(stA [105,102]),(.dt (.row [C9 (ap kY [x]),[(.val (vi 2)),(.val (str G8.np)),(.val (str G8.nn)),(.val (vi 2)),(.val (str G8.val.num)),(.val (str G8.val.den)),(.val (str G8.val.sp)),(.val (str G8.val.sn)),(.val (str G8.val.text)),(.row (List.map Ob.enc G8.val.pair)),(.row (List.map Te.enc G8.args))],C9 (ap eH [x,noT])]))] (y9 (oK x))] func14 ⟨h.w,h.p,jS kY x,SY,zn tO,a0e,zn U6,mg eH [x,noT] (xN x noT),XB Q7 (ap kY [x]) G8 (ap eH [x,noT]),Z⟩
theorem b6j{ws:aa1}(x:Te)(h:GC ws [99,111,110,115,112] 1):l7 bQ [.dt (.row ws),y7 x8 [99,111,110,115,112],.dt (.row [C9 x])] (.dt (.row [])) :=
 pV ([.av (.o7 [inA 1,o6 true]),.no,.no,.av (.o7 [inA 1,o6 true])]++nK 17 []) [_,_] func14 ⟨h.w,h.p,Z⟩
theorem b6k{ws:aa1}(x:Te)(h:GC ws [115,121,109,98,111,108,112] 1):l7 bQ [.dt (.row ws),y7 x8 [115,121,109,98,111,108,112],.dt (.row [C9 x])] (.dt (.row [])) :=
 pV ([.av (.o7 [inA 1,o6 true]),.no,.no,.av (.o7 [inA 1,o6 true])]++nK 17 []) [_,_] func14 ⟨h.w,h.p,Z⟩
theorem b6l{ws:aa1}(x:Te)(h:GC ws [115,116,114,105,110,103,112] 1):l7 bQ [.dt (.row ws),y7 x8 [115,116,114,105,110,103,112],.dt (.row [C9 x])] (.dt (.row [])) :=
 pV ([.av (.o7 [inA 1,o6 true]),.no,.no,.av (.o7 [inA 1,o6 true])]++nK 17 []) [_,_] func14 ⟨h.w,h.p,Z⟩
theorem b6m{ws:aa1}(x:Te)(h:GC ws [114,97,116,105,111,110,97,108,112] 1):l7 bQ [.dt (.row ws),y7 x8 [114,97,116,105,111,110,97,108,112],.dt (.row [C9 x])] (.dt (.row [])) :=
 pV ([.av (.o7 [inA 1,o6 true]),.no,.no,.av (.o7 [inA 1,o6 true])]++nK 17 []) [_,_] func14 ⟨h.w,h.p,Z⟩
theorem b6n{ws:aa1}(x:Te)(h:GC ws [105,110,116,101,103,101,114,112] 1):l7 bQ [.dt (.row ws),y7 x8 [105,110,116,101,103,101,114,112],.dt (.row [C9 x])] (.dt (.row [])) :=
 pV ([.av (.o7 [inA 1,o6 true]),.no,.no,.av (.o7 [inA 1,o6 true])]++nK 17 []) [_,_] func14 ⟨h.w,h.p,Z⟩
theorem b4n{ws:aa1}(x y:Te)(h:GC ws [98,105,110,97,114,121,45,43] 2):l7 bQ [.dt (.row ws),y7 x8 [98,105,110,97,114,121,45,43],.dt (.row [C9 x,C9 y])] (.dt (.row [C9 (ap V6 [x]),C9 (ap V6 [y])])) :=
 pV [.av (.o7 [inA 2,o6 true]),.no,.no,.av (.o7 [inA 2,o6 true]),.no,.no,.no,.av (.dt (.row [C9 (ap V6 [x]),C9 (ap V6 [y])]))] [_,_,l7 42 [(stA [114,97,116,105,111,110,97,108,112]),(.pin [(.dt (.row [C9 x,C9 y]))])] (.dt (.row [C9 (ap V6 [x]),C9 (ap V6 [y])]))] func14 ⟨h.w,h.p,DV V6 x y,Z⟩
theorem b4o{ws:aa1}(x y:Te)(h:GC ws [98,105,110,97,114,121,45,42] 2):l7 bQ [.dt (.row ws),y7 x8 [98,105,110,97,114,121,45,42],.dt (.row [C9 x,C9 y])] (.dt (.row [C9 (ap V6 [x]),C9 (ap V6 [y])])) :=
 pV ([.av (.o7 [inA 2,o6 true]),.no,.no,.av (.o7 [inA 2,o6 true])]++nK 4 [.av (.dt (.row [C9 (ap V6 [x]),C9 (ap V6 [y])]))]) [_,_,l7 42 [(stA [114,97,116,105,111,110,97,108,112]),(.pin [(.dt (.row [C9 x,C9 y]))])] (.dt (.row [C9 (ap V6 [x]),C9 (ap V6 [y])]))] func14 ⟨h.w,h.p,DV V6 x y,Z⟩
theorem b4p{ws:aa1}(x:Te)(h:GC ws [117,110,97,114,121,45,45] 1):l7 bQ [.dt (.row ws),y7 x8 [117,110,97,114,121,45,45],.dt (.row [C9 x])] (.dt (.row [C9 (ap V6 [x])])) :=
 pV ([.av (.o7 [inA 1,o6 true]),.no,.no,.av (.o7 [inA 1,o6 true])]++nK 6 [.av (.dt (.row [C9 (ap V6 [x])]))]) [_,_,l7 42 [(stA [114,97,116,105,111,110,97,108,112]),(.pin [(.dt (.row [C9 x]))])] (.dt (.row [C9 (ap V6 [x])]))] func14 ⟨h.w,h.p,wY V6 x,Z⟩
theorem b4q{ws:aa1}(x:Te)(h:GC ws [117,110,97,114,121,45,47] 1):l7 bQ [.dt (.row ws),y7 x8 [117,110,97,114,121,45,47],.dt (.row [C9 x])] (.dt (.row [C9 (ap V6 [x]),C9 (ap O8 [ap eH [x,kT 0]])])) :=
 pV ([.av (.o7 [inA 1,o6 true]),.no,.no,.av (.o7 [inA 1,o6 true]),.av (.o7 [.un])]++nK 10 [.av (.o7 [.own 41 11,.dt (.row [C9 (ap V6 [x])])]),.no,.av (y9 (kT 0)),.av (y9 (ap eH [x,kT 0])),.av (y9 (ap O8 [ap eH [x,kT 0]])),.no]) [_,_,zy prog EX.G 42 ([AV.dt (Dt.val (Value.string { data:=#[114,97,116,105,111,110,97,108,112]:ByteArray }))]++[AV.pin (List.drop 0 [AV.dt (Dt.row [C9 x])])]) 41 11 [C9 (ap V6 [x])],l7 44 [(inA 0)] (.agg [(inA 2),(stA (kT 0).np),(stA (kT 0).nn),(inA 1),(stA (kT 0).val.num),(stA (kT 0).val.den),(stA (kT 0).val.sp),(stA (kT 0).val.sn),(stA (kT 0).val.text),(.dt (.row (List.map Ob.enc (kT 0).val.pair))),(.dt (.row (List.map Te.enc (kT 0).args)))]),l7 43 [(stA [101,113,117,97,108]),(.dt (.row [C9 x,[(.val (vi 2)),(.val (str (kT 0).np)),(.val (str (kT 0).nn)),(.val (vi 1)),(.val (str (kT 0).val.num)),(.val (str (kT 0).val.den)),(.val (str (kT 0).val.sp)),(.val (str (kT 0).val.sn)),(.val (str (kT 0).val.text)),(.row (List.map Ob.enc (kT 0).val.pair)),(.row (List.map Te.enc (kT 0).args))]]))] (y9 (ap eH [x,kT 0])),l7 43 [(stA [110,111,116]),(.dt (.row [C9 (ap eH [x,kT 0])]))] (y9 (ap O8 [ap eH [x,kT 0]])),2=2] func14 ⟨h.w,h.p,b4m V6 x,Jd O O,mg eH [x,kT 0] (xN x (kT 0)),jS O8 (ap eH [x,kT 0]),rfl,Z⟩
theorem b4r{ws:aa1}(x y:Te)(h:GC ws [60] 2):l7 bQ [.dt (.row ws),y7 x8 [60],.dt (.row [C9 x,C9 y])] (.dt (.row [C9 (ap V6 [x]),C9 (ap V6 [y])])) :=
 pV ([.av (.o7 [inA 2,o6 true]),.no,.no,.av (.o7 [inA 2,o6 true])]++nK 5 [.av (.dt (.row [C9 (ap V6 [x]),C9 (ap V6 [y])]))]) [_,_,l7 42 [(stA [114,97,116,105,111,110,97,108,112]),(.pin [(.dt (.row [C9 x,C9 y]))])] (.dt (.row [C9 (ap V6 [x]),C9 (ap V6 [y])]))] func14 ⟨h.w,h.p,DV V6 x y,Z⟩
theorem b4s{ws:aa1}(x:Te)(h:GC ws [110,117,109,101,114,97,116,111,114] 1):l7 bQ [.dt (.row ws),y7 x8 [110,117,109,101,114,97,116,111,114],.dt (.row [C9 x])] (.dt (.row [C9 (ap V6 [x])])) :=
 pV ([.av (.o7 [inA 1,o6 true]),.no,.no,.av (.o7 [inA 1,o6 true])]++nK 7 [.av (.dt (.row [C9 (ap V6 [x])]))]) [_,_,l7 42 [(stA [114,97,116,105,111,110,97,108,112]),(.pin [(.dt (.row [C9 x]))])] (.dt (.row [C9 (ap V6 [x])]))] func14 ⟨h.w,h.p,wY V6 x,Z⟩
theorem b4t{ws:aa1}(x:Te)(h:GC ws [100,101,110,111,109,105,110,97,116,111,114] 1):l7 bQ [.dt (.row ws),y7 x8 [100,101,110,111,109,105,110,97,116,111,114],.dt (.row [C9 x])] (.dt (.row [C9 (ap V6 [x])])) :=
 pV ([.av (.o7 [inA 1,o6 true]),.no,.no,.av (.o7 [inA 1,o6 true])]++nK 8 [.av (.dt (.row [C9 (ap V6 [x])]))]) [_,_,l7 42 [(stA [114,97,116,105,111,110,97,108,112]),(.pin [(.dt (.row [C9 x]))])] (.dt (.row [C9 (ap V6 [x])]))] func14 ⟨h.w,h.p,wY V6 x,Z⟩
theorem b4u{ws:aa1}(x:Te)(h:GC ws [102,108,111,111,114] 1):l7 bQ [.dt (.row ws),y7 x8 [102,108,111,111,114],.dt (.row [C9 x])] (.dt (.row [C9 (ap V6 [x])])) :=
 pV ([.av (.o7 [inA 1,o6 true]),.no,.no,.av (.o7 [inA 1,o6 true])]++nK 9 [.av (.dt (.row [C9 (ap V6 [x])]))]) [_,_,l7 42 [(stA [114,97,116,105,111,110,97,108,112]),(.pin [(.dt (.row [C9 x]))])] (.dt (.row [C9 (ap V6 [x])]))] func14 ⟨h.w,h.p,wY V6 x,Z⟩
theorem b4v{ws:aa1}(x:Te)(h:GC ws [115,121,109,98,111,108,45,110,97,109,101] 1):l7 bQ [.dt (.row ws),y7 x8 [115,121,109,98,111,108,45,110,97,109,101],.dt (.row [C9 x])] (.dt (.row [C9 (ap mQ [x])])) :=
 pV ([.av (.o7 [inA 1,o6 true]),.no,.no,.av (.o7 [inA 1,o6 true])]++nK 11 [.av (.dt (.row [C9 (ap mQ [x])]))]) [_,_,l7 42 [(stA [115,121,109,98,111,108,112]),(.pin [(.dt (.row [C9 x]))])] (.dt (.row [C9 (ap mQ [x])]))] func14 ⟨h.w,h.p,wY mQ x,Z⟩
theorem b4w{ws:aa1}(x:Te)(h:GC ws [115,121,109,98,111,108,45,112,97,99,107,97,103,101,45,110,97,109,101] 1):l7 bQ [.dt (.row ws),y7 x8 [115,121,109,98,111,108,45,112,97,99,107,97,103,101,45,110,97,109,101],.dt (.row [C9 x])] (.dt (.row [C9 (ap mQ [x])])) :=
 pV ([.av (.o7 [inA 1,o6 true]),.no,.no,.av (.o7 [inA 1,o6 true])]++nK 12 [.av (.dt (.row [C9 (ap mQ [x])]))]) [_,_,l7 42 [(stA [115,121,109,98,111,108,112]),(.pin [(.dt (.row [C9 x]))])] (.dt (.row [C9 (ap mQ [x])]))] func14 ⟨h.w,h.p,wY mQ x,Z⟩
theorem b4x{ws:aa1}(x y:Te)(h:GC ws [105,110,116,101,114,110] 2):l7 bQ [.dt (.row ws),y7 x8 [105,110,116,101,114,110],.dt (.row [C9 x,C9 y])] (.dt (.row [C9 (ap di [x]),C9 (ap di [y])])) :=
 pV ([.av (.o7 [inA 2,o6 true]),.no,.no,.av (.o7 [inA 2,o6 true])]++nK 13 [.av (.dt (.row [C9 (ap di [x]),C9 (ap di [y])]))]) [_,_,l7 42 [(stA [115,116,114,105,110,103,112]),(.pin [(.dt (.row [C9 x,C9 y]))])] (.dt (.row [C9 (ap di [x]),C9 (ap di [y])]))] func14 ⟨h.w,h.p,DV di x y,Z⟩
theorem b4y{ws:aa1}(x y:Te)(h:GC ws [115,116,114,105,110,103,45,97,112,112,101,110,100] 2):l7 bQ [.dt (.row ws),y7 x8 [115,116,114,105,110,103,45,97,112,112,101,110,100],.dt (.row [C9 x,C9 y])] (.dt (.row [C9 (ap di [x]),C9 (ap di [y])])) :=
 pV ([.av (.o7 [inA 2,o6 true]),.no,.no,.av (.o7 [inA 2,o6 true])]++nK 14 [.av (.dt (.row [C9 (ap di [x]),C9 (ap di [y])]))]) [_,_,l7 42 [(stA [115,116,114,105,110,103,112]),(.pin [(.dt (.row [C9 x,C9 y]))])] (.dt (.row [C9 (ap di [x]),C9 (ap di [y])]))] func14 ⟨h.w,h.p,DV di x y,Z⟩
theorem b4z{ws:aa1}(x:Te)(h:GC ws [115,116,114,105,110,103,45,108,101,110,103,116,104] 1):l7 bQ [.dt (.row ws),y7 x8 [115,116,114,105,110,103,45,108,101,110,103,116,104],.dt (.row [C9 x])] (.dt (.row [C9 (ap di [x])])) :=
 pV ([.av (.o7 [inA 1,o6 true]),.no,.no,.av (.o7 [inA 1,o6 true])]++nK 15 [.av (.dt (.row [C9 (ap di [x])]))]) [_,_,l7 42 [(stA [115,116,114,105,110,103,112]),(.pin [(.dt (.row [C9 x]))])] (.dt (.row [C9 (ap di [x])]))] func14 ⟨h.w,h.p,wY di x,Z⟩
theorem b4A{ws:aa1}(x y:Te)(h:GC ws [115,116,114,105,110,103,45,98,121,116,101] 2):l7 bQ [.dt (.row ws),y7 x8 [115,116,114,105,110,103,45,98,121,116,101],.dt (.row [C9 x,C9 y])] (.dt (.row [C9 (ap di [x]),C9 (ap lG [y]),C9 (ap O8 [ap aV [y,kT 0]]),C9 (ap aV [y,ap lH [x]])])) :=
 pV ([.av (.o7 [inA 2,o6 true]),.no,.no,.av (.o7 [inA 2,o6 true])]++nK 17 [.av (y9 (ap di [x])),.no,.av (y9 (ap lG [y])),.no,.av (y9 (kT 0)),.av (y9 (ap aV [y,kT 0])),.av (y9 (ap O8 [ap aV [y,kT 0]])),.no,.no,.av (y9 (ap lH [x])),.av (y9 (ap aV [y,ap lH [x]]))]) [_,_,l7 43 [(stA [115,116,114,105,110,103,112]),(.dt (.row [C9 x]))] (y9 (ap di [x])),l7 43 [(stA [105,110,116,101,103,101,114,112]),(.dt (.row [C9 y]))] (y9 (ap lG [y])),l7 44 [(inA 0)] (.agg [(inA 2),(stA (kT 0).np),(stA (kT 0).nn),(inA 1),(stA (kT 0).val.num),(stA (kT 0).val.den),(stA (kT 0).val.sp),(stA (kT 0).val.sn),(stA (kT 0).val.text),(.dt (.row (List.map Ob.enc (kT 0).val.pair))),(.dt (.row (List.map Te.enc (kT 0).args)))]),l7 43 [(stA [60]),(.dt (.row [C9 y,[(.val (vi 2)),(.val (str (kT 0).np)),(.val (str (kT 0).nn)),(.val (vi 1)),(.val (str (kT 0).val.num)),(.val (str (kT 0).val.den)),(.val (str (kT 0).val.sp)),(.val (str (kT 0).val.sn)),(.val (str (kT 0).val.text)),(.row (List.map Ob.enc (kT 0).val.pair)),(.row (List.map Te.enc (kT 0).args))]]))] (y9 (ap aV [y,kT 0])),l7 43 [(stA [110,111,116]),(.dt (.row [C9 (ap aV [y,kT 0])]))] (y9 (ap O8 [ap aV [y,kT 0]])),l7 43 [(stA [115,116,114,105,110,103,45,108,101,110,103,116,104]),(.dt (.row [C9 x]))] (y9 (ap lH [x])),l7 43 [(stA [60]),(.dt (.row [C9 y,C9 (ap lH [x])]))] (y9 (ap aV [y,ap lH [x]]))] func14 ⟨h.w,h.p,jS di x,jS lG y,Jd O O,mg aV [y,kT 0] (xN y (kT 0)),jS O8 (ap aV [y,kT 0]),jS lH x,mg aV [y,ap lH [x]] (xN y (ap lH [x])),Z⟩
theorem b4B{ws:aa1}(x:Te)(h:GC ws [98,121,116,101,45,115,116,114,105,110,103] 1):l7 bQ [.dt (.row ws),y7 x8 [98,121,116,101,45,115,116,114,105,110,103],.dt (.row [C9 x])] (.dt (.row [C9 (ap lG [x]),C9 (ap O8 [ap aV [x,kT 0]]),C9 (ap aV [x,kT 256])])) :=
 pV ([.av (.o7 [inA 1,o6 true]),.no,.no,.av (.o7 [inA 1,o6 true])]++nK 18 [.av (y9 (ap lG [x])),.no,.av (y9 (kT 0)),.av (y9 (ap aV [x,kT 0])),.av (y9 (ap O8 [ap aV [x,kT 0]])),.no,.av (y9 (kT 256)),.av (y9 (ap aV [x,kT 256]))]) [_,_,l7 43 [(stA [105,110,116,101,103,101,114,112]),(.dt (.row [C9 x]))] (y9 (ap lG [x])),l7 44 [(inA 0)] (.agg [(inA 2),(stA (kT 0).np),(stA (kT 0).nn),(inA 1),(stA (kT 0).val.num),(stA (kT 0).val.den),(stA (kT 0).val.sp),(stA (kT 0).val.sn),(stA (kT 0).val.text),(.dt (.row (List.map Ob.enc (kT 0).val.pair))),(.dt (.row (List.map Te.enc (kT 0).args)))]),l7 43 [(stA [60]),(.dt (.row [C9 x,[(.val (vi 2)),(.val (str (kT 0).np)),(.val (str (kT 0).nn)),(.val (vi 1)),(.val (str (kT 0).val.num)),(.val (str (kT 0).val.den)),(.val (str (kT 0).val.sp)),(.val (str (kT 0).val.sn)),(.val (str (kT 0).val.text)),(.row (List.map Ob.enc (kT 0).val.pair)),(.row (List.map Te.enc (kT 0).args))]]))] (y9 (ap aV [x,kT 0])),l7 43 [(stA [110,111,116]),(.dt (.row [C9 (ap aV [x,kT 0])]))] (y9 (ap O8 [ap aV [x,kT 0]])),l7 44 [(inA 256)] (.agg [(inA 2),(stA (kT 256).np),(stA (kT 256).nn),(inA 1),(stA (kT 256).val.num),(stA (kT 256).val.den),(stA (kT 256).val.sp),(stA (kT 256).val.sn),(stA (kT 256).val.text),(.dt (.row (List.map Ob.enc (kT 256).val.pair))),(.dt (.row (List.map Te.enc (kT 256).args)))]),l7 43 [(stA [60]),(.dt (.row [C9 x,[(.val (vi 2)),(.val (str (kT 256).np)),(.val (str (kT 256).nn)),(.val (vi 1)),(.val (str (kT 256).val.num)),(.val (str (kT 256).val.den)),(.val (str (kT 256).val.sp)),(.val (str (kT 256).val.sn)),(.val (str (kT 256).val.text)),(.row (List.map Ob.enc (kT 256).val.pair)),(.row (List.map Te.enc (kT 256).args))]]))] (y9 (ap aV [x,kT 256]))] func14 ⟨h.w,h.p,jS lG x,Jd O O,mg aV [x,kT 0] (xN x (kT 0)),jS O8 (ap aV [x,kT 0]),Jd O O,mg aV [x,kT 256] (xN x (kT 256)),Z⟩
theorem b2h{ws:aa1}:∀{i:Nat} {s:aa0} {a:Nat} {l:List Te},I7[i]?=some (s,a)→GC ws s a→l.length=a→l7 bQ [.dt (.row ws),y7 x8 s,O3 l] (O3 (cnd i l)):=by
 intro i s a l h hg ha;have hi:i < 25:=(Pi.1 h).1
 match i,hi with
 |0,_=>cases h;obtain⟨x,y,z,rfl⟩:=Kw ha;have k:=b6e x y z hg;rw[V7,V7];exact k
 |1,_=>cases h;obtain⟨x,y,rfl⟩:=uZ ha;have k:=b6f x y hg;rw[V7,V7];exact k
 |2,_=>cases h;obtain⟨x,y,rfl⟩:=uZ ha;have k:=b6g x y hg;rw[V7,V7];exact k
 |3,_=>cases h;obtain⟨x,rfl⟩:=len1 ha;have k:=b6h x hg;rw[V7,V7];exact k
 |4,_=>cases h;obtain⟨x,rfl⟩:=len1 ha;have k:=b6i x hg;rw[V7,V7];exact k
 |5,_=>cases h;obtain⟨x,rfl⟩:=len1 ha;have k:=b6j x hg;rw[V7,V7];exact k
 |6,_=>cases h;obtain⟨x,rfl⟩:=len1 ha;have k:=b6k x hg;rw[V7,V7];exact k
 |7,_=>cases h;obtain⟨x,rfl⟩:=len1 ha;have k:=b6l x hg;rw[V7,V7];exact k
 |8,_=>cases h;obtain⟨x,rfl⟩:=len1 ha;have k:=b6m x hg;rw[V7,V7];exact k
 |9,_=>cases h;obtain⟨x,rfl⟩:=len1 ha;have k:=b6n x hg;rw[V7,V7];exact k
 |10,_=>cases h;obtain⟨x,y,rfl⟩:=uZ ha;have k:=b4n x y hg;rw[V7,V7];exact k
 |11,_=>cases h;obtain⟨x,y,rfl⟩:=uZ ha;have k:=b4o x y hg;rw[V7,V7];exact k
 |12,_=>cases h;obtain⟨x,rfl⟩:=len1 ha;have k:=b4p x hg;rw[V7,V7];exact k
 |13,_=>cases h;obtain⟨x,rfl⟩:=len1 ha;have k:=b4q x hg;rw[V7,V7];exact k
 |14,_=>cases h;obtain⟨x,y,rfl⟩:=uZ ha;have k:=b4r x y hg;rw[V7,V7];exact k
 |15,_=>cases h;obtain⟨x,rfl⟩:=len1 ha;have k:=b4s x hg;rw[V7,V7];exact k
 |16,_=>cases h;obtain⟨x,rfl⟩:=len1 ha;have k:=b4t x hg;rw[V7,V7];exact k
 |17,_=>cases h;obtain⟨x,rfl⟩:=len1 ha;have k:=b4u x hg;rw[V7,V7];exact k
 |18,_=>cases h;obtain⟨x,rfl⟩:=len1 ha;have k:=b4v x hg;rw[V7,V7];exact k
 |19,_=>cases h;obtain⟨x,rfl⟩:=len1 ha;have k:=b4w x hg;rw[V7,V7];exact k
 |20,_=>cases h;obtain⟨x,y,rfl⟩:=uZ ha;have k:=b4x x y hg;rw[V7,V7];exact k
 |21,_=>cases h;obtain⟨x,y,rfl⟩:=uZ ha;have k:=b4y x y hg;rw[V7,V7];exact k
 |22,_=>cases h;obtain⟨x,rfl⟩:=len1 ha;have k:=b4z x hg;rw[V7,V7];exact k
 |23,_=>cases h;obtain⟨x,y,rfl⟩:=uZ ha;have k:=b4A x y hg;rw[V7,V7];exact k
 |24,_=>cases h;obtain⟨x,rfl⟩:=len1 ha;have k:=b4B x hg;rw[V7,V7];exact k
end Go.Proofs.YthhknjlmjefklaaGreatDoor
namespace Go.Proofs.YthhknjlmjefklaaGreatDoor
open Go.Proofs.Tryz
open Go.RowKit
theorem D7.b8T{E:En}{c:Code}{s s':AS}{e:AE}(t b:Nat){T:TypeId}{kk:Nat}{es:aa1}(htl:t < s.tm.length)(hb:s.bx[b]?=some (some (.buf T kk es)))(ht:s.J8 t=.own b es.length)(h:D7 E c ⟨s.tm.set t (.dt (.row es)),s.bx.set b (some (.ay es))⟩ e s'):D7 E c s e s':=by
 obtain⟨h1,h2⟩:=h;have hlen:(s.tm.set t (.dt (.row es))).length=s.tm.length:=List.length_set ..;refine⟨h1.trans hlen,fun X n0 w0 ok0 a w hG ⟨M,hI⟩=>?_⟩;have hbl:b < s.bx.length:=(Pi.1 hb).1;have hbf:s.G5 b=some (.buf T kk es):=by unfold AS.G5;rw[hb]
 obtain⟨M',g,hS,hm,ho,hF⟩:=hI.J4.Fh hbf;have e1:(AS.mk (s.tm.set t (.dt (.row es))) (s.bx.set b (some (.ay es)))).J8=fun i=>if i=t then .dt (.row es) else s.J8 i:=by
  funext i;unfold AS.J8;by_cases hi:i=t
  ·subst hi;simp[List.getD_eq_getElem?_getD,htl]
  ·simp[List.getD_eq_getElem?_getD,ZaR hi,hi]
 have e2:(AS.mk (s.tm.set t (.dt (.row es))) (s.bx.set b (some (.ay es)))).G5=aJ s.G5 b (.ay es):=by
  funext k;unfold AS.G5;by_cases hk:k=b
  ·subst hk;simp[hbl]
  ·simp only[lw hk];rw[List.getElem?_set_ne (ZaR hk)]
 have hL:Left X n0 w0 ok0 (AS.mk (s.tm.set t (.dt (.row es))) (s.bx.set b (some (.ay es)))).tm.length (AS.mk (s.tm.set t (.dt (.row es))) (s.bx.set b (some (.ay es)))).J8 (AS.mk (s.tm.set t (.dt (.row es))) (s.bx.set b (some (.ay es)))).G5 a w:=by
  rw[e1,e2,show (AS.mk (s.tm.set t (.dt (.row es))) (s.bx.set b (some (.ay es)))).tm.length=s.tm.length from hlen]
  refine⟨M',hI.below,hI.le,hI.defers,hI.size,fun i=>?_,hS,fun q hq hl=>?_,hI.kL.trans g⟩
  ·by_cases hi:i=t
   ·subst hi;have hv:=hI.tmps i;rw[ht]at hv;obtain⟨A,c1,A',n',c',hv1,hv2,hv3,hv4⟩:=hv;obtain⟨A2,n2,c2,k1,k2⟩:=hS.box b (.ay es) (Za0 rfl);rw[ho,hv2]at k1;cases k1;have hn:=k2.len;obtain⟨rfl,rfl⟩:=hv4 hn;show RV _ _ (if i=i then _ else _) _;rw[Za0 rfl,hv1,hn];exact k2
   ·show RV _ _ (if i=t then _ else _) _;rw[lw hi];exact RV.go g _ _ (hI.tmps i)
  ·rcases hF q hq with e | e | e
   ·exact hI.src q e hl
   ·omega
   ·exact .inr e
 have:=h2 X n0 w0 ok0 a w hG hL;rw[show (AS.mk (s.tm.set t (.dt (.row es))) (s.bx.set b (some (.ay es)))).tm.length=s.tm.length from hlen]at this
 exact this
theorem bP.a2U{P:Program}{G:World→Prop}{f:FuncId}{args:List AV}{a b b':AV}{T:TypeId}{kk:Nat}{r:AV}{xs':List (Option Bx)}(hbb:∀M w v,RV M w b v→RV M w b' v)(h:bP P G f args [some (.cells [a,b',.own 1 0]),some (.buf T kk [])] r xs'):bP P G f args [some (.cells [a,b,.nil])] r xs':=by
 refine⟨h.1,fun X M w vs hG hS hargs=>?_⟩;have hk:lk [some (.cells [a,b,.nil])] 1=none:=rfl;have g:U1 X w.heap.size M w (M.aS 1) w:=Io hS hk;have hS2:=Oy hS (NE _) hk T kk;have hb0:aJ (lk [some (.cells [a,b,.nil])]) 1 (.buf T kk []) 0=some (.cells [a,b,.nil]):=rfl;have far:∀q,aJ (lk [some (.cells [a,b,.nil])]) 1 (.buf T kk []) (q+2)=none:=fun q=>by
  show (if q+2=1 then _ else _)=_;rw[lw J];rfl
 have e0:∀q x,q≠0→lk [some (.cells [a,b',.own 1 0]),some (.buf T kk [])] q=some x→aJ (lk [some (.cells [a,b,.nil])]) 1 (.buf T kk []) q=some x:=by
  intro q x hq hx
  match q,hq with
  |1,_=>exact hx
  |q+2,_=>simp[lk]at hx
 have old:∀q x p,lk [some (.cells [a,b',.own 1 0]),some (.buf T kk [])] q=some x→Hx (M.aS 1) q x p→∃y,aJ (lk [some (.cells [a,b,.nil])]) 1 (.buf T kk []) q=some y∧Hx (M.aS 1) q y p:=by
  intro q x p hx hp;by_cases hq:q=0
  ·subst hq;cases hx;exact⟨_,hb0,hp⟩
  ·exact⟨x,e0 q x hq hx,hp⟩
 have hS3:aG X w.heap.size (M.aS 1) (lk [some (.cells [a,b',.own 1 0]),some (.buf T kk [])]) w:=by
  refine⟨fun q x hx=>?_,fun q x p hx hp=>?_,fun q q' x x' p h1 h2 h3 h4=>?_,fun q p hp=>?_,fun q v hv=>?_,hS2.fz⟩
  ·by_cases hq:q=0
   ·subst hq;cases hx;obtain⟨gg,T',us,k1,k2,u,Ui,rfl,k3,u2,us2,rfl,k4,u3,us3,rfl,k5,k6⟩:=hS2.box 0 _ hb0;exact⟨gg,T',_,k1,k2,u,_,rfl,k3,u2,_,rfl,hbb _ _ _ k4,u3,us3,rfl,⟨none,0,none,0,0,k5,M.Il 1,NE _,fun _=>⟨rfl,rfl⟩⟩,k6⟩
   ·exact hS2.box q x (e0 q x hq hx)
  ·obtain⟨y,h1,h2⟩:=old q x p hx hp;exact hS2.dom q y p h1 h2
  ·obtain⟨y,k1,k2⟩:=old q x p h1 h3;obtain⟨y',k1',k2'⟩:=old q' x' p h2 h4;exact hS2.inj q q' y y' p k1 k1' k2 k2'
  ·obtain⟨x,h1,h2⟩:=hS2.hm q p hp
   match q,h1 with
   |0,_=>exact⟨_,rfl,rfl⟩
   |1,h1=>exact⟨x,h1,h2⟩
   |q+2,h1=>rw[far q]at h1;cases h1
  ·have h1:=hS2.ho q v hv
   match q,h1 with
   |0,_=>rfl
   |1,_=>rfl
   |q+2,h1=>rw[far q]at h1;cases h1
 refine (h.2 X (M.aS 1) w vs hG hS3 (RL.go g _ _ hargs)).mono fun e w' ⟨v,M',h1,h2,h3,h4,h5⟩=>⟨v,M',h1,g.trans h2,h3,fun q hq=>h4 q hq,h5⟩
end Go.Proofs.YthhknjlmjefklaaGreatDoor
namespace Go.Proofs.YthhknjlmjefklaaGreatDoor
open Go.Proofs.Tryz
open Go.RowKit
open Te
abbrev Ky:FuncId:=95
theorem b2i:F7 Ky [.dt (.row [])] [] (.own 0 0) [some (.buf 41 11 [])] :=
 .empty (fun c=>.b26 (sW 0 [] [yT] [] [Bn .eql 39 (.tmp 3) (.const (Value.slice none 0 0)) (Value.slice none 0 c) (Value.slice none 0 0) bT] func95 ⟨YQ (e:=41) (by kernel_rfl),Z⟩))
  fun A c=>sW 0 [0] [yF,.no] [] [Bn .eql 39 (.tmp 3) (.const (Value.slice none 0 0)) (Value.slice (some A) 0 c) (Value.slice none 0 0) bF,_] func95 ⟨YQ (e:=41) (by kernel_rfl),a1B,Z⟩
theorem b4C{es:aa1}(h0:es≠[])(hl:es.length≤1000)(hs:S9 11 es):F7 Ky [.dt (.row es)] [] (.own 0 es.length) [some (.buf 41 11 es)] :=
 sW 0 [0] [.no,.av (.un)] [] [_,_,0=0,X8 176 (([]++es).length),_] func95 ⟨h0,a1B,rfl,ig J (by rw[List.nil_append];omega),hs,Z⟩
theorem b4D{l:List Te}(hl:l.length≤1000):F7 Ky [O3 l] [] (.own 0 (l.map Te.enc).length) [some (.buf 41 11 (l.map Te.enc))]:=by
 cases l with
 |nil=>exact b2i
 |cons x r=>exact b4C (es:=(x::r).map Te.enc) I (by rw[EQ];exact hl) (IU _)
theorem b4E{x:Te}(hx:x.Wf)(y:Te):l7 97 [y9 y,.pin ((C9 x).map .dt)] (o6 (sameD x y)) :=
 pV [.av (o6 (sameD x y))] [l7 76 [(y9 x),(y9 y)] (o6 (sameD x y))] func97 ⟨a1z hx y,Z⟩
theorem a0H{x:Te}{out:List Te}(hx:x.Wf)(hl:out.length≤1000):l7 96 [O3 out,.ak 97 [.pin ((C9 x).map .dt)]] (o6 (decide (x∈out))):=by
 have h:=a8t (c:=out) (f:=97) (cs:=[.pin ((C9 x).map .dt)]) (p:=fun y=>sameD x y) J (fun y _=>b4E hx y);have e:(out.any fun y=>sameD x y)=decide (x∈out):=by
  rw[Bool.eq_iff_iff,List.any_eq_true,decide_eq_true_iff];exact⟨fun⟨y,h1,h2⟩=>by rw[Zad h2];exact h1,fun h=>⟨x,h,UV rfl⟩⟩
 rw[←e];exact h
abbrev oL:FuncId:=58
abbrev dM(ws:aa1)(hd:List Te)(cs:aa1):List (Option Bx):=[some (.cells [.dt (.row ws),O3 hd,.own 1 cs.length]),some (.buf 81 1 cs)]
abbrev tN(ws:aa1)(hd ts C:List Te)(cs:aa1)(c:Te)(j:Int)(es:aa1)(i:Int):AS:=⟨stt 138 [(0,.ptr 0 0),(2,O3 ts),(9,.ptr 2 0),(10,.own 3 es.length),(86,O3 C),(87,inA C.length),(88,inA j),(97,O3 ts),(98,inA ts.length),(99,inA i)],dM ws hd cs++[some (.cells ((C9 c).map .dt)),some (.buf 41 11 es)]⟩
noncomputable abbrev LQ:Code:=V5 (ai f58) [1,1,1,1,1,0,0,1,1,0,0,1,1,0,1,0,0]
theorem b8U{ws:aa1}{hd ts C:List Te}{cs:aa1}{c x:Te}{j:Int}{es:aa1}{i:Nat}(hx:ts[i]?=some x)(hl:ts.length≤1000)(he:es.length≤5000):D7 (H9 2) LQ (tN ws hd ts C cs c j es i) .I4 (tN ws hd ts C cs c j (es++[C9 (neg x)]) ((i+1:Nat):Int)) :=
 have hi:=(Pi.1 hx).1
 tW [yT,.av (.pin ((C9 x).map .dt)),.av (y9 (neg x)),.av (.un),.av (inA ((i+1:Nat):Int))] [] [0,2,9,10,86,87,88,97,98,99] 4 [Bt .lss 3 99 98 ↑i ↑ts.length bT,E5 (List.map Te.enc ts) ↑i 11 (C9 x),l7 57 [(y9 x)] (y9 x.neg),(es.length)=(es.length),X8 176 ((es++[[Dt.val (vi x.neg.kind),Dt.val (str x.neg.np),Dt.val (str x.neg.nn),Dt.val (vi x.neg.val.kind),Dt.val (str x.neg.val.num),Dt.val (str x.neg.val.den),Dt.val (str x.neg.val.sp),Dt.val (str x.neg.val.sn),Dt.val (str x.neg.val.text),Dt.row (List.map Ob.enc x.neg.val.pair),Dt.row (List.map Te.enc x.neg.args)]]).length),S9 11 [C9 x.neg],Bk .add 3 99 1 ↑i (vi (↑(i+1)))] ⟨F8 (UV J),Y9 hx,a0G x,rfl,ig J (by simp;omega),Dj _,N8 J J J,Z⟩
theorem b8V{ws:aa1}{hd ts C:List Te}{cs:aa1}{c:Te}{j:Int}{es:aa1}{i:Nat}(hi:i=ts.length):D7 (H9 2) LQ (tN ws hd ts C cs c j es i) (.out 4) (tN ws hd ts C cs c j es i) :=
 tW [yF] [] [0,2,9,10,86,87,88,97,98,99] 4 [Bt .lss 3 99 98 ↑i ↑ts.length bF] ⟨F8 (WF J),Z⟩
theorem b2j{ws:aa1}{hd ts C:List Te}{cs:aa1}{c:Te}{j:Int}(hl:ts.length≤1000):∀(q:List Te) (i:Nat) (es:aa1),ts.drop i=q→i≤ts.length→es.length≤1000+i→Lps (H9 2) LQ (tN ws hd ts C cs c j es i) (.out 4) (tN ws hd ts C cs c j (es++(q.map neg).map Te.enc) ts.length):=by
 intro q
 induction q with
 |nil =>
  intro i es hd hi he;have e1:=congrArg List.length hd;rw[Za7,List.length_nil]at e1;obtain rfl:i=ts.length:=J;rw[Zb4,Zb4,ZaI];exact .stop (b8V rfl) (fun h=>by cases h)
 |cons x q ih =>
  intro i es hd hi he;have hx:ts[i]?=some x:=by rw[←Zak,hd];rfl
  have hlt:=(Pi.1 hx).1;have:=ih (i+1) (es++[C9 (neg x)]) (by rw[←Zaj,hd];rfl) hlt (by simp;omega);rw[Zah]at this;have e:[C9 (neg x)]++(q.map neg).map Te.enc=((x::q).map neg).map Te.enc:=by rw[oH];rfl
  rw[e]at this;exact .more (b8U hx hl J) this
abbrev oV(ws:aa1)(hd ts C:List Te)(cs:aa1)(c:Te)(j:Int)(E out:List Te)(i:Int):AS:=⟨stt 138 [(0,.ptr 0 0),(2,O3 ts),(13,.own 4 out.length),(86,O3 C),(87,inA C.length),(88,inA j),(112,O3 E),(113,inA E.length),(114,inA i)],dM ws hd cs++[some (.cells ((C9 c).map .dt)),some (.ay (E.map Te.enc)),some (.buf 41 11 (out.map Te.enc))]⟩
noncomputable abbrev BF:Code:=V5 (ai f58) [1,1,1,1,1,0,0,1,1,0,0,1,1,1,1,0,1,0,0]
theorem b8W{ws:aa1}{hd ts C:List Te}{cs:aa1}{c x:Te}{j:Int}{E out:List Te}{i:Nat}(hx:E[i]?=some x)(hl:E.length≤5000)(ho:out.length≤1000)(hw:x.Wf)(hm:x∈out):D7 (H9 2) BF (oV ws hd ts C cs c j E out i) .I4 (oV ws hd ts C cs c j E out ((i+1:Nat):Int)) :=
 have hi:=(Pi.1 hx).1
 tW [yT,.av (.pin ((C9 x).map .dt)),yT,.av (inA ((i+1:Nat):Int))] [] [0,2,13,86,87,88,112,113,114] 5 [Bt .lss 3 114 113 ↑i ↑E.length bT,E5 (List.map Te.enc E) ↑i 11 (C9 x),l7 96 [(.dt (.row (List.map Te.enc out))),(.ak 97 [(.pin ((C9 x).map .dt))])] (o6 true),((List.map Te.enc out).length)=(out.length),Bk .add 3 114 1 ↑i (vi (↑(i+1)))] ⟨F8 (UV J),Y9 hx,(a0H hw ho).b (UV hm),EQ ..,N8 J J J,Z⟩
theorem b8X{ws:aa1}{hd ts C:List Te}{cs:aa1}{c x:Te}{j:Int}{E out:List Te}{i:Nat}(hx:E[i]?=some x)(hl:E.length≤5000)(ho:out.length≤1000)(hw:x.Wf)(hm:x ∉ out):D7 (H9 2) BF (oV ws hd ts C cs c j E out i) .I4 (oV ws hd ts C cs c j E (out++[x]) ((i+1:Nat):Int)):=by
 have hi:=(Pi.1 hx).1;have h:D7 (H9 2) BF (oV ws hd ts C cs c j E out i) .I4 ⟨stt 138 [(0,.ptr 0 0),(2,O3 ts),(13,.own 4 (out.map Te.enc++[C9 x]).length),(86,O3 C),(87,inA C.length),(88,inA j),(112,O3 E),(113,inA E.length),(114,inA ((i+1:Nat):Int))],dM ws hd cs++[some (.cells ((C9 c).map .dt)),some (.ay (E.map Te.enc)),some (.buf 41 11 (out.map Te.enc++[C9 x]))]⟩ :=
  tW [yT,.av (.pin ((C9 x).map .dt)),yF,.av (.un),.av (inA ((i+1:Nat):Int))] [] [0,2,13,86,87,88,112,113,114] 5 [Bt .lss 3 114 113 ↑i ↑E.length bT,E5 (List.map Te.enc E) ↑i 11 (C9 x),l7 96 [(.dt (.row (List.map Te.enc out))),(.ak 97 [(.pin ((C9 x).map .dt))])] (o6 false),((List.map Te.enc out).length)=(out.length),((List.map Te.enc out).length)=(out.length),X8 176 ((List.map Te.enc out++[C9 x]).length),S9 11 [C9 x],Bk .add 3 114 1 ↑i (vi (↑(i+1)))] ⟨F8 (UV J),Y9 hx,(a0H hw ho).b (WF hm),EQ ..,EQ ..,ig J (by simp;omega),Dj _,N8 J J J,Z⟩
 have e:out.map Te.enc++[C9 x]=(out++[x]).map Te.enc:=CW out x;rw[e,EQ]at h;exact h
theorem b8Y{ws:aa1}{hd ts C:List Te}{cs:aa1}{c:Te}{j:Int}{E out:List Te}{i:Nat}(hi:i=E.length):D7 (H9 2) BF (oV ws hd ts C cs c j E out i) (.out 6) (oV ws hd ts C cs c j E out i) :=
 tW [yF] [] [0,2,13,86,87,88,112,113,114] 5 [Bt .lss 3 114 113 ↑i ↑E.length bF] ⟨F8 (WF J),Z⟩
theorem b2k{ws:aa1}{hd ts C:List Te}{cs:aa1}{c:Te}{j:Int}{E:List Te}(hl:E.length≤900)(hw:∀x∈E,x.Wf):∀(q:List Te) (i:Nat) (out:List Te),E.drop i=q→i≤E.length→out.length≤i→Lps (H9 2) BF (oV ws hd ts C cs c j E out i) (.out 6) (oV ws hd ts C cs c j E (addN out q) E.length):=by
 intro q
 induction q with
 |nil =>
  intro i out hd hi ho;have e1:=congrArg List.length hd;rw[Za7,List.length_nil]at e1;obtain rfl:i=E.length:=J;exact .stop (b8Y rfl) (fun h=>by cases h)
 |cons x q ih =>
  intro i out hd hi ho;have hx:E[i]?=some x:=by rw[←Zak,hd];rfl
  have hlt:=(Pi.1 hx).1;have hw1:=hw x (Za5 hx);rw[addN];by_cases hm:x∈out
  ·rw[Za0 hm];exact .more (b8W hx J J hw1 hm) (ih (i+1) out (by rw[←Zaj,hd];rfl) hlt J)
  ·rw[lw hm];exact .more (b8X hx J J hw1 hm) (ih (i+1) (out++[x]) (by rw[←Zaj,hd];rfl) hlt (by simp;omega))
abbrev nC(ws:aa1)(hd ts C:List Te)(cs:aa1)(i:Int):AS:=⟨stt 138 [(0,.ptr 0 0),(2,O3 ts),(86,O3 C),(87,inA C.length),(88,inA i)],dM ws hd cs⟩
noncomputable abbrev Gf:Code:=V5 (ai f58) [1,1,1,1,1,0,0]
abbrev vd0(ws:aa1)(hd ts C:List Te)(cs:aa1)(c:Te)(j m:Int)(es:aa1):AS:=⟨stt 138 [(0,.ptr 0 0),(2,O3 ts),(13,.nil),(86,O3 C),(87,inA C.length),(88,inA j),(112,.own 3 es.length),(113,inA m),(114,inA 0)],dM ws hd cs++[some (.cells ((C9 c).map .dt)),some (.buf 41 11 es)]⟩
theorem b8Z{ws:aa1}{hd ts C E out:List Te}{cs es:aa1}{c:Te}{i m:Nat}{k k2:Int}(hx:C[i]?=some c)(hC:C.length≤1000)(hcs:cs.length≤100000)(hes:es.length≤3000)(hm:m=es.length+1)(hh:F7 Ky [O3 hd] [] (.own 0 (hd.map Te.enc).length) [some (.buf 41 11 (hd.map Te.enc))])
  (h3:D7 (H9 2) (.loop LQ) (tN ws hd ts C cs c i (hd.map Te.enc) 0) (.out 4) (tN ws hd ts C cs c i es k)) (h4:D7 (H9 2) (.loop BF) (vd0 ws hd ts C cs c i m (es++[C9 c])) (.out 6) (oV ws hd ts C cs c i E out k2)):D7 (H9 2) Gf (nC ws hd ts C cs i) .I4 (nC ws hd ts C (cs++[df out]) ((i+1:Nat):Int)) :=
 have hi:=(Pi.1 hx).1
 tW [yT,.av (.pin ((C9 c).map .dt)),.av (inA ts.length),.av (.un),.av (inA m),.av (.un),.av (inA ((i+1:Nat):Int))] [.P5 14 4 [] (.own 0 (hd.map Te.enc).length) [some (.buf 41 11 (hd.map Te.enc))],.inv [0,2,9,10,86,87,88,97,98,99] 4 (.out 4) (tN ws hd ts C cs c i es k),.inv [0,2,13,86,87,88,112,113,114] 4 (.out 6) (oV ws hd ts C cs c i E out k2)] [0,2,86,87,88] 2 [Bt .lss 3 88 87 ↑i ↑C.length bT,E5 (List.map Te.enc C) ↑i 11 (C9 c),_,(vi ↑ts.length)=(vi (↑(List.map Te.enc ts).length)),_,(es.length)=(es.length),X8 176 ((es++[C9 c]).length),S9 11 [C9 c],(vi ↑m)=(vi (↑(es++[C9 c]).length)),_,((List.map Te.enc out).length)=(out.length),(cs.length)=(cs.length),X8 24 ((cs++[[Dt.row (List.map Te.enc out)]]).length),S9 1 [[(.row (List.map Te.enc out))]],Bk .add 3 88 1 ↑i (vi (↑(i+1)))] ⟨F8 (UV J),Y9 hx,hh,O6 _,h3,rfl,ig J (by simp;omega),Dj c,congrArg vi (by rw[hm];simp),h4,EQ ..,rfl,ig J (by simp;omega),b5b _,N8 J J J,Z⟩
theorem b80{ws:aa1}{hd ts C:List Te}{cs:aa1}{i:Nat}(hi:i=C.length):D7 (H9 2) Gf (nC ws hd ts C cs i) (.out 2) (nC ws hd ts C cs i) :=
 tW [yF] [] [0,2,86,87,88] 2 [Bt .lss 3 88 87 ↑i ↑C.length bF] ⟨F8 (WF J),Z⟩
theorem b2l{ws:aa1}{hd ts C:List Te}(hC:C.length≤100)(hhd:∀x∈hd,x.Wf)(hts:∀x∈ts,(neg x).Wf)(hCw:∀x∈C,x.Wf)(hl1:hd.length≤100)(hl2:ts.length≤600):∀(q:List Te) (i:Nat) (cs:aa1),C.drop i=q→i≤C.length→cs.length≤50000+i→Lps (H9 2) Gf (nC ws hd ts C cs i) (.out 2) (nC ws hd ts C (cs++(q.map fun c=>addN [] (hd++ts.map neg++[c])).map df) C.length):=by
 intro q
 induction q with
 |nil =>
  intro i cs hd' hi hcs;have e1:=congrArg List.length hd';rw[Za7,List.length_nil]at e1;obtain rfl:i=C.length:=J;rw[Zb4,Zb4,ZaI];exact .stop (b80 rfl) (fun h=>by cases h)
 |cons c q ih =>
  intro i cs hd' hi hcs;have hx:C[i]?=some c:=by rw[←Zak,hd'];rfl
  have hlt:=(Pi.1 hx).1;have k:=ih (i+1) (cs++[df (addN [] (hd++ts.map neg++[c]))]) (by rw[←Zaj,hd'];rfl) hlt (by simp;omega);rw[Zah cs]at k;refine .more ?_ k;have h3:=(b2j (ws:=ws) (hd:=hd) (ts:=ts) (C:=C) (cs:=cs) (c:=c) (j:=(i:Int)) J ts 0 (hd.map Te.enc) rfl (ww _) (by rw[EQ];omega)).tri;have e:(hd.map Te.enc++(ts.map neg).map Te.enc)++[C9 c]=(hd++ts.map neg++[c]).map Te.enc:=by rw[ZaL,ZaL,oH]
  have hE:∀x∈hd++ts.map neg++[c],x.Wf:=fun x hx'=>by
   rcases ZaA.1 hx' with h | h
   ·rcases ZaA.1 h with h | h
    ·exact hhd x h
    ·obtain⟨y,hy,rfl⟩:=List.mem_map.1 h;exact hts y hy
   ·rw[ut]at h;subst h;exact hCw x (Za5 hx)
  have h4:=(b2k (ws:=ws) (hd:=hd) (ts:=ts) (C:=C) (cs:=cs) (c:=c) (j:=(i:Int)) (E:=hd++ts.map neg++[c]) (by simp;omega) hE _ 0 [] rfl (ww _) (ww _)).tri;have len:((hd++ts.map neg++[c]).map Te.enc).length=(hd++ts.map neg++[c]).length:=EQ ..;refine b8Z (E:=hd++ts.map neg++[c]) (k2:=((hd++ts.map neg++[c]).length:Nat)) (es:=hd.map Te.enc++(ts.map neg).map Te.enc) (m:=(hd++ts.map neg++[c]).length) hx J J (by simp;omega) (by simp;omega) (b4D J) h3 (D7.aS 13 41 11 (by show 13 < 138;omega) rfl ?_)
  rw[e];exact D7.b8T 112 3 (T:=41) (kk:=11) (es:=(hd++ts.map neg++[c]).map Te.enc) (by show 112 < 138;omega) rfl rfl h4
abbrev nD(ws:aa1)(hd ts:List Te)(t:Te)(cs:aa1)(i:Int):AS:=⟨stt 138 [(0,.ptr 0 0),(2,O3 ts),(4,.ptr 2 0),(67,O3 t.args),(68,inA t.args.length),(69,inA i)],dM ws hd cs++[some (.cells ((C9 t).map .dt))]⟩
noncomputable abbrev Gg:Code:=V5 (ai f58) [1,1,1,0,1,0,0]
theorem b81{ws:aa1}{hd ts:List Te}{t x:Te}{cs cs':aa1}{i:Nat}(hx:t.args[i]?=some x)(hl:t.args.length≤1000)(h:F7 oL [.ptr 0 0,y9 x,O3 ts] (dM ws hd cs) (.o7 []) (dM ws hd cs')):D7 (H9 2) Gg (nD ws hd ts t cs i) .I4 (nD ws hd ts t cs' ((i+1:Nat):Int)) :=
 have hi:=(Pi.1 hx).1
 tW [yT,.av (.pin ((C9 x).map .dt)),.av (inA ((i+1:Nat):Int))] [.P5 9 3 [0,1] (.o7 []) [some (.cells [.dt (.row ws),O3 hd,.own 1 cs'.length]),some (.buf 81 1 cs')]] [0,2,4,67,68,69] 3 [Bt .lss 3 69 68 ↑i ↑t.args.length bT,E5 (List.map Te.enc t.args) ↑i 11 (C9 x),_,Bk .add 3 69 1 ↑i (vi (↑(i+1)))] ⟨F8 (UV J),Y9 hx,h,N8 J J J,Z⟩
theorem b82{ws:aa1}{hd ts:List Te}{t:Te}{cs:aa1}{i:Nat}(hi:i=t.args.length):D7 (H9 2) Gg (nD ws hd ts t cs i) (.out 0) (nD ws hd ts t cs i) :=
 tW [yF] [] [0,2,4,67,68,69] 3 [Bt .lss 3 69 68 ↑i ↑t.args.length bF] ⟨F8 (WF J),Z⟩
theorem b6o{ws:aa1}{hd ts:List Te}{t:Te}{cs:aa1}(h:t.kind≠3):F7 oL [.ptr 0 0,y9 t,O3 ts] (dM ws hd cs) (.o7 []) (dM ws hd cs) :=
 sW 2 [0,1] [yT] [] [Bk .neq 3 17 3 t.kind bT] func58 ⟨H7 (by simp[h]),Z⟩
theorem b6p{ws:aa1}{hd ts:List Te}{t a b c:Te}{cs c1 c2 c3:aa1}(h:is t Q7 3)(hl:ts.length≤1000)(ha:t.args[0]?=some a)(hb:t.args[1]?=some b)(hc:t.args[2]?=some c)(h1:F7 oL [.ptr 0 0,y9 a,O3 ts] (dM ws hd cs) (.o7 []) (dM ws hd c1))(h2:F7 oL [.ptr 0 0,y9 b,O3 (ts++[a])] (dM ws hd c1) (.o7 []) (dM ws hd c2))(h3:F7 oL [.ptr 0 0,y9 c,O3 (ts++[ap O8 [a]])] (dM ws hd c2) (.o7 []) (dM ws hd c3)):F7 oL [.ptr 0 0,y9 t,O3 ts] (dM ws hd cs) (.o7 []) (dM ws hd c3) :=
 have g1:=h.1;have g2:=h.2.1;have g3:=h.2.2.1;have g4:=h.2.2.2
 sW 2 [0,1] [yF,yT,.av (inA t.args.length),yT,.av (.pin ((C9 a).map .dt)),.av (.pin ((C9 b).map .dt)),.av (.aW (aT ts)),.av (.pin ((C9 a).map .dt)),.av (.un),.av (.pin ((C9 c).map .dt)),.av (.aW (aT ts)),.av (.pin ((C9 a).map .dt)),.av (y9 (ap O8 [a])),.av (.un)] [.P5 3 6 [0,1] (.o7 []) [some (.cells [.dt (.row ws),O3 hd,.own 1 c1.length]),some (.buf 81 1 c1)],.P5 4 13 [0,1] (.o7 []) [some (.cells [.dt (.row ws),O3 hd,.own 1 c2.length]),some (.buf 81 1 c2)],.P5 5 15 [0,1] (.o7 []) [some (.cells [.dt (.row ws),O3 hd,.own 1 c3.length]),some (.buf 81 1 c3)]] [Bk .neq 3 17 3 t.kind bF,Bn .eql 28 (.tmp 20) (.tmp 21) (Value.agg #[str t.np,str t.nn]) (Value.agg #[Value.string { data:=#[108,105,115,112]:ByteArray },Value.string { data:=#[105,102]:ByteArray }]) bT,(vi ↑t.args.length)=(vi (↑(List.map Te.enc t.args).length)),Bk .eql 3 26 3 ↑t.args.length bT,E5 (List.map Te.enc t.args) 0 11 (C9 a),_,E5 (List.map Te.enc t.args) 1 11 (C9 b),l7 94 [(.dt (.row (List.map Te.enc ts)))] (.aW (aT ts)),E5 (List.map Te.enc t.args) 0 11 (C9 a),1≤(([C9 a]).length),X8 176 ((aT ts++[C9 a]).length),S9 11 (aT ts++[C9 a]),F7 58 [AV.ptr 0 0,y9 b,AV.dt (Dt.row (aT ts++[C9 a]))] [some (Bx.cells [AV.dt (Dt.row ws),AV.dt (Dt.row (List.map Te.enc hd)),AV.own 1 c1.length]),some (Bx.buf 81 1 c1)] (AV.o7 []) [some (Bx.cells [AV.dt (Dt.row ws),O3 hd,AV.own 1 c2.length]),some (Bx.buf 81 1 c2)],((aT ts++[C9 a]).length)=((aT ts++[C9 a]).length),E5 (List.map Te.enc t.args) 2 11 (C9 c),l7 94 [(.dt (.row (List.map Te.enc ts)))] (.aW (aT ts)),E5 (List.map Te.enc t.args) 0 11 (C9 a),l7 43 [(stA [110,111,116]),(.dt (.row [C9 a]))] (y9 (ap O8 [a])),1≤(([C9 (ap O8 [a])]).length),X8 176 ((aT ts++[C9 (ap O8 [a])]).length),S9 11 (aT ts++[C9 (ap O8 [a])]),F7 58 [AV.ptr 0 0,y9 c,AV.dt (Dt.row (aT ts++[C9 (ap O8 [a])]))] [some (Bx.cells [AV.dt (Dt.row ws),AV.dt (Dt.row (List.map Te.enc hd)),AV.own 1 c2.length]),some (Bx.buf 81 1 c2)] (AV.o7 []) [some (Bx.cells [AV.dt (Dt.row ws),O3 hd,AV.own 1 c3.length]),some (Bx.buf 81 1 c3)],((aT ts++[C9 (ap O8 [a])]).length)=((aT ts++[C9 (ap O8 [a])]).length)] func58 ⟨H7 (by simp[g1]),aO (by rw[UV g2,UV g3];rfl),O6 _,F6 (UV J),Y9 ha,h1,Y9 hb,a0f ts J,Y9 ha,NE 1,ig J (by simp;omega),CW ts a ▸ IU _,CW ts a ▸ h2,rfl,Y9 hc,a0f ts J,Y9 ha,jS O8 a,NE 1,ig J (by simp;omega),CW ts (ap O8 [a]) ▸ IU _,CW ts (ap O8 [a]) ▸ h3,rfl,Z⟩
theorem b6q{ws:aa1}{hd ts C:List Te}{t:Te}{cs c1 c2:aa1}{k1 k2:Int}(h:t.kind=3)(hn:¬(t.np=x8∧t.nn=Q7))(h1:D7 (H9 2) (.loop Gg) (nD ws hd ts t cs 0) (.out 0) (nD ws hd ts t c1 k1))(hg:l7 bQ [.dt (.row ws),y7 t.np t.nn,O3 t.args] (O3 C))(h2:D7 (H9 2) (.loop Gf) (nC ws hd ts C c1 0) (.out 2) (nC ws hd ts C c2 k2)):F7 oL [.ptr 0 0,y9 t,O3 ts] (dM ws hd cs) (.o7 []) (dM ws hd c2) :=
 sW 2 [0,1] [yF,yF,.av (inA t.args.length),.av (O3 C),.av (inA C.length)] [.inv [0,2,4,67,68,69] 3 (.out 0) (nD ws hd ts t c1 k1),.inv [0,2,86,87,88] 2 (.out 2) (nC ws hd ts C c2 k2)] [Bk .neq 3 17 3 t.kind bF,Bn .eql 28 (.tmp 20) (.tmp 21) (Value.agg #[str t.np,str t.nn]) (Value.agg #[Value.string { data:=#[108,105,115,112]:ByteArray },Value.string { data:=#[105,102]:ByteArray }]) bF,(vi ↑t.args.length)=(vi (↑(List.map Te.enc t.args).length)),_,_,(vi ↑C.length)=(vi (↑(List.map Te.enc C).length)),_] func58 ⟨H7 (by simp[h]),aO (Ai hn),O6 _,h1,hg,O6 _,h2,Z⟩
theorem b6r{ws:aa1}{hd ts C:List Te}{t:Te}{cs c1 c2:aa1}{k1 k2:Int}(h:t.kind=3)(hn:t.np=x8∧t.nn=Q7)(h3:¬t.args.length=3)(h1:D7 (H9 2) (.loop Gg) (nD ws hd ts t cs 0) (.out 0) (nD ws hd ts t c1 k1))(hg:l7 bQ [.dt (.row ws),y7 t.np t.nn,O3 t.args] (O3 C))(h2:D7 (H9 2) (.loop Gf) (nC ws hd ts C c1 0) (.out 2) (nC ws hd ts C c2 k2)):F7 oL [.ptr 0 0,y9 t,O3 ts] (dM ws hd cs) (.o7 []) (dM ws hd c2) :=
 sW 2 [0,1] [yF,yT,.av (inA t.args.length),yF,.av (inA t.args.length),.av (O3 C),.av (inA C.length)] [.inv [0,2,4,67,68,69] 3 (.out 0) (nD ws hd ts t c1 k1),.inv [0,2,86,87,88] 2 (.out 2) (nC ws hd ts C c2 k2)] [Bk .neq 3 17 3 t.kind bF,Bn .eql 28 (.tmp 20) (.tmp 21) (Value.agg #[str t.np,str t.nn]) (Value.agg #[Value.string { data:=#[108,105,115,112]:ByteArray },Value.string { data:=#[105,102]:ByteArray }]) bT,(vi ↑t.args.length)=(vi (↑(List.map Te.enc t.args).length)),Bk .eql 3 26 3 ↑t.args.length bF,(vi ↑t.args.length)=(vi (↑(List.map Te.enc t.args).length)),_,_,(vi ↑C.length)=(vi (↑(List.map Te.enc C).length)),_] func58 ⟨H7 (by simp[h]),aO (by rw[UV hn.1,UV hn.2];rfl),O6 _,F6 (WF J),O6 _,h1,hg,O6 _,h2,Z⟩
inductive Vt (ws:aa1):Te→Prop
 |leaf (t:Te) (h:t.kind≠3):Vt ws t
 |ap (n:aa0) (l:List Te) (hw:(Te.ap n l).Wf) (hl:l.length≤8) (hc:l7 bQ [.dt (.row ws),y7 x8 n,O3 l] (O3 (mV (Te.ap n l)))) (hcw:∀c∈mV (Te.ap n l),c.Wf) (hcl:(mV (Te.ap n l)).length≤4) (h:∀x∈l,Vt ws x):Vt ws (Te.ap n l)
theorem a0I(hd:List Te)(f:Nat)(n:aa0)(l ts:List Te)(hn:¬is (Te.ap n l) Q7 3):vis hd (f+1) (Te.ap n l) ts=(l.map fun x=>vis hd f x ts).flatten++(mV (Te.ap n l)).map fun c=>addN [] (hd++ts.map neg++[c]):=by
 rw[vis,Za0 (show (Te.ap n l).kind=3 from rfl),lw hn]
 rfl
theorem OG{α β:Type}(f:α→List β)(g:α→Nat):∀(l:List α),(∀x∈l,(f x).length≤g x)→(l.map f).flatten.length≤(l.map g).sum
 |[],_=>ww _
 |x::r,h=>by
  rw[ZaC,List.flatten_cons,Za4,ZaC,List.sum_cons];exact Nat.add_le_add (h x (PP ..)) (OG f g r fun y hy=>h y (lm _ hy))
theorem NW:∀l:List Te,(l.map fun x=>4 * x.size).sum=4 * Te.iF l
 |[]=>rfl
 |x::r=>by rw[ZaC,List.sum_cons,NW r,Te.iF];omega
theorem Dq{ws:aa1}(hd:List Te):∀(f:Nat) (t:Te) (ts:List Te),Vt ws t→(vis hd f t ts).length≤4 * t.size:=by
 intro f
 induction f with
 |zero=>intro t ts _;exact ww _
 |succ f ih =>
  intro t ts ht;cases ht with
  |leaf t h=>rw[vis,lw h];exact ww _
  |ap n l hw hl hc hcw hcl h =>
   have hsz:(Te.ap n l).size=Te.iF l+1:=by unfold Te.ap;rw[Te.size]
   by_cases hi:is (Te.ap n l) Q7 3
   ·obtain⟨a,b,c,rfl⟩:=Kw (show l.length=3 from hi.2.2.2);rw[vis,Za0 (show (Te.ap n [a,b,c]).kind=3 from rfl),Za0 hi]
    have h1:=ih a ts (h a I);have h2:=ih b (ts++[a]) (h b I);have h3:=ih c (ts++[Te.ap O8 [a]]) (h c I);have e:Te.iF [a,b,c]=a.size+(b.size+(c.size+0)):=by simp only[Te.iF]
    rw[Za4,Za4,hsz,e];show (vis hd f a ts).length+(vis hd f b (ts++[a])).length+(vis hd f c (ts++[Te.ap O8 [a]])).length≤_;omega
   ·rw[a0I hd f n l ts hi,Za4,EQ,hsz];have h1:=OG (fun x=>vis hd f x ts) (fun x=>4 * x.size) l (fun x hx=>ih x ts (h x hx));rw[NW]at h1;omega
theorem Kz(l:List (List Te))(k:List (List Te)):l.map df++k.map df=(l++k).map df:=ZaL.symm
theorem ZF{ws:aa1}{hd:List Te}(hhd:∀x∈hd,x.Wf)(hl1:hd.length≤100)(hnw:∀t:Te,t.Wf→(neg t).Wf)(b83:∀t:Te,t.Wf→(Te.ap O8 [t]).Wf):∀(f:Nat) (t:Te) (ts:List Te) (cs:aa1),t.size≤f→Vt ws t→t.Wf→(∀x∈ts,x.Wf)→ts.length+f≤600→cs.length+4 * t.size≤40000 →
  F7 oL [.ptr 0 0,y9 t,O3 ts] (dM ws hd cs) (.o7 []) (dM ws hd (cs++(vis hd f t ts).map df)):=by
 intro f
 induction f with
 |zero=>intro t ts cs hs;have:=Te.size_pos t;omega
 |succ f ih =>
  intro t ts cs hs ht htw hts hf hcs;cases ht with
  |leaf t h =>
   rw[vis,lw h,Zb4,ZaI];exact b6o h
  |ap n l hw hl hc hcw hcl h =>
   have hsz:(Te.ap n l).size=Te.iF l+1:=by unfold Te.ap;rw[Te.size]
   have kw:∀x∈l,x.Wf:=by
    cases htw with
    |mk _ hv hl h=>exact h
   by_cases hi:is (Te.ap n l) Q7 3
   ·obtain⟨a,b,c,rfl⟩:=Kw (show l.length=3 from hi.2.2.2);have e:Te.iF [a,b,c]=a.size+(b.size+(c.size+0)):=by simp only[Te.iF]
    rw[hsz,e]at hs hcs;have wa:=kw a I;have wb:=kw b I;have wc:=kw c I;have va:=h a I;have vb:=h b I;have vc:=h c I;have l1:=Dq hd f a ts va;have l2:=Dq hd f b (ts++[a]) vb;have h1:=ih a ts cs J va wa hts J J;have h2:=ih b (ts++[a]) (cs++(vis hd f a ts).map df) J vb wb (fun x hx=>by
     rcases ZaA.1 hx with hx | hx
     ·exact hts x hx
     ·rw[ut]at hx;subst hx;exact wa) (by simp;omega) (by simp;omega)
    have h3:=ih c (ts++[Te.ap O8 [a]]) (cs++(vis hd f a ts).map df++(vis hd f b (ts++[a])).map df) J vc wc (fun x hx=>by
     rcases ZaA.1 hx with hx | hx
     ·exact hts x hx
     ·rw[ut]at hx;subst hx;exact b83 a wa) (by simp;omega) (by simp;omega)
    have k:=b6p hi J (a:=a) (b:=b) (c:=c) rfl rfl rfl h1 h2 h3;rw[vis,Za0 (show (Te.ap n [a,b,c]).kind=3 from rfl),Za0 hi]
    rw[Zah,Zah,Kz,Kz]at k;rw[Zah];exact k
   ·rw[a0I hd f n l ts hi,←Kz];have loop:∀(q:List Te) (i:Nat) (cs:aa1),l.drop i=q→i≤l.length→cs.length+4 * Te.iF q≤40000→Lps (H9 2) Gg (nD ws hd ts (Te.ap n l) cs i) (.out 0) (nD ws hd ts (Te.ap n l) (cs++((q.map fun x=>vis hd f x ts).flatten).map df) l.length):=by
     intro q
     induction q with
     |nil =>
      intro i cs hd' hi' _;have e1:=congrArg List.length hd';rw[Za7,List.length_nil]at e1;obtain rfl:i=l.length:=J;rw[Zb4,List.flatten_nil,Zb4,ZaI];exact .stop (b82 rfl) (fun h=>by cases h)
     |cons x q ihq =>
      intro i cs hd' hi' hc';have hx:l[i]?=some x:=by rw[←Zak,hd'];rfl
      have hlt:=(Pi.1 hx).1;have hxm:=Za5 hx;have sx:=Te.WQ hxm;rw[Te.iF]at hc';have lx:=Dq hd f x ts (h x hxm);have h1:=ih x ts cs J (h x hxm) (kw x hxm) hts J J;have k:=ihq (i+1) (cs++(vis hd f x ts).map df) (by rw[←Zaj,hd'];rfl) hlt (by simp;omega);rw[Zah cs,Kz]at k;exact .more (b81 (t:=Te.ap n l) hx (by show l.length≤1000;omega) h1) k
    have h1:=(loop l 0 cs rfl (ww _) J).tri;have fl:=OG (fun x=>vis hd f x ts) (fun x=>4 * x.size) l (fun x hx=>Dq hd f x ts (h x hx));rw[NW]at fl;have h2:=(b2l (ws:=ws) (hd:=hd) (ts:=ts) (C:=mV (Te.ap n l)) J hhd (fun x hx=>hnw x (hts x hx)) hcw hl1 J _ 0 (cs++((l.map fun x=>vis hd f x ts).flatten).map df) rfl (ww _) (by rw[Za4,EQ];omega)).tri;rw[Zah cs]at h2;by_cases hn:(Te.ap n l).np=x8∧(Te.ap n l).nn=Q7
    ·exact b6r (t:=Te.ap n l) rfl hn (fun e=>hi ⟨rfl,hn.1,hn.2,e⟩) h1 hc h2
    ·exact b6q (t:=Te.ap n l) rfl hn h1 hc h2
theorem b84{es:aa1}{n:aa0}{i:Nat}{is:aa1}(h:E5 es (i:Int) 32 (bG is))(hi:i < es.length)(hl:es.length≤1000):D7 EX gW (kM es n i) .I4 (kM es n ((i+1:Nat):Int)) :=
 tW [yT,.av (.pin ((bG is).map .dt)),.av (.dt (.row [])),.av (.o7 [inA 0,o6 false]),.av (inA ((i+1:Nat):Int))] [] [3,11,12,13] 1 [Bt .lss 3 13 12 ↑i ↑es.length bT,_,l7 75 [(.agg [(inA 1),(stA x8),(stA [117,115,101,114,45,112,97,99,107,97,103,101]),(stA [117,115,101,114]),(.dt (.row is)),(stA []),(stA []),(.dt (.row [])),(o6 false),(inA 0),(stA []),(stA []),(inA 0),(stA []),(stA []),(stA []),(stA []),(stA []),(.dt (.row [])),(.dt (.row [])),(.dt (.row [])),(.dt (.row [])),(.dt (.row [])),(.dt (.row [])),(stA []),(stA []),(.dt (.row [])),(.dt (.row [])),(.dt (.row [])),(.dt (.row [])),(stA []),(.dt (.val (Value.int .u64 0)))])] (.dt (.row [])),l7 110 [(.dt (.row [])),(.ak 111 [(.pin [(stA x8),(stA n)])])] (.o7 [(inA 0),(o6 false)]),Bk .add 3 13 1 ↑i (vi (↑(i+1)))] ⟨F8 (UV J),h,a0s is,a8O,N8 J J J,Z⟩
theorem b85{es:aa1}{n:aa0}{i:Nat}(hi:i=es.length):D7 EX gW (kM es n i) (.out 0) (kM es n i) :=
 tW [yF] [] [3,11,12,13] 1 [Bt .lss 3 13 12 ↑i ↑es.length bF] ⟨F8 (WF J),Z⟩
theorem b86{ws:List y8.H8}{is:aa1}:E5 (ws.map I9++[bG is]) (ws.length:Int) 32 (bG is):=⟨Int.natCast_nonneg _,by
 rw[Int.toNat_natCast,ZaK (by rw[EQ];exact NE _),EQ,Zbl];rfl,rfl⟩
theorem b6s{ws:List y8.H8}{is:aa1}{n:aa0}(hl:(ws.map I9++[bG is]).length≤1000):∀(s:List y8.H8) (i:Nat),ws.drop i=s→i≤ws.length→(s.find? fun f=>f.nm == n)=none→Lps EX gW (kM (ws.map I9++[bG is]) n i) (.out 0) (kM (ws.map I9++[bG is]) n (ws.map I9++[bG is]).length):=by
 intro s;have len:(ws.map I9++[bG is]).length=ws.length+1:=by rw[Za4,EQ];rfl
 induction s with
 |nil =>
  intro i hd hi _;have e1:=congrArg List.length hd;rw[Za7,List.length_nil]at e1;obtain rfl:i=ws.length:=J;have st:=b84 (n:=n) (b86 (ws:=ws) (is:=is)) J hl;rw[len];exact .more st (.stop (b85 J) (fun h=>by cases h))
 |cons x s ih =>
  intro i hd hi h;have hx:ws[i]?=some x:=by rw[←Zak,hd];rfl
  have hlt:=(Pi.1 hx).1;rw[List.find?_cons]at h;split at h
  ·cases h
  ·rename_i e;exact .more (a2N (rW hx) J hl (by simpa using e)) (ih (i+1) (by rw[←Zaj,hd];rfl) hlt h)
theorem b4F{es:aa1}{n:aa0}{k:Int}(h:D7 EX (.loop gW) (kM es n 0) (.out 0) (kM es n k)):l7 74 [.dt (.row es),y7 x8 n] (.o7 [inA 0,inA 0,o6 false]) :=
 pW [.av (inA es.length)] [.inv [3,11,12,13] 1 (.out 0) (kM es n k)] [(vi ↑es.length)=(vi ↑es.length),_] func74 ⟨rfl,h,Z⟩
theorem Yk{es:aa1}{n:aa0}(ht:l7 74 [.dt (.row es),y7 x8 n] (.o7 [inA 0,inA 0,o6 false])):l7 39 [.dt (.row es),y7 x8 n] (.o7 [gp,o6 false]) :=
 pV [.av (.o7 [inA 0,inA 0,o6 false])] [_] func39 ⟨ht,Z⟩
theorem a9K{n:aa0}(h:(F9.find? fun f=>f.nm == n)=none):l7 39 [.dt (.row fJ),y7 x8 n] (.o7 [gp,o6 false]) :=
 Yk (b4F (b6s (ws:=F9) (is:=kZ) (by rw[Za4,EQ,lW];decide) F9 0 rfl (ww _) h).tri)
end Go.Proofs.YthhknjlmjefklaaGreatDoor
namespace Go.Proofs.YthhknjlmjefklaaGreatDoor
open Go.Proofs.Tryz
open Go.RowKit
abbrev iH(n:aa0):Value:=.agg #[str x8,str n]
theorem Vs(e:Bool)(p s:aa0)(w:World):(Instr.checkKey e 10000 28 (.agg #[str p,str s])).run prog w=.ok () w:=by
 have h1:=fun (v:ByteArray)=>MapKept.run_checkKey (P:=prog) (w:=w) (k:=.string v) Tryz.underlying9 trivial e 9998
 unfold Instr.checkKey;simp only[Za8,Zat Um,Result.andThen_ok];simp[a2C,part,h1,Result.andThen]
def qL(n:aa0):List (aa0)→Option Nat
 |[]=>none
 |m::r=>if n=m then some 0 else (qL n r).map (·+1)
theorem VX(n:aa0)(w:World):∀(ks:List (aa0)) (es:List MapEntry) (i:Nat),es.map (·.key)=ks.map iH→(Instr.findAsking 28 (iH n) es i).run prog w=.ok ((qL n ks).bind fun j=>(es[j]?).map fun e=>(i+j,e.val)) w
 |[],[],i,_=>rfl
 |[],_::_,_,h=>by cases h
 |_::_,[],_,h=>by cases h
 |m::ks,e::es,i,h=>by
  rw[ZaC,ZaC,List.cons.injEq]at h;obtain⟨h1,h2⟩:=h;have he:(Op.equal 28 (iH n) e.key).run prog w=.ok (decide (n=m)) w:=by
   rw[h1];have:=Ox (p:=x8) (s:=n) (p':=x8) (s':=m) w;rw[UV (rfl:x8=x8),Zbq]at this;exact this
  unfold Instr.findAsking;simp only[Za8,he,Result.andThen_ok];rw[qL];by_cases hn:n=m
  ·rw[Za0 hn,UV hn];rfl
  ·rw[lw hn,WF hn];have:=VX n w ks es (i+1) h2;simp only[ZaY,ZaM];rw[this];cases qL n ks with
   |none=>rfl
   |some j =>
    show Result.ok ((es[j]?).map fun e=>(i+1+j,e.val)) w=Result.ok ((es[j]?).map fun e=>(i+(j+1),e.val)) w;rw[show i+1+j=i+(j+1) by omega]
theorem VY(n:aa0)(w:World)(ks:List (aa0))(es:List MapEntry)(h:es.map (·.key)=ks.map iH):(Instr.findKey 28 (iH n) es).run prog w=.ok ((qL n ks).bind fun j=>(es[j]?).map fun e=>(j,e.val)) w:=by
 have ha:=VX n w ks es 0 h;simp only[ZaH]at ha;unfold Instr.findKey;simp only[Za8,Zat Um,Result.andThen_ok];cases es with
 |nil =>
  cases ks with
  |nil=>rfl
  |cons m ks=>cases h
 |cons e es =>
  have hk:Instr.findNow (.struct (prog.fieldsOf 28)) (iH n) (e::es) 0=none:=by
   unfold Instr.findNow Instr.sameNow;rfl
  rw[hk];exact ha
theorem a9L(n:aa0)(ks:List (aa0)):nY prog 28 (iH n) (ks.map iH) (qL n ks):=fun es w h=>by
 simp only[Za8,Vs es.isEmpty x8 n w,Result.andThen_ok];exact VY n w ks es h
theorem b2m{n:aa0}{ks:List (aa0)}(hn:qL n ks=none):eY prog 28 (iH n) (ks.map iH):=fun es w h=>by
 simp only[Za8,Vs false x8 n w,Result.andThen_ok];have:=VY n w ks es h;rw[hn]at this;exact this
theorem Yl{n:aa0}:∀{ks:List (aa0)} {i:Nat},qL n ks=some i→ks[i]?=some n
 |[],i,h=>by cases h
 |m::ks,i,h=>by
  rw[qL]at h;split at h
  ·rename_i e;cases h;rw[e];rfl
  ·rw[ZaG]at h;obtain⟨j,hj,rfl⟩:=h;rw[List.getElem?_cons_succ];exact Yl hj
end Go.Proofs.YthhknjlmjefklaaGreatDoor
namespace Go.Proofs.YthhknjlmjefklaaGreatDoor
open Go.Proofs.Tryz
open Go.RowKit
open Te
abbrev iT(fs:List y8.H8):List (Value×List Dt):=fs.map fun f=>(iH f.nm,I8 f)
abbrev Q3(ws:aa1)(s u:Int)(D8:List (Value×List Dt)):List (Option Bx):=[some (.cells [.dt (.row ws),.V4 1,inA s,inA u]),some (.aA D8)]
abbrev Gh:FuncId:=273
theorem b6t{ws:aa1}{s u:Int}{D8:List (Value×List Dt)}{n:aa0}{i:Nat}{f:y8.H8}(h:nY EX.P 28 (iH n) (D8.map (·.1)) (some i))(hg:(D8.map (·.2))[i]?=some (I8 f)):F7 Gh [.ptr 0 0,y7 x8 n] (Q3 ws s u D8) (.o7 [.agg ((I8 f).map .dt),o6 true]) (Q3 ws s u D8) :=
 sW 2 [0,1] [.av (.o7 [inA i,.agg ((I8 f).map .dt)])] [] [_,_] func273 ⟨h,hg,Z⟩
theorem b6u{ws:aa1}{s u:Int}{D8:List (Value×List Dt)}{n:aa0}{f:y8.H8}(h:nY EX.P 28 (iH n) (D8.map (·.1)) none)(hf:l7 39 [.dt (.row ws),y7 x8 n] (.o7 [.agg ((I8 f).map .dt),o6 true]))(hn:eY EX.P 28 (iH n) (D8.map (·.1))):F7 Gh [.ptr 0 0,y7 x8 n] (Q3 ws s u D8) (.o7 [.agg ((I8 f).map .dt),o6 true]) (Q3 ws s u (D8++[(iH n,I8 f)])) :=
 sW 2 [0,1] [.no,.av (.o7 [.agg ((I8 f).map .dt),o6 true])] [] [_,_,_] func273 ⟨h,hf,hn,Z⟩
abbrev iU:FuncId:=219
abbrev tV:FuncId:=256
theorem b6v{ws:aa1}{s u:Int}{D8:List (Value×List Dt)}{t:Te}{env:E8}(h:t.kind=2):F7 iU [.ptr 0 0,y9 t,H5 env] (Q3 ws s u D8) (.o7 [x9 t.val,inA 0]) (Q3 ws s u D8) :=
 sW 2 [0,1] [yT] [] [Bk .eql 3 11 2 t.kind bT] func219 ⟨F6 (dh h),Z⟩
theorem rJ{ws:aa1}{s u u' e:Int}{D8 aF:List (Value×List Dt)}{t:Te}{env:E8}{o:Ob}(h:t.kind=3)(hc:F7 tV [.ptr 0 0,y9 t,H5 env] (Q3 ws s u D8) (.o7 [x9 o,inA e]) (Q3 ws s u' aF)):F7 iU [.ptr 0 0,y9 t,H5 env] (Q3 ws s u D8) (.o7 [x9 o,inA e]) (Q3 ws s u' aF) :=
 sW 2 [0,1] [yF,yT] [.P5 5 3 [0,1] (.o7 [x9 o,inA e]) [some (.cells [.dt (.row ws),.V4 1,inA s,inA u']),some (.aA aF)]] [Bk .eql 3 11 2 t.kind bF,Bk .eql 3 11 3 t.kind bT,_] func219 ⟨F6 (by simp[h]),F6 (dh h),hc,Z⟩
abbrev ceX(ws:aa1)(s u:Int)(D8:List (Value×List Dt))(t:Te)(z:Option Bx):List (Option Bx):=[some (.cells [.dt (.row ws),.V4 1,inA s,inA u]),some (.aA D8),some (.cells ((C9 t).map .dt)),z]
abbrev nG(ws:aa1)(s u:Int)(D8:List (Value×List Dt))(t:Te)(e:E8)(i:Int):AS:=⟨stt 39 [(4,.ptr 2 0),(6,.ptr 3 0),(7,inA 0),(24,H5 e),(25,inA e.length),(26,inA i)],ceX ws s u D8 t qJ⟩
abbrev LU(ws:aa1)(s u:Int)(D8:List (Value×List Dt))(t:Te)(x:Tr):AS:=⟨stt 39 [(6,.ptr 3 0),(7,inA 0)],ceX ws s u D8 t (some (.cells ((D9 x.ob).map .dt)))⟩
noncomputable abbrev yB:Code:=V5 (ai f219) [1,1,0,1,0,0]
theorem a2V{ws:aa1}{s u:Int}{D8:List (Value×List Dt)}{t:Te}{e:E8}{x:(aa0×aa0)×Tr}{i:Nat}(hx:e[i]?=some x)(hl:e.length≤1000)(h:¬(x.1.1=t.np∧x.1.2=t.nn)):D7 (H9 2) yB (nG ws s u D8 t e i) .I4 (nG ws s u D8 t e ((i+1:Nat):Int)) :=
 have hi:=(Pi.1 hx).1
 tW [yT,.av (.pin ((Q8 x).map .dt)),yF,.av (inA ((i+1:Nat):Int))] [] [4,6,7,24,25,26] 4 [Bt .lss 3 26 25 ↑i (↑(List.length e)) bT,E5 (bC e) ↑i 9 ([(.val (str x.fst.fst)),(.val (str x.fst.snd)),(.val (vi x.snd.ob.kind)),(.val (str x.snd.ob.num)),(.val (str x.snd.ob.den)),(.val (str x.snd.ob.sp)),(.val (str x.snd.ob.sn)),(.val (str x.snd.ob.text)),(.row (List.map Ob.enc x.snd.ob.pair))]),Bn .eql 28 (.tmp 31) (.tmp 33) (Value.agg #[str x.fst.fst,str x.fst.snd]) (Value.agg #[str t.np,str t.nn]) bF,Bk .add 3 26 1 ↑i (vi (↑(i+1)))] ⟨F8 (UV J),xm hx,aO (Ai h),N8 J J J,Z⟩
theorem b87{ws:aa1}{s u:Int}{D8:List (Value×List Dt)}{t:Te}{e:E8}{x:(aa0×aa0)×Tr}{i:Nat}(hx:e[i]?=some x)(h:x.1.1=t.np∧x.1.2=t.nn):D7 (H9 2) yB (nG ws s u D8 t e i) .ret (LU ws s u D8 t x.2) :=
 have hi:=(Pi.1 hx).1
 tW [yT,.av (.pin ((Q8 x).map .dt)),yT] [] [6,7] 4 [Bt .lss 3 26 25 ↑i (↑(List.length e)) bT,E5 (bC e) ↑i 9 ([(.val (str x.fst.fst)),(.val (str x.fst.snd)),(.val (vi x.snd.ob.kind)),(.val (str x.snd.ob.num)),(.val (str x.snd.ob.den)),(.val (str x.snd.ob.sp)),(.val (str x.snd.ob.sn)),(.val (str x.snd.ob.text)),(.row (List.map Ob.enc x.snd.ob.pair))]),Bn .eql 28 (.tmp 31) (.tmp 33) (Value.agg #[str x.fst.fst,str x.fst.snd]) (Value.agg #[str t.np,str t.nn]) bT] ⟨F8 (UV J),xm hx,aO (QJ h),Z⟩
theorem b88{ws:aa1}{s u:Int}{D8:List (Value×List Dt)}{t:Te}{e:E8}{i:Nat}(hi:i=e.length):D7 (H9 2) yB (nG ws s u D8 t e i) (.out 1) (nG ws s u D8 t e i) :=
 tW [yF] [] [4,6,7,24,25,26] 4 [Bt .lss 3 26 25 ↑i (↑(List.length e)) bF] ⟨F8 (WF J),Z⟩
theorem b6w{ws:aa1}{s u:Int}{D8:List (Value×List Dt)}{t:Te}{e:E8}{x:Tr}(h:t.kind=1)(ht:D7 (H9 2) (.loop yB) (nG ws s u D8 t e 0) .ret (LU ws s u D8 t x)):F7 iU [.ptr 0 0,y9 t,H5 e] (Q3 ws s u D8) (.o7 [o9 x,inA 0]) (Q3 ws s u D8) :=
 sW 2 [0,1] [yF,yF,.av (inA e.length)] [.inv [4,6,7,24,25,26] 4 (.ret) (LU ws s u D8 t x)] [Bk .eql 3 11 2 t.kind bF,Bk .eql 3 11 3 t.kind bF,(vi (↑(List.length e)))=(vi (↑(bC e).length)),_] func219 ⟨F6 (by simp[h]),F6 (by simp[h]),xq _,ht,Z⟩
theorem b6x{ws:aa1}{s u k:Int}{D8:List (Value×List Dt)}{t:Te}{e:E8}(h:t.kind=1)(ht:D7 (H9 2) (.loop yB) (nG ws s u D8 t e 0) (.out 1) (nG ws s u D8 t e k)):F7 iU [.ptr 0 0,y9 t,H5 e] (Q3 ws s u D8) (.o7 [x9 zO,inA 6]) (Q3 ws s u D8) :=
 .rv (sW 2 [0,1] [yF,yF,.av (inA e.length)] [.inv [4,6,7,24,25,26] 4 (.out 1) (nG ws s u D8 t e k)] [Bk .eql 3 11 2 t.kind bF,Bk .eql 3 11 3 t.kind bF,(vi (↑(List.length e)))=(vi (↑(bC e).length)),_] func219 ⟨F6 (by simp[h]),F6 (by simp[h]),xq _,ht,Z⟩) fun _ _ _ h=>jr h
theorem b2n{ws:aa1}{s u:Int}{D8:List (Value×List Dt)}{t:Te}{L:E8}(hl:L.length≤1000):∀(q:E8) (i:Nat),L.drop i=q→i≤L.length →
  (dn q t.np t.nn=none→Lps (H9 2) yB (nG ws s u D8 t L i) (.out 1) (nG ws s u D8 t L L.length))∧(∀x,dn q t.np t.nn=some x→Lps (H9 2) yB (nG ws s u D8 t L i) .ret (LU ws s u D8 t x)):=by
 intro q
 induction q with
 |nil =>
  intro i hd hi;have e1:=congrArg List.length hd;rw[Za7,List.length_nil]at e1;obtain rfl:i=L.length:=J;exact⟨fun _=>.stop (b88 rfl) (fun h=>by cases h),fun t h=>by cases h⟩
 |cons x q ih =>
  intro i hd hi;have hx:L[i]?=some x:=by rw[←Zak,hd];rfl
  have hlt:=(Pi.1 hx).1;obtain⟨h1,h2⟩:=ih (i+1) (by rw[←Zaj,hd];rfl) hlt;rw[dn];by_cases hc:x.1.1=t.np∧x.1.2=t.nn
  ·rw[Za0 hc];exact⟨fun h=>(by cases h),fun y h=>by cases h;exact .stop (b87 hx hc) (fun h=>by cases h)⟩
  ·rw[lw hc];exact⟨fun h=>.more (a2V hx hl hc) (h1 h),fun y h=>.more (a2V hx hl hc) (h2 y h)⟩
end Go.Proofs.YthhknjlmjefklaaGreatDoor
