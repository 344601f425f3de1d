/- Apply of both texts, on trees. -/
import Derived.Test.YthhknjlmjefklaaGreatDoorBQ
import Derived.Test.YthhknjlmjefklaaGreatDoorBP
import Derived.Test.YthhknjlmjefklaaGreatDoorBN
import Derived.Test.YthhknjlmjefklaaGreatDoorBG
namespace Go.Proofs.YthhknjlmjefklaaGreatDoor
open Go.Proofs.Tryz
open Go.RowKit
theorem FW{k:Nat}{n:Int}(hk:1≤k)(h:n.natAbs < 10 ^ k):Rb k (n:Rat):=⟨by rw[Rat.num_intCast];exact h,by rw[Rat.den_intCast];exact Zaa (by decide:1 < 10 ^ 1) (ZaF O hk),hk⟩
theorem wQ{k:Nat}(b:Bool):(Z8 b).Ok k:=by cases b <;> exact⟨O,O⟩
theorem zG{k:Nat}:o8.Ok k:=⟨O,O⟩
theorem Yc{n:Int}(h:n.natAbs < 10 ^ 5):(Tr.num (n:Rat)).Ok 300:=(FW (k:=5) O h).mono O
theorem U0{x y z:Tr}(hx:Arg x)(hy:Arg y)(hz:Arg z):∀i:Nat,(Tr.ap i x y z).Ok 300
 |0=>by
  show (if x=o8 then z else y).Ok 300;split
  ·exact hz.ok.mono O
  ·exact hy.ok.mono O
 |1=>wQ _
 |2=>⟨hx.ok.mono O,hy.ok.mono O⟩
 |3=>by
  have h:=hx.ok;cases x with
  |cons a d=>exact h.1.mono O
  |_=>exact zG
 |4=>by
  have h:=hx.ok;cases x with
  |cons a d=>exact h.2.mono O
  |_=>exact zG
 |5=>wQ _
 |6=>wQ _
 |7=>wQ _
 |8=>wQ _
 |9=>wQ _
 |10=>(hx.rb.add hy.rb).mono O
 |11=>(hx.rb.mul hy.rb).mono O
 |12=>hx.rb.neg.mono O
 |13=>hx.rb.inv.mono O
 |14=>wQ _
 |15=>(FW (k:=120) O hx.rb.num).mono O
 |16=>(FW (k:=120) (n:=(x.val.den:Int)) O (by rw[Int.natAbs_natCast];exact hx.rb.den)).mono O
 |17=>(FW (k:=121) O (a1J hx)).mono O
 |18=>by
  have h:=hx.ok;cases x with
  |sym p s=>exact h.2
  |_=>exact ww _
 |19=>by
  have h:=hx.ok;cases x with
  |sym p s=>exact h.1
  |_=>exact ww _
 |20=>by
  show (if x.O9 && y.O9 && Y8 ⟨y.tx,x.tx⟩ then Tr.sym y.tx x.tx else o8).Ok 300;split
  ·exact⟨Za6 hy.tx O,Za6 hx.tx O⟩
  ·exact zG
 |21=>by
  have h1:=hx.tx;have h2:=hy.tx;show (x.tx++y.tx).length≤100000;rw[Za4];omega
 |22=>Yc (by have:=hx.tx;show x.tx.length < 100000;omega)
 |23=>by
  show (match x.eG y with | some n=>Tr.num (((x.tx.getD n.toNat 0).toNat:Int):Rat) | none=>o8).Ok 300;split
  ·rename_i n _;have:=(x.tx.getD n.toNat 0).toNat_lt;exact Yc (by show (x.tx.getD n.toNat 0).toNat < 100000;omega)
  ·exact zG
 |24=>by
  show (match x.dJ with | some n=>Tr.txt [UInt8.ofNat n.toNat] | none=>Tr.txt []).Ok 300;split
  ·show 1≤100000;decide
  ·exact ww _
 |_+25=>zG
theorem J7:Arg o8:=⟨zG,ww _⟩
theorem b1r{x y z:Tr}(_:Arg x)(_:Arg y)(_:Arg z)  : l7 121 [y7 x8 [105,102],rowA [x,y,z]] (U7 (Tr.aY 0 x y z)):=by
 have e:Tr.aY 0 x y z=some (if x=o8 then z else y):=rfl;rw[e];by_cases h:x=o8
 ·rw[Za0 h];exact pV (.av (.o7 [inA 3,o6 true])::nK 6 [yT,.no]) [_,l7 119 [(x9 x.ob)] (o6 true)] func121 ⟨IX,(yX x).b (UV h),Z⟩
 ·rw[lw h];exact pV (.av (.o7 [inA 3,o6 true])::nK 6 [yF]) [_,l7 119 [(x9 x.ob)] (o6 false)] func121 ⟨IX,(yX x).b (WF h),Z⟩
theorem b1s{x y z:Tr}(hx:Arg x)(hy:Arg y)(hz:Arg z):l7 88 [y7 x8 [105,102],rowA [x,y,z]] (U7 (Tr.kept' (Tr.ap 0 x y z))):=by
 have hv0:=W9 (t:=Tr.ap 0 x y z) (U0 hx hy hz 0) O;have e:Tr.ap 0 x y z=if x=o8 then z else y:=rfl
 rw[e]at hv0 ⊢
 by_cases h:x=o8
 ·rw[Za0 h]at hv0 ⊢
  cases hv:z.valid with
  |true =>
   rw[aP hv];exact pV (.av (.o7 [inA 3,o6 true])::nK 6 [yT,.no,yT]) [_,l7 16 [(x9 x.ob)] (o6 true),l7 118 [(x9 z.ob)] (o6 true)] func88 ⟨DR,(wK hx.ok O).b (UV h),hv0.b hv,Z⟩
  |false =>
   rw[bJ hv];exact pV (.av (.o7 [inA 3,o6 true])::nK 6 [yT,.no,yF]) [_,l7 16 [(x9 x.ob)] (o6 true),l7 118 [(x9 z.ob)] (o6 false)] func88 ⟨DR,(wK hx.ok O).b (UV h),hv0.b hv,Z⟩
 ·rw[lw h]at hv0 ⊢
  cases hv:y.valid with
  |true =>
   rw[aP hv];exact pV (.av (.o7 [inA 3,o6 true])::nK 6 [yF,yT]) [_,l7 16 [(x9 x.ob)] (o6 false),l7 118 [(x9 y.ob)] (o6 true)] func88 ⟨DR,(wK hx.ok O).b (WF h),hv0.b hv,Z⟩
  |false =>
   rw[bJ hv];exact pV (.av (.o7 [inA 3,o6 true])::nK 6 [yF,yF]) [_,l7 16 [(x9 x.ob)] (o6 false),l7 118 [(x9 y.ob)] (o6 false)] func88 ⟨DR,(wK hx.ok O).b (WF h),hv0.b hv,Z⟩
theorem b1t{x y:Tr}(hx:Arg x)(_hy:Arg y):l7 121 [y7 x8 [101,113,117,97,108],rowA [x,y]] (U7 (Tr.aY 1 x y o8)):=pV (.av (.o7 [inA 2,o6 true])::nK 13 [.av (o6 (decide (x=y))),.av (o9 (Z8 (decide (x=y))))]) [_,l7 112 [(x9 x.ob),(x9 y.ob)] (o6 (decide (x=y))),l7 172 [(o6 (decide (x=y)))] (x9 ((Z8 (decide (x=y))).ob))] func121 ⟨QA,b46 y hx.ok O,wU _,Z⟩
theorem b1u{x y:Tr}(hx:Arg x)(hy:Arg y):l7 88 [y7 x8 [101,113,117,97,108],rowA [x,y]] (U7 (Tr.kept' (Tr.ap 1 x y o8))):=by
 cases hv:(Tr.ap 1 x y o8).valid with
 |true =>
  rw[aP hv];exact pV (.av (.o7 [inA 2,o6 true])::nK 6 [.av (o9 (Tr.ap 1 x y o8)),yT]) [_,l7 117 [(stA [101,113,117,97,108]),(x9 x.ob),(x9 y.ob)] (o9 (Tr.ap 1 x y o8)),l7 118 [(o9 (Tr.ap 1 x y o8))] (o6 true)] func88 ⟨Qn,Zq hx hy,(W9 (t:=Tr.ap 1 x y o8) (U0 hx hy J7 1) O).b hv,Z⟩
 |false =>
  rw[bJ hv];exact pV (.av (.o7 [inA 2,o6 true])::nK 6 [.av (o9 (Tr.ap 1 x y o8)),yF]) [_,l7 117 [(stA [101,113,117,97,108]),(x9 x.ob),(x9 y.ob)] (o9 (Tr.ap 1 x y o8)),l7 118 [(o9 (Tr.ap 1 x y o8))] (o6 false)] func88 ⟨Qn,Zq hx hy,(W9 (t:=Tr.ap 1 x y o8) (U0 hx hy J7 1) O).b hv,Z⟩
theorem b1v{x y:Tr}(hx:Arg x)(hy:Arg y):l7 121 [y7 x8 [99,111,110,115],rowA [x,y]] (U7 (Tr.aY 2 x y o8)):=by
 have e:Tr.aY 2 x y o8=Tr.kept' (Tr.ap 2 x y o8):=rfl;rw[e];cases hv:(Tr.ap 2 x y o8).valid with
 |true =>
  rw[aP hv];exact pV (.av (.o7 [inA 2,o6 true])::nK 7 [.av (o9 (.cons x y)),yT]) [_,l7 167 [(x9 x.ob),(x9 y.ob)] (o9 (x.cons y)),l7 175 [(o9 (x.cons y))] (o6 true)] func121 ⟨IY,YN x.ob y.ob,(uq (t:=Tr.ap 2 x y o8) (U0 hx hy J7 2) O).b hv,Z⟩
 |false =>
  rw[bJ hv];exact pV (.av (.o7 [inA 2,o6 true])::nK 7 [.av (o9 (.cons x y)),yF]) [_,l7 167 [(x9 x.ob),(x9 y.ob)] (o9 (x.cons y)),l7 175 [(o9 (x.cons y))] (o6 false)] func121 ⟨IY,YN x.ob y.ob,(uq (t:=Tr.ap 2 x y o8) (U0 hx hy J7 2) O).b hv,Z⟩
theorem b1w{x y:Tr}(hx:Arg x)(hy:Arg y):l7 88 [y7 x8 [99,111,110,115],rowA [x,y]] (U7 (Tr.kept' (Tr.ap 2 x y o8))):=by
 cases hv:(Tr.ap 2 x y o8).valid with
 |true =>
  rw[aP hv];exact pV (.av (.o7 [inA 2,o6 true])::nK 6 [.av (o9 (Tr.ap 2 x y o8)),yT]) [_,l7 117 [(stA [99,111,110,115]),(x9 x.ob),(x9 y.ob)] (o9 (Tr.ap 2 x y o8)),l7 118 [(o9 (Tr.ap 2 x y o8))] (o6 true)] func88 ⟨Qo,Zr hx hy,(W9 (t:=Tr.ap 2 x y o8) (U0 hx hy J7 2) O).b hv,Z⟩
 |false =>
  rw[bJ hv];exact pV (.av (.o7 [inA 2,o6 true])::nK 6 [.av (o9 (Tr.ap 2 x y o8)),yF]) [_,l7 117 [(stA [99,111,110,115]),(x9 x.ob),(x9 y.ob)] (o9 (Tr.ap 2 x y o8)),l7 118 [(o9 (Tr.ap 2 x y o8))] (o6 false)] func88 ⟨Qo,Zr hx hy,(W9 (t:=Tr.ap 2 x y o8) (U0 hx hy J7 2) O).b hv,Z⟩
theorem Zv{x:Tr}(hx:Arg x):l7 121 [y7 x8 [99,97,114],rowA [x]] (U7 (Tr.aY 3 x o8 o8)):=pV (.av (.o7 [inA 1,o6 true])::nK 13 [.av (o9 (Tr.ap 3 x o8 o8))]) [_,l7 174 [(stA [99,97,114]),(x9 x.ob)] (o9 (Tr.ap 3 x o8 o8))] func121 ⟨QB,b1k hx,Z⟩
theorem b1x{x:Tr}(hx:Arg x):l7 88 [y7 x8 [99,97,114],rowA [x]] (U7 (Tr.kept' (Tr.ap 3 x o8 o8))):=by
 cases hv:(Tr.ap 3 x o8 o8).valid with
 |true =>
  rw[aP hv];exact pV (.av (.o7 [inA 1,o6 true])::nK 4 [.av (o9 (Tr.ap 3 x o8 o8)),yT]) [_,l7 116 [(stA [99,97,114]),(x9 x.ob)] (o9 (Tr.ap 3 x o8 o8)),l7 118 [(o9 (Tr.ap 3 x o8 o8))] (o6 true)] func88 ⟨Qp,Zo hx,(W9 (t:=Tr.ap 3 x o8 o8) (U0 hx J7 J7 3) O).b hv,Z⟩
 |false =>
  rw[bJ hv];exact pV (.av (.o7 [inA 1,o6 true])::nK 4 [.av (o9 (Tr.ap 3 x o8 o8)),yF]) [_,l7 116 [(stA [99,97,114]),(x9 x.ob)] (o9 (Tr.ap 3 x o8 o8)),l7 118 [(o9 (Tr.ap 3 x o8 o8))] (o6 false)] func88 ⟨Qp,Zo hx,(W9 (t:=Tr.ap 3 x o8 o8) (U0 hx J7 J7 3) O).b hv,Z⟩
theorem b1y{x:Tr}(hx:Arg x):l7 121 [y7 x8 [99,100,114],rowA [x]] (U7 (Tr.aY 4 x o8 o8)):=pV (.av (.o7 [inA 1,o6 true])::nK 13 [.av (o9 (Tr.ap 4 x o8 o8))]) [_,l7 174 [(stA [99,100,114]),(x9 x.ob)] (o9 (Tr.ap 4 x o8 o8))] func121 ⟨QC,b1l hx,Z⟩
theorem b1z{x:Tr}(hx:Arg x):l7 88 [y7 x8 [99,100,114],rowA [x]] (U7 (Tr.kept' (Tr.ap 4 x o8 o8))):=by
 cases hv:(Tr.ap 4 x o8 o8).valid with
 |true =>
  rw[aP hv];exact pV (.av (.o7 [inA 1,o6 true])::nK 4 [.av (o9 (Tr.ap 4 x o8 o8)),yT]) [_,l7 116 [(stA [99,100,114]),(x9 x.ob)] (o9 (Tr.ap 4 x o8 o8)),l7 118 [(o9 (Tr.ap 4 x o8 o8))] (o6 true)] func88 ⟨Qq,Zp hx,(W9 (t:=Tr.ap 4 x o8 o8) (U0 hx J7 J7 4) O).b hv,Z⟩
 |false =>
  rw[bJ hv];exact pV (.av (.o7 [inA 1,o6 true])::nK 4 [.av (o9 (Tr.ap 4 x o8 o8)),yF]) [_,l7 116 [(stA [99,100,114]),(x9 x.ob)] (o9 (Tr.ap 4 x o8 o8)),l7 118 [(o9 (Tr.ap 4 x o8 o8))] (o6 false)] func88 ⟨Qq,Zp hx,(W9 (t:=Tr.ap 4 x o8 o8) (U0 hx J7 J7 4) O).b hv,Z⟩
theorem b1A{x:Tr}(hx:Arg x):l7 121 [y7 x8 [99,111,110,115,112],rowA [x]] (U7 (Tr.aY 5 x o8 o8)):=pV (.av (.o7 [inA 1,o6 true])::nK 13 [.av (o9 (Tr.ap 5 x o8 o8))]) [_,l7 174 [(stA [99,111,110,115,112]),(x9 x.ob)] (o9 (Tr.ap 5 x o8 o8))] func121 ⟨QD,b1m hx,Z⟩
theorem b1B{x:Tr}(hx:Arg x):l7 88 [y7 x8 [99,111,110,115,112],rowA [x]] (U7 (Tr.kept' (Tr.ap 5 x o8 o8))):=by
 cases hv:(Tr.ap 5 x o8 o8).valid with
 |true =>
  rw[aP hv];exact pV (.av (.o7 [inA 1,o6 true])::nK 4 [.av (o9 (Tr.ap 5 x o8 o8)),yT]) [_,l7 116 [(stA [99,111,110,115,112]),(x9 x.ob)] (o9 (Tr.ap 5 x o8 o8)),l7 118 [(o9 (Tr.ap 5 x o8 o8))] (o6 true)] func88 ⟨Qr,Zj hx,(W9 (t:=Tr.ap 5 x o8 o8) (U0 hx J7 J7 5) O).b hv,Z⟩
 |false =>
  rw[bJ hv];exact pV (.av (.o7 [inA 1,o6 true])::nK 4 [.av (o9 (Tr.ap 5 x o8 o8)),yF]) [_,l7 116 [(stA [99,111,110,115,112]),(x9 x.ob)] (o9 (Tr.ap 5 x o8 o8)),l7 118 [(o9 (Tr.ap 5 x o8 o8))] (o6 false)] func88 ⟨Qr,Zj hx,(W9 (t:=Tr.ap 5 x o8 o8) (U0 hx J7 J7 5) O).b hv,Z⟩
theorem b1C{x:Tr}(hx:Arg x):l7 121 [y7 x8 [115,121,109,98,111,108,112],rowA [x]] (U7 (Tr.aY 6 x o8 o8)):=pV (.av (.o7 [inA 1,o6 true])::nK 13 [.av (o9 (Tr.ap 6 x o8 o8))]) [_,l7 174 [(stA [115,121,109,98,111,108,112]),(x9 x.ob)] (o9 (Tr.ap 6 x o8 o8))] func121 ⟨QE,b1n hx,Z⟩
theorem b1D{x:Tr}(hx:Arg x):l7 88 [y7 x8 [115,121,109,98,111,108,112],rowA [x]] (U7 (Tr.kept' (Tr.ap 6 x o8 o8))):=by
 cases hv:(Tr.ap 6 x o8 o8).valid with
 |true =>
  rw[aP hv];exact pV (.av (.o7 [inA 1,o6 true])::nK 4 [.av (o9 (Tr.ap 6 x o8 o8)),yT]) [_,l7 116 [(stA [115,121,109,98,111,108,112]),(x9 x.ob)] (o9 (Tr.ap 6 x o8 o8)),l7 118 [(o9 (Tr.ap 6 x o8 o8))] (o6 true)] func88 ⟨Qs,Zk hx,(W9 (t:=Tr.ap 6 x o8 o8) (U0 hx J7 J7 6) O).b hv,Z⟩
 |false =>
  rw[bJ hv];exact pV (.av (.o7 [inA 1,o6 true])::nK 4 [.av (o9 (Tr.ap 6 x o8 o8)),yF]) [_,l7 116 [(stA [115,121,109,98,111,108,112]),(x9 x.ob)] (o9 (Tr.ap 6 x o8 o8)),l7 118 [(o9 (Tr.ap 6 x o8 o8))] (o6 false)] func88 ⟨Qs,Zk hx,(W9 (t:=Tr.ap 6 x o8 o8) (U0 hx J7 J7 6) O).b hv,Z⟩
theorem b1E{x:Tr}(hx:Arg x):l7 121 [y7 x8 [115,116,114,105,110,103,112],rowA [x]] (U7 (Tr.aY 7 x o8 o8)):=pV (.av (.o7 [inA 1,o6 true])::nK 13 [.av (o9 (Tr.ap 7 x o8 o8))]) [_,l7 174 [(stA [115,116,114,105,110,103,112]),(x9 x.ob)] (o9 (Tr.ap 7 x o8 o8))] func121 ⟨QF,b1o hx,Z⟩
theorem b1F{x:Tr}(hx:Arg x):l7 88 [y7 x8 [115,116,114,105,110,103,112],rowA [x]] (U7 (Tr.kept' (Tr.ap 7 x o8 o8))):=by
 cases hv:(Tr.ap 7 x o8 o8).valid with
 |true =>
  rw[aP hv];exact pV (.av (.o7 [inA 1,o6 true])::nK 4 [.av (o9 (Tr.ap 7 x o8 o8)),yT]) [_,l7 116 [(stA [115,116,114,105,110,103,112]),(x9 x.ob)] (o9 (Tr.ap 7 x o8 o8)),l7 118 [(o9 (Tr.ap 7 x o8 o8))] (o6 true)] func88 ⟨Qu,Zl hx,(W9 (t:=Tr.ap 7 x o8 o8) (U0 hx J7 J7 7) O).b hv,Z⟩
 |false =>
  rw[bJ hv];exact pV (.av (.o7 [inA 1,o6 true])::nK 4 [.av (o9 (Tr.ap 7 x o8 o8)),yF]) [_,l7 116 [(stA [115,116,114,105,110,103,112]),(x9 x.ob)] (o9 (Tr.ap 7 x o8 o8)),l7 118 [(o9 (Tr.ap 7 x o8 o8))] (o6 false)] func88 ⟨Qu,Zl hx,(W9 (t:=Tr.ap 7 x o8 o8) (U0 hx J7 J7 7) O).b hv,Z⟩
theorem b1G{x:Tr}(hx:Arg x):l7 121 [y7 x8 [114,97,116,105,111,110,97,108,112],rowA [x]] (U7 (Tr.aY 8 x o8 o8)):=pV (.av (.o7 [inA 1,o6 true])::nK 13 [.av (o9 (Tr.ap 8 x o8 o8))]) [_,l7 174 [(stA [114,97,116,105,111,110,97,108,112]),(x9 x.ob)] (o9 (Tr.ap 8 x o8 o8))] func121 ⟨QG,b1p hx,Z⟩
theorem b1H{x:Tr}(hx:Arg x):l7 88 [y7 x8 [114,97,116,105,111,110,97,108,112],rowA [x]] (U7 (Tr.kept' (Tr.ap 8 x o8 o8))):=by
 cases hv:(Tr.ap 8 x o8 o8).valid with
 |true =>
  rw[aP hv];exact pV (.av (.o7 [inA 1,o6 true])::nK 4 [.av (o9 (Tr.ap 8 x o8 o8)),yT]) [_,l7 116 [(stA [114,97,116,105,111,110,97,108,112]),(x9 x.ob)] (o9 (Tr.ap 8 x o8 o8)),l7 118 [(o9 (Tr.ap 8 x o8 o8))] (o6 true)] func88 ⟨Qv,Zm hx,(W9 (t:=Tr.ap 8 x o8 o8) (U0 hx J7 J7 8) O).b hv,Z⟩
 |false =>
  rw[bJ hv];exact pV (.av (.o7 [inA 1,o6 true])::nK 4 [.av (o9 (Tr.ap 8 x o8 o8)),yF]) [_,l7 116 [(stA [114,97,116,105,111,110,97,108,112]),(x9 x.ob)] (o9 (Tr.ap 8 x o8 o8)),l7 118 [(o9 (Tr.ap 8 x o8 o8))] (o6 false)] func88 ⟨Qv,Zm hx,(W9 (t:=Tr.ap 8 x o8 o8) (U0 hx J7 J7 8) O).b hv,Z⟩
theorem b1I{x:Tr}(hx:Arg x):l7 121 [y7 x8 [105,110,116,101,103,101,114,112],rowA [x]] (U7 (Tr.aY 9 x o8 o8)):=pV (.av (.o7 [inA 1,o6 true])::nK 13 [.av (o9 (Tr.ap 9 x o8 o8))]) [_,l7 174 [(stA [105,110,116,101,103,101,114,112]),(x9 x.ob)] (o9 (Tr.ap 9 x o8 o8))] func121 ⟨QH,b1q hx,Z⟩
theorem b1J{x:Tr}(hx:Arg x):l7 88 [y7 x8 [105,110,116,101,103,101,114,112],rowA [x]] (U7 (Tr.kept' (Tr.ap 9 x o8 o8))):=by
 cases hv:(Tr.ap 9 x o8 o8).valid with
 |true =>
  rw[aP hv];exact pV (.av (.o7 [inA 1,o6 true])::nK 4 [.av (o9 (Tr.ap 9 x o8 o8)),yT]) [_,l7 116 [(stA [105,110,116,101,103,101,114,112]),(x9 x.ob)] (o9 (Tr.ap 9 x o8 o8)),l7 118 [(o9 (Tr.ap 9 x o8 o8))] (o6 true)] func88 ⟨Qw,Zn hx,(W9 (t:=Tr.ap 9 x o8 o8) (U0 hx J7 J7 9) O).b hv,Z⟩
 |false =>
  rw[bJ hv];exact pV (.av (.o7 [inA 1,o6 true])::nK 4 [.av (o9 (Tr.ap 9 x o8 o8)),yF]) [_,l7 116 [(stA [105,110,116,101,103,101,114,112]),(x9 x.ob)] (o9 (Tr.ap 9 x o8 o8)),l7 118 [(o9 (Tr.ap 9 x o8 o8))] (o6 false)] func88 ⟨Qw,Zn hx,(W9 (t:=Tr.ap 9 x o8 o8) (U0 hx J7 J7 9) O).b hv,Z⟩
theorem a9d{x y:Tr}(hx:Arg x)(hy:Arg y):l7 121 [y7 x8 [98,105,110,97,114,121,45,43],rowA [x,y]] (U7 (Tr.aY 10 x y o8)):=by
 have e:Tr.aY 10 x y o8=Tr.kept' (Tr.ap 10 x y o8):=rfl;rw[e];cases hv:(Tr.ap 10 x y o8).valid with
 |true =>
  rw[aP hv];exact pV (.av (.o7 [inA 2,o6 true])::nK 8 [.av (o9 (.num (x.val+y.val))),yT]) [_,l7 168 [(x9 x.ob),(x9 y.ob)] (x9 ((Tr.num (x.val+y.val)).ob)),l7 175 [(x9 ((Tr.num (x.val+y.val)).ob))] (o6 true)] func121 ⟨Iq,a0u hx.ok hy.ok O O,(uq (t:=Tr.ap 10 x y o8) (U0 hx hy J7 10) O).b hv,Z⟩
 |false =>
  rw[bJ hv];exact pV (.av (.o7 [inA 2,o6 true])::nK 8 [.av (o9 (.num (x.val+y.val))),yF]) [_,l7 168 [(x9 x.ob),(x9 y.ob)] (x9 ((Tr.num (x.val+y.val)).ob)),l7 175 [(x9 ((Tr.num (x.val+y.val)).ob))] (o6 false)] func121 ⟨Iq,a0u hx.ok hy.ok O O,(uq (t:=Tr.ap 10 x y o8) (U0 hx hy J7 10) O).b hv,Z⟩
theorem a9e{x y:Tr}(hx:Arg x)(hy:Arg y):l7 88 [y7 x8 [98,105,110,97,114,121,45,43],rowA [x,y]] (U7 (Tr.kept' (Tr.ap 10 x y o8))):=by
 cases hv:(Tr.ap 10 x y o8).valid with
 |true =>
  rw[aP hv];exact pV (.av (.o7 [inA 2,o6 true])::nK 6 [.av (o9 (Tr.ap 10 x y o8)),yT]) [_,l7 117 [(stA [98,105,110,97,114,121,45,43]),(x9 x.ob),(x9 y.ob)] (o9 (Tr.ap 10 x y o8)),l7 118 [(o9 (Tr.ap 10 x y o8))] (o6 true)] func88 ⟨OW,XW hx hy,(W9 (t:=Tr.ap 10 x y o8) (U0 hx hy J7 10) O).b hv,Z⟩
 |false =>
  rw[bJ hv];exact pV (.av (.o7 [inA 2,o6 true])::nK 6 [.av (o9 (Tr.ap 10 x y o8)),yF]) [_,l7 117 [(stA [98,105,110,97,114,121,45,43]),(x9 x.ob),(x9 y.ob)] (o9 (Tr.ap 10 x y o8)),l7 118 [(o9 (Tr.ap 10 x y o8))] (o6 false)] func88 ⟨OW,XW hx hy,(W9 (t:=Tr.ap 10 x y o8) (U0 hx hy J7 10) O).b hv,Z⟩
theorem a9f{x y:Tr}(hx:Arg x)(hy:Arg y):l7 121 [y7 x8 [98,105,110,97,114,121,45,42],rowA [x,y]] (U7 (Tr.aY 11 x y o8)):=by
 have e:Tr.aY 11 x y o8=Tr.kept' (Tr.ap 11 x y o8):=rfl;rw[e];cases hv:(Tr.ap 11 x y o8).valid with
 |true =>
  rw[aP hv];exact pV (.av (.o7 [inA 2,o6 true])::nK 9 [.av (o9 (.num (x.val * y.val))),yT]) [_,l7 169 [(x9 x.ob),(x9 y.ob)] (x9 ((Tr.num (x.val * y.val)).ob)),l7 175 [(x9 ((Tr.num (x.val * y.val)).ob))] (o6 true)] func121 ⟨Ir,Zh hx.ok hy.ok O O,(uq (t:=Tr.ap 11 x y o8) (U0 hx hy J7 11) O).b hv,Z⟩
 |false =>
  rw[bJ hv];exact pV (.av (.o7 [inA 2,o6 true])::nK 9 [.av (o9 (.num (x.val * y.val))),yF]) [_,l7 169 [(x9 x.ob),(x9 y.ob)] (x9 ((Tr.num (x.val * y.val)).ob)),l7 175 [(x9 ((Tr.num (x.val * y.val)).ob))] (o6 false)] func121 ⟨Ir,Zh hx.ok hy.ok O O,(uq (t:=Tr.ap 11 x y o8) (U0 hx hy J7 11) O).b hv,Z⟩
theorem a9g{x y:Tr}(hx:Arg x)(hy:Arg y):l7 88 [y7 x8 [98,105,110,97,114,121,45,42],rowA [x,y]] (U7 (Tr.kept' (Tr.ap 11 x y o8))):=by
 cases hv:(Tr.ap 11 x y o8).valid with
 |true =>
  rw[aP hv];exact pV (.av (.o7 [inA 2,o6 true])::nK 6 [.av (o9 (Tr.ap 11 x y o8)),yT]) [_,l7 117 [(stA [98,105,110,97,114,121,45,42]),(x9 x.ob),(x9 y.ob)] (o9 (Tr.ap 11 x y o8)),l7 118 [(o9 (Tr.ap 11 x y o8))] (o6 true)] func88 ⟨OX,XX hx hy,(W9 (t:=Tr.ap 11 x y o8) (U0 hx hy J7 11) O).b hv,Z⟩
 |false =>
  rw[bJ hv];exact pV (.av (.o7 [inA 2,o6 true])::nK 6 [.av (o9 (Tr.ap 11 x y o8)),yF]) [_,l7 117 [(stA [98,105,110,97,114,121,45,42]),(x9 x.ob),(x9 y.ob)] (o9 (Tr.ap 11 x y o8)),l7 118 [(o9 (Tr.ap 11 x y o8))] (o6 false)] func88 ⟨OX,XX hx hy,(W9 (t:=Tr.ap 11 x y o8) (U0 hx hy J7 11) O).b hv,Z⟩
theorem a9h{x:Tr}(hx:Arg x):l7 121 [y7 x8 [117,110,97,114,121,45,45],rowA [x]] (U7 (Tr.aY 12 x o8 o8)):=pV (.av (.o7 [inA 1,o6 true])::nK 13 [.av (o9 (Tr.ap 12 x o8 o8))]) [_,l7 174 [(stA [117,110,97,114,121,45,45]),(x9 x.ob)] (o9 (Tr.ap 12 x o8 o8))] func121 ⟨PG,a8V hx,Z⟩
theorem a9i{x:Tr}(hx:Arg x):l7 88 [y7 x8 [117,110,97,114,121,45,45],rowA [x]] (U7 (Tr.kept' (Tr.ap 12 x o8 o8))):=by
 cases hv:(Tr.ap 12 x o8 o8).valid with
 |true =>
  rw[aP hv];exact pV (.av (.o7 [inA 1,o6 true])::nK 4 [.av (o9 (Tr.ap 12 x o8 o8)),yT]) [_,l7 116 [(stA [117,110,97,114,121,45,45]),(x9 x.ob)] (o9 (Tr.ap 12 x o8 o8)),l7 118 [(o9 (Tr.ap 12 x o8 o8))] (o6 true)] func88 ⟨OY,XM hx,(W9 (t:=Tr.ap 12 x o8 o8) (U0 hx J7 J7 12) O).b hv,Z⟩
 |false =>
  rw[bJ hv];exact pV (.av (.o7 [inA 1,o6 true])::nK 4 [.av (o9 (Tr.ap 12 x o8 o8)),yF]) [_,l7 116 [(stA [117,110,97,114,121,45,45]),(x9 x.ob)] (o9 (Tr.ap 12 x o8 o8)),l7 118 [(o9 (Tr.ap 12 x o8 o8))] (o6 false)] func88 ⟨OY,XM hx,(W9 (t:=Tr.ap 12 x o8 o8) (U0 hx J7 J7 12) O).b hv,Z⟩
theorem a9j{x:Tr}(hx:Arg x):l7 121 [y7 x8 [117,110,97,114,121,45,47],rowA [x]] (U7 (Tr.aY 13 x o8 o8)):=pV (.av (.o7 [inA 1,o6 true])::nK 13 [.av (o9 (Tr.ap 13 x o8 o8))]) [_,l7 174 [(stA [117,110,97,114,121,45,47]),(x9 x.ob)] (o9 (Tr.ap 13 x o8 o8))] func121 ⟨PH,a8W hx,Z⟩
theorem a9k{x:Tr}(hx:Arg x):l7 88 [y7 x8 [117,110,97,114,121,45,47],rowA [x]] (U7 (Tr.kept' (Tr.ap 13 x o8 o8))):=by
 cases hv:(Tr.ap 13 x o8 o8).valid with
 |true =>
  rw[aP hv];exact pV (.av (.o7 [inA 1,o6 true])::nK 4 [.av (o9 (Tr.ap 13 x o8 o8)),yT]) [_,l7 116 [(stA [117,110,97,114,121,45,47]),(x9 x.ob)] (o9 (Tr.ap 13 x o8 o8)),l7 118 [(o9 (Tr.ap 13 x o8 o8))] (o6 true)] func88 ⟨OZ,XN hx,(W9 (t:=Tr.ap 13 x o8 o8) (U0 hx J7 J7 13) O).b hv,Z⟩
 |false =>
  rw[bJ hv];exact pV (.av (.o7 [inA 1,o6 true])::nK 4 [.av (o9 (Tr.ap 13 x o8 o8)),yF]) [_,l7 116 [(stA [117,110,97,114,121,45,47]),(x9 x.ob)] (o9 (Tr.ap 13 x o8 o8)),l7 118 [(o9 (Tr.ap 13 x o8 o8))] (o6 false)] func88 ⟨OZ,XN hx,(W9 (t:=Tr.ap 13 x o8 o8) (U0 hx J7 J7 13) O).b hv,Z⟩
theorem a9l{x y:Tr}(hx:Arg x)(hy:Arg y):l7 121 [y7 x8 [60],rowA [x,y]] (U7 (Tr.aY 14 x y o8)):=pV (.av (.o7 [inA 2,o6 true])::nK 14 [.av (o6 (decide (x.val < y.val))),.av (o9 (Z8 (decide (x.val < y.val))))]) [_,l7 173 [(x9 x.ob),(x9 y.ob)] (o6 (decide (x.val < y.val))),l7 172 [(o6 (decide (x.val < y.val)))] (x9 ((Z8 (decide (x.val < y.val))).ob))] func121 ⟨PI,a8R hx.ok hy.ok O O,wU _,Z⟩
theorem a9m{x y:Tr}(hx:Arg x)(hy:Arg y):l7 88 [y7 x8 [60],rowA [x,y]] (U7 (Tr.kept' (Tr.ap 14 x y o8))):=by
 cases hv:(Tr.ap 14 x y o8).valid with
 |true =>
  rw[aP hv];exact pV (.av (.o7 [inA 2,o6 true])::nK 6 [.av (o9 (Tr.ap 14 x y o8)),yT]) [_,l7 117 [(stA [60]),(x9 x.ob),(x9 y.ob)] (o9 (Tr.ap 14 x y o8)),l7 118 [(o9 (Tr.ap 14 x y o8))] (o6 true)] func88 ⟨Pe,XY hx hy,(W9 (t:=Tr.ap 14 x y o8) (U0 hx hy J7 14) O).b hv,Z⟩
 |false =>
  rw[bJ hv];exact pV (.av (.o7 [inA 2,o6 true])::nK 6 [.av (o9 (Tr.ap 14 x y o8)),yF]) [_,l7 117 [(stA [60]),(x9 x.ob),(x9 y.ob)] (o9 (Tr.ap 14 x y o8)),l7 118 [(o9 (Tr.ap 14 x y o8))] (o6 false)] func88 ⟨Pe,XY hx hy,(W9 (t:=Tr.ap 14 x y o8) (U0 hx hy J7 14) O).b hv,Z⟩
theorem a9n{x:Tr}(hx:Arg x):l7 121 [y7 x8 [110,117,109,101,114,97,116,111,114],rowA [x]] (U7 (Tr.aY 15 x o8 o8)):=pV (.av (.o7 [inA 1,o6 true])::nK 13 [.av (o9 (Tr.ap 15 x o8 o8))]) [_,l7 174 [(stA [110,117,109,101,114,97,116,111,114]),(x9 x.ob)] (o9 (Tr.ap 15 x o8 o8))] func121 ⟨PK,a8X hx,Z⟩
theorem a9o{x:Tr}(hx:Arg x):l7 88 [y7 x8 [110,117,109,101,114,97,116,111,114],rowA [x]] (U7 (Tr.kept' (Tr.ap 15 x o8 o8))):=by
 cases hv:(Tr.ap 15 x o8 o8).valid with
 |true =>
  rw[aP hv];exact pV (.av (.o7 [inA 1,o6 true])::nK 4 [.av (o9 (Tr.ap 15 x o8 o8)),yT]) [_,l7 116 [(stA [110,117,109,101,114,97,116,111,114]),(x9 x.ob)] (o9 (Tr.ap 15 x o8 o8)),l7 118 [(o9 (Tr.ap 15 x o8 o8))] (o6 true)] func88 ⟨Pg,XO hx,(W9 (t:=Tr.ap 15 x o8 o8) (U0 hx J7 J7 15) O).b hv,Z⟩
 |false =>
  rw[bJ hv];exact pV (.av (.o7 [inA 1,o6 true])::nK 4 [.av (o9 (Tr.ap 15 x o8 o8)),yF]) [_,l7 116 [(stA [110,117,109,101,114,97,116,111,114]),(x9 x.ob)] (o9 (Tr.ap 15 x o8 o8)),l7 118 [(o9 (Tr.ap 15 x o8 o8))] (o6 false)] func88 ⟨Pg,XO hx,(W9 (t:=Tr.ap 15 x o8 o8) (U0 hx J7 J7 15) O).b hv,Z⟩
theorem a9p{x:Tr}(hx:Arg x):l7 121 [y7 x8 [100,101,110,111,109,105,110,97,116,111,114],rowA [x]] (U7 (Tr.aY 16 x o8 o8)):=pV (.av (.o7 [inA 1,o6 true])::nK 13 [.av (o9 (Tr.ap 16 x o8 o8))]) [_,l7 174 [(stA [100,101,110,111,109,105,110,97,116,111,114]),(x9 x.ob)] (o9 (Tr.ap 16 x o8 o8))] func121 ⟨PL,a8Y hx,Z⟩
theorem a9q{x:Tr}(hx:Arg x):l7 88 [y7 x8 [100,101,110,111,109,105,110,97,116,111,114],rowA [x]] (U7 (Tr.kept' (Tr.ap 16 x o8 o8))):=by
 cases hv:(Tr.ap 16 x o8 o8).valid with
 |true =>
  rw[aP hv];exact pV (.av (.o7 [inA 1,o6 true])::nK 4 [.av (o9 (Tr.ap 16 x o8 o8)),yT]) [_,l7 116 [(stA [100,101,110,111,109,105,110,97,116,111,114]),(x9 x.ob)] (o9 (Tr.ap 16 x o8 o8)),l7 118 [(o9 (Tr.ap 16 x o8 o8))] (o6 true)] func88 ⟨Ph,XP hx,(W9 (t:=Tr.ap 16 x o8 o8) (U0 hx J7 J7 16) O).b hv,Z⟩
 |false =>
  rw[bJ hv];exact pV (.av (.o7 [inA 1,o6 true])::nK 4 [.av (o9 (Tr.ap 16 x o8 o8)),yF]) [_,l7 116 [(stA [100,101,110,111,109,105,110,97,116,111,114]),(x9 x.ob)] (o9 (Tr.ap 16 x o8 o8)),l7 118 [(o9 (Tr.ap 16 x o8 o8))] (o6 false)] func88 ⟨Ph,XP hx,(W9 (t:=Tr.ap 16 x o8 o8) (U0 hx J7 J7 16) O).b hv,Z⟩
theorem a9r{x:Tr}(hx:Arg x):l7 121 [y7 x8 [102,108,111,111,114],rowA [x]] (U7 (Tr.aY 17 x o8 o8)):=pV (.av (.o7 [inA 1,o6 true])::nK 13 [.av (o9 (Tr.ap 17 x o8 o8))]) [_,l7 174 [(stA [102,108,111,111,114]),(x9 x.ob)] (o9 (Tr.ap 17 x o8 o8))] func121 ⟨PM,a8Z hx,Z⟩
theorem a9s{x:Tr}(hx:Arg x):l7 88 [y7 x8 [102,108,111,111,114],rowA [x]] (U7 (Tr.kept' (Tr.ap 17 x o8 o8))):=by
 cases hv:(Tr.ap 17 x o8 o8).valid with
 |true =>
  rw[aP hv];exact pV (.av (.o7 [inA 1,o6 true])::nK 4 [.av (o9 (Tr.ap 17 x o8 o8)),yT]) [_,l7 116 [(stA [102,108,111,111,114]),(x9 x.ob)] (o9 (Tr.ap 17 x o8 o8)),l7 118 [(o9 (Tr.ap 17 x o8 o8))] (o6 true)] func88 ⟨Pj,XQ hx,(W9 (t:=Tr.ap 17 x o8 o8) (U0 hx J7 J7 17) O).b hv,Z⟩
 |false =>
  rw[bJ hv];exact pV (.av (.o7 [inA 1,o6 true])::nK 4 [.av (o9 (Tr.ap 17 x o8 o8)),yF]) [_,l7 116 [(stA [102,108,111,111,114]),(x9 x.ob)] (o9 (Tr.ap 17 x o8 o8)),l7 118 [(o9 (Tr.ap 17 x o8 o8))] (o6 false)] func88 ⟨Pj,XQ hx,(W9 (t:=Tr.ap 17 x o8 o8) (U0 hx J7 J7 17) O).b hv,Z⟩
theorem a9t{x:Tr}(hx:Arg x):l7 121 [y7 x8 [115,121,109,98,111,108,45,110,97,109,101],rowA [x]] (U7 (Tr.aY 18 x o8 o8)):=pV (.av (.o7 [inA 1,o6 true])::nK 13 [.av (o9 (Tr.ap 18 x o8 o8))]) [_,l7 174 [(stA [115,121,109,98,111,108,45,110,97,109,101]),(x9 x.ob)] (o9 (Tr.ap 18 x o8 o8))] func121 ⟨PN,a81 hx,Z⟩
theorem a9u{x:Tr}(hx:Arg x):l7 88 [y7 x8 [115,121,109,98,111,108,45,110,97,109,101],rowA [x]] (U7 (Tr.kept' (Tr.ap 18 x o8 o8))):=by
 cases hv:(Tr.ap 18 x o8 o8).valid with
 |true =>
  rw[aP hv];exact pV (.av (.o7 [inA 1,o6 true])::nK 4 [.av (o9 (Tr.ap 18 x o8 o8)),yT]) [_,l7 116 [(stA [115,121,109,98,111,108,45,110,97,109,101]),(x9 x.ob)] (o9 (Tr.ap 18 x o8 o8)),l7 118 [(o9 (Tr.ap 18 x o8 o8))] (o6 true)] func88 ⟨Pm,XR hx,(W9 (t:=Tr.ap 18 x o8 o8) (U0 hx J7 J7 18) O).b hv,Z⟩
 |false =>
  rw[bJ hv];exact pV (.av (.o7 [inA 1,o6 true])::nK 4 [.av (o9 (Tr.ap 18 x o8 o8)),yF]) [_,l7 116 [(stA [115,121,109,98,111,108,45,110,97,109,101]),(x9 x.ob)] (o9 (Tr.ap 18 x o8 o8)),l7 118 [(o9 (Tr.ap 18 x o8 o8))] (o6 false)] func88 ⟨Pm,XR hx,(W9 (t:=Tr.ap 18 x o8 o8) (U0 hx J7 J7 18) O).b hv,Z⟩
theorem a9v{x:Tr}(hx:Arg x):l7 121 [y7 x8 [115,121,109,98,111,108,45,112,97,99,107,97,103,101,45,110,97,109,101],rowA [x]] (U7 (Tr.aY 19 x o8 o8)):=pV (.av (.o7 [inA 1,o6 true])::nK 13 [.av (o9 (Tr.ap 19 x o8 o8))]) [_,l7 174 [(stA [115,121,109,98,111,108,45,112,97,99,107,97,103,101,45,110,97,109,101]),(x9 x.ob)] (o9 (Tr.ap 19 x o8 o8))] func121 ⟨PO,a88 hx,Z⟩
theorem a9w{x:Tr}(hx:Arg x):l7 88 [y7 x8 [115,121,109,98,111,108,45,112,97,99,107,97,103,101,45,110,97,109,101],rowA [x]] (U7 (Tr.kept' (Tr.ap 19 x o8 o8))):=by
 cases hv:(Tr.ap 19 x o8 o8).valid with
 |true =>
  rw[aP hv];exact pV (.av (.o7 [inA 1,o6 true])::nK 4 [.av (o9 (Tr.ap 19 x o8 o8)),yT]) [_,l7 116 [(stA [115,121,109,98,111,108,45,112,97,99,107,97,103,101,45,110,97,109,101]),(x9 x.ob)] (o9 (Tr.ap 19 x o8 o8)),l7 118 [(o9 (Tr.ap 19 x o8 o8))] (o6 true)] func88 ⟨Pn,XT hx,(W9 (t:=Tr.ap 19 x o8 o8) (U0 hx J7 J7 19) O).b hv,Z⟩
 |false =>
  rw[bJ hv];exact pV (.av (.o7 [inA 1,o6 true])::nK 4 [.av (o9 (Tr.ap 19 x o8 o8)),yF]) [_,l7 116 [(stA [115,121,109,98,111,108,45,112,97,99,107,97,103,101,45,110,97,109,101]),(x9 x.ob)] (o9 (Tr.ap 19 x o8 o8)),l7 118 [(o9 (Tr.ap 19 x o8 o8))] (o6 false)] func88 ⟨Pn,XT hx,(W9 (t:=Tr.ap 19 x o8 o8) (U0 hx J7 J7 19) O).b hv,Z⟩
theorem a9x{x y:Tr}(hx:Arg x)(hy:Arg y):l7 121 [y7 x8 [105,110,116,101,114,110],rowA [x,y]] (U7 (Tr.aY 20 x y o8)):=pV (.av (.o7 [inA 2,o6 true])::nK 11 [.av (o9 (Tr.ap 20 x y o8))]) [_,l7 171 [(x9 x.ob),(x9 y.ob)] (o9 (Tr.ap 20 x y o8))] func121 ⟨PQ,a7k hx.ok hy.ok,Z⟩
theorem a9y{x y:Tr}(hx:Arg x)(hy:Arg y):l7 88 [y7 x8 [105,110,116,101,114,110],rowA [x,y]] (U7 (Tr.kept' (Tr.ap 20 x y o8))):=by
 cases hv:(Tr.ap 20 x y o8).valid with
 |true =>
  rw[aP hv];exact pV (.av (.o7 [inA 2,o6 true])::nK 6 [.av (o9 (Tr.ap 20 x y o8)),yT]) [_,l7 117 [(stA [105,110,116,101,114,110]),(x9 x.ob),(x9 y.ob)] (o9 (Tr.ap 20 x y o8)),l7 118 [(o9 (Tr.ap 20 x y o8))] (o6 true)] func88 ⟨Po,Ya hx hy,(W9 (t:=Tr.ap 20 x y o8) (U0 hx hy J7 20) O).b hv,Z⟩
 |false =>
  rw[bJ hv];exact pV (.av (.o7 [inA 2,o6 true])::nK 6 [.av (o9 (Tr.ap 20 x y o8)),yF]) [_,l7 117 [(stA [105,110,116,101,114,110]),(x9 x.ob),(x9 y.ob)] (o9 (Tr.ap 20 x y o8)),l7 118 [(o9 (Tr.ap 20 x y o8))] (o6 false)] func88 ⟨Po,Ya hx hy,(W9 (t:=Tr.ap 20 x y o8) (U0 hx hy J7 20) O).b hv,Z⟩
theorem a9z{x y:Tr}(hx:Arg x)(hy:Arg y):l7 121 [y7 x8 [115,116,114,105,110,103,45,97,112,112,101,110,100],rowA [x,y]] (U7 (Tr.aY 21 x y o8)):=by
 have e:Tr.aY 21 x y o8=Tr.kept' (Tr.ap 21 x y o8):=rfl;rw[e];cases hv:(Tr.ap 21 x y o8).valid with
 |true =>
  rw[aP hv];exact pV (.av (.o7 [inA 2,o6 true])::nK 10 [.av (stA (x.tx++y.tx)),.av (o9 (.txt (x.tx++y.tx))),yT]) [_,Bs .add 9 67 69 x.ob.text y.ob.text (str (x.tx++y.tx)),l7 170 [(stA (x.tx++y.tx))] (x9 ((Tr.txt (x.tx++y.tx)).ob)),l7 175 [(x9 ((Tr.txt (x.tx++y.tx)).ob))] (o6 true)] func121 ⟨Iu,Hz (a:=x.tx) (b:=y.tx) (by have:=hx.tx;have:=hy.tx;omega),zF _,(uq (t:=Tr.ap 21 x y o8) (U0 hx hy J7 21) O).b hv,Z⟩
 |false =>
  rw[bJ hv];exact pV (.av (.o7 [inA 2,o6 true])::nK 10 [.av (stA (x.tx++y.tx)),.av (o9 (.txt (x.tx++y.tx))),yF]) [_,Bs .add 9 67 69 x.ob.text y.ob.text (str (x.tx++y.tx)),l7 170 [(stA (x.tx++y.tx))] (x9 ((Tr.txt (x.tx++y.tx)).ob)),l7 175 [(x9 ((Tr.txt (x.tx++y.tx)).ob))] (o6 false)] func121 ⟨Iu,Hz (a:=x.tx) (b:=y.tx) (by have:=hx.tx;have:=hy.tx;omega),zF _,(uq (t:=Tr.ap 21 x y o8) (U0 hx hy J7 21) O).b hv,Z⟩
theorem a9A{x y:Tr}(hx:Arg x)(hy:Arg y):l7 88 [y7 x8 [115,116,114,105,110,103,45,97,112,112,101,110,100],rowA [x,y]] (U7 (Tr.kept' (Tr.ap 21 x y o8))):=by
 cases hv:(Tr.ap 21 x y o8).valid with
 |true =>
  rw[aP hv];exact pV (.av (.o7 [inA 2,o6 true])::nK 6 [.av (o9 (Tr.ap 21 x y o8)),yT]) [_,l7 117 [(stA [115,116,114,105,110,103,45,97,112,112,101,110,100]),(x9 x.ob),(x9 y.ob)] (o9 (Tr.ap 21 x y o8)),l7 118 [(o9 (Tr.ap 21 x y o8))] (o6 true)] func88 ⟨Pv,XZ hx hy,(W9 (t:=Tr.ap 21 x y o8) (U0 hx hy J7 21) O).b hv,Z⟩
 |false =>
  rw[bJ hv];exact pV (.av (.o7 [inA 2,o6 true])::nK 6 [.av (o9 (Tr.ap 21 x y o8)),yF]) [_,l7 117 [(stA [115,116,114,105,110,103,45,97,112,112,101,110,100]),(x9 x.ob),(x9 y.ob)] (o9 (Tr.ap 21 x y o8)),l7 118 [(o9 (Tr.ap 21 x y o8))] (o6 false)] func88 ⟨Pv,XZ hx hy,(W9 (t:=Tr.ap 21 x y o8) (U0 hx hy J7 21) O).b hv,Z⟩
theorem a9B{x:Tr}(hx:Arg x):l7 121 [y7 x8 [115,116,114,105,110,103,45,108,101,110,103,116,104],rowA [x]] (U7 (Tr.aY 22 x o8 o8)):=pV (.av (.o7 [inA 1,o6 true])::nK 13 [.av (o9 (Tr.ap 22 x o8 o8))]) [_,l7 174 [(stA [115,116,114,105,110,103,45,108,101,110,103,116,104]),(x9 x.ob)] (o9 (Tr.ap 22 x o8 o8))] func121 ⟨PR,a9a hx,Z⟩
theorem a9C{x:Tr}(hx:Arg x):l7 88 [y7 x8 [115,116,114,105,110,103,45,108,101,110,103,116,104],rowA [x]] (U7 (Tr.kept' (Tr.ap 22 x o8 o8))):=by
 cases hv:(Tr.ap 22 x o8 o8).valid with
 |true =>
  rw[aP hv];exact pV (.av (.o7 [inA 1,o6 true])::nK 4 [.av (o9 (Tr.ap 22 x o8 o8)),yT]) [_,l7 116 [(stA [115,116,114,105,110,103,45,108,101,110,103,116,104]),(x9 x.ob)] (o9 (Tr.ap 22 x o8 o8)),l7 118 [(o9 (Tr.ap 22 x o8 o8))] (o6 true)] func88 ⟨Px,XU hx,(W9 (t:=Tr.ap 22 x o8 o8) (U0 hx J7 J7 22) O).b hv,Z⟩
 |false =>
  rw[bJ hv];exact pV (.av (.o7 [inA 1,o6 true])::nK 4 [.av (o9 (Tr.ap 22 x o8 o8)),yF]) [_,l7 116 [(stA [115,116,114,105,110,103,45,108,101,110,103,116,104]),(x9 x.ob)] (o9 (Tr.ap 22 x o8 o8)),l7 118 [(o9 (Tr.ap 22 x o8 o8))] (o6 false)] func88 ⟨Px,XU hx,(W9 (t:=Tr.ap 22 x o8 o8) (U0 hx J7 J7 22) O).b hv,Z⟩
theorem a9D{x y:Tr}(_:Arg x)(hy:Arg y):l7 121 [y7 x8 [115,116,114,105,110,103,45,98,121,116,101],rowA [x,y]] (U7 (Tr.aY 23 x y o8)):=by
 have e:Tr.aY 23 x y o8=some (Tr.ap 23 x y o8):=rfl;rw[e];have hi:=a1I x hy.ok O;cases ho:x.eG y with
 |none =>
  rw[a0B ho];rw[ho]at hi;exact pV (.av (.o7 [inA 2,o6 true])::nK 12 [.av (.o7 [inA (xJ x y),o6 false]),.av (o9 o8)]) [_,_,_] func121 ⟨Iw,hi,nN,Z⟩
 |some n =>
  obtain⟨h2,_,_,h0,h1⟩:=XL ho;rw[a0C ho];rw[ho,h2]at hi;generalize hb:x.tx.getD n.toNat 0=b;have hg:=Zt h0 h1;rw[hb]at hg;have:=b.toNat_lt;exact pV (.av (.o7 [inA 2,o6 true])::nK 12 [.av (.o7 [inA n,o6 true]),.av (.dt (.val (.int .u8 b.toNat))),.av (inA b.toNat),.av (o9 (.num ((b.toNat:Int):Rat)))]) [_,_,jL ({ data:=x.ob.text.toArray:ByteArray }) n (Value.int .u8 ↑b.toNat),(vi ↑b.toNat)=(vi (IntKind.i64.wrap ↑b.toNat)),l7 46 [(inA ↑b.toNat)] (o9 (Tr.num ↑↑b.toNat))] func121 ⟨Iw,hi,⟨b,h0,by rw[NH];exact hg,rfl⟩,by rw[Zu],zN _ J J,Z⟩
theorem a9E{x y:Tr}(hx:Arg x)(hy:Arg y):l7 88 [y7 x8 [115,116,114,105,110,103,45,98,121,116,101],rowA [x,y]] (U7 (Tr.kept' (Tr.ap 23 x y o8))):=by
 cases hv:(Tr.ap 23 x y o8).valid with
 |true =>
  rw[aP hv];exact pV (.av (.o7 [inA 2,o6 true])::nK 6 [.av (o9 (Tr.ap 23 x y o8)),yT]) [_,l7 117 [(stA [115,116,114,105,110,103,45,98,121,116,101]),(x9 x.ob),(x9 y.ob)] (o9 (Tr.ap 23 x y o8)),l7 118 [(o9 (Tr.ap 23 x y o8))] (o6 true)] func88 ⟨Py,Yb hx hy,(W9 (t:=Tr.ap 23 x y o8) (U0 hx hy J7 23) O).b hv,Z⟩
 |false =>
  rw[bJ hv];exact pV (.av (.o7 [inA 2,o6 true])::nK 6 [.av (o9 (Tr.ap 23 x y o8)),yF]) [_,l7 117 [(stA [115,116,114,105,110,103,45,98,121,116,101]),(x9 x.ob),(x9 y.ob)] (o9 (Tr.ap 23 x y o8)),l7 118 [(o9 (Tr.ap 23 x y o8))] (o6 false)] func88 ⟨Py,Yb hx hy,(W9 (t:=Tr.ap 23 x y o8) (U0 hx hy J7 23) O).b hv,Z⟩
theorem a9F{x:Tr}(hx:Arg x):l7 121 [y7 x8 [98,121,116,101,45,115,116,114,105,110,103],rowA [x]] (U7 (Tr.aY 24 x o8 o8)):=pV (.av (.o7 [inA 1,o6 true])::nK 13 [.av (o9 (Tr.ap 24 x o8 o8))]) [_,l7 174 [(stA [98,121,116,101,45,115,116,114,105,110,103]),(x9 x.ob)] (o9 (Tr.ap 24 x o8 o8))] func121 ⟨PS,a9b hx,Z⟩
theorem a9G{x:Tr}(hx:Arg x):l7 88 [y7 x8 [98,121,116,101,45,115,116,114,105,110,103],rowA [x]] (U7 (Tr.kept' (Tr.ap 24 x o8 o8))):=by
 cases hv:(Tr.ap 24 x o8 o8).valid with
 |true =>
  rw[aP hv];exact pV (.av (.o7 [inA 1,o6 true])::nK 4 [.av (o9 (Tr.ap 24 x o8 o8)),yT]) [_,l7 116 [(stA [98,121,116,101,45,115,116,114,105,110,103]),(x9 x.ob)] (o9 (Tr.ap 24 x o8 o8)),l7 118 [(o9 (Tr.ap 24 x o8 o8))] (o6 true)] func88 ⟨Pz,XV hx,(W9 (t:=Tr.ap 24 x o8 o8) (U0 hx J7 J7 24) O).b hv,Z⟩
 |false =>
  rw[bJ hv];exact pV (.av (.o7 [inA 1,o6 true])::nK 4 [.av (o9 (Tr.ap 24 x o8 o8)),yF]) [_,l7 116 [(stA [98,121,116,101,45,115,116,114,105,110,103]),(x9 x.ob)] (o9 (Tr.ap 24 x o8 o8)),l7 118 [(o9 (Tr.ap 24 x o8 o8))] (o6 false)] func88 ⟨Pz,XV hx,(W9 (t:=Tr.ap 24 x o8 o8) (U0 hx J7 J7 24) O).b hv,Z⟩
theorem a1K{n:Int}(h:n.natAbs < 10 ^ 100):dg (Lib.itoa n)≤100:=by
 have e:norm (Lib.itoa n)=Lib.itoa n:=by rw[norm_eq,l9.P9]
 have h1:=l9.qQ (k:=100) O h;show (l9.mag (norm (Lib.itoa n))).length≤100;rw[e];by_cases hv:n < 0
 ·rw[wC hv,l9.wF];exact h1
 ·rw[yP J];exact Za6 (l9.lV _) h1
theorem a1L{n:Int}(h:dg (Lib.itoa n)≤100):n.natAbs < 10 ^ 100:=by
 obtain⟨hd,_,hv,_⟩:=zg (Lib.itoa n);rw[l9.P9]at hv;rw[←hv];exact Zaa (l9.CZ _ hd) (ZaF O h)
namespace Tr
theorem zt{q:Rat}:good (.num q)=true↔Rb 100 q:=by
 show decide (dg (Lib.itoa q.num)≤100∧dg (Lib.itoa (q.den:Int))≤100)=true↔_;rw[Za3];constructor
 ·intro h;have h2:=a1L h.2;rw[Int.natAbs_natCast]at h2;exact⟨a1L h.1,h2,O⟩
 ·intro h;exact⟨a1K h.num,a1K (by rw[Int.natAbs_natCast];exact h.den)⟩
theorem lX{t:Tr}(h:t.valid=true):t.good=true:=(qW.1 h).2
theorem CY{t:Tr}(h:t.good=true):Rb 100 t.val:=by
 cases t with
 |num q=>exact zt.1 h
 |_=>exact Rb.zero.mono O
theorem PV{t:Tr}(h:t.good=true):t.tx.length≤200:=by
 cases t with
 |txt s=>exact Zad h
 |_=>exact ww _
theorem NR{q:Rat}(h:Rb 100 q):valid (.num q)=true:=qW.2 ⟨(by decide:1≤3000),zt.2 h⟩
theorem Cj{n:Int}(h:n.natAbs < 10 ^ 100):valid (.num (n:Rat))=true:=NR (FW O h)
theorem yY{l:aa0}(h:l.length≤200):valid (.txt l)=true:=qW.2 ⟨(by decide:1≤3000),UV h⟩
theorem a7l{p s:aa0}(h:Y8 ⟨p,s⟩=true):valid (.sym p s)=true:=qW.2 ⟨(by decide:1≤3000),h⟩
theorem gu:valid o8=true:=by decide +kernel
theorem Dp:valid (.sym x8 [116])=true:=by decide +kernel
theorem iy(b:Bool):valid (Z8 b)=true:=by cases b;exact gu;exact Dp
theorem H6{t:Tr}(h:t.valid=true):Arg t:=⟨(OI (lX h)).mono O,Za6 (PV (lX h)) O⟩
theorem Yd{p s:aa0}(h:Y8 ⟨p,s⟩=true):p.length≤40∧s.length≤40:=by
 have h':(ja p && kW s)=true:=h;simp only[ja,kW,AC,Za3]at h';omega
theorem Ye{x y z:Tr}(hx:x.valid=true)(hy:y.valid=true)(hz:z.valid=true):∀i:Nat,i≠2→i≠10→i≠11→i≠21→(ap i x y z).valid=true
 |0,_,_,_,_=>by
  show (if x=o8 then z else y).valid=true;split
  ·exact hz
  ·exact hy
 |1,_,_,_,_=>iy _
 |2,h,_,_,_=>absurd rfl h
 |3,_,_,_,_=>by
  cases x with
  |cons a d=>exact (Vr hx).1
  |_=>exact gu
 |4,_,_,_,_=>by
  cases x with
  |cons a d=>exact (Vr hx).2
  |_=>exact gu
 |5,_,_,_,_=>iy _
 |6,_,_,_,_=>iy _
 |7,_,_,_,_=>iy _
 |8,_,_,_,_=>iy _
 |9,_,_,_,_=>iy _
 |10,_,h,_,_=>absurd rfl h
 |11,_,_,h,_=>absurd rfl h
 |12,_,_,_,_=>NR (CY (lX hx)).neg
 |13,_,_,_,_=>NR (CY (lX hx)).inv
 |14,_,_,_,_=>iy _
 |15,_,_,_,_=>Cj (CY (lX hx)).num
 |16,_,_,_,_=>Cj (by rw[Int.natAbs_natCast];exact (CY (lX hx)).den)
 |17,_,_,_,_=>Cj (by
   have hp:(0:Int) < x.val.den:=Int.natCast_pos.2 x.val.den_pos;unfold qd;rw[lw J,Za0 hp];exact Nat.lt_of_le_of_lt (Int.natAbs_ediv_le_natAbs _ _) (CY (lX hx)).num)
 |18,_,_,_,_=>by
  cases x with
  |sym p s=>exact yY (by have h:=Yd (lX hx);show s.length≤200;omega)
  |_=>exact yY (ww _)
 |19,_,_,_,_=>by
  cases x with
  |sym p s=>exact yY (by have h:=Yd (lX hx);show p.length≤200;omega)
  |_=>exact yY (ww _)
 |20,_,_,_,_=>by
  show (if x.O9 && y.O9 && Y8 ⟨y.tx,x.tx⟩ then Tr.sym y.tx x.tx else o8).valid=true;split
  ·rename_i h;rw[AC]at h;exact a7l h.2
  ·exact gu
 |21,_,_,_,h=>absurd rfl h
 |22,_,_,_,_=>Cj (by
   have:=PV (lX hx);rw[Int.natAbs_natCast];exact Nat.lt_of_le_of_lt this O)
 |23,_,_,_,_=>by
  show (match x.eG y with | some n=>Tr.num (((x.tx.getD n.toNat 0).toNat:Int):Rat) | none=>o8).valid=true;split
  ·rename_i n _;exact Cj (by rw[Int.natAbs_natCast];exact Nat.lt_trans (x.tx.getD n.toNat 0).toNat_lt O)
  ·exact gu
 |24,_,_,_,_=>by
  show (match x.dJ with | some n=>Tr.txt [UInt8.ofNat n.toNat] | none=>Tr.txt []).valid=true;split
  ·exact yY (show 1≤200 by decide)
  ·exact yY (ww _)
 |_+25,_,_,_,_=>gu
theorem dB{x y z:Tr}(hx:x.valid=true)(hy:y.valid=true)(hz:z.valid=true)(i:Nat):aY i x y z=kept' (ap i x y z):=by
 unfold aY;split
 ·rfl
 ·rename_i h;rw[aP (Ye hx hy hz i J J J J)]
abbrev jP(i:Nat)(l:List Tr):Tr:=ap i (l.getD 0 o8) (l.getD 1 o8) (l.getD 2 o8)
end Tr
theorem O0{l:List Tr}(h:∀t∈l,t.valid=true)(i:Nat):(l.getD i o8).valid=true:=by
 rw[bi];rcases Zai i l.length with h1 | h1
 ·rw[Za2 h1];exact h _ (Zay h1)
 ·rw[Zaf h1];exact Tr.gu
theorem DT:∀{i:Nat} {s:aa0} {a:Nat},I7[i]?=some (s,a)→l7 38 [y7 x8 s] (.o7 [inA (a:Int),o6 true])
 |0,_,_,h=>by cases h;exact IX
 |1,_,_,h=>by cases h;exact QA
 |2,_,_,h=>by cases h;exact IY
 |3,_,_,h=>by cases h;exact QB
 |4,_,_,h=>by cases h;exact QC
 |5,_,_,h=>by cases h;exact QD
 |6,_,_,h=>by cases h;exact QE
 |7,_,_,h=>by cases h;exact QF
 |8,_,_,h=>by cases h;exact QG
 |9,_,_,h=>by cases h;exact QH
 |10,_,_,h=>by cases h;exact Iq
 |11,_,_,h=>by cases h;exact Ir
 |12,_,_,h=>by cases h;exact PG
 |13,_,_,h=>by cases h;exact PH
 |14,_,_,h=>by cases h;exact PI
 |15,_,_,h=>by cases h;exact PK
 |16,_,_,h=>by cases h;exact PL
 |17,_,_,h=>by cases h;exact PM
 |18,_,_,h=>by cases h;exact PN
 |19,_,_,h=>by cases h;exact PO
 |20,_,_,h=>by cases h;exact PQ
 |21,_,_,h=>by cases h;exact Iu
 |22,_,_,h=>by cases h;exact PR
 |23,_,_,h=>by cases h;exact Iw
 |24,_,_,h=>by cases h;exact PS
 |_+25,_,_,h=>by cases h
theorem a1M:∀{i:Nat} {s:aa0} {a:Nat} {l:List Tr},I7[i]?=some (s,a)→(∀t∈l,t.valid=true)→l.length=a→l7 121 [y7 x8 s,rowA l] (U7 (Tr.kept' (Tr.jP i l)))
 |0,_,_,[x,y,z],h,hl,_=>by cases h;exact (b1r (Tr.H6 (hl x (PP ..))) (Tr.H6 (hl y (lm _ (PP ..)))) (Tr.H6 (hl z (lm _ (lm _ (PP ..)))))).r (Tr.dB (O0 hl 0) (O0 hl 1) (O0 hl 2) 0)
 |0,_,_,[],h,_,hn=>by cases h;exact absurd hn I
 |0,_,_,[_],h,_,hn=>by cases h;exact absurd hn I
 |0,_,_,[_,_],h,_,hn=>by cases h;exact absurd hn I
 |0,_,_,_::_::_::_::_,h,_,hn=>by cases h;simp at hn
 |1,_,_,[x,y],h,hl,_=>by cases h;exact (b1t (Tr.H6 (hl x (PP ..))) (Tr.H6 (hl y (lm _ (PP ..))))).r (Tr.dB (O0 hl 0) (O0 hl 1) (O0 hl 2) 1)
 |1,_,_,[],h,_,hn=>by cases h;exact absurd hn I
 |1,_,_,[_],h,_,hn=>by cases h;exact absurd hn I
 |1,_,_,_::_::_::_,h,_,hn=>by cases h;simp at hn
 |2,_,_,[x,y],h,hl,_=>by cases h;exact (b1v (Tr.H6 (hl x (PP ..))) (Tr.H6 (hl y (lm _ (PP ..))))).r (Tr.dB (O0 hl 0) (O0 hl 1) (O0 hl 2) 2)
 |2,_,_,[],h,_,hn=>by cases h;exact absurd hn I
 |2,_,_,[_],h,_,hn=>by cases h;exact absurd hn I
 |2,_,_,_::_::_::_,h,_,hn=>by cases h;simp at hn
 |3,_,_,[x],h,hl,_=>by cases h;exact (Zv (Tr.H6 (hl x (PP ..)))).r (Tr.dB (O0 hl 0) (O0 hl 1) (O0 hl 2) 3)
 |3,_,_,[],h,_,hn=>by cases h;exact absurd hn I
 |3,_,_,_::_::_,h,_,hn=>by cases h;simp at hn
 |4,_,_,[x],h,hl,_=>by cases h;exact (b1y (Tr.H6 (hl x (PP ..)))).r (Tr.dB (O0 hl 0) (O0 hl 1) (O0 hl 2) 4)
 |4,_,_,[],h,_,hn=>by cases h;exact absurd hn I
 |4,_,_,_::_::_,h,_,hn=>by cases h;simp at hn
 |5,_,_,[x],h,hl,_=>by cases h;exact (b1A (Tr.H6 (hl x (PP ..)))).r (Tr.dB (O0 hl 0) (O0 hl 1) (O0 hl 2) 5)
 |5,_,_,[],h,_,hn=>by cases h;exact absurd hn I
 |5,_,_,_::_::_,h,_,hn=>by cases h;simp at hn
 |6,_,_,[x],h,hl,_=>by cases h;exact (b1C (Tr.H6 (hl x (PP ..)))).r (Tr.dB (O0 hl 0) (O0 hl 1) (O0 hl 2) 6)
 |6,_,_,[],h,_,hn=>by cases h;exact absurd hn I
 |6,_,_,_::_::_,h,_,hn=>by cases h;simp at hn
 |7,_,_,[x],h,hl,_=>by cases h;exact (b1E (Tr.H6 (hl x (PP ..)))).r (Tr.dB (O0 hl 0) (O0 hl 1) (O0 hl 2) 7)
 |7,_,_,[],h,_,hn=>by cases h;exact absurd hn I
 |7,_,_,_::_::_,h,_,hn=>by cases h;simp at hn
 |8,_,_,[x],h,hl,_=>by cases h;exact (b1G (Tr.H6 (hl x (PP ..)))).r (Tr.dB (O0 hl 0) (O0 hl 1) (O0 hl 2) 8)
 |8,_,_,[],h,_,hn=>by cases h;exact absurd hn I
 |8,_,_,_::_::_,h,_,hn=>by cases h;simp at hn
 |9,_,_,[x],h,hl,_=>by cases h;exact (b1I (Tr.H6 (hl x (PP ..)))).r (Tr.dB (O0 hl 0) (O0 hl 1) (O0 hl 2) 9)
 |9,_,_,[],h,_,hn=>by cases h;exact absurd hn I
 |9,_,_,_::_::_,h,_,hn=>by cases h;simp at hn
 |10,_,_,[x,y],h,hl,_=>by cases h;exact (a9d (Tr.H6 (hl x (PP ..))) (Tr.H6 (hl y (lm _ (PP ..))))).r (Tr.dB (O0 hl 0) (O0 hl 1) (O0 hl 2) 10)
 |10,_,_,[],h,_,hn=>by cases h;exact absurd hn I
 |10,_,_,[_],h,_,hn=>by cases h;exact absurd hn I
 |10,_,_,_::_::_::_,h,_,hn=>by cases h;simp at hn
 |11,_,_,[x,y],h,hl,_=>by cases h;exact (a9f (Tr.H6 (hl x (PP ..))) (Tr.H6 (hl y (lm _ (PP ..))))).r (Tr.dB (O0 hl 0) (O0 hl 1) (O0 hl 2) 11)
 |11,_,_,[],h,_,hn=>by cases h;exact absurd hn I
 |11,_,_,[_],h,_,hn=>by cases h;exact absurd hn I
 |11,_,_,_::_::_::_,h,_,hn=>by cases h;simp at hn
 |12,_,_,[x],h,hl,_=>by cases h;exact (a9h (Tr.H6 (hl x (PP ..)))).r (Tr.dB (O0 hl 0) (O0 hl 1) (O0 hl 2) 12)
 |12,_,_,[],h,_,hn=>by cases h;exact absurd hn I
 |12,_,_,_::_::_,h,_,hn=>by cases h;simp at hn
 |13,_,_,[x],h,hl,_=>by cases h;exact (a9j (Tr.H6 (hl x (PP ..)))).r (Tr.dB (O0 hl 0) (O0 hl 1) (O0 hl 2) 13)
 |13,_,_,[],h,_,hn=>by cases h;exact absurd hn I
 |13,_,_,_::_::_,h,_,hn=>by cases h;simp at hn
 |14,_,_,[x,y],h,hl,_=>by cases h;exact (a9l (Tr.H6 (hl x (PP ..))) (Tr.H6 (hl y (lm _ (PP ..))))).r (Tr.dB (O0 hl 0) (O0 hl 1) (O0 hl 2) 14)
 |14,_,_,[],h,_,hn=>by cases h;exact absurd hn I
 |14,_,_,[_],h,_,hn=>by cases h;exact absurd hn I
 |14,_,_,_::_::_::_,h,_,hn=>by cases h;simp at hn
 |15,_,_,[x],h,hl,_=>by cases h;exact (a9n (Tr.H6 (hl x (PP ..)))).r (Tr.dB (O0 hl 0) (O0 hl 1) (O0 hl 2) 15)
 |15,_,_,[],h,_,hn=>by cases h;exact absurd hn I
 |15,_,_,_::_::_,h,_,hn=>by cases h;simp at hn
 |16,_,_,[x],h,hl,_=>by cases h;exact (a9p (Tr.H6 (hl x (PP ..)))).r (Tr.dB (O0 hl 0) (O0 hl 1) (O0 hl 2) 16)
 |16,_,_,[],h,_,hn=>by cases h;exact absurd hn I
 |16,_,_,_::_::_,h,_,hn=>by cases h;simp at hn
 |17,_,_,[x],h,hl,_=>by cases h;exact (a9r (Tr.H6 (hl x (PP ..)))).r (Tr.dB (O0 hl 0) (O0 hl 1) (O0 hl 2) 17)
 |17,_,_,[],h,_,hn=>by cases h;exact absurd hn I
 |17,_,_,_::_::_,h,_,hn=>by cases h;simp at hn
 |18,_,_,[x],h,hl,_=>by cases h;exact (a9t (Tr.H6 (hl x (PP ..)))).r (Tr.dB (O0 hl 0) (O0 hl 1) (O0 hl 2) 18)
 |18,_,_,[],h,_,hn=>by cases h;exact absurd hn I
 |18,_,_,_::_::_,h,_,hn=>by cases h;simp at hn
 |19,_,_,[x],h,hl,_=>by cases h;exact (a9v (Tr.H6 (hl x (PP ..)))).r (Tr.dB (O0 hl 0) (O0 hl 1) (O0 hl 2) 19)
 |19,_,_,[],h,_,hn=>by cases h;exact absurd hn I
 |19,_,_,_::_::_,h,_,hn=>by cases h;simp at hn
 |20,_,_,[x,y],h,hl,_=>by cases h;exact (a9x (Tr.H6 (hl x (PP ..))) (Tr.H6 (hl y (lm _ (PP ..))))).r (Tr.dB (O0 hl 0) (O0 hl 1) (O0 hl 2) 20)
 |20,_,_,[],h,_,hn=>by cases h;exact absurd hn I
 |20,_,_,[_],h,_,hn=>by cases h;exact absurd hn I
 |20,_,_,_::_::_::_,h,_,hn=>by cases h;simp at hn
 |21,_,_,[x,y],h,hl,_=>by cases h;exact (a9z (Tr.H6 (hl x (PP ..))) (Tr.H6 (hl y (lm _ (PP ..))))).r (Tr.dB (O0 hl 0) (O0 hl 1) (O0 hl 2) 21)
 |21,_,_,[],h,_,hn=>by cases h;exact absurd hn I
 |21,_,_,[_],h,_,hn=>by cases h;exact absurd hn I
 |21,_,_,_::_::_::_,h,_,hn=>by cases h;simp at hn
 |22,_,_,[x],h,hl,_=>by cases h;exact (a9B (Tr.H6 (hl x (PP ..)))).r (Tr.dB (O0 hl 0) (O0 hl 1) (O0 hl 2) 22)
 |22,_,_,[],h,_,hn=>by cases h;exact absurd hn I
 |22,_,_,_::_::_,h,_,hn=>by cases h;simp at hn
 |23,_,_,[x,y],h,hl,_=>by cases h;exact (a9D (Tr.H6 (hl x (PP ..))) (Tr.H6 (hl y (lm _ (PP ..))))).r (Tr.dB (O0 hl 0) (O0 hl 1) (O0 hl 2) 23)
 |23,_,_,[],h,_,hn=>by cases h;exact absurd hn I
 |23,_,_,[_],h,_,hn=>by cases h;exact absurd hn I
 |23,_,_,_::_::_::_,h,_,hn=>by cases h;simp at hn
 |24,_,_,[x],h,hl,_=>by cases h;exact (a9F (Tr.H6 (hl x (PP ..)))).r (Tr.dB (O0 hl 0) (O0 hl 1) (O0 hl 2) 24)
 |24,_,_,[],h,_,hn=>by cases h;exact absurd hn I
 |24,_,_,_::_::_,h,_,hn=>by cases h;simp at hn
 |_+25,_,_,_,h,_,_=>by cases h
theorem b5V:∀{i:Nat} {s:aa0} {a:Nat} {l:List Tr},I7[i]?=some (s,a)→(∀t∈l,t.valid=true)→l.length=a→l7 88 [y7 x8 s,rowA l] (U7 (Tr.kept' (Tr.jP i l)))
 |0,_,_,[x,y,z],h,hl,_=>by cases h;exact b1s (Tr.H6 (hl x (PP ..))) (Tr.H6 (hl y (lm _ (PP ..)))) (Tr.H6 (hl z (lm _ (lm _ (PP ..)))))
 |0,_,_,[],h,_,hn=>by cases h;exact absurd hn I
 |0,_,_,[_],h,_,hn=>by cases h;exact absurd hn I
 |0,_,_,[_,_],h,_,hn=>by cases h;exact absurd hn I
 |0,_,_,_::_::_::_::_,h,_,hn=>by cases h;simp at hn
 |1,_,_,[x,y],h,hl,_=>by cases h;exact b1u (Tr.H6 (hl x (PP ..))) (Tr.H6 (hl y (lm _ (PP ..))))
 |1,_,_,[],h,_,hn=>by cases h;exact absurd hn I
 |1,_,_,[_],h,_,hn=>by cases h;exact absurd hn I
 |1,_,_,_::_::_::_,h,_,hn=>by cases h;simp at hn
 |2,_,_,[x,y],h,hl,_=>by cases h;exact b1w (Tr.H6 (hl x (PP ..))) (Tr.H6 (hl y (lm _ (PP ..))))
 |2,_,_,[],h,_,hn=>by cases h;exact absurd hn I
 |2,_,_,[_],h,_,hn=>by cases h;exact absurd hn I
 |2,_,_,_::_::_::_,h,_,hn=>by cases h;simp at hn
 |3,_,_,[x],h,hl,_=>by cases h;exact b1x (Tr.H6 (hl x (PP ..)))
 |3,_,_,[],h,_,hn=>by cases h;exact absurd hn I
 |3,_,_,_::_::_,h,_,hn=>by cases h;simp at hn
 |4,_,_,[x],h,hl,_=>by cases h;exact b1z (Tr.H6 (hl x (PP ..)))
 |4,_,_,[],h,_,hn=>by cases h;exact absurd hn I
 |4,_,_,_::_::_,h,_,hn=>by cases h;simp at hn
 |5,_,_,[x],h,hl,_=>by cases h;exact b1B (Tr.H6 (hl x (PP ..)))
 |5,_,_,[],h,_,hn=>by cases h;exact absurd hn I
 |5,_,_,_::_::_,h,_,hn=>by cases h;simp at hn
 |6,_,_,[x],h,hl,_=>by cases h;exact b1D (Tr.H6 (hl x (PP ..)))
 |6,_,_,[],h,_,hn=>by cases h;exact absurd hn I
 |6,_,_,_::_::_,h,_,hn=>by cases h;simp at hn
 |7,_,_,[x],h,hl,_=>by cases h;exact b1F (Tr.H6 (hl x (PP ..)))
 |7,_,_,[],h,_,hn=>by cases h;exact absurd hn I
 |7,_,_,_::_::_,h,_,hn=>by cases h;simp at hn
 |8,_,_,[x],h,hl,_=>by cases h;exact b1H (Tr.H6 (hl x (PP ..)))
 |8,_,_,[],h,_,hn=>by cases h;exact absurd hn I
 |8,_,_,_::_::_,h,_,hn=>by cases h;simp at hn
 |9,_,_,[x],h,hl,_=>by cases h;exact b1J (Tr.H6 (hl x (PP ..)))
 |9,_,_,[],h,_,hn=>by cases h;exact absurd hn I
 |9,_,_,_::_::_,h,_,hn=>by cases h;simp at hn
 |10,_,_,[x,y],h,hl,_=>by cases h;exact a9e (Tr.H6 (hl x (PP ..))) (Tr.H6 (hl y (lm _ (PP ..))))
 |10,_,_,[],h,_,hn=>by cases h;exact absurd hn I
 |10,_,_,[_],h,_,hn=>by cases h;exact absurd hn I
 |10,_,_,_::_::_::_,h,_,hn=>by cases h;simp at hn
 |11,_,_,[x,y],h,hl,_=>by cases h;exact a9g (Tr.H6 (hl x (PP ..))) (Tr.H6 (hl y (lm _ (PP ..))))
 |11,_,_,[],h,_,hn=>by cases h;exact absurd hn I
 |11,_,_,[_],h,_,hn=>by cases h;exact absurd hn I
 |11,_,_,_::_::_::_,h,_,hn=>by cases h;simp at hn
 |12,_,_,[x],h,hl,_=>by cases h;exact a9i (Tr.H6 (hl x (PP ..)))
 |12,_,_,[],h,_,hn=>by cases h;exact absurd hn I
 |12,_,_,_::_::_,h,_,hn=>by cases h;simp at hn
 |13,_,_,[x],h,hl,_=>by cases h;exact a9k (Tr.H6 (hl x (PP ..)))
 |13,_,_,[],h,_,hn=>by cases h;exact absurd hn I
 |13,_,_,_::_::_,h,_,hn=>by cases h;simp at hn
 |14,_,_,[x,y],h,hl,_=>by cases h;exact a9m (Tr.H6 (hl x (PP ..))) (Tr.H6 (hl y (lm _ (PP ..))))
 |14,_,_,[],h,_,hn=>by cases h;exact absurd hn I
 |14,_,_,[_],h,_,hn=>by cases h;exact absurd hn I
 |14,_,_,_::_::_::_,h,_,hn=>by cases h;simp at hn
 |15,_,_,[x],h,hl,_=>by cases h;exact a9o (Tr.H6 (hl x (PP ..)))
 |15,_,_,[],h,_,hn=>by cases h;exact absurd hn I
 |15,_,_,_::_::_,h,_,hn=>by cases h;simp at hn
 |16,_,_,[x],h,hl,_=>by cases h;exact a9q (Tr.H6 (hl x (PP ..)))
 |16,_,_,[],h,_,hn=>by cases h;exact absurd hn I
 |16,_,_,_::_::_,h,_,hn=>by cases h;simp at hn
 |17,_,_,[x],h,hl,_=>by cases h;exact a9s (Tr.H6 (hl x (PP ..)))
 |17,_,_,[],h,_,hn=>by cases h;exact absurd hn I
 |17,_,_,_::_::_,h,_,hn=>by cases h;simp at hn
 |18,_,_,[x],h,hl,_=>by cases h;exact a9u (Tr.H6 (hl x (PP ..)))
 |18,_,_,[],h,_,hn=>by cases h;exact absurd hn I
 |18,_,_,_::_::_,h,_,hn=>by cases h;simp at hn
 |19,_,_,[x],h,hl,_=>by cases h;exact a9w (Tr.H6 (hl x (PP ..)))
 |19,_,_,[],h,_,hn=>by cases h;exact absurd hn I
 |19,_,_,_::_::_,h,_,hn=>by cases h;simp at hn
 |20,_,_,[x,y],h,hl,_=>by cases h;exact a9y (Tr.H6 (hl x (PP ..))) (Tr.H6 (hl y (lm _ (PP ..))))
 |20,_,_,[],h,_,hn=>by cases h;exact absurd hn I
 |20,_,_,[_],h,_,hn=>by cases h;exact absurd hn I
 |20,_,_,_::_::_::_,h,_,hn=>by cases h;simp at hn
 |21,_,_,[x,y],h,hl,_=>by cases h;exact a9A (Tr.H6 (hl x (PP ..))) (Tr.H6 (hl y (lm _ (PP ..))))
 |21,_,_,[],h,_,hn=>by cases h;exact absurd hn I
 |21,_,_,[_],h,_,hn=>by cases h;exact absurd hn I
 |21,_,_,_::_::_::_,h,_,hn=>by cases h;simp at hn
 |22,_,_,[x],h,hl,_=>by cases h;exact a9C (Tr.H6 (hl x (PP ..)))
 |22,_,_,[],h,_,hn=>by cases h;exact absurd hn I
 |22,_,_,_::_::_,h,_,hn=>by cases h;simp at hn
 |23,_,_,[x,y],h,hl,_=>by cases h;exact a9E (Tr.H6 (hl x (PP ..))) (Tr.H6 (hl y (lm _ (PP ..))))
 |23,_,_,[],h,_,hn=>by cases h;exact absurd hn I
 |23,_,_,[_],h,_,hn=>by cases h;exact absurd hn I
 |23,_,_,_::_::_::_,h,_,hn=>by cases h;simp at hn
 |24,_,_,[x],h,hl,_=>by cases h;exact a9G (Tr.H6 (hl x (PP ..)))
 |24,_,_,[],h,_,hn=>by cases h;exact absurd hn I
 |24,_,_,_::_::_,h,_,hn=>by cases h;simp at hn
 |_+25,_,_,_,h,_,_=>by cases h
end Go.Proofs.YthhknjlmjefklaaGreatDoor
namespace Go.Proofs.YthhknjlmjefklaaGreatDoor
open Go.Proofs.Tryz
open Go.RowKit
open Te
abbrev E8:=List ((aa0×aa0)×Tr)
def dn:E8→aa0→aa0→Option Tr
 |[],_,_=>none
 |x::r,p,n=>if x.1.1=p∧x.1.2=n then some x.2 else dn r p n
def fV:List (aa0)→List Tr→E8
 |n::r,x::s=>((x8,n),x)::fV r s
 |_,_=>[]
def bZ:List (aa0×Nat)→Nat→aa0→Option (Nat×Nat)
 |[],_,_=>none
 |x::r,i,n=>if x.1=n then some (i,x.2) else bZ r (i+1) n
theorem OC:∀{L:List (aa0×Nat)} {i j a:Nat} {n:aa0},bZ L i n=some (j,a)→i≤j∧L[j - i]?=some (n,a)
 |[],_,_,_,_,h=>by cases h
 |x::r,i,j,a,n,h=>by
  rw[bZ]at h;split at h
  ·rename_i hx;cases h;rw[Zbl,←hx];exact⟨NE _,rfl⟩
  ·obtain⟨h1,h2⟩:=OC h;refine⟨J,?_⟩;rw[show j - i=(j - (i+1))+1 by omega,List.getElem?_cons_succ]
   exact h2
theorem Yf:∀{L:List (aa0×Nat)} {i:Nat} {n:aa0},bZ L i n=none→∀x∈L,n≠x.1
 |[],_,_,_,x,hx=>by cases hx
 |y::r,i,n,h,x,hx=>by
  rw[bZ]at h;split at h
  ·cases h
  ·rename_i hy;rcases Zao.1 hx with rfl | hx
   ·exact fun e=>hy e.symm
   ·exact Yf h x hx
noncomputable def ER(o:Ob):Tr:=open Classical in if h:∃t:Tr,t.ob=o then h.choose else o8
theorem Zw(t:Tr):ER t.ob=t:=by
 have h:∃t':Tr,t'.ob=t.ob:=⟨t,rfl⟩;unfold ER;rw[dif_pos h];exact Tr.IC h.choose_spec
abbrev gm:=Except Int Tr×Nat
def U2(g:Te→Nat→gm):List Te→Nat→Except Int (List Tr)×Nat
 |[],l=>(.ok [],l)
 |t::r,l=>match g t l with
  | (.error e,l')=>(.error e,l')
  | (.ok x,l')=>match U2 g r l' with
   | (.error e,l2)=>(.error e,l2)
   | (.ok xs,l2)=>(.ok (x::xs),l2)
def iP(i:Nat)(vs:List Tr):Except Int Tr:=match Tr.kept' (Tr.jP i vs) with
 |some x=>.ok x
 |none=>.error 2
def iQ(W:List y8.H8)(e:E8→Te→Nat→gm)(env:E8)(t:Te)(l:Nat):gm :=
 if is t Q7 3 then
  match e env (t.arg 0) l with
  | (.error c,l')=>(.error c,l')
  | (.ok x,l')=>if x=o8 then e env (t.arg 2) l' else e env (t.arg 1) l'
 else match U2 (e env) t.args l with
  | (.error c,l')=>(.error c,l')
  | (.ok vs,l')=>match bZ I7 0 t.nn with
   |some (i,_)=>(iP i vs,l')
   |none=>match W.find? fun f=>f.nm == t.nn with
    |some fn=>e (fV fn.ps vs) fn.body l'
    |none=>(.error 7,l')
noncomputable def iR(env:E8)(t:Te)(l:Nat)(r:gm):gm :=
 if t.kind=1 then (match dn env t.np t.nn with | some x=>.ok x | none=>.error 6,l)
 else if t.kind=2 then (.ok (ER t.val),l) else r
noncomputable def ev(W:List y8.H8):Nat→E8→Te→Nat→gm
 |0,env,t,l=>iR env t l (.error 9,l)
 |f+1,env,t,l=>iR env t l (if l=0 then (.error 9,l) else iQ W (ev W f) env t (l - 1))
theorem zV{g:Te→Nat→gm}(hg:∀t l,(g t l).2≤l):∀(s:List Te) (l:Nat),(U2 g s l).2≤l
 |[],l=>NE _
 |t::r,l=>by
  rw[U2];have h:=hg t l;split
  ·rename_i e l' hh;rw[hh]at h;exact h
  ·rename_i x l' hh;rw[hh]at h;have h2:=zV hg r l';split
   ·rename_i e l2 hk;rw[hk]at h2;exact Za6 h2 h
   ·rename_i xs l2 hk;rw[hk]at h2;exact Za6 h2 h
theorem b31{W:List y8.H8}{e:E8→Te→Nat→gm}(he:∀env t l,(e env t l).2≤l)(env:E8)(t:Te)(l:Nat):(iQ W e env t l).2≤l:=by
 unfold iQ;split
 ·have h:=he env (t.arg 0) l;split
  ·rename_i c l' hh;rw[hh]at h;exact h
  ·rename_i x l' hh;rw[hh]at h;split
   ·exact Za6 (he ..) h
   ·exact Za6 (he ..) h
 ·have h:=zV (he env) t.args l;split
  ·rename_i c l' hh;rw[hh]at h;exact h
  ·rename_i vs l' hh;rw[hh]at h;split
   ·exact h
   ·split
    ·exact Za6 (he ..) h
    ·exact h
theorem Jb{env:E8}{t:Te}{l:Nat}{r:gm}(h:r.2≤l):(iR env t l r).2≤l:=by
 unfold iR;split
 ·exact NE _
 ·split
  ·exact NE _
  ·exact h
theorem jy(W:List y8.H8):∀(f:Nat) (env:E8) (t:Te) (l:Nat),(ev W f env t l).2≤l
 |0,env,t,l=>by rw[ev];exact Jb (NE _)
 |f+1,env,t,l=>by
  rw[ev];refine Jb ?_;split
  ·exact NE _
  ·exact Za6 (b31 (jy W f) env t (l - 1)) (Nat.sub_le _ _)
theorem Yg{g g':Te→Nat→gm}{L d:Nat}(hg:∀t l,(g t l).2≤l)(h:∀t l x l',l≤L→g t l=(.ok x,l')→g' t (l+d)=(.ok x,l'+d)):∀(s:List Te) (l:Nat) (xs:List Tr) (l':Nat),l≤L→U2 g s l=(.ok xs,l')→U2 g' s (l+d)=(.ok xs,l'+d)
 |[],l,xs,l',_,e=>by rw[U2]at e ⊢;cases e;rfl
 |t::r,l,xs,l',hl,e=>by
  rw[U2]at e ⊢
  have hle:=hg t l;split at e
  ·cases e
  ·rename_i x l1 hh;rw[hh]at hle;have hle:l1≤l:=hle;split at e
   ·cases e
   ·rename_i ys l2 hk;cases e;rw[h t l x l1 hl hh];dsimp only;rw[Yg hg h r l1 ys l' J hk]
theorem b1K(W:List y8.H8):∀(f:Nat) (env:E8) (t:Te) (l:Nat) (x:Tr) (l' d f':Nat),l≤f→l+d≤f'→ev W f env t l=(.ok x,l')→ev W f' env t (l+d)=(.ok x,l'+d):=by
 have base:∀{env:E8} {t:Te} {l l' d:Nat} {x:Tr} {r r':gm},(r=(.ok x,l')→r'=(.ok x,l'+d))→iR env t l r=(.ok x,l')→iR env t (l+d) r'=(.ok x,l'+d):=by
  intro env t l l' d x r r' h e;unfold iR at e ⊢;split
  ·rename_i hk;rw[Za0 hk]at e;cases hv:dn env t.np t.nn with
   |none=>rw[hv]at e;cases e
   |some y=>rw[hv]at e;cases e;rfl
  ·rename_i hk;rw[lw hk]at e;split
   ·rename_i hk2;rw[Za0 hk2]at e;cases e;rfl
   ·rename_i hk2;rw[lw hk2]at e;exact h e
 intro f
 induction f with
 |zero =>
  intro env t l x l' d f' hl hl' e;rw[ev]at e;cases f' with
  |zero=>rw[ev];exact base (fun h=>by cases h) e
  |succ f'=>rw[ev];exact base (fun h=>by cases h) e
 |succ f ih =>
  intro env t l x l' d f' hl hl' e;rw[ev]at e;have hle:=jy W f;cases f' with
  |zero =>
   obtain rfl:l=0:=J;rw[ev];exact base (fun h=>by rw[Za0 rfl]at h;cases h) e
  |succ f' =>
   rw[ev];refine base (fun h=>?_) e;by_cases h0:l=0
   ·rw[Za0 h0]at h;cases h
   rw[lw h0]at h;rw[lw J,show l+d - 1=l - 1+d by omega]
   have key:∀env t l x l',l≤f→l+d≤f'→ev W f env t l=(.ok x,l')→ev W f' env t (l+d)=(.ok x,l'+d):=fun env t l x l' h1 h2=>ih env t l x l' d f' h1 h2
   unfold iQ at h ⊢;split
   ·rename_i hi;rw[Za0 hi]at h;have h1:=hle env (t.arg 0) (l - 1);split at h
    ·cases h
    ·rename_i y l1 hh;rw[hh]at h1;have h1:l1≤l - 1:=h1;rw[key env (t.arg 0) (l - 1) y l1 J J hh];dsimp only;split
     ·rename_i hy;rw[Za0 hy]at h;exact key _ _ _ _ _ J J h
     ·rename_i hy;rw[lw hy]at h;exact key _ _ _ _ _ J J h
   ·rename_i hi;rw[lw hi]at h;have h1:=zV (hle env) t.args (l - 1);split at h
    ·cases h
    ·rename_i vs l1 hh;rw[hh]at h1;have h1:l1≤l - 1:=h1;rw[Yg (g':=ev W f' env) (L:=l - 1) (d:=d) (hle env) (fun t l x l' hl=>key env t l x l' J J) t.args (l - 1) vs l1 (NE _) hh];dsimp only;split
     ·rename_i i a hp;rw[hp]at h;simp only[Prod.mk.injEq]at h;rw[h.1,h.2]
     ·rename_i hp;rw[hp]at h;dsimp only at h;split
      ·rename_i fn hf;rw[hf]at h;exact key _ _ _ _ _ J J h
      ·rename_i hf;rw[hf]at h;cases h
def ku(env:E8):Prop:=∀x∈env,x.2.valid=true
theorem PW:∀{env:E8} {p n:aa0} {x:Tr},dn env p n=some x→∃y∈env,y.2=x
 |[],_,_,_,h=>by cases h
 |y::r,p,n,x,h=>by
  rw[dn]at h;split at h
  ·cases h;exact⟨y,PP ..,rfl⟩
  ·obtain⟨z,h1,h2⟩:=PW h;exact⟨z,lm _ h1,h2⟩
theorem Iz:∀(ps:List (aa0)) (vs:List Tr),(∀x∈vs,x.valid=true)→ku (fV ps vs)
 |[],_,_=>by rw[fV];intro x hx;cases hx;all_goals simp
 |n::r,[],_=>by rw[fV];intro x hx;cases hx;all_goals simp
 |n::r,x::s,h=>by
  rw[fV];intro y hy;rcases Zao.1 hy with rfl | hy
  ·exact h x (PP ..)
  ·exact Iz r s (fun z hz=>h z (lm _ hz)) y hy
theorem b33{i:Nat}{vs:List Tr}{x:Tr}(h:iP i vs=.ok x):x.valid=true:=by
 unfold iP at h;split at h
 ·rename_i y hy;cases h;unfold Tr.kept' at hy;split at hy
  ·rename_i hv;cases hy;exact hv
  ·cases hy
 ·cases h
inductive Wd:Te→Prop
 |var (p n:aa0):Wd ⟨1,p,n,V9,[]⟩
 |G9 (t:Tr) (h:t.valid=true):Wd (Te.G9 t.ob)
 |ap (n:aa0) (l:List Te) (ha:bH F9 n=some l.length) (hl:l.length≤8) (h:∀x∈l,Wd x):Wd (Te.ap n l)
end Go.Proofs.YthhknjlmjefklaaGreatDoor
namespace Go.Proofs.YthhknjlmjefklaaGreatDoor
open Go.Proofs.Tryz
open Go.RowKit
theorem a7m:∀x∈IG,Y8 ⟨x.1,x.2⟩=true:=by decide +kernel
theorem b1L(n:Int):Y8 ⟨(fK n).1,(fK n).2⟩=true:=by
 have hlt:(n % 13).toNat < IG.length:=by show (n % 13).toNat < 13;omega
 unfold fK;rw[bi,Za2 hlt];exact a7m _ (Zay hlt)
theorem list_good:∀{l:List Tr},(∀t∈l,t.good=true)→(Tr.list l).good=true
 |[],_=>Tr.lX Tr.gu
 |a::r,h=>by
  show (a.good && (Tr.list r).good)=true;rw[h a (PP ..),list_good fun t ht=>h t (lm _ ht)];rfl
theorem a6v:qf.good=true:=Tr.zt.2 (Rb.mono (II O) O)
theorem WV{l:List Tr}(h:∀t∈l,t.good=true)(i:Nat):(l.getD i qf).good=true:=by
 rw[bi];rcases Zai i l.length with h1 | h1
 ·rw[Za2 h1];exact h _ (Zay h1)
 ·rw[Zaf h1];exact a6v
theorem a9H(r:Raw):Fit r→(aK r).good=true:=by
 induction r using Raw.ind with
 |step r ih =>
  intro h;have hl:∀t∈r.l.map aK,t.good=true:=by
   intro t ht;obtain⟨x,hx,rfl⟩:=List.mem_map.1 ht;exact ih x hx (h.kids hx)
  rw[Qd];unfold mkK;split
  ·exact Tr.zt.2 ((II J).mono O)
  ·split
   ·exact Tr.zt.2 ((a7N J (by have:=h.s;omega)).mono O)
   ·split
    ·exact b1L r.n
    ·split
     ·have:=h.s;exact UV (by omega:r.s.length≤200)
     ·split
      ·show (((r.l.map aK).getD 0 qf).good && ((r.l.map aK).getD 1 qf).good)=true;rw[WV hl 0,WV hl 1];rfl
      ·exact list_good hl
def rX(r:Raw):Prop:=Fit r∧r.size≤700
theorem rX.kids{r x:Raw}(h:rX r)(hx:x∈r.l):rX x:=⟨h.1.kids hx,by have:=Raw.zI hx;have:=h.2;omega⟩
theorem Zx{r:Raw}(h:rX r):(aK r).valid=true:=Tr.qW.2 ⟨by have:=a7O r;have:=h.2;omega,a9H r h.1⟩
theorem NS{r:Raw}{m:Int}(h0:0≤m)(h1:m≤700)(h:jI r m=true):rX r:=⟨a8A h0 J h,by have:=NL h0 J h;omega⟩
theorem uB{n:Int}(h:n.natAbs < 10 ^ 4):(Tr.num (n:Rat)).valid=true:=Tr.qW.2 ⟨by show 1≤3000;omega,Tr.zt.2 ((II h).mono O)⟩
end Go.Proofs.YthhknjlmjefklaaGreatDoor
