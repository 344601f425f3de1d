/- Apply of both texts, on trees. -/
import Derived.Test.YtbpmpdadppamgaaGreatDoorGT
namespace Go.Proofs.YtbpmpdadppamgaaGreatDoor
open Go.Proofs.Tryz
open Go.RowKit
theorem BU{k:Nat}{n:Int}(hk:1≤k)(h:n.natAbs < 10 ^ k):Rb k (n:Rat):=⟨by rw[Rat.num_intCast];exact h,by rw[Rat.den_intCast];exact kw (by decide:1 < 10 ^ 1) (Zar O hk),hk⟩
theorem sj{k:Nat}(b:Bool):(V7 b).Ok k:=by cases b <;> exact⟨O,O⟩
theorem vT{k:Nat}:l6.Ok k:=⟨O,O⟩
theorem SL{n:Int}(h:n.natAbs < 10 ^ 5):(Tr.num (n:Rat)).Ok 300:=(BU (k:=5) O h).mono O
theorem O3{x y z:Tr}(hx:Arg x)(hy:Arg y)(hz:Arg z):∀i:Nat,(Tr.ap i x y z).Ok 300
 |0=>by
  show (if x=l6 then z else y).Ok 300;split
  ·exact hz.ok.mono O
  ·exact hy.ok.mono O
 |1=>sj _
 |2=>⟨hx.ok.mono O,hy.ok.mono O⟩
 |3=>by
  have h:=hx.ok;cases x with
  |cons a d=>exact h.1.mono O
  |_=>exact vT
 |4=>by
  have h:=hx.ok;cases x with
  |cons a d=>exact h.2.mono O
  |_=>exact vT
 |5=>sj _
 |6=>sj _
 |7=>sj _
 |8=>sj _
 |9=>sj _
 |10=>(hx.rb.add hy.rb).mono O
 |11=>(hx.rb.mul hy.rb).mono O
 |12=>hx.rb.neg.mono O
 |13=>hx.rb.inv.mono O
 |14=>sj _
 |15=>(BU (k:=120) O hx.rb.num).mono O
 |16=>(BU (k:=120) (n:=(x.val.den:Int)) O (by rw[Int.natAbs_natCast];exact hx.rb.den)).mono O
 |17=>(BU (k:=121) O (XR hx)).mono O
 |18=>by
  have h:=hx.ok;cases x with
  |sym p s=>exact h.2
  |_=>exact Ci _
 |19=>by
  have h:=hx.ok;cases x with
  |sym p s=>exact h.1
  |_=>exact Ci _
 |20=>by
  show (if x.aK && y.aK && R6 ⟨y.tx,x.tx⟩ then Tr.sym y.tx x.tx else l6).Ok 300;split
  ·exact⟨pu hy.tx O,pu hx.tx O⟩
  ·exact vT
 |21=>by
  have h1:=hx.tx;have h2:=hy.tx;show (x.tx++y.tx).length≤100000;rw[lm];omega
 |22=>SL (by have:=hx.tx;show x.tx.length < 100000;omega)
 |23=>by
  show (match x.ed y with | some n=>Tr.num (((x.tx.getD n.toNat 0).toNat:Int):Rat) | none=>l6).Ok 300;split
  ·rename_i n _;have:=(x.tx.getD n.toNat 0).toNat_lt;exact SL (by show (x.tx.getD n.toNat 0).toNat < 100000;omega)
  ·exact vT
 |24=>by
  show (match x.gD with | some n=>Tr.txt [UInt8.ofNat n.toNat] | none=>Tr.txt []).Ok 300;split
  ·show 1≤100000;decide
  ·exact Ci _
 |_+25=>vT
theorem G8:Arg l6:=⟨vT,Ci _⟩
theorem a8S{x y z:Tr}(_:Arg x)(_:Arg y)(_:Arg z)  : j5 153 [p8 o9 [105,102],K5 [x,y,z]] (O9 (Tr.az 0 x y z)):=by
 have e:Tr.az 0 x y z=some (if x=l6 then z else y):=rfl;rw[e];by_cases h:x=l6
 ·rw[Ch h];exact pV (.av (.l7 [j4 3,l5 true])::nK 6 [yT,.no]) [_,j5 45 [(o7 x.ob)] (l5 true)] func153 ⟨Ld,(CU x).b (Pi h),Z⟩
 ·rw[EQ h];exact pV (.av (.l7 [j4 3,l5 true])::nK 6 [yF]) [_,j5 45 [(o7 x.ob)] (l5 false)] func153 ⟨Ld,(CU x).b (WF h),Z⟩
theorem a8T{x y z:Tr}(hx:Arg x)(hy:Arg y)(hz:Arg z):j5 98 [p8 o9 [105,102],K5 [x,y,z]] (O9 (Tr.kept' (Tr.ap 0 x y z))):=by
 have hv0:=R3 (t:=Tr.ap 0 x y z) (O3 hx hy hz 0) O;have e:Tr.ap 0 x y z=if x=l6 then z else y:=rfl
 rw[e]at hv0 ⊢
 by_cases h:x=l6
 ·rw[Ch h]at hv0 ⊢
  cases hv:z.valid with
  |true =>
   rw[aD hv];exact pV (.av (.l7 [j4 3,l5 true])::nK 6 [yT,.no,yT]) [_,j5 21 [(o7 x.ob)] (l5 true),j5 126 [(o7 z.ob)] (l5 true)] func98 ⟨zu,(rR hx.ok O).b (Pi h),hv0.b hv,Z⟩
  |false =>
   rw[aL hv];exact pV (.av (.l7 [j4 3,l5 true])::nK 6 [yT,.no,yF]) [_,j5 21 [(o7 x.ob)] (l5 true),j5 126 [(o7 z.ob)] (l5 false)] func98 ⟨zu,(rR hx.ok O).b (Pi h),hv0.b hv,Z⟩
 ·rw[EQ h]at hv0 ⊢
  cases hv:y.valid with
  |true =>
   rw[aD hv];exact pV (.av (.l7 [j4 3,l5 true])::nK 6 [yF,yT]) [_,j5 21 [(o7 x.ob)] (l5 false),j5 126 [(o7 y.ob)] (l5 true)] func98 ⟨zu,(rR hx.ok O).b (WF h),hv0.b hv,Z⟩
  |false =>
   rw[aL hv];exact pV (.av (.l7 [j4 3,l5 true])::nK 6 [yF,yF]) [_,j5 21 [(o7 x.ob)] (l5 false),j5 126 [(o7 y.ob)] (l5 false)] func98 ⟨zu,(rR hx.ok O).b (WF h),hv0.b hv,Z⟩
theorem a8U{x y:Tr}(hx:Arg x)(_hy:Arg y):j5 153 [p8 o9 [101,113,117,97,108],K5 [x,y]] (O9 (Tr.az 1 x y l6)):=pV (.av (.l7 [j4 2,l5 true])::nK 13 [.av (l5 (decide (x=y))),.av (l9 (V7 (decide (x=y))))]) [_,j5 104 [(o7 x.ob),(o7 y.ob)] (l5 (decide (x=y))),j5 198 [(l5 (decide (x=y)))] (o7 ((V7 (decide (x=y))).ob))] func153 ⟨We,b2H y hx.ok O,sM _,Z⟩
theorem a8V{x y:Tr}(hx:Arg x)(hy:Arg y):j5 98 [p8 o9 [101,113,117,97,108],K5 [x,y]] (O9 (Tr.kept' (Tr.ap 1 x y l6))):=by
 cases hv:(Tr.ap 1 x y l6).valid with
 |true =>
  rw[aD hv];exact pV (.av (.l7 [j4 2,l5 true])::nK 6 [.av (l9 (Tr.ap 1 x y l6)),yT]) [_,j5 125 [(stA [101,113,117,97,108]),(o7 x.ob),(o7 y.ob)] (l9 (Tr.ap 1 x y l6)),j5 126 [(l9 (Tr.ap 1 x y l6))] (l5 true)] func98 ⟨KQ,UY hx hy,(R3 (t:=Tr.ap 1 x y l6) (O3 hx hy G8 1) O).b hv,Z⟩
 |false =>
  rw[aL hv];exact pV (.av (.l7 [j4 2,l5 true])::nK 6 [.av (l9 (Tr.ap 1 x y l6)),yF]) [_,j5 125 [(stA [101,113,117,97,108]),(o7 x.ob),(o7 y.ob)] (l9 (Tr.ap 1 x y l6)),j5 126 [(l9 (Tr.ap 1 x y l6))] (l5 false)] func98 ⟨KQ,UY hx hy,(R3 (t:=Tr.ap 1 x y l6) (O3 hx hy G8 1) O).b hv,Z⟩
theorem a8W{x y:Tr}(hx:Arg x)(hy:Arg y):j5 153 [p8 o9 [99,111,110,115],K5 [x,y]] (O9 (Tr.az 2 x y l6)):=by
 have e:Tr.az 2 x y l6=Tr.kept' (Tr.ap 2 x y l6):=rfl;rw[e];cases hv:(Tr.ap 2 x y l6).valid with
 |true =>
  rw[aD hv];exact pV (.av (.l7 [j4 2,l5 true])::nK 7 [.av (l9 (.cons x y)),yT]) [_,j5 191 [(o7 x.ob),(o7 y.ob)] (l9 (x.cons y)),j5 201 [(l9 (x.cons y))] (l5 true)] func153 ⟨Le,Ue x.ob y.ob,(pY (t:=Tr.ap 2 x y l6) (O3 hx hy G8 2) O).b hv,Z⟩
 |false =>
  rw[aL hv];exact pV (.av (.l7 [j4 2,l5 true])::nK 7 [.av (l9 (.cons x y)),yF]) [_,j5 191 [(o7 x.ob),(o7 y.ob)] (l9 (x.cons y)),j5 201 [(l9 (x.cons y))] (l5 false)] func153 ⟨Le,Ue x.ob y.ob,(pY (t:=Tr.ap 2 x y l6) (O3 hx hy G8 2) O).b hv,Z⟩
theorem a8X{x y:Tr}(hx:Arg x)(hy:Arg y):j5 98 [p8 o9 [99,111,110,115],K5 [x,y]] (O9 (Tr.kept' (Tr.ap 2 x y l6))):=by
 cases hv:(Tr.ap 2 x y l6).valid with
 |true =>
  rw[aD hv];exact pV (.av (.l7 [j4 2,l5 true])::nK 6 [.av (l9 (Tr.ap 2 x y l6)),yT]) [_,j5 125 [(stA [99,111,110,115]),(o7 x.ob),(o7 y.ob)] (l9 (Tr.ap 2 x y l6)),j5 126 [(l9 (Tr.ap 2 x y l6))] (l5 true)] func98 ⟨KR,UZ hx hy,(R3 (t:=Tr.ap 2 x y l6) (O3 hx hy G8 2) O).b hv,Z⟩
 |false =>
  rw[aL hv];exact pV (.av (.l7 [j4 2,l5 true])::nK 6 [.av (l9 (Tr.ap 2 x y l6)),yF]) [_,j5 125 [(stA [99,111,110,115]),(o7 x.ob),(o7 y.ob)] (l9 (Tr.ap 2 x y l6)),j5 126 [(l9 (Tr.ap 2 x y l6))] (l5 false)] func98 ⟨KR,UZ hx hy,(R3 (t:=Tr.ap 2 x y l6) (O3 hx hy G8 2) O).b hv,Z⟩
theorem a8Y{x:Tr}(hx:Arg x):j5 153 [p8 o9 [99,97,114],K5 [x]] (O9 (Tr.az 3 x l6 l6)):=pV (.av (.l7 [j4 1,l5 true])::nK 13 [.av (l9 (Tr.ap 3 x l6 l6))]) [_,j5 200 [(stA [99,97,114]),(o7 x.ob)] (l9 (Tr.ap 3 x l6 l6))] func153 ⟨Wh,a8L hx,Z⟩
theorem a8Z{x:Tr}(hx:Arg x):j5 98 [p8 o9 [99,97,114],K5 [x]] (O9 (Tr.kept' (Tr.ap 3 x l6 l6))):=by
 cases hv:(Tr.ap 3 x l6 l6).valid with
 |true =>
  rw[aD hv];exact pV (.av (.l7 [j4 1,l5 true])::nK 4 [.av (l9 (Tr.ap 3 x l6 l6)),yT]) [_,j5 124 [(stA [99,97,114]),(o7 x.ob)] (l9 (Tr.ap 3 x l6 l6)),j5 126 [(l9 (Tr.ap 3 x l6 l6))] (l5 true)] func98 ⟨KS,UW hx,(R3 (t:=Tr.ap 3 x l6 l6) (O3 hx G8 G8 3) O).b hv,Z⟩
 |false =>
  rw[aL hv];exact pV (.av (.l7 [j4 1,l5 true])::nK 4 [.av (l9 (Tr.ap 3 x l6 l6)),yF]) [_,j5 124 [(stA [99,97,114]),(o7 x.ob)] (l9 (Tr.ap 3 x l6 l6)),j5 126 [(l9 (Tr.ap 3 x l6 l6))] (l5 false)] func98 ⟨KS,UW hx,(R3 (t:=Tr.ap 3 x l6 l6) (O3 hx G8 G8 3) O).b hv,Z⟩
theorem a81{x:Tr}(hx:Arg x):j5 153 [p8 o9 [99,100,114],K5 [x]] (O9 (Tr.az 4 x l6 l6)):=pV (.av (.l7 [j4 1,l5 true])::nK 13 [.av (l9 (Tr.ap 4 x l6 l6))]) [_,j5 200 [(stA [99,100,114]),(o7 x.ob)] (l9 (Tr.ap 4 x l6 l6))] func153 ⟨Wi,a8M hx,Z⟩
theorem a88{x:Tr}(hx:Arg x):j5 98 [p8 o9 [99,100,114],K5 [x]] (O9 (Tr.kept' (Tr.ap 4 x l6 l6))):=by
 cases hv:(Tr.ap 4 x l6 l6).valid with
 |true =>
  rw[aD hv];exact pV (.av (.l7 [j4 1,l5 true])::nK 4 [.av (l9 (Tr.ap 4 x l6 l6)),yT]) [_,j5 124 [(stA [99,100,114]),(o7 x.ob)] (l9 (Tr.ap 4 x l6 l6)),j5 126 [(l9 (Tr.ap 4 x l6 l6))] (l5 true)] func98 ⟨KT,UX hx,(R3 (t:=Tr.ap 4 x l6 l6) (O3 hx G8 G8 4) O).b hv,Z⟩
 |false =>
  rw[aL hv];exact pV (.av (.l7 [j4 1,l5 true])::nK 4 [.av (l9 (Tr.ap 4 x l6 l6)),yF]) [_,j5 124 [(stA [99,100,114]),(o7 x.ob)] (l9 (Tr.ap 4 x l6 l6)),j5 126 [(l9 (Tr.ap 4 x l6 l6))] (l5 false)] func98 ⟨KT,UX hx,(R3 (t:=Tr.ap 4 x l6 l6) (O3 hx G8 G8 4) O).b hv,Z⟩
theorem a9a{x:Tr}(hx:Arg x):j5 153 [p8 o9 [99,111,110,115,112],K5 [x]] (O9 (Tr.az 5 x l6 l6)):=pV (.av (.l7 [j4 1,l5 true])::nK 13 [.av (l9 (Tr.ap 5 x l6 l6))]) [_,j5 200 [(stA [99,111,110,115,112]),(o7 x.ob)] (l9 (Tr.ap 5 x l6 l6))] func153 ⟨Wj,a8N hx,Z⟩
theorem a9b{x:Tr}(hx:Arg x):j5 98 [p8 o9 [99,111,110,115,112],K5 [x]] (O9 (Tr.kept' (Tr.ap 5 x l6 l6))):=by
 cases hv:(Tr.ap 5 x l6 l6).valid with
 |true =>
  rw[aD hv];exact pV (.av (.l7 [j4 1,l5 true])::nK 4 [.av (l9 (Tr.ap 5 x l6 l6)),yT]) [_,j5 124 [(stA [99,111,110,115,112]),(o7 x.ob)] (l9 (Tr.ap 5 x l6 l6)),j5 126 [(l9 (Tr.ap 5 x l6 l6))] (l5 true)] func98 ⟨KU,UO hx,(R3 (t:=Tr.ap 5 x l6 l6) (O3 hx G8 G8 5) O).b hv,Z⟩
 |false =>
  rw[aL hv];exact pV (.av (.l7 [j4 1,l5 true])::nK 4 [.av (l9 (Tr.ap 5 x l6 l6)),yF]) [_,j5 124 [(stA [99,111,110,115,112]),(o7 x.ob)] (l9 (Tr.ap 5 x l6 l6)),j5 126 [(l9 (Tr.ap 5 x l6 l6))] (l5 false)] func98 ⟨KU,UO hx,(R3 (t:=Tr.ap 5 x l6 l6) (O3 hx G8 G8 5) O).b hv,Z⟩
theorem a9c{x:Tr}(hx:Arg x):j5 153 [p8 o9 [115,121,109,98,111,108,112],K5 [x]] (O9 (Tr.az 6 x l6 l6)):=pV (.av (.l7 [j4 1,l5 true])::nK 13 [.av (l9 (Tr.ap 6 x l6 l6))]) [_,j5 200 [(stA [115,121,109,98,111,108,112]),(o7 x.ob)] (l9 (Tr.ap 6 x l6 l6))] func153 ⟨Wl,a8O hx,Z⟩
theorem a9d{x:Tr}(hx:Arg x):j5 98 [p8 o9 [115,121,109,98,111,108,112],K5 [x]] (O9 (Tr.kept' (Tr.ap 6 x l6 l6))):=by
 cases hv:(Tr.ap 6 x l6 l6).valid with
 |true =>
  rw[aD hv];exact pV (.av (.l7 [j4 1,l5 true])::nK 4 [.av (l9 (Tr.ap 6 x l6 l6)),yT]) [_,j5 124 [(stA [115,121,109,98,111,108,112]),(o7 x.ob)] (l9 (Tr.ap 6 x l6 l6)),j5 126 [(l9 (Tr.ap 6 x l6 l6))] (l5 true)] func98 ⟨KV,UQ hx,(R3 (t:=Tr.ap 6 x l6 l6) (O3 hx G8 G8 6) O).b hv,Z⟩
 |false =>
  rw[aL hv];exact pV (.av (.l7 [j4 1,l5 true])::nK 4 [.av (l9 (Tr.ap 6 x l6 l6)),yF]) [_,j5 124 [(stA [115,121,109,98,111,108,112]),(o7 x.ob)] (l9 (Tr.ap 6 x l6 l6)),j5 126 [(l9 (Tr.ap 6 x l6 l6))] (l5 false)] func98 ⟨KV,UQ hx,(R3 (t:=Tr.ap 6 x l6 l6) (O3 hx G8 G8 6) O).b hv,Z⟩
theorem a9e{x:Tr}(hx:Arg x):j5 153 [p8 o9 [115,116,114,105,110,103,112],K5 [x]] (O9 (Tr.az 7 x l6 l6)):=pV (.av (.l7 [j4 1,l5 true])::nK 13 [.av (l9 (Tr.ap 7 x l6 l6))]) [_,j5 200 [(stA [115,116,114,105,110,103,112]),(o7 x.ob)] (l9 (Tr.ap 7 x l6 l6))] func153 ⟨Wm,a8P hx,Z⟩
theorem a9f{x:Tr}(hx:Arg x):j5 98 [p8 o9 [115,116,114,105,110,103,112],K5 [x]] (O9 (Tr.kept' (Tr.ap 7 x l6 l6))):=by
 cases hv:(Tr.ap 7 x l6 l6).valid with
 |true =>
  rw[aD hv];exact pV (.av (.l7 [j4 1,l5 true])::nK 4 [.av (l9 (Tr.ap 7 x l6 l6)),yT]) [_,j5 124 [(stA [115,116,114,105,110,103,112]),(o7 x.ob)] (l9 (Tr.ap 7 x l6 l6)),j5 126 [(l9 (Tr.ap 7 x l6 l6))] (l5 true)] func98 ⟨KW,UR hx,(R3 (t:=Tr.ap 7 x l6 l6) (O3 hx G8 G8 7) O).b hv,Z⟩
 |false =>
  rw[aL hv];exact pV (.av (.l7 [j4 1,l5 true])::nK 4 [.av (l9 (Tr.ap 7 x l6 l6)),yF]) [_,j5 124 [(stA [115,116,114,105,110,103,112]),(o7 x.ob)] (l9 (Tr.ap 7 x l6 l6)),j5 126 [(l9 (Tr.ap 7 x l6 l6))] (l5 false)] func98 ⟨KW,UR hx,(R3 (t:=Tr.ap 7 x l6 l6) (O3 hx G8 G8 7) O).b hv,Z⟩
theorem a9g{x:Tr}(hx:Arg x):j5 153 [p8 o9 [114,97,116,105,111,110,97,108,112],K5 [x]] (O9 (Tr.az 8 x l6 l6)):=pV (.av (.l7 [j4 1,l5 true])::nK 13 [.av (l9 (Tr.ap 8 x l6 l6))]) [_,j5 200 [(stA [114,97,116,105,111,110,97,108,112]),(o7 x.ob)] (l9 (Tr.ap 8 x l6 l6))] func153 ⟨Wn,a8Q hx,Z⟩
theorem a9h{x:Tr}(hx:Arg x):j5 98 [p8 o9 [114,97,116,105,111,110,97,108,112],K5 [x]] (O9 (Tr.kept' (Tr.ap 8 x l6 l6))):=by
 cases hv:(Tr.ap 8 x l6 l6).valid with
 |true =>
  rw[aD hv];exact pV (.av (.l7 [j4 1,l5 true])::nK 4 [.av (l9 (Tr.ap 8 x l6 l6)),yT]) [_,j5 124 [(stA [114,97,116,105,111,110,97,108,112]),(o7 x.ob)] (l9 (Tr.ap 8 x l6 l6)),j5 126 [(l9 (Tr.ap 8 x l6 l6))] (l5 true)] func98 ⟨KX,UT hx,(R3 (t:=Tr.ap 8 x l6 l6) (O3 hx G8 G8 8) O).b hv,Z⟩
 |false =>
  rw[aL hv];exact pV (.av (.l7 [j4 1,l5 true])::nK 4 [.av (l9 (Tr.ap 8 x l6 l6)),yF]) [_,j5 124 [(stA [114,97,116,105,111,110,97,108,112]),(o7 x.ob)] (l9 (Tr.ap 8 x l6 l6)),j5 126 [(l9 (Tr.ap 8 x l6 l6))] (l5 false)] func98 ⟨KX,UT hx,(R3 (t:=Tr.ap 8 x l6 l6) (O3 hx G8 G8 8) O).b hv,Z⟩
theorem a9i{x:Tr}(hx:Arg x):j5 153 [p8 o9 [105,110,116,101,103,101,114,112],K5 [x]] (O9 (Tr.az 9 x l6 l6)):=pV (.av (.l7 [j4 1,l5 true])::nK 13 [.av (l9 (Tr.ap 9 x l6 l6))]) [_,j5 200 [(stA [105,110,116,101,103,101,114,112]),(o7 x.ob)] (l9 (Tr.ap 9 x l6 l6))] func153 ⟨Wo,a8R hx,Z⟩
theorem a9j{x:Tr}(hx:Arg x):j5 98 [p8 o9 [105,110,116,101,103,101,114,112],K5 [x]] (O9 (Tr.kept' (Tr.ap 9 x l6 l6))):=by
 cases hv:(Tr.ap 9 x l6 l6).valid with
 |true =>
  rw[aD hv];exact pV (.av (.l7 [j4 1,l5 true])::nK 4 [.av (l9 (Tr.ap 9 x l6 l6)),yT]) [_,j5 124 [(stA [105,110,116,101,103,101,114,112]),(o7 x.ob)] (l9 (Tr.ap 9 x l6 l6)),j5 126 [(l9 (Tr.ap 9 x l6 l6))] (l5 true)] func98 ⟨KY,UU hx,(R3 (t:=Tr.ap 9 x l6 l6) (O3 hx G8 G8 9) O).b hv,Z⟩
 |false =>
  rw[aL hv];exact pV (.av (.l7 [j4 1,l5 true])::nK 4 [.av (l9 (Tr.ap 9 x l6 l6)),yF]) [_,j5 124 [(stA [105,110,116,101,103,101,114,112]),(o7 x.ob)] (l9 (Tr.ap 9 x l6 l6)),j5 126 [(l9 (Tr.ap 9 x l6 l6))] (l5 false)] func98 ⟨KY,UU hx,(R3 (t:=Tr.ap 9 x l6 l6) (O3 hx G8 G8 9) O).b hv,Z⟩
theorem a5K{x y:Tr}(hx:Arg x)(hy:Arg y):j5 153 [p8 o9 [98,105,110,97,114,121,45,43],K5 [x,y]] (O9 (Tr.az 10 x y l6)):=by
 have e:Tr.az 10 x y l6=Tr.kept' (Tr.ap 10 x y l6):=rfl;rw[e];cases hv:(Tr.ap 10 x y l6).valid with
 |true =>
  rw[aD hv];exact pV (.av (.l7 [j4 2,l5 true])::nK 8 [.av (l9 (.num (x.val+y.val))),yT]) [_,j5 192 [(o7 x.ob),(o7 y.ob)] (o7 ((Tr.num (x.val+y.val)).ob)),j5 201 [(o7 ((Tr.num (x.val+y.val)).ob))] (l5 true)] func153 ⟨Kh,Wp hx.ok hy.ok O O,(pY (t:=Tr.ap 10 x y l6) (O3 hx hy G8 10) O).b hv,Z⟩
 |false =>
  rw[aL hv];exact pV (.av (.l7 [j4 2,l5 true])::nK 8 [.av (l9 (.num (x.val+y.val))),yF]) [_,j5 192 [(o7 x.ob),(o7 y.ob)] (o7 ((Tr.num (x.val+y.val)).ob)),j5 201 [(o7 ((Tr.num (x.val+y.val)).ob))] (l5 false)] func153 ⟨Kh,Wp hx.ok hy.ok O O,(pY (t:=Tr.ap 10 x y l6) (O3 hx hy G8 10) O).b hv,Z⟩
theorem a5L{x y:Tr}(hx:Arg x)(hy:Arg y):j5 98 [p8 o9 [98,105,110,97,114,121,45,43],K5 [x,y]] (O9 (Tr.kept' (Tr.ap 10 x y l6))):=by
 cases hv:(Tr.ap 10 x y l6).valid with
 |true =>
  rw[aD hv];exact pV (.av (.l7 [j4 2,l5 true])::nK 6 [.av (l9 (Tr.ap 10 x y l6)),yT]) [_,j5 125 [(stA [98,105,110,97,114,121,45,43]),(o7 x.ob),(o7 y.ob)] (l9 (Tr.ap 10 x y l6)),j5 126 [(l9 (Tr.ap 10 x y l6))] (l5 true)] func98 ⟨JN,SE hx hy,(R3 (t:=Tr.ap 10 x y l6) (O3 hx hy G8 10) O).b hv,Z⟩
 |false =>
  rw[aL hv];exact pV (.av (.l7 [j4 2,l5 true])::nK 6 [.av (l9 (Tr.ap 10 x y l6)),yF]) [_,j5 125 [(stA [98,105,110,97,114,121,45,43]),(o7 x.ob),(o7 y.ob)] (l9 (Tr.ap 10 x y l6)),j5 126 [(l9 (Tr.ap 10 x y l6))] (l5 false)] func98 ⟨JN,SE hx hy,(R3 (t:=Tr.ap 10 x y l6) (O3 hx hy G8 10) O).b hv,Z⟩
theorem a5M{x y:Tr}(hx:Arg x)(hy:Arg y):j5 153 [p8 o9 [98,105,110,97,114,121,45,42],K5 [x,y]] (O9 (Tr.az 11 x y l6)):=by
 have e:Tr.az 11 x y l6=Tr.kept' (Tr.ap 11 x y l6):=rfl;rw[e];cases hv:(Tr.ap 11 x y l6).valid with
 |true =>
  rw[aD hv];exact pV (.av (.l7 [j4 2,l5 true])::nK 9 [.av (l9 (.num (x.val * y.val))),yT]) [_,j5 193 [(o7 x.ob),(o7 y.ob)] (o7 ((Tr.num (x.val * y.val)).ob)),j5 201 [(o7 ((Tr.num (x.val * y.val)).ob))] (l5 true)] func153 ⟨Ki,UN hx.ok hy.ok O O,(pY (t:=Tr.ap 11 x y l6) (O3 hx hy G8 11) O).b hv,Z⟩
 |false =>
  rw[aL hv];exact pV (.av (.l7 [j4 2,l5 true])::nK 9 [.av (l9 (.num (x.val * y.val))),yF]) [_,j5 193 [(o7 x.ob),(o7 y.ob)] (o7 ((Tr.num (x.val * y.val)).ob)),j5 201 [(o7 ((Tr.num (x.val * y.val)).ob))] (l5 false)] func153 ⟨Ki,UN hx.ok hy.ok O O,(pY (t:=Tr.ap 11 x y l6) (O3 hx hy G8 11) O).b hv,Z⟩
theorem a5N{x y:Tr}(hx:Arg x)(hy:Arg y):j5 98 [p8 o9 [98,105,110,97,114,121,45,42],K5 [x,y]] (O9 (Tr.kept' (Tr.ap 11 x y l6))):=by
 cases hv:(Tr.ap 11 x y l6).valid with
 |true =>
  rw[aD hv];exact pV (.av (.l7 [j4 2,l5 true])::nK 6 [.av (l9 (Tr.ap 11 x y l6)),yT]) [_,j5 125 [(stA [98,105,110,97,114,121,45,42]),(o7 x.ob),(o7 y.ob)] (l9 (Tr.ap 11 x y l6)),j5 126 [(l9 (Tr.ap 11 x y l6))] (l5 true)] func98 ⟨JO,SF hx hy,(R3 (t:=Tr.ap 11 x y l6) (O3 hx hy G8 11) O).b hv,Z⟩
 |false =>
  rw[aL hv];exact pV (.av (.l7 [j4 2,l5 true])::nK 6 [.av (l9 (Tr.ap 11 x y l6)),yF]) [_,j5 125 [(stA [98,105,110,97,114,121,45,42]),(o7 x.ob),(o7 y.ob)] (l9 (Tr.ap 11 x y l6)),j5 126 [(l9 (Tr.ap 11 x y l6))] (l5 false)] func98 ⟨JO,SF hx hy,(R3 (t:=Tr.ap 11 x y l6) (O3 hx hy G8 11) O).b hv,Z⟩
theorem a5O{x:Tr}(hx:Arg x):j5 153 [p8 o9 [117,110,97,114,121,45,45],K5 [x]] (O9 (Tr.az 12 x l6 l6)):=pV (.av (.l7 [j4 1,l5 true])::nK 13 [.av (l9 (Tr.ap 12 x l6 l6))]) [_,j5 200 [(stA [117,110,97,114,121,45,45]),(o7 x.ob)] (l9 (Tr.ap 12 x l6 l6))] func153 ⟨UB,a5A hx,Z⟩
theorem a5P{x:Tr}(hx:Arg x):j5 98 [p8 o9 [117,110,97,114,121,45,45],K5 [x]] (O9 (Tr.kept' (Tr.ap 12 x l6 l6))):=by
 cases hv:(Tr.ap 12 x l6 l6).valid with
 |true =>
  rw[aD hv];exact pV (.av (.l7 [j4 1,l5 true])::nK 4 [.av (l9 (Tr.ap 12 x l6 l6)),yT]) [_,j5 124 [(stA [117,110,97,114,121,45,45]),(o7 x.ob)] (l9 (Tr.ap 12 x l6 l6)),j5 126 [(l9 (Tr.ap 12 x l6 l6))] (l5 true)] func98 ⟨JP,Sq hx,(R3 (t:=Tr.ap 12 x l6 l6) (O3 hx G8 G8 12) O).b hv,Z⟩
 |false =>
  rw[aL hv];exact pV (.av (.l7 [j4 1,l5 true])::nK 4 [.av (l9 (Tr.ap 12 x l6 l6)),yF]) [_,j5 124 [(stA [117,110,97,114,121,45,45]),(o7 x.ob)] (l9 (Tr.ap 12 x l6 l6)),j5 126 [(l9 (Tr.ap 12 x l6 l6))] (l5 false)] func98 ⟨JP,Sq hx,(R3 (t:=Tr.ap 12 x l6 l6) (O3 hx G8 G8 12) O).b hv,Z⟩
theorem a5Q{x:Tr}(hx:Arg x):j5 153 [p8 o9 [117,110,97,114,121,45,47],K5 [x]] (O9 (Tr.az 13 x l6 l6)):=pV (.av (.l7 [j4 1,l5 true])::nK 13 [.av (l9 (Tr.ap 13 x l6 l6))]) [_,j5 200 [(stA [117,110,97,114,121,45,47]),(o7 x.ob)] (l9 (Tr.ap 13 x l6 l6))] func153 ⟨UC,a5B hx,Z⟩
theorem a5R{x:Tr}(hx:Arg x):j5 98 [p8 o9 [117,110,97,114,121,45,47],K5 [x]] (O9 (Tr.kept' (Tr.ap 13 x l6 l6))):=by
 cases hv:(Tr.ap 13 x l6 l6).valid with
 |true =>
  rw[aD hv];exact pV (.av (.l7 [j4 1,l5 true])::nK 4 [.av (l9 (Tr.ap 13 x l6 l6)),yT]) [_,j5 124 [(stA [117,110,97,114,121,45,47]),(o7 x.ob)] (l9 (Tr.ap 13 x l6 l6)),j5 126 [(l9 (Tr.ap 13 x l6 l6))] (l5 true)] func98 ⟨JQ,Sr hx,(R3 (t:=Tr.ap 13 x l6 l6) (O3 hx G8 G8 13) O).b hv,Z⟩
 |false =>
  rw[aL hv];exact pV (.av (.l7 [j4 1,l5 true])::nK 4 [.av (l9 (Tr.ap 13 x l6 l6)),yF]) [_,j5 124 [(stA [117,110,97,114,121,45,47]),(o7 x.ob)] (l9 (Tr.ap 13 x l6 l6)),j5 126 [(l9 (Tr.ap 13 x l6 l6))] (l5 false)] func98 ⟨JQ,Sr hx,(R3 (t:=Tr.ap 13 x l6 l6) (O3 hx G8 G8 13) O).b hv,Z⟩
theorem a5S{x y:Tr}(hx:Arg x)(hy:Arg y):j5 153 [p8 o9 [60],K5 [x,y]] (O9 (Tr.az 14 x y l6)):=pV (.av (.l7 [j4 2,l5 true])::nK 14 [.av (l5 (decide (x.val < y.val))),.av (l9 (V7 (decide (x.val < y.val))))]) [_,j5 199 [(o7 x.ob),(o7 y.ob)] (l5 (decide (x.val < y.val))),j5 198 [(l5 (decide (x.val < y.val)))] (o7 ((V7 (decide (x.val < y.val))).ob))] func153 ⟨UD,a5w hx.ok hy.ok O O,sM _,Z⟩
theorem a5T{x y:Tr}(hx:Arg x)(hy:Arg y):j5 98 [p8 o9 [60],K5 [x,y]] (O9 (Tr.kept' (Tr.ap 14 x y l6))):=by
 cases hv:(Tr.ap 14 x y l6).valid with
 |true =>
  rw[aD hv];exact pV (.av (.l7 [j4 2,l5 true])::nK 6 [.av (l9 (Tr.ap 14 x y l6)),yT]) [_,j5 125 [(stA [60]),(o7 x.ob),(o7 y.ob)] (l9 (Tr.ap 14 x y l6)),j5 126 [(l9 (Tr.ap 14 x y l6))] (l5 true)] func98 ⟨JR,SG hx hy,(R3 (t:=Tr.ap 14 x y l6) (O3 hx hy G8 14) O).b hv,Z⟩
 |false =>
  rw[aL hv];exact pV (.av (.l7 [j4 2,l5 true])::nK 6 [.av (l9 (Tr.ap 14 x y l6)),yF]) [_,j5 125 [(stA [60]),(o7 x.ob),(o7 y.ob)] (l9 (Tr.ap 14 x y l6)),j5 126 [(l9 (Tr.ap 14 x y l6))] (l5 false)] func98 ⟨JR,SG hx hy,(R3 (t:=Tr.ap 14 x y l6) (O3 hx hy G8 14) O).b hv,Z⟩
theorem a5U{x:Tr}(hx:Arg x):j5 153 [p8 o9 [110,117,109,101,114,97,116,111,114],K5 [x]] (O9 (Tr.az 15 x l6 l6)):=pV (.av (.l7 [j4 1,l5 true])::nK 13 [.av (l9 (Tr.ap 15 x l6 l6))]) [_,j5 200 [(stA [110,117,109,101,114,97,116,111,114]),(o7 x.ob)] (l9 (Tr.ap 15 x l6 l6))] func153 ⟨UE,a5C hx,Z⟩
theorem a5V{x:Tr}(hx:Arg x):j5 98 [p8 o9 [110,117,109,101,114,97,116,111,114],K5 [x]] (O9 (Tr.kept' (Tr.ap 15 x l6 l6))):=by
 cases hv:(Tr.ap 15 x l6 l6).valid with
 |true =>
  rw[aD hv];exact pV (.av (.l7 [j4 1,l5 true])::nK 4 [.av (l9 (Tr.ap 15 x l6 l6)),yT]) [_,j5 124 [(stA [110,117,109,101,114,97,116,111,114]),(o7 x.ob)] (l9 (Tr.ap 15 x l6 l6)),j5 126 [(l9 (Tr.ap 15 x l6 l6))] (l5 true)] func98 ⟨JS,Su hx,(R3 (t:=Tr.ap 15 x l6 l6) (O3 hx G8 G8 15) O).b hv,Z⟩
 |false =>
  rw[aL hv];exact pV (.av (.l7 [j4 1,l5 true])::nK 4 [.av (l9 (Tr.ap 15 x l6 l6)),yF]) [_,j5 124 [(stA [110,117,109,101,114,97,116,111,114]),(o7 x.ob)] (l9 (Tr.ap 15 x l6 l6)),j5 126 [(l9 (Tr.ap 15 x l6 l6))] (l5 false)] func98 ⟨JS,Su hx,(R3 (t:=Tr.ap 15 x l6 l6) (O3 hx G8 G8 15) O).b hv,Z⟩
theorem a5W{x:Tr}(hx:Arg x):j5 153 [p8 o9 [100,101,110,111,109,105,110,97,116,111,114],K5 [x]] (O9 (Tr.az 16 x l6 l6)):=pV (.av (.l7 [j4 1,l5 true])::nK 13 [.av (l9 (Tr.ap 16 x l6 l6))]) [_,j5 200 [(stA [100,101,110,111,109,105,110,97,116,111,114]),(o7 x.ob)] (l9 (Tr.ap 16 x l6 l6))] func153 ⟨UF,a5D hx,Z⟩
theorem a5X{x:Tr}(hx:Arg x):j5 98 [p8 o9 [100,101,110,111,109,105,110,97,116,111,114],K5 [x]] (O9 (Tr.kept' (Tr.ap 16 x l6 l6))):=by
 cases hv:(Tr.ap 16 x l6 l6).valid with
 |true =>
  rw[aD hv];exact pV (.av (.l7 [j4 1,l5 true])::nK 4 [.av (l9 (Tr.ap 16 x l6 l6)),yT]) [_,j5 124 [(stA [100,101,110,111,109,105,110,97,116,111,114]),(o7 x.ob)] (l9 (Tr.ap 16 x l6 l6)),j5 126 [(l9 (Tr.ap 16 x l6 l6))] (l5 true)] func98 ⟨JU,Sv hx,(R3 (t:=Tr.ap 16 x l6 l6) (O3 hx G8 G8 16) O).b hv,Z⟩
 |false =>
  rw[aL hv];exact pV (.av (.l7 [j4 1,l5 true])::nK 4 [.av (l9 (Tr.ap 16 x l6 l6)),yF]) [_,j5 124 [(stA [100,101,110,111,109,105,110,97,116,111,114]),(o7 x.ob)] (l9 (Tr.ap 16 x l6 l6)),j5 126 [(l9 (Tr.ap 16 x l6 l6))] (l5 false)] func98 ⟨JU,Sv hx,(R3 (t:=Tr.ap 16 x l6 l6) (O3 hx G8 G8 16) O).b hv,Z⟩
theorem a5Y{x:Tr}(hx:Arg x):j5 153 [p8 o9 [102,108,111,111,114],K5 [x]] (O9 (Tr.az 17 x l6 l6)):=pV (.av (.l7 [j4 1,l5 true])::nK 13 [.av (l9 (Tr.ap 17 x l6 l6))]) [_,j5 200 [(stA [102,108,111,111,114]),(o7 x.ob)] (l9 (Tr.ap 17 x l6 l6))] func153 ⟨UG,a5E hx,Z⟩
theorem a5Z{x:Tr}(hx:Arg x):j5 98 [p8 o9 [102,108,111,111,114],K5 [x]] (O9 (Tr.kept' (Tr.ap 17 x l6 l6))):=by
 cases hv:(Tr.ap 17 x l6 l6).valid with
 |true =>
  rw[aD hv];exact pV (.av (.l7 [j4 1,l5 true])::nK 4 [.av (l9 (Tr.ap 17 x l6 l6)),yT]) [_,j5 124 [(stA [102,108,111,111,114]),(o7 x.ob)] (l9 (Tr.ap 17 x l6 l6)),j5 126 [(l9 (Tr.ap 17 x l6 l6))] (l5 true)] func98 ⟨JV,Sw hx,(R3 (t:=Tr.ap 17 x l6 l6) (O3 hx G8 G8 17) O).b hv,Z⟩
 |false =>
  rw[aL hv];exact pV (.av (.l7 [j4 1,l5 true])::nK 4 [.av (l9 (Tr.ap 17 x l6 l6)),yF]) [_,j5 124 [(stA [102,108,111,111,114]),(o7 x.ob)] (l9 (Tr.ap 17 x l6 l6)),j5 126 [(l9 (Tr.ap 17 x l6 l6))] (l5 false)] func98 ⟨JV,Sw hx,(R3 (t:=Tr.ap 17 x l6 l6) (O3 hx G8 G8 17) O).b hv,Z⟩
theorem a6a{x:Tr}(hx:Arg x):j5 153 [p8 o9 [115,121,109,98,111,108,45,110,97,109,101],K5 [x]] (O9 (Tr.az 18 x l6 l6)):=pV (.av (.l7 [j4 1,l5 true])::nK 13 [.av (l9 (Tr.ap 18 x l6 l6))]) [_,j5 200 [(stA [115,121,109,98,111,108,45,110,97,109,101]),(o7 x.ob)] (l9 (Tr.ap 18 x l6 l6))] func153 ⟨UH,a5F hx,Z⟩
theorem a6b{x:Tr}(hx:Arg x):j5 98 [p8 o9 [115,121,109,98,111,108,45,110,97,109,101],K5 [x]] (O9 (Tr.kept' (Tr.ap 18 x l6 l6))):=by
 cases hv:(Tr.ap 18 x l6 l6).valid with
 |true =>
  rw[aD hv];exact pV (.av (.l7 [j4 1,l5 true])::nK 4 [.av (l9 (Tr.ap 18 x l6 l6)),yT]) [_,j5 124 [(stA [115,121,109,98,111,108,45,110,97,109,101]),(o7 x.ob)] (l9 (Tr.ap 18 x l6 l6)),j5 126 [(l9 (Tr.ap 18 x l6 l6))] (l5 true)] func98 ⟨JW,Sz hx,(R3 (t:=Tr.ap 18 x l6 l6) (O3 hx G8 G8 18) O).b hv,Z⟩
 |false =>
  rw[aL hv];exact pV (.av (.l7 [j4 1,l5 true])::nK 4 [.av (l9 (Tr.ap 18 x l6 l6)),yF]) [_,j5 124 [(stA [115,121,109,98,111,108,45,110,97,109,101]),(o7 x.ob)] (l9 (Tr.ap 18 x l6 l6)),j5 126 [(l9 (Tr.ap 18 x l6 l6))] (l5 false)] func98 ⟨JW,Sz hx,(R3 (t:=Tr.ap 18 x l6 l6) (O3 hx G8 G8 18) O).b hv,Z⟩
theorem a6c{x:Tr}(hx:Arg x):j5 153 [p8 o9 [115,121,109,98,111,108,45,112,97,99,107,97,103,101,45,110,97,109,101],K5 [x]] (O9 (Tr.az 19 x l6 l6)):=pV (.av (.l7 [j4 1,l5 true])::nK 13 [.av (l9 (Tr.ap 19 x l6 l6))]) [_,j5 200 [(stA [115,121,109,98,111,108,45,112,97,99,107,97,103,101,45,110,97,109,101]),(o7 x.ob)] (l9 (Tr.ap 19 x l6 l6))] func153 ⟨UI,a5G hx,Z⟩
theorem a6d{x:Tr}(hx:Arg x):j5 98 [p8 o9 [115,121,109,98,111,108,45,112,97,99,107,97,103,101,45,110,97,109,101],K5 [x]] (O9 (Tr.kept' (Tr.ap 19 x l6 l6))):=by
 cases hv:(Tr.ap 19 x l6 l6).valid with
 |true =>
  rw[aD hv];exact pV (.av (.l7 [j4 1,l5 true])::nK 4 [.av (l9 (Tr.ap 19 x l6 l6)),yT]) [_,j5 124 [(stA [115,121,109,98,111,108,45,112,97,99,107,97,103,101,45,110,97,109,101]),(o7 x.ob)] (l9 (Tr.ap 19 x l6 l6)),j5 126 [(l9 (Tr.ap 19 x l6 l6))] (l5 true)] func98 ⟨JX,SA hx,(R3 (t:=Tr.ap 19 x l6 l6) (O3 hx G8 G8 19) O).b hv,Z⟩
 |false =>
  rw[aL hv];exact pV (.av (.l7 [j4 1,l5 true])::nK 4 [.av (l9 (Tr.ap 19 x l6 l6)),yF]) [_,j5 124 [(stA [115,121,109,98,111,108,45,112,97,99,107,97,103,101,45,110,97,109,101]),(o7 x.ob)] (l9 (Tr.ap 19 x l6 l6)),j5 126 [(l9 (Tr.ap 19 x l6 l6))] (l5 false)] func98 ⟨JX,SA hx,(R3 (t:=Tr.ap 19 x l6 l6) (O3 hx G8 G8 19) O).b hv,Z⟩
theorem a6e{x y:Tr}(hx:Arg x)(hy:Arg y):j5 153 [p8 o9 [105,110,116,101,114,110],K5 [x,y]] (O9 (Tr.az 20 x y l6)):=pV (.av (.l7 [j4 2,l5 true])::nK 11 [.av (l9 (Tr.ap 20 x y l6))]) [_,j5 195 [(o7 x.ob),(o7 y.ob)] (l9 (Tr.ap 20 x y l6))] func153 ⟨UJ,a3A hx.ok hy.ok,Z⟩
theorem a6f{x y:Tr}(hx:Arg x)(hy:Arg y):j5 98 [p8 o9 [105,110,116,101,114,110],K5 [x,y]] (O9 (Tr.kept' (Tr.ap 20 x y l6))):=by
 cases hv:(Tr.ap 20 x y l6).valid with
 |true =>
  rw[aD hv];exact pV (.av (.l7 [j4 2,l5 true])::nK 6 [.av (l9 (Tr.ap 20 x y l6)),yT]) [_,j5 125 [(stA [105,110,116,101,114,110]),(o7 x.ob),(o7 y.ob)] (l9 (Tr.ap 20 x y l6)),j5 126 [(l9 (Tr.ap 20 x y l6))] (l5 true)] func98 ⟨JY,SI hx hy,(R3 (t:=Tr.ap 20 x y l6) (O3 hx hy G8 20) O).b hv,Z⟩
 |false =>
  rw[aL hv];exact pV (.av (.l7 [j4 2,l5 true])::nK 6 [.av (l9 (Tr.ap 20 x y l6)),yF]) [_,j5 125 [(stA [105,110,116,101,114,110]),(o7 x.ob),(o7 y.ob)] (l9 (Tr.ap 20 x y l6)),j5 126 [(l9 (Tr.ap 20 x y l6))] (l5 false)] func98 ⟨JY,SI hx hy,(R3 (t:=Tr.ap 20 x y l6) (O3 hx hy G8 20) O).b hv,Z⟩
theorem a6g{x y:Tr}(hx:Arg x)(hy:Arg y):j5 153 [p8 o9 [115,116,114,105,110,103,45,97,112,112,101,110,100],K5 [x,y]] (O9 (Tr.az 21 x y l6)):=by
 have e:Tr.az 21 x y l6=Tr.kept' (Tr.ap 21 x y l6):=rfl;rw[e];cases hv:(Tr.ap 21 x y l6).valid with
 |true =>
  rw[aD hv];exact pV (.av (.l7 [j4 2,l5 true])::nK 10 [.av (stA (x.tx++y.tx)),.av (l9 (.txt (x.tx++y.tx))),yT]) [_,Bs .add 9 67 69 x.ob.text y.ob.text (str (x.tx++y.tx)),j5 194 [(stA (x.tx++y.tx))] (o7 ((Tr.txt (x.tx++y.tx)).ob)),j5 201 [(o7 ((Tr.txt (x.tx++y.tx)).ob))] (l5 true)] func153 ⟨Kj,Dh (a:=x.tx) (b:=y.tx) (by have:=hx.tx;have:=hy.tx;omega),vS _,(pY (t:=Tr.ap 21 x y l6) (O3 hx hy G8 21) O).b hv,Z⟩
 |false =>
  rw[aL hv];exact pV (.av (.l7 [j4 2,l5 true])::nK 10 [.av (stA (x.tx++y.tx)),.av (l9 (.txt (x.tx++y.tx))),yF]) [_,Bs .add 9 67 69 x.ob.text y.ob.text (str (x.tx++y.tx)),j5 194 [(stA (x.tx++y.tx))] (o7 ((Tr.txt (x.tx++y.tx)).ob)),j5 201 [(o7 ((Tr.txt (x.tx++y.tx)).ob))] (l5 false)] func153 ⟨Kj,Dh (a:=x.tx) (b:=y.tx) (by have:=hx.tx;have:=hy.tx;omega),vS _,(pY (t:=Tr.ap 21 x y l6) (O3 hx hy G8 21) O).b hv,Z⟩
theorem a6h{x y:Tr}(hx:Arg x)(hy:Arg y):j5 98 [p8 o9 [115,116,114,105,110,103,45,97,112,112,101,110,100],K5 [x,y]] (O9 (Tr.kept' (Tr.ap 21 x y l6))):=by
 cases hv:(Tr.ap 21 x y l6).valid with
 |true =>
  rw[aD hv];exact pV (.av (.l7 [j4 2,l5 true])::nK 6 [.av (l9 (Tr.ap 21 x y l6)),yT]) [_,j5 125 [(stA [115,116,114,105,110,103,45,97,112,112,101,110,100]),(o7 x.ob),(o7 y.ob)] (l9 (Tr.ap 21 x y l6)),j5 126 [(l9 (Tr.ap 21 x y l6))] (l5 true)] func98 ⟨JZ,SH hx hy,(R3 (t:=Tr.ap 21 x y l6) (O3 hx hy G8 21) O).b hv,Z⟩
 |false =>
  rw[aL hv];exact pV (.av (.l7 [j4 2,l5 true])::nK 6 [.av (l9 (Tr.ap 21 x y l6)),yF]) [_,j5 125 [(stA [115,116,114,105,110,103,45,97,112,112,101,110,100]),(o7 x.ob),(o7 y.ob)] (l9 (Tr.ap 21 x y l6)),j5 126 [(l9 (Tr.ap 21 x y l6))] (l5 false)] func98 ⟨JZ,SH hx hy,(R3 (t:=Tr.ap 21 x y l6) (O3 hx hy G8 21) O).b hv,Z⟩
theorem a6i{x:Tr}(hx:Arg x):j5 153 [p8 o9 [115,116,114,105,110,103,45,108,101,110,103,116,104],K5 [x]] (O9 (Tr.az 22 x l6 l6)):=pV (.av (.l7 [j4 1,l5 true])::nK 13 [.av (l9 (Tr.ap 22 x l6 l6))]) [_,j5 200 [(stA [115,116,114,105,110,103,45,108,101,110,103,116,104]),(o7 x.ob)] (l9 (Tr.ap 22 x l6 l6))] func153 ⟨UK,a5H hx,Z⟩
theorem a6j{x:Tr}(hx:Arg x):j5 98 [p8 o9 [115,116,114,105,110,103,45,108,101,110,103,116,104],K5 [x]] (O9 (Tr.kept' (Tr.ap 22 x l6 l6))):=by
 cases hv:(Tr.ap 22 x l6 l6).valid with
 |true =>
  rw[aD hv];exact pV (.av (.l7 [j4 1,l5 true])::nK 4 [.av (l9 (Tr.ap 22 x l6 l6)),yT]) [_,j5 124 [(stA [115,116,114,105,110,103,45,108,101,110,103,116,104]),(o7 x.ob)] (l9 (Tr.ap 22 x l6 l6)),j5 126 [(l9 (Tr.ap 22 x l6 l6))] (l5 true)] func98 ⟨Ka,SB hx,(R3 (t:=Tr.ap 22 x l6 l6) (O3 hx G8 G8 22) O).b hv,Z⟩
 |false =>
  rw[aL hv];exact pV (.av (.l7 [j4 1,l5 true])::nK 4 [.av (l9 (Tr.ap 22 x l6 l6)),yF]) [_,j5 124 [(stA [115,116,114,105,110,103,45,108,101,110,103,116,104]),(o7 x.ob)] (l9 (Tr.ap 22 x l6 l6)),j5 126 [(l9 (Tr.ap 22 x l6 l6))] (l5 false)] func98 ⟨Ka,SB hx,(R3 (t:=Tr.ap 22 x l6 l6) (O3 hx G8 G8 22) O).b hv,Z⟩
theorem a6k{x y:Tr}(_:Arg x)(hy:Arg y):j5 153 [p8 o9 [115,116,114,105,110,103,45,98,121,116,101],K5 [x,y]] (O9 (Tr.az 23 x y l6)):=by
 have e:Tr.az 23 x y l6=some (Tr.ap 23 x y l6):=rfl;rw[e];have hi:=b3S x hy.ok O;cases ho:x.ed y with
 |none =>
  rw[Wy ho];rw[ho]at hi;exact pV (.av (.l7 [j4 2,l5 true])::nK 12 [.av (.l7 [j4 (Az x y),l5 false]),.av (l9 l6)]) [_,_,_] func153 ⟨Kk,hi,kF,Z⟩
 |some n =>
  obtain⟨h2,_,_,h0,h1⟩:=Sn ho;rw[Wz ho];rw[ho,h2]at hi;generalize hb:x.tx.getD n.toNat 0=b;have hg:=Va h0 h1;rw[hb]at hg;have:=b.toNat_lt;exact pV (.av (.l7 [j4 2,l5 true])::nK 12 [.av (.l7 [j4 n,l5 true]),.av (.dt (.val (.int .u8 b.toNat))),.av (j4 b.toNat),.av (l9 (.num ((b.toNat:Int):Rat)))]) [_,_,gP ({ data:=x.ob.text.toArray:ByteArray }) n (Value.int .u8 ↑b.toNat),(vi ↑b.toNat)=(vi (IntKind.i64.wrap ↑b.toNat)),j5 197 [(j4 ↑b.toNat)] (l9 (Tr.num ↑↑b.toNat))] func153 ⟨Kk,hi,⟨b,h0,by rw[II];exact hg,rfl⟩,by rw[Vb],zn _ J J,Z⟩
theorem a6l{x y:Tr}(hx:Arg x)(hy:Arg y):j5 98 [p8 o9 [115,116,114,105,110,103,45,98,121,116,101],K5 [x,y]] (O9 (Tr.kept' (Tr.ap 23 x y l6))):=by
 cases hv:(Tr.ap 23 x y l6).valid with
 |true =>
  rw[aD hv];exact pV (.av (.l7 [j4 2,l5 true])::nK 6 [.av (l9 (Tr.ap 23 x y l6)),yT]) [_,j5 125 [(stA [115,116,114,105,110,103,45,98,121,116,101]),(o7 x.ob),(o7 y.ob)] (l9 (Tr.ap 23 x y l6)),j5 126 [(l9 (Tr.ap 23 x y l6))] (l5 true)] func98 ⟨Kb,SK hx hy,(R3 (t:=Tr.ap 23 x y l6) (O3 hx hy G8 23) O).b hv,Z⟩
 |false =>
  rw[aL hv];exact pV (.av (.l7 [j4 2,l5 true])::nK 6 [.av (l9 (Tr.ap 23 x y l6)),yF]) [_,j5 125 [(stA [115,116,114,105,110,103,45,98,121,116,101]),(o7 x.ob),(o7 y.ob)] (l9 (Tr.ap 23 x y l6)),j5 126 [(l9 (Tr.ap 23 x y l6))] (l5 false)] func98 ⟨Kb,SK hx hy,(R3 (t:=Tr.ap 23 x y l6) (O3 hx hy G8 23) O).b hv,Z⟩
theorem a6m{x:Tr}(hx:Arg x):j5 153 [p8 o9 [98,121,116,101,45,115,116,114,105,110,103],K5 [x]] (O9 (Tr.az 24 x l6 l6)):=pV (.av (.l7 [j4 1,l5 true])::nK 13 [.av (l9 (Tr.ap 24 x l6 l6))]) [_,j5 200 [(stA [98,121,116,101,45,115,116,114,105,110,103]),(o7 x.ob)] (l9 (Tr.ap 24 x l6 l6))] func153 ⟨UL,a5I hx,Z⟩
theorem a6n{x:Tr}(hx:Arg x):j5 98 [p8 o9 [98,121,116,101,45,115,116,114,105,110,103],K5 [x]] (O9 (Tr.kept' (Tr.ap 24 x l6 l6))):=by
 cases hv:(Tr.ap 24 x l6 l6).valid with
 |true =>
  rw[aD hv];exact pV (.av (.l7 [j4 1,l5 true])::nK 4 [.av (l9 (Tr.ap 24 x l6 l6)),yT]) [_,j5 124 [(stA [98,121,116,101,45,115,116,114,105,110,103]),(o7 x.ob)] (l9 (Tr.ap 24 x l6 l6)),j5 126 [(l9 (Tr.ap 24 x l6 l6))] (l5 true)] func98 ⟨Kc,SC hx,(R3 (t:=Tr.ap 24 x l6 l6) (O3 hx G8 G8 24) O).b hv,Z⟩
 |false =>
  rw[aL hv];exact pV (.av (.l7 [j4 1,l5 true])::nK 4 [.av (l9 (Tr.ap 24 x l6 l6)),yF]) [_,j5 124 [(stA [98,121,116,101,45,115,116,114,105,110,103]),(o7 x.ob)] (l9 (Tr.ap 24 x l6 l6)),j5 126 [(l9 (Tr.ap 24 x l6 l6))] (l5 false)] func98 ⟨Kc,SC hx,(R3 (t:=Tr.ap 24 x l6 l6) (O3 hx G8 G8 24) O).b hv,Z⟩
theorem XT{n:Int}(h:n.natAbs < 10 ^ 100):dg (Lib.itoa n)≤100:=by
 have e:norm (Lib.itoa n)=Lib.itoa n:=by rw[norm_eq,j6.M7]
 have h1:=j6.pF (k:=100) O h;show (j6.mag (norm (Lib.itoa n))).length≤100;rw[e];by_cases hv:n < 0
 ·rw[rH hv,j6.rM];exact h1
 ·rw[uW J];exact pu (j6.jA _) h1
theorem XU{n:Int}(h:dg (Lib.itoa n)≤100):n.natAbs < 10 ^ 100:=by
 obtain⟨hd,_,hv,_⟩:=yw (Lib.itoa n);rw[j6.M7]at hv;rw[←hv];exact kw (j6.yN _ hd) (Zar O h)
namespace Tr
theorem vH{q:Rat}:good (.num q)=true↔Rb 100 q:=by
 show decide (dg (Lib.itoa q.num)≤100∧dg (Lib.itoa (q.den:Int))≤100)=true↔_;rw[rE];constructor
 ·intro h;have h2:=XU h.2;rw[Int.natAbs_natCast]at h2;exact⟨XU h.1,h2,O⟩
 ·intro h;exact⟨XT h.num,XT (by rw[Int.natAbs_natCast];exact h.den)⟩
theorem jB{t:Tr}(h:t.valid=true):t.good=true:=(ni.1 h).2
theorem yL{t:Tr}(h:t.good=true):Rb 100 t.val:=by
 cases t with
 |num q=>exact vH.1 h
 |_=>exact Rb.zero.mono O
theorem Vd{t:Tr}(h:t.good=true):t.tx.length≤200:=by
 cases t with
 |txt s=>exact bv h
 |_=>exact Ci _
theorem IQ{q:Rat}(h:Rb 100 q):valid (.num q)=true:=ni.2 ⟨(by decide:1≤3000),vH.2 h⟩
theorem yo{n:Int}(h:n.natAbs < 10 ^ 100):valid (.num (n:Rat))=true:=IQ (BU O h)
theorem vv{l:lw}(h:l.length≤200):valid (.txt l)=true:=ni.2 ⟨(by decide:1≤3000),Pi h⟩
theorem a3B{p s:lw}(h:R6 ⟨p,s⟩=true):valid (.sym p s)=true:=ni.2 ⟨(by decide:1≤3000),h⟩
theorem pO:valid l6=true:=by decide +kernel
theorem a9k:valid (.sym o9 [116])=true:=by decide +kernel
theorem rV(b:Bool):valid (V7 b)=true:=by cases b;exact pO;exact a9k
theorem J8{t:Tr}(h:t.valid=true):Arg t:=⟨(Jw (jB h)).mono O,pu (Vd (jB h)) O⟩
theorem SN{p s:lw}(h:R6 ⟨p,s⟩=true):p.length≤40∧s.length≤40:=by
 have h':(fB p && iU s)=true:=h;simp only[fB,iU,Ce,rE]at h';omega
theorem a6o{x y z:Tr}(hx:x.valid=true)(hy:y.valid=true)(hz:z.valid=true):∀i:Nat,i≠2→i≠10→i≠11→i≠21→(ap i x y z).valid=true
 |0,_,_,_,_=>by
  show (if x=l6 then z else y).valid=true;split
  ·exact hz
  ·exact hy
 |1,_,_,_,_=>rV _
 |2,h,_,_,_=>absurd rfl h
 |3,_,_,_,_=>by
  cases x with
  |cons a d=>exact (PD hx).1
  |_=>exact pO
 |4,_,_,_,_=>by
  cases x with
  |cons a d=>exact (PD hx).2
  |_=>exact pO
 |5,_,_,_,_=>rV _
 |6,_,_,_,_=>rV _
 |7,_,_,_,_=>rV _
 |8,_,_,_,_=>rV _
 |9,_,_,_,_=>rV _
 |10,_,h,_,_=>absurd rfl h
 |11,_,_,h,_=>absurd rfl h
 |12,_,_,_,_=>IQ (yL (jB hx)).neg
 |13,_,_,_,_=>IQ (yL (jB hx)).inv
 |14,_,_,_,_=>rV _
 |15,_,_,_,_=>yo (yL (jB hx)).num
 |16,_,_,_,_=>yo (by rw[Int.natAbs_natCast];exact (yL (jB hx)).den)
 |17,_,_,_,_=>yo (by
   have hp:(0:Int) < x.val.den:=Int.natCast_pos.2 x.val.den_pos;unfold qd;rw[EQ J,Ch hp];exact Nat.lt_of_le_of_lt (Int.natAbs_ediv_le_natAbs _ _) (yL (jB hx)).num)
 |18,_,_,_,_=>by
  cases x with
  |sym p s=>exact vv (by have h:=SN (jB hx);show s.length≤200;omega)
  |_=>exact vv (Ci _)
 |19,_,_,_,_=>by
  cases x with
  |sym p s=>exact vv (by have h:=SN (jB hx);show p.length≤200;omega)
  |_=>exact vv (Ci _)
 |20,_,_,_,_=>by
  show (if x.aK && y.aK && R6 ⟨y.tx,x.tx⟩ then Tr.sym y.tx x.tx else l6).valid=true;split
  ·rename_i h;rw[Ce]at h;exact a3B h.2
  ·exact pO
 |21,_,_,_,h=>absurd rfl h
 |22,_,_,_,_=>yo (by
   have:=Vd (jB hx);rw[Int.natAbs_natCast];exact Nat.lt_of_le_of_lt this O)
 |23,_,_,_,_=>by
  show (match x.ed y with | some n=>Tr.num (((x.tx.getD n.toNat 0).toNat:Int):Rat) | none=>l6).valid=true;split
  ·rename_i n _;exact yo (by rw[Int.natAbs_natCast];exact Nat.lt_trans (x.tx.getD n.toNat 0).toNat_lt O)
  ·exact pO
 |24,_,_,_,_=>by
  show (match x.gD with | some n=>Tr.txt [UInt8.ofNat n.toNat] | none=>Tr.txt []).valid=true;split
  ·exact vv (show 1≤200 by decide)
  ·exact vv (Ci _)
 |_+25,_,_,_,_=>pO
theorem bG{x y z:Tr}(hx:x.valid=true)(hy:y.valid=true)(hz:z.valid=true)(i:Nat):az i x y z=kept' (ap i x y z):=by
 unfold az;split
 ·rfl
 ·rename_i h;rw[aD (a6o hx hy hz i J J J J)]
abbrev uu(i:Nat)(l:List Tr):Tr:=ap i (l.getD 0 l6) (l.getD 1 l6) (l.getD 2 l6)
end Tr
theorem J4{l:List Tr}(h:∀t∈l,t.valid=true)(i:Nat):(l.getD i l6).valid=true:=by
 rw[AC];rcases Za5 i l.length with h1 | h1
 ·rw[ww h1];exact h _ (Zaj h1)
 ·rw[Za4 h1];exact Tr.pO
theorem b1t:∀{i:Nat} {s:lw} {a:Nat},I5[i]?=some (s,a)→j5 151 [p8 o9 s] (.l7 [j4 (a:Int),l5 true])
 |0,_,_,h=>by cases h;exact Ld
 |1,_,_,h=>by cases h;exact We
 |2,_,_,h=>by cases h;exact Le
 |3,_,_,h=>by cases h;exact Wh
 |4,_,_,h=>by cases h;exact Wi
 |5,_,_,h=>by cases h;exact Wj
 |6,_,_,h=>by cases h;exact Wl
 |7,_,_,h=>by cases h;exact Wm
 |8,_,_,h=>by cases h;exact Wn
 |9,_,_,h=>by cases h;exact Wo
 |10,_,_,h=>by cases h;exact Kh
 |11,_,_,h=>by cases h;exact Ki
 |12,_,_,h=>by cases h;exact UB
 |13,_,_,h=>by cases h;exact UC
 |14,_,_,h=>by cases h;exact UD
 |15,_,_,h=>by cases h;exact UE
 |16,_,_,h=>by cases h;exact UF
 |17,_,_,h=>by cases h;exact UG
 |18,_,_,h=>by cases h;exact UH
 |19,_,_,h=>by cases h;exact UI
 |20,_,_,h=>by cases h;exact UJ
 |21,_,_,h=>by cases h;exact Kj
 |22,_,_,h=>by cases h;exact UK
 |23,_,_,h=>by cases h;exact Kk
 |24,_,_,h=>by cases h;exact UL
 |_+25,_,_,h=>by cases h
theorem b3W:∀{i:Nat} {s:lw} {a:Nat} {l:List Tr},I5[i]?=some (s,a)→(∀t∈l,t.valid=true)→l.length=a→j5 153 [p8 o9 s,K5 l] (O9 (Tr.kept' (Tr.uu i l)))
 |0,_,_,[x,y,z],h,hl,_=>by cases h;exact (a8S (Tr.J8 (hl x (NE ..))) (Tr.J8 (hl y (Cg _ (NE ..)))) (Tr.J8 (hl z (Cg _ (Cg _ (NE ..)))))).r (Tr.bG (J4 hl 0) (J4 hl 1) (J4 hl 2) 0)
 |0,_,_,[],h,_,hn=>by cases h;exact absurd hn I
 |0,_,_,[_],h,_,hn=>by cases h;exact absurd hn I
 |0,_,_,[_,_],h,_,hn=>by cases h;exact absurd hn I
 |0,_,_,_::_::_::_::_,h,_,hn=>by cases h;simp at hn
 |1,_,_,[x,y],h,hl,_=>by cases h;exact (a8U (Tr.J8 (hl x (NE ..))) (Tr.J8 (hl y (Cg _ (NE ..))))).r (Tr.bG (J4 hl 0) (J4 hl 1) (J4 hl 2) 1)
 |1,_,_,[],h,_,hn=>by cases h;exact absurd hn I
 |1,_,_,[_],h,_,hn=>by cases h;exact absurd hn I
 |1,_,_,_::_::_::_,h,_,hn=>by cases h;simp at hn
 |2,_,_,[x,y],h,hl,_=>by cases h;exact (a8W (Tr.J8 (hl x (NE ..))) (Tr.J8 (hl y (Cg _ (NE ..))))).r (Tr.bG (J4 hl 0) (J4 hl 1) (J4 hl 2) 2)
 |2,_,_,[],h,_,hn=>by cases h;exact absurd hn I
 |2,_,_,[_],h,_,hn=>by cases h;exact absurd hn I
 |2,_,_,_::_::_::_,h,_,hn=>by cases h;simp at hn
 |3,_,_,[x],h,hl,_=>by cases h;exact (a8Y (Tr.J8 (hl x (NE ..)))).r (Tr.bG (J4 hl 0) (J4 hl 1) (J4 hl 2) 3)
 |3,_,_,[],h,_,hn=>by cases h;exact absurd hn I
 |3,_,_,_::_::_,h,_,hn=>by cases h;simp at hn
 |4,_,_,[x],h,hl,_=>by cases h;exact (a81 (Tr.J8 (hl x (NE ..)))).r (Tr.bG (J4 hl 0) (J4 hl 1) (J4 hl 2) 4)
 |4,_,_,[],h,_,hn=>by cases h;exact absurd hn I
 |4,_,_,_::_::_,h,_,hn=>by cases h;simp at hn
 |5,_,_,[x],h,hl,_=>by cases h;exact (a9a (Tr.J8 (hl x (NE ..)))).r (Tr.bG (J4 hl 0) (J4 hl 1) (J4 hl 2) 5)
 |5,_,_,[],h,_,hn=>by cases h;exact absurd hn I
 |5,_,_,_::_::_,h,_,hn=>by cases h;simp at hn
 |6,_,_,[x],h,hl,_=>by cases h;exact (a9c (Tr.J8 (hl x (NE ..)))).r (Tr.bG (J4 hl 0) (J4 hl 1) (J4 hl 2) 6)
 |6,_,_,[],h,_,hn=>by cases h;exact absurd hn I
 |6,_,_,_::_::_,h,_,hn=>by cases h;simp at hn
 |7,_,_,[x],h,hl,_=>by cases h;exact (a9e (Tr.J8 (hl x (NE ..)))).r (Tr.bG (J4 hl 0) (J4 hl 1) (J4 hl 2) 7)
 |7,_,_,[],h,_,hn=>by cases h;exact absurd hn I
 |7,_,_,_::_::_,h,_,hn=>by cases h;simp at hn
 |8,_,_,[x],h,hl,_=>by cases h;exact (a9g (Tr.J8 (hl x (NE ..)))).r (Tr.bG (J4 hl 0) (J4 hl 1) (J4 hl 2) 8)
 |8,_,_,[],h,_,hn=>by cases h;exact absurd hn I
 |8,_,_,_::_::_,h,_,hn=>by cases h;simp at hn
 |9,_,_,[x],h,hl,_=>by cases h;exact (a9i (Tr.J8 (hl x (NE ..)))).r (Tr.bG (J4 hl 0) (J4 hl 1) (J4 hl 2) 9)
 |9,_,_,[],h,_,hn=>by cases h;exact absurd hn I
 |9,_,_,_::_::_,h,_,hn=>by cases h;simp at hn
 |10,_,_,[x,y],h,hl,_=>by cases h;exact (a5K (Tr.J8 (hl x (NE ..))) (Tr.J8 (hl y (Cg _ (NE ..))))).r (Tr.bG (J4 hl 0) (J4 hl 1) (J4 hl 2) 10)
 |10,_,_,[],h,_,hn=>by cases h;exact absurd hn I
 |10,_,_,[_],h,_,hn=>by cases h;exact absurd hn I
 |10,_,_,_::_::_::_,h,_,hn=>by cases h;simp at hn
 |11,_,_,[x,y],h,hl,_=>by cases h;exact (a5M (Tr.J8 (hl x (NE ..))) (Tr.J8 (hl y (Cg _ (NE ..))))).r (Tr.bG (J4 hl 0) (J4 hl 1) (J4 hl 2) 11)
 |11,_,_,[],h,_,hn=>by cases h;exact absurd hn I
 |11,_,_,[_],h,_,hn=>by cases h;exact absurd hn I
 |11,_,_,_::_::_::_,h,_,hn=>by cases h;simp at hn
 |12,_,_,[x],h,hl,_=>by cases h;exact (a5O (Tr.J8 (hl x (NE ..)))).r (Tr.bG (J4 hl 0) (J4 hl 1) (J4 hl 2) 12)
 |12,_,_,[],h,_,hn=>by cases h;exact absurd hn I
 |12,_,_,_::_::_,h,_,hn=>by cases h;simp at hn
 |13,_,_,[x],h,hl,_=>by cases h;exact (a5Q (Tr.J8 (hl x (NE ..)))).r (Tr.bG (J4 hl 0) (J4 hl 1) (J4 hl 2) 13)
 |13,_,_,[],h,_,hn=>by cases h;exact absurd hn I
 |13,_,_,_::_::_,h,_,hn=>by cases h;simp at hn
 |14,_,_,[x,y],h,hl,_=>by cases h;exact (a5S (Tr.J8 (hl x (NE ..))) (Tr.J8 (hl y (Cg _ (NE ..))))).r (Tr.bG (J4 hl 0) (J4 hl 1) (J4 hl 2) 14)
 |14,_,_,[],h,_,hn=>by cases h;exact absurd hn I
 |14,_,_,[_],h,_,hn=>by cases h;exact absurd hn I
 |14,_,_,_::_::_::_,h,_,hn=>by cases h;simp at hn
 |15,_,_,[x],h,hl,_=>by cases h;exact (a5U (Tr.J8 (hl x (NE ..)))).r (Tr.bG (J4 hl 0) (J4 hl 1) (J4 hl 2) 15)
 |15,_,_,[],h,_,hn=>by cases h;exact absurd hn I
 |15,_,_,_::_::_,h,_,hn=>by cases h;simp at hn
 |16,_,_,[x],h,hl,_=>by cases h;exact (a5W (Tr.J8 (hl x (NE ..)))).r (Tr.bG (J4 hl 0) (J4 hl 1) (J4 hl 2) 16)
 |16,_,_,[],h,_,hn=>by cases h;exact absurd hn I
 |16,_,_,_::_::_,h,_,hn=>by cases h;simp at hn
 |17,_,_,[x],h,hl,_=>by cases h;exact (a5Y (Tr.J8 (hl x (NE ..)))).r (Tr.bG (J4 hl 0) (J4 hl 1) (J4 hl 2) 17)
 |17,_,_,[],h,_,hn=>by cases h;exact absurd hn I
 |17,_,_,_::_::_,h,_,hn=>by cases h;simp at hn
 |18,_,_,[x],h,hl,_=>by cases h;exact (a6a (Tr.J8 (hl x (NE ..)))).r (Tr.bG (J4 hl 0) (J4 hl 1) (J4 hl 2) 18)
 |18,_,_,[],h,_,hn=>by cases h;exact absurd hn I
 |18,_,_,_::_::_,h,_,hn=>by cases h;simp at hn
 |19,_,_,[x],h,hl,_=>by cases h;exact (a6c (Tr.J8 (hl x (NE ..)))).r (Tr.bG (J4 hl 0) (J4 hl 1) (J4 hl 2) 19)
 |19,_,_,[],h,_,hn=>by cases h;exact absurd hn I
 |19,_,_,_::_::_,h,_,hn=>by cases h;simp at hn
 |20,_,_,[x,y],h,hl,_=>by cases h;exact (a6e (Tr.J8 (hl x (NE ..))) (Tr.J8 (hl y (Cg _ (NE ..))))).r (Tr.bG (J4 hl 0) (J4 hl 1) (J4 hl 2) 20)
 |20,_,_,[],h,_,hn=>by cases h;exact absurd hn I
 |20,_,_,[_],h,_,hn=>by cases h;exact absurd hn I
 |20,_,_,_::_::_::_,h,_,hn=>by cases h;simp at hn
 |21,_,_,[x,y],h,hl,_=>by cases h;exact (a6g (Tr.J8 (hl x (NE ..))) (Tr.J8 (hl y (Cg _ (NE ..))))).r (Tr.bG (J4 hl 0) (J4 hl 1) (J4 hl 2) 21)
 |21,_,_,[],h,_,hn=>by cases h;exact absurd hn I
 |21,_,_,[_],h,_,hn=>by cases h;exact absurd hn I
 |21,_,_,_::_::_::_,h,_,hn=>by cases h;simp at hn
 |22,_,_,[x],h,hl,_=>by cases h;exact (a6i (Tr.J8 (hl x (NE ..)))).r (Tr.bG (J4 hl 0) (J4 hl 1) (J4 hl 2) 22)
 |22,_,_,[],h,_,hn=>by cases h;exact absurd hn I
 |22,_,_,_::_::_,h,_,hn=>by cases h;simp at hn
 |23,_,_,[x,y],h,hl,_=>by cases h;exact (a6k (Tr.J8 (hl x (NE ..))) (Tr.J8 (hl y (Cg _ (NE ..))))).r (Tr.bG (J4 hl 0) (J4 hl 1) (J4 hl 2) 23)
 |23,_,_,[],h,_,hn=>by cases h;exact absurd hn I
 |23,_,_,[_],h,_,hn=>by cases h;exact absurd hn I
 |23,_,_,_::_::_::_,h,_,hn=>by cases h;simp at hn
 |24,_,_,[x],h,hl,_=>by cases h;exact (a6m (Tr.J8 (hl x (NE ..)))).r (Tr.bG (J4 hl 0) (J4 hl 1) (J4 hl 2) 24)
 |24,_,_,[],h,_,hn=>by cases h;exact absurd hn I
 |24,_,_,_::_::_,h,_,hn=>by cases h;simp at hn
 |_+25,_,_,_,h,_,_=>by cases h
theorem b3X:∀{i:Nat} {s:lw} {a:Nat} {l:List Tr},I5[i]?=some (s,a)→(∀t∈l,t.valid=true)→l.length=a→j5 98 [p8 o9 s,K5 l] (O9 (Tr.kept' (Tr.uu i l)))
 |0,_,_,[x,y,z],h,hl,_=>by cases h;exact a8T (Tr.J8 (hl x (NE ..))) (Tr.J8 (hl y (Cg _ (NE ..)))) (Tr.J8 (hl z (Cg _ (Cg _ (NE ..)))))
 |0,_,_,[],h,_,hn=>by cases h;exact absurd hn I
 |0,_,_,[_],h,_,hn=>by cases h;exact absurd hn I
 |0,_,_,[_,_],h,_,hn=>by cases h;exact absurd hn I
 |0,_,_,_::_::_::_::_,h,_,hn=>by cases h;simp at hn
 |1,_,_,[x,y],h,hl,_=>by cases h;exact a8V (Tr.J8 (hl x (NE ..))) (Tr.J8 (hl y (Cg _ (NE ..))))
 |1,_,_,[],h,_,hn=>by cases h;exact absurd hn I
 |1,_,_,[_],h,_,hn=>by cases h;exact absurd hn I
 |1,_,_,_::_::_::_,h,_,hn=>by cases h;simp at hn
 |2,_,_,[x,y],h,hl,_=>by cases h;exact a8X (Tr.J8 (hl x (NE ..))) (Tr.J8 (hl y (Cg _ (NE ..))))
 |2,_,_,[],h,_,hn=>by cases h;exact absurd hn I
 |2,_,_,[_],h,_,hn=>by cases h;exact absurd hn I
 |2,_,_,_::_::_::_,h,_,hn=>by cases h;simp at hn
 |3,_,_,[x],h,hl,_=>by cases h;exact a8Z (Tr.J8 (hl x (NE ..)))
 |3,_,_,[],h,_,hn=>by cases h;exact absurd hn I
 |3,_,_,_::_::_,h,_,hn=>by cases h;simp at hn
 |4,_,_,[x],h,hl,_=>by cases h;exact a88 (Tr.J8 (hl x (NE ..)))
 |4,_,_,[],h,_,hn=>by cases h;exact absurd hn I
 |4,_,_,_::_::_,h,_,hn=>by cases h;simp at hn
 |5,_,_,[x],h,hl,_=>by cases h;exact a9b (Tr.J8 (hl x (NE ..)))
 |5,_,_,[],h,_,hn=>by cases h;exact absurd hn I
 |5,_,_,_::_::_,h,_,hn=>by cases h;simp at hn
 |6,_,_,[x],h,hl,_=>by cases h;exact a9d (Tr.J8 (hl x (NE ..)))
 |6,_,_,[],h,_,hn=>by cases h;exact absurd hn I
 |6,_,_,_::_::_,h,_,hn=>by cases h;simp at hn
 |7,_,_,[x],h,hl,_=>by cases h;exact a9f (Tr.J8 (hl x (NE ..)))
 |7,_,_,[],h,_,hn=>by cases h;exact absurd hn I
 |7,_,_,_::_::_,h,_,hn=>by cases h;simp at hn
 |8,_,_,[x],h,hl,_=>by cases h;exact a9h (Tr.J8 (hl x (NE ..)))
 |8,_,_,[],h,_,hn=>by cases h;exact absurd hn I
 |8,_,_,_::_::_,h,_,hn=>by cases h;simp at hn
 |9,_,_,[x],h,hl,_=>by cases h;exact a9j (Tr.J8 (hl x (NE ..)))
 |9,_,_,[],h,_,hn=>by cases h;exact absurd hn I
 |9,_,_,_::_::_,h,_,hn=>by cases h;simp at hn
 |10,_,_,[x,y],h,hl,_=>by cases h;exact a5L (Tr.J8 (hl x (NE ..))) (Tr.J8 (hl y (Cg _ (NE ..))))
 |10,_,_,[],h,_,hn=>by cases h;exact absurd hn I
 |10,_,_,[_],h,_,hn=>by cases h;exact absurd hn I
 |10,_,_,_::_::_::_,h,_,hn=>by cases h;simp at hn
 |11,_,_,[x,y],h,hl,_=>by cases h;exact a5N (Tr.J8 (hl x (NE ..))) (Tr.J8 (hl y (Cg _ (NE ..))))
 |11,_,_,[],h,_,hn=>by cases h;exact absurd hn I
 |11,_,_,[_],h,_,hn=>by cases h;exact absurd hn I
 |11,_,_,_::_::_::_,h,_,hn=>by cases h;simp at hn
 |12,_,_,[x],h,hl,_=>by cases h;exact a5P (Tr.J8 (hl x (NE ..)))
 |12,_,_,[],h,_,hn=>by cases h;exact absurd hn I
 |12,_,_,_::_::_,h,_,hn=>by cases h;simp at hn
 |13,_,_,[x],h,hl,_=>by cases h;exact a5R (Tr.J8 (hl x (NE ..)))
 |13,_,_,[],h,_,hn=>by cases h;exact absurd hn I
 |13,_,_,_::_::_,h,_,hn=>by cases h;simp at hn
 |14,_,_,[x,y],h,hl,_=>by cases h;exact a5T (Tr.J8 (hl x (NE ..))) (Tr.J8 (hl y (Cg _ (NE ..))))
 |14,_,_,[],h,_,hn=>by cases h;exact absurd hn I
 |14,_,_,[_],h,_,hn=>by cases h;exact absurd hn I
 |14,_,_,_::_::_::_,h,_,hn=>by cases h;simp at hn
 |15,_,_,[x],h,hl,_=>by cases h;exact a5V (Tr.J8 (hl x (NE ..)))
 |15,_,_,[],h,_,hn=>by cases h;exact absurd hn I
 |15,_,_,_::_::_,h,_,hn=>by cases h;simp at hn
 |16,_,_,[x],h,hl,_=>by cases h;exact a5X (Tr.J8 (hl x (NE ..)))
 |16,_,_,[],h,_,hn=>by cases h;exact absurd hn I
 |16,_,_,_::_::_,h,_,hn=>by cases h;simp at hn
 |17,_,_,[x],h,hl,_=>by cases h;exact a5Z (Tr.J8 (hl x (NE ..)))
 |17,_,_,[],h,_,hn=>by cases h;exact absurd hn I
 |17,_,_,_::_::_,h,_,hn=>by cases h;simp at hn
 |18,_,_,[x],h,hl,_=>by cases h;exact a6b (Tr.J8 (hl x (NE ..)))
 |18,_,_,[],h,_,hn=>by cases h;exact absurd hn I
 |18,_,_,_::_::_,h,_,hn=>by cases h;simp at hn
 |19,_,_,[x],h,hl,_=>by cases h;exact a6d (Tr.J8 (hl x (NE ..)))
 |19,_,_,[],h,_,hn=>by cases h;exact absurd hn I
 |19,_,_,_::_::_,h,_,hn=>by cases h;simp at hn
 |20,_,_,[x,y],h,hl,_=>by cases h;exact a6f (Tr.J8 (hl x (NE ..))) (Tr.J8 (hl y (Cg _ (NE ..))))
 |20,_,_,[],h,_,hn=>by cases h;exact absurd hn I
 |20,_,_,[_],h,_,hn=>by cases h;exact absurd hn I
 |20,_,_,_::_::_::_,h,_,hn=>by cases h;simp at hn
 |21,_,_,[x,y],h,hl,_=>by cases h;exact a6h (Tr.J8 (hl x (NE ..))) (Tr.J8 (hl y (Cg _ (NE ..))))
 |21,_,_,[],h,_,hn=>by cases h;exact absurd hn I
 |21,_,_,[_],h,_,hn=>by cases h;exact absurd hn I
 |21,_,_,_::_::_::_,h,_,hn=>by cases h;simp at hn
 |22,_,_,[x],h,hl,_=>by cases h;exact a6j (Tr.J8 (hl x (NE ..)))
 |22,_,_,[],h,_,hn=>by cases h;exact absurd hn I
 |22,_,_,_::_::_,h,_,hn=>by cases h;simp at hn
 |23,_,_,[x,y],h,hl,_=>by cases h;exact a6l (Tr.J8 (hl x (NE ..))) (Tr.J8 (hl y (Cg _ (NE ..))))
 |23,_,_,[],h,_,hn=>by cases h;exact absurd hn I
 |23,_,_,[_],h,_,hn=>by cases h;exact absurd hn I
 |23,_,_,_::_::_::_,h,_,hn=>by cases h;simp at hn
 |24,_,_,[x],h,hl,_=>by cases h;exact a6n (Tr.J8 (hl x (NE ..)))
 |24,_,_,[],h,_,hn=>by cases h;exact absurd hn I
 |24,_,_,_::_::_,h,_,hn=>by cases h;simp at hn
 |_+25,_,_,_,h,_,_=>by cases h
end Go.Proofs.YtbpmpdadppamgaaGreatDoor
