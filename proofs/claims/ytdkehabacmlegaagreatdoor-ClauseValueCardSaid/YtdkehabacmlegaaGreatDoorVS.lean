/- Apply of both texts, on trees. -/
import Derived.Test.YtdkehabacmlegaaGreatDoorVR
import Derived.Test.YtdkehabacmlegaaGreatDoorVQ
import Derived.Test.YtdkehabacmlegaaGreatDoorVO
import Derived.Test.YtdkehabacmlegaaGreatDoorVG
namespace Go.Proofs.YtdkehabacmlegaaGreatDoor
open Go.Proofs.Tryz
open Go.RowKit
theorem zD{k:Nat}{n:Int}(hk:1≤k)(h:n.natAbs < 10 ^ k):Rb k (n:Rat):=⟨by rw[Rat.num_intCast];exact h,by rw[Rat.den_intCast];exact Nat.lt_of_lt_of_le (by decide:1 < 10 ^ 1) (Nat.pow_le_pow_right O hk),hk⟩
theorem qh{k:Nat}(b:Bool):(U2 b).Ok k:=by cases b <;> exact⟨O,O⟩
theorem tF{k:Nat}:l6.Ok k:=⟨O,O⟩
theorem OP{n:Int}(h:n.natAbs < 10 ^ 5):(Tr.num (n:Rat)).Ok 300:=(zD (k:=5) O h).mono O
theorem L9{x y z:Tr}(hx:Arg x)(hy:Arg y)(hz:Arg z):∀i:Nat,(Tr.ap i x y z).Ok 300
 |0=>by
  show (if x=l6 then z else y).Ok 300;split
  ·exact hz.ok.mono O
  ·exact hy.ok.mono O
 |1=>qh _
 |2=>⟨hx.ok.mono O,hy.ok.mono O⟩
 |3=>by
  have h:=hx.ok;cases x with
  |cons a d=>exact h.1.mono O
  |_=>exact tF
 |4=>by
  have h:=hx.ok;cases x with
  |cons a d=>exact h.2.mono O
  |_=>exact tF
 |5=>qh _
 |6=>qh _
 |7=>qh _
 |8=>qh _
 |9=>qh _
 |10=>(hx.rb.add hy.rb).mono O
 |11=>(hx.rb.mul hy.rb).mono O
 |12=>hx.rb.neg.mono O
 |13=>hx.rb.inv.mono O
 |14=>qh _
 |15=>(zD (k:=120) O hx.rb.num).mono O
 |16=>(zD (k:=120) (n:=(x.val.den:Int)) O (by rw[Int.natAbs_natCast];exact hx.rb.den)).mono O
 |17=>(zD (k:=121) O (TM hx)).mono O
 |18=>by
  have h:=hx.ok;cases x with
  |sym p s=>exact h.2
  |_=>exact Nat.zero_le _
 |19=>by
  have h:=hx.ok;cases x with
  |sym p s=>exact h.1
  |_=>exact Nat.zero_le _
 |20=>by
  show (if x.ae && y.ae && P7 ⟨y.tx,x.tx⟩ then Tr.sym y.tx x.tx else l6).Ok 300;split
  ·exact⟨Nat.le_trans hy.tx O,Nat.le_trans hx.tx O⟩
  ·exact tF
 |21=>by
  have h1:=hx.tx;have h2:=hy.tx;show (x.tx++y.tx).length≤100000;rw[List.length_append];omega
 |22=>OP (by have:=hx.tx;show x.tx.length < 100000;omega)
 |23=>by
  show (match x.dn y with | some n=>Tr.num (((x.tx.getD n.toNat 0).toNat:Int):Rat) | none=>l6).Ok 300;split
  ·rename_i n _;have:=(x.tx.getD n.toNat 0).toNat_lt;exact OP (by show (x.tx.getD n.toNat 0).toNat < 100000;omega)
  ·exact tF
 |24=>by
  show (match x.eZ with | some n=>Tr.txt [UInt8.ofNat n.toNat] | none=>Tr.txt []).Ok 300;split
  ·show 1≤100000;decide
  ·exact Nat.zero_le _
 |_+25=>tF
theorem F8:Arg l6:=⟨tF,Nat.zero_le _⟩
theorem a4z{x y z:Tr}(_:Arg x)(_:Arg y)(_:Arg z)  : j5 152 [o9 o6 [105,102],J2 [x,y,z]] (N7 (Tr.Y8 0 x y z)):=by
 have e:Tr.Y8 0 x y z=some (if x=l6 then z else y):=rfl;rw[e];by_cases h:x=l6
 ·rw[if_pos h];exact pV (.av (.l7 [j3 3,j6 true])::nK 6 [yT,.no]) [_,j5 41 [(l9 x.ob)] (j6 true)] func152 ⟨Ia,(Al x).b (decide_eq_true h),Z⟩
 ·rw[if_neg h];exact pV (.av (.l7 [j3 3,j6 true])::nK 6 [yF]) [_,j5 41 [(l9 x.ob)] (j6 false)] func152 ⟨Ia,(Al x).b (decide_eq_false h),Z⟩
theorem a4A{x y z:Tr}(hx:Arg x)(hy:Arg y)(hz:Arg z):j5 99 [o9 o6 [105,102],J2 [x,y,z]] (N7 (Tr.kept' (Tr.ap 0 x y z))):=by
 have hv0:=O8 (t:=Tr.ap 0 x y z) (L9 hx hy hz 0) O;have e:Tr.ap 0 x y z=if x=l6 then z else y:=rfl
 rw[e]at hv0 ⊢
 by_cases h:x=l6
 ·rw[if_pos h]at hv0 ⊢
  cases hv:z.valid with
  |true =>
   rw[Z9 hv];exact pV (.av (.l7 [j3 3,j6 true])::nK 6 [yT,.no,yT]) [_,j5 23 [(l9 x.ob)] (j6 true),j5 127 [(l9 z.ob)] (j6 true)] func99 ⟨xc,(vS hx.ok O).b (decide_eq_true h),hv0.b hv,Z⟩
  |false =>
   rw[ai hv];exact pV (.av (.l7 [j3 3,j6 true])::nK 6 [yT,.no,yF]) [_,j5 23 [(l9 x.ob)] (j6 true),j5 127 [(l9 z.ob)] (j6 false)] func99 ⟨xc,(vS hx.ok O).b (decide_eq_true h),hv0.b hv,Z⟩
 ·rw[if_neg h]at hv0 ⊢
  cases hv:y.valid with
  |true =>
   rw[Z9 hv];exact pV (.av (.l7 [j3 3,j6 true])::nK 6 [yF,yT]) [_,j5 23 [(l9 x.ob)] (j6 false),j5 127 [(l9 y.ob)] (j6 true)] func99 ⟨xc,(vS hx.ok O).b (decide_eq_false h),hv0.b hv,Z⟩
  |false =>
   rw[ai hv];exact pV (.av (.l7 [j3 3,j6 true])::nK 6 [yF,yF]) [_,j5 23 [(l9 x.ob)] (j6 false),j5 127 [(l9 y.ob)] (j6 false)] func99 ⟨xc,(vS hx.ok O).b (decide_eq_false h),hv0.b hv,Z⟩
theorem a4B{x y:Tr}(hx:Arg x)(_hy:Arg y):j5 152 [o9 o6 [101,113,117,97,108],J2 [x,y]] (N7 (Tr.Y8 1 x y l6)):=pV (.av (.l7 [j3 2,j6 true])::nK 13 [.av (j6 (decide (x=y))),.av (l5 (U2 (decide (x=y))))]) [_,j5 105 [(l9 x.ob),(l9 y.ob)] (j6 (decide (x=y))),j5 198 [(j6 (decide (x=y)))] (l9 ((U2 (decide (x=y))).ob))] func152 ⟨RB,a7P y hx.ok O,qo _,Z⟩
theorem a4C{x y:Tr}(hx:Arg x)(hy:Arg y):j5 99 [o9 o6 [101,113,117,97,108],J2 [x,y]] (N7 (Tr.kept' (Tr.ap 1 x y l6))):=by
 cases hv:(Tr.ap 1 x y l6).valid with
 |true =>
  rw[Z9 hv];exact pV (.av (.l7 [j3 2,j6 true])::nK 6 [.av (l5 (Tr.ap 1 x y l6)),yT]) [_,j5 126 [(stA [101,113,117,97,108]),(l9 x.ob),(l9 y.ob)] (l5 (Tr.ap 1 x y l6)),j5 127 [(l5 (Tr.ap 1 x y l6))] (j6 true)] func99 ⟨He,QF hx hy,(O8 (t:=Tr.ap 1 x y l6) (L9 hx hy F8 1) O).b hv,Z⟩
 |false =>
  rw[ai hv];exact pV (.av (.l7 [j3 2,j6 true])::nK 6 [.av (l5 (Tr.ap 1 x y l6)),yF]) [_,j5 126 [(stA [101,113,117,97,108]),(l9 x.ob),(l9 y.ob)] (l5 (Tr.ap 1 x y l6)),j5 127 [(l5 (Tr.ap 1 x y l6))] (j6 false)] func99 ⟨He,QF hx hy,(O8 (t:=Tr.ap 1 x y l6) (L9 hx hy F8 1) O).b hv,Z⟩
theorem a4D{x y:Tr}(hx:Arg x)(hy:Arg y):j5 152 [o9 o6 [99,111,110,115],J2 [x,y]] (N7 (Tr.Y8 2 x y l6)):=by
 have e:Tr.Y8 2 x y l6=Tr.kept' (Tr.ap 2 x y l6):=rfl;rw[e];cases hv:(Tr.ap 2 x y l6).valid with
 |true =>
  rw[Z9 hv];exact pV (.av (.l7 [j3 2,j6 true])::nK 7 [.av (l5 (.cons x y)),yT]) [_,j5 191 [(l9 x.ob),(l9 y.ob)] (l5 (x.cons y)),j5 201 [(l5 (x.cons y))] (j6 true)] func152 ⟨Ib,PL x.ob y.ob,(nM (t:=Tr.ap 2 x y l6) (L9 hx hy F8 2) O).b hv,Z⟩
 |false =>
  rw[ai hv];exact pV (.av (.l7 [j3 2,j6 true])::nK 7 [.av (l5 (.cons x y)),yF]) [_,j5 191 [(l9 x.ob),(l9 y.ob)] (l5 (x.cons y)),j5 201 [(l5 (x.cons y))] (j6 false)] func152 ⟨Ib,PL x.ob y.ob,(nM (t:=Tr.ap 2 x y l6) (L9 hx hy F8 2) O).b hv,Z⟩
theorem a4E{x y:Tr}(hx:Arg x)(hy:Arg y):j5 99 [o9 o6 [99,111,110,115],J2 [x,y]] (N7 (Tr.kept' (Tr.ap 2 x y l6))):=by
 cases hv:(Tr.ap 2 x y l6).valid with
 |true =>
  rw[Z9 hv];exact pV (.av (.l7 [j3 2,j6 true])::nK 6 [.av (l5 (Tr.ap 2 x y l6)),yT]) [_,j5 126 [(stA [99,111,110,115]),(l9 x.ob),(l9 y.ob)] (l5 (Tr.ap 2 x y l6)),j5 127 [(l5 (Tr.ap 2 x y l6))] (j6 true)] func99 ⟨Hf,QG hx hy,(O8 (t:=Tr.ap 2 x y l6) (L9 hx hy F8 2) O).b hv,Z⟩
 |false =>
  rw[ai hv];exact pV (.av (.l7 [j3 2,j6 true])::nK 6 [.av (l5 (Tr.ap 2 x y l6)),yF]) [_,j5 126 [(stA [99,111,110,115]),(l9 x.ob),(l9 y.ob)] (l5 (Tr.ap 2 x y l6)),j5 127 [(l5 (Tr.ap 2 x y l6))] (j6 false)] func99 ⟨Hf,QG hx hy,(O8 (t:=Tr.ap 2 x y l6) (L9 hx hy F8 2) O).b hv,Z⟩
theorem a4F{x:Tr}(hx:Arg x):j5 152 [o9 o6 [99,97,114],J2 [x]] (N7 (Tr.Y8 3 x l6 l6)):=pV (.av (.l7 [j3 1,j6 true])::nK 13 [.av (l5 (Tr.ap 3 x l6 l6))]) [_,j5 200 [(stA [99,97,114]),(l9 x.ob)] (l5 (Tr.ap 3 x l6 l6))] func152 ⟨RD,a4s hx,Z⟩
theorem a4G{x:Tr}(hx:Arg x):j5 99 [o9 o6 [99,97,114],J2 [x]] (N7 (Tr.kept' (Tr.ap 3 x l6 l6))):=by
 cases hv:(Tr.ap 3 x l6 l6).valid with
 |true =>
  rw[Z9 hv];exact pV (.av (.l7 [j3 1,j6 true])::nK 4 [.av (l5 (Tr.ap 3 x l6 l6)),yT]) [_,j5 125 [(stA [99,97,114]),(l9 x.ob)] (l5 (Tr.ap 3 x l6 l6)),j5 127 [(l5 (Tr.ap 3 x l6 l6))] (j6 true)] func99 ⟨Hg,QD hx,(O8 (t:=Tr.ap 3 x l6 l6) (L9 hx F8 F8 3) O).b hv,Z⟩
 |false =>
  rw[ai hv];exact pV (.av (.l7 [j3 1,j6 true])::nK 4 [.av (l5 (Tr.ap 3 x l6 l6)),yF]) [_,j5 125 [(stA [99,97,114]),(l9 x.ob)] (l5 (Tr.ap 3 x l6 l6)),j5 127 [(l5 (Tr.ap 3 x l6 l6))] (j6 false)] func99 ⟨Hg,QD hx,(O8 (t:=Tr.ap 3 x l6 l6) (L9 hx F8 F8 3) O).b hv,Z⟩
theorem a4H{x:Tr}(hx:Arg x):j5 152 [o9 o6 [99,100,114],J2 [x]] (N7 (Tr.Y8 4 x l6 l6)):=pV (.av (.l7 [j3 1,j6 true])::nK 13 [.av (l5 (Tr.ap 4 x l6 l6))]) [_,j5 200 [(stA [99,100,114]),(l9 x.ob)] (l5 (Tr.ap 4 x l6 l6))] func152 ⟨RF,a4t hx,Z⟩
theorem a4I{x:Tr}(hx:Arg x):j5 99 [o9 o6 [99,100,114],J2 [x]] (N7 (Tr.kept' (Tr.ap 4 x l6 l6))):=by
 cases hv:(Tr.ap 4 x l6 l6).valid with
 |true =>
  rw[Z9 hv];exact pV (.av (.l7 [j3 1,j6 true])::nK 4 [.av (l5 (Tr.ap 4 x l6 l6)),yT]) [_,j5 125 [(stA [99,100,114]),(l9 x.ob)] (l5 (Tr.ap 4 x l6 l6)),j5 127 [(l5 (Tr.ap 4 x l6 l6))] (j6 true)] func99 ⟨Hl,QE hx,(O8 (t:=Tr.ap 4 x l6 l6) (L9 hx F8 F8 4) O).b hv,Z⟩
 |false =>
  rw[ai hv];exact pV (.av (.l7 [j3 1,j6 true])::nK 4 [.av (l5 (Tr.ap 4 x l6 l6)),yF]) [_,j5 125 [(stA [99,100,114]),(l9 x.ob)] (l5 (Tr.ap 4 x l6 l6)),j5 127 [(l5 (Tr.ap 4 x l6 l6))] (j6 false)] func99 ⟨Hl,QE hx,(O8 (t:=Tr.ap 4 x l6 l6) (L9 hx F8 F8 4) O).b hv,Z⟩
theorem a4J{x:Tr}(hx:Arg x):j5 152 [o9 o6 [99,111,110,115,112],J2 [x]] (N7 (Tr.Y8 5 x l6 l6)):=pV (.av (.l7 [j3 1,j6 true])::nK 13 [.av (l5 (Tr.ap 5 x l6 l6))]) [_,j5 200 [(stA [99,111,110,115,112]),(l9 x.ob)] (l5 (Tr.ap 5 x l6 l6))] func152 ⟨RG,a4u hx,Z⟩
theorem a4K{x:Tr}(hx:Arg x):j5 99 [o9 o6 [99,111,110,115,112],J2 [x]] (N7 (Tr.kept' (Tr.ap 5 x l6 l6))):=by
 cases hv:(Tr.ap 5 x l6 l6).valid with
 |true =>
  rw[Z9 hv];exact pV (.av (.l7 [j3 1,j6 true])::nK 4 [.av (l5 (Tr.ap 5 x l6 l6)),yT]) [_,j5 125 [(stA [99,111,110,115,112]),(l9 x.ob)] (l5 (Tr.ap 5 x l6 l6)),j5 127 [(l5 (Tr.ap 5 x l6 l6))] (j6 true)] func99 ⟨Hm,Qy hx,(O8 (t:=Tr.ap 5 x l6 l6) (L9 hx F8 F8 5) O).b hv,Z⟩
 |false =>
  rw[ai hv];exact pV (.av (.l7 [j3 1,j6 true])::nK 4 [.av (l5 (Tr.ap 5 x l6 l6)),yF]) [_,j5 125 [(stA [99,111,110,115,112]),(l9 x.ob)] (l5 (Tr.ap 5 x l6 l6)),j5 127 [(l5 (Tr.ap 5 x l6 l6))] (j6 false)] func99 ⟨Hm,Qy hx,(O8 (t:=Tr.ap 5 x l6 l6) (L9 hx F8 F8 5) O).b hv,Z⟩
theorem a4L{x:Tr}(hx:Arg x):j5 152 [o9 o6 [115,121,109,98,111,108,112],J2 [x]] (N7 (Tr.Y8 6 x l6 l6)):=pV (.av (.l7 [j3 1,j6 true])::nK 13 [.av (l5 (Tr.ap 6 x l6 l6))]) [_,j5 200 [(stA [115,121,109,98,111,108,112]),(l9 x.ob)] (l5 (Tr.ap 6 x l6 l6))] func152 ⟨RH,a4v hx,Z⟩
theorem a4M{x:Tr}(hx:Arg x):j5 99 [o9 o6 [115,121,109,98,111,108,112],J2 [x]] (N7 (Tr.kept' (Tr.ap 6 x l6 l6))):=by
 cases hv:(Tr.ap 6 x l6 l6).valid with
 |true =>
  rw[Z9 hv];exact pV (.av (.l7 [j3 1,j6 true])::nK 4 [.av (l5 (Tr.ap 6 x l6 l6)),yT]) [_,j5 125 [(stA [115,121,109,98,111,108,112]),(l9 x.ob)] (l5 (Tr.ap 6 x l6 l6)),j5 127 [(l5 (Tr.ap 6 x l6 l6))] (j6 true)] func99 ⟨Ho,Qz hx,(O8 (t:=Tr.ap 6 x l6 l6) (L9 hx F8 F8 6) O).b hv,Z⟩
 |false =>
  rw[ai hv];exact pV (.av (.l7 [j3 1,j6 true])::nK 4 [.av (l5 (Tr.ap 6 x l6 l6)),yF]) [_,j5 125 [(stA [115,121,109,98,111,108,112]),(l9 x.ob)] (l5 (Tr.ap 6 x l6 l6)),j5 127 [(l5 (Tr.ap 6 x l6 l6))] (j6 false)] func99 ⟨Ho,Qz hx,(O8 (t:=Tr.ap 6 x l6 l6) (L9 hx F8 F8 6) O).b hv,Z⟩
theorem a4N{x:Tr}(hx:Arg x):j5 152 [o9 o6 [115,116,114,105,110,103,112],J2 [x]] (N7 (Tr.Y8 7 x l6 l6)):=pV (.av (.l7 [j3 1,j6 true])::nK 13 [.av (l5 (Tr.ap 7 x l6 l6))]) [_,j5 200 [(stA [115,116,114,105,110,103,112]),(l9 x.ob)] (l5 (Tr.ap 7 x l6 l6))] func152 ⟨RI,a4w hx,Z⟩
theorem a4O{x:Tr}(hx:Arg x):j5 99 [o9 o6 [115,116,114,105,110,103,112],J2 [x]] (N7 (Tr.kept' (Tr.ap 7 x l6 l6))):=by
 cases hv:(Tr.ap 7 x l6 l6).valid with
 |true =>
  rw[Z9 hv];exact pV (.av (.l7 [j3 1,j6 true])::nK 4 [.av (l5 (Tr.ap 7 x l6 l6)),yT]) [_,j5 125 [(stA [115,116,114,105,110,103,112]),(l9 x.ob)] (l5 (Tr.ap 7 x l6 l6)),j5 127 [(l5 (Tr.ap 7 x l6 l6))] (j6 true)] func99 ⟨Hq,QA hx,(O8 (t:=Tr.ap 7 x l6 l6) (L9 hx F8 F8 7) O).b hv,Z⟩
 |false =>
  rw[ai hv];exact pV (.av (.l7 [j3 1,j6 true])::nK 4 [.av (l5 (Tr.ap 7 x l6 l6)),yF]) [_,j5 125 [(stA [115,116,114,105,110,103,112]),(l9 x.ob)] (l5 (Tr.ap 7 x l6 l6)),j5 127 [(l5 (Tr.ap 7 x l6 l6))] (j6 false)] func99 ⟨Hq,QA hx,(O8 (t:=Tr.ap 7 x l6 l6) (L9 hx F8 F8 7) O).b hv,Z⟩
theorem a4P{x:Tr}(hx:Arg x):j5 152 [o9 o6 [114,97,116,105,111,110,97,108,112],J2 [x]] (N7 (Tr.Y8 8 x l6 l6)):=pV (.av (.l7 [j3 1,j6 true])::nK 13 [.av (l5 (Tr.ap 8 x l6 l6))]) [_,j5 200 [(stA [114,97,116,105,111,110,97,108,112]),(l9 x.ob)] (l5 (Tr.ap 8 x l6 l6))] func152 ⟨RJ,a4x hx,Z⟩
theorem a4Q{x:Tr}(hx:Arg x):j5 99 [o9 o6 [114,97,116,105,111,110,97,108,112],J2 [x]] (N7 (Tr.kept' (Tr.ap 8 x l6 l6))):=by
 cases hv:(Tr.ap 8 x l6 l6).valid with
 |true =>
  rw[Z9 hv];exact pV (.av (.l7 [j3 1,j6 true])::nK 4 [.av (l5 (Tr.ap 8 x l6 l6)),yT]) [_,j5 125 [(stA [114,97,116,105,111,110,97,108,112]),(l9 x.ob)] (l5 (Tr.ap 8 x l6 l6)),j5 127 [(l5 (Tr.ap 8 x l6 l6))] (j6 true)] func99 ⟨Hr,QB hx,(O8 (t:=Tr.ap 8 x l6 l6) (L9 hx F8 F8 8) O).b hv,Z⟩
 |false =>
  rw[ai hv];exact pV (.av (.l7 [j3 1,j6 true])::nK 4 [.av (l5 (Tr.ap 8 x l6 l6)),yF]) [_,j5 125 [(stA [114,97,116,105,111,110,97,108,112]),(l9 x.ob)] (l5 (Tr.ap 8 x l6 l6)),j5 127 [(l5 (Tr.ap 8 x l6 l6))] (j6 false)] func99 ⟨Hr,QB hx,(O8 (t:=Tr.ap 8 x l6 l6) (L9 hx F8 F8 8) O).b hv,Z⟩
theorem a4R{x:Tr}(hx:Arg x):j5 152 [o9 o6 [105,110,116,101,103,101,114,112],J2 [x]] (N7 (Tr.Y8 9 x l6 l6)):=pV (.av (.l7 [j3 1,j6 true])::nK 13 [.av (l5 (Tr.ap 9 x l6 l6))]) [_,j5 200 [(stA [105,110,116,101,103,101,114,112]),(l9 x.ob)] (l5 (Tr.ap 9 x l6 l6))] func152 ⟨RN,a4y hx,Z⟩
theorem a4S{x:Tr}(hx:Arg x):j5 99 [o9 o6 [105,110,116,101,103,101,114,112],J2 [x]] (N7 (Tr.kept' (Tr.ap 9 x l6 l6))):=by
 cases hv:(Tr.ap 9 x l6 l6).valid with
 |true =>
  rw[Z9 hv];exact pV (.av (.l7 [j3 1,j6 true])::nK 4 [.av (l5 (Tr.ap 9 x l6 l6)),yT]) [_,j5 125 [(stA [105,110,116,101,103,101,114,112]),(l9 x.ob)] (l5 (Tr.ap 9 x l6 l6)),j5 127 [(l5 (Tr.ap 9 x l6 l6))] (j6 true)] func99 ⟨Ht,QC hx,(O8 (t:=Tr.ap 9 x l6 l6) (L9 hx F8 F8 9) O).b hv,Z⟩
 |false =>
  rw[ai hv];exact pV (.av (.l7 [j3 1,j6 true])::nK 4 [.av (l5 (Tr.ap 9 x l6 l6)),yF]) [_,j5 125 [(stA [105,110,116,101,103,101,114,112]),(l9 x.ob)] (l5 (Tr.ap 9 x l6 l6)),j5 127 [(l5 (Tr.ap 9 x l6 l6))] (j6 false)] func99 ⟨Ht,QC hx,(O8 (t:=Tr.ap 9 x l6 l6) (L9 hx F8 F8 9) O).b hv,Z⟩
theorem a1T{x y:Tr}(hx:Arg x)(hy:Arg y):j5 152 [o9 o6 [98,105,110,97,114,121,45,43],J2 [x,y]] (N7 (Tr.Y8 10 x y l6)):=by
 have e:Tr.Y8 10 x y l6=Tr.kept' (Tr.ap 10 x y l6):=rfl;rw[e];cases hv:(Tr.ap 10 x y l6).valid with
 |true =>
  rw[Z9 hv];exact pV (.av (.l7 [j3 2,j6 true])::nK 8 [.av (l5 (.num (x.val+y.val))),yT]) [_,j5 192 [(l9 x.ob),(l9 y.ob)] (l9 ((Tr.num (x.val+y.val)).ob)),j5 201 [(l9 ((Tr.num (x.val+y.val)).ob))] (j6 true)] func152 ⟨Gu,RO hx.ok hy.ok O O,(nM (t:=Tr.ap 10 x y l6) (L9 hx hy F8 10) O).b hv,Z⟩
 |false =>
  rw[ai hv];exact pV (.av (.l7 [j3 2,j6 true])::nK 8 [.av (l5 (.num (x.val+y.val))),yF]) [_,j5 192 [(l9 x.ob),(l9 y.ob)] (l9 ((Tr.num (x.val+y.val)).ob)),j5 201 [(l9 ((Tr.num (x.val+y.val)).ob))] (j6 false)] func152 ⟨Gu,RO hx.ok hy.ok O O,(nM (t:=Tr.ap 10 x y l6) (L9 hx hy F8 10) O).b hv,Z⟩
theorem a1U{x y:Tr}(hx:Arg x)(hy:Arg y):j5 99 [o9 o6 [98,105,110,97,114,121,45,43],J2 [x,y]] (N7 (Tr.kept' (Tr.ap 10 x y l6))):=by
 cases hv:(Tr.ap 10 x y l6).valid with
 |true =>
  rw[Z9 hv];exact pV (.av (.l7 [j3 2,j6 true])::nK 6 [.av (l5 (Tr.ap 10 x y l6)),yT]) [_,j5 126 [(stA [98,105,110,97,114,121,45,43]),(l9 x.ob),(l9 y.ob)] (l5 (Tr.ap 10 x y l6)),j5 127 [(l5 (Tr.ap 10 x y l6))] (j6 true)] func99 ⟨FZ,OH hx hy,(O8 (t:=Tr.ap 10 x y l6) (L9 hx hy F8 10) O).b hv,Z⟩
 |false =>
  rw[ai hv];exact pV (.av (.l7 [j3 2,j6 true])::nK 6 [.av (l5 (Tr.ap 10 x y l6)),yF]) [_,j5 126 [(stA [98,105,110,97,114,121,45,43]),(l9 x.ob),(l9 y.ob)] (l5 (Tr.ap 10 x y l6)),j5 127 [(l5 (Tr.ap 10 x y l6))] (j6 false)] func99 ⟨FZ,OH hx hy,(O8 (t:=Tr.ap 10 x y l6) (L9 hx hy F8 10) O).b hv,Z⟩
theorem a1V{x y:Tr}(hx:Arg x)(hy:Arg y):j5 152 [o9 o6 [98,105,110,97,114,121,45,42],J2 [x,y]] (N7 (Tr.Y8 11 x y l6)):=by
 have e:Tr.Y8 11 x y l6=Tr.kept' (Tr.ap 11 x y l6):=rfl;rw[e];cases hv:(Tr.ap 11 x y l6).valid with
 |true =>
  rw[Z9 hv];exact pV (.av (.l7 [j3 2,j6 true])::nK 9 [.av (l5 (.num (x.val * y.val))),yT]) [_,j5 193 [(l9 x.ob),(l9 y.ob)] (l9 ((Tr.num (x.val * y.val)).ob)),j5 201 [(l9 ((Tr.num (x.val * y.val)).ob))] (j6 true)] func152 ⟨Gv,Qx hx.ok hy.ok O O,(nM (t:=Tr.ap 11 x y l6) (L9 hx hy F8 11) O).b hv,Z⟩
 |false =>
  rw[ai hv];exact pV (.av (.l7 [j3 2,j6 true])::nK 9 [.av (l5 (.num (x.val * y.val))),yF]) [_,j5 193 [(l9 x.ob),(l9 y.ob)] (l9 ((Tr.num (x.val * y.val)).ob)),j5 201 [(l9 ((Tr.num (x.val * y.val)).ob))] (j6 false)] func152 ⟨Gv,Qx hx.ok hy.ok O O,(nM (t:=Tr.ap 11 x y l6) (L9 hx hy F8 11) O).b hv,Z⟩
theorem a1W{x y:Tr}(hx:Arg x)(hy:Arg y):j5 99 [o9 o6 [98,105,110,97,114,121,45,42],J2 [x,y]] (N7 (Tr.kept' (Tr.ap 11 x y l6))):=by
 cases hv:(Tr.ap 11 x y l6).valid with
 |true =>
  rw[Z9 hv];exact pV (.av (.l7 [j3 2,j6 true])::nK 6 [.av (l5 (Tr.ap 11 x y l6)),yT]) [_,j5 126 [(stA [98,105,110,97,114,121,45,42]),(l9 x.ob),(l9 y.ob)] (l5 (Tr.ap 11 x y l6)),j5 127 [(l5 (Tr.ap 11 x y l6))] (j6 true)] func99 ⟨Ga,OI hx hy,(O8 (t:=Tr.ap 11 x y l6) (L9 hx hy F8 11) O).b hv,Z⟩
 |false =>
  rw[ai hv];exact pV (.av (.l7 [j3 2,j6 true])::nK 6 [.av (l5 (Tr.ap 11 x y l6)),yF]) [_,j5 126 [(stA [98,105,110,97,114,121,45,42]),(l9 x.ob),(l9 y.ob)] (l5 (Tr.ap 11 x y l6)),j5 127 [(l5 (Tr.ap 11 x y l6))] (j6 false)] func99 ⟨Ga,OI hx hy,(O8 (t:=Tr.ap 11 x y l6) (L9 hx hy F8 11) O).b hv,Z⟩
theorem a1X{x:Tr}(hx:Arg x):j5 152 [o9 o6 [117,110,97,114,121,45,45],J2 [x]] (N7 (Tr.Y8 12 x l6 l6)):=pV (.av (.l7 [j3 1,j6 true])::nK 13 [.av (l5 (Tr.ap 12 x l6 l6))]) [_,j5 200 [(stA [117,110,97,114,121,45,45]),(l9 x.ob)] (l5 (Tr.ap 12 x l6 l6))] func152 ⟨Ql,a1J hx,Z⟩
theorem a1Y{x:Tr}(hx:Arg x):j5 99 [o9 o6 [117,110,97,114,121,45,45],J2 [x]] (N7 (Tr.kept' (Tr.ap 12 x l6 l6))):=by
 cases hv:(Tr.ap 12 x l6 l6).valid with
 |true =>
  rw[Z9 hv];exact pV (.av (.l7 [j3 1,j6 true])::nK 4 [.av (l5 (Tr.ap 12 x l6 l6)),yT]) [_,j5 125 [(stA [117,110,97,114,121,45,45]),(l9 x.ob)] (l5 (Tr.ap 12 x l6 l6)),j5 127 [(l5 (Tr.ap 12 x l6 l6))] (j6 true)] func99 ⟨Gb,Ox hx,(O8 (t:=Tr.ap 12 x l6 l6) (L9 hx F8 F8 12) O).b hv,Z⟩
 |false =>
  rw[ai hv];exact pV (.av (.l7 [j3 1,j6 true])::nK 4 [.av (l5 (Tr.ap 12 x l6 l6)),yF]) [_,j5 125 [(stA [117,110,97,114,121,45,45]),(l9 x.ob)] (l5 (Tr.ap 12 x l6 l6)),j5 127 [(l5 (Tr.ap 12 x l6 l6))] (j6 false)] func99 ⟨Gb,Ox hx,(O8 (t:=Tr.ap 12 x l6 l6) (L9 hx F8 F8 12) O).b hv,Z⟩
theorem a1Z{x:Tr}(hx:Arg x):j5 152 [o9 o6 [117,110,97,114,121,45,47],J2 [x]] (N7 (Tr.Y8 13 x l6 l6)):=pV (.av (.l7 [j3 1,j6 true])::nK 13 [.av (l5 (Tr.ap 13 x l6 l6))]) [_,j5 200 [(stA [117,110,97,114,121,45,47]),(l9 x.ob)] (l5 (Tr.ap 13 x l6 l6))] func152 ⟨Qm,a1K hx,Z⟩
theorem a13{x:Tr}(hx:Arg x):j5 99 [o9 o6 [117,110,97,114,121,45,47],J2 [x]] (N7 (Tr.kept' (Tr.ap 13 x l6 l6))):=by
 cases hv:(Tr.ap 13 x l6 l6).valid with
 |true =>
  rw[Z9 hv];exact pV (.av (.l7 [j3 1,j6 true])::nK 4 [.av (l5 (Tr.ap 13 x l6 l6)),yT]) [_,j5 125 [(stA [117,110,97,114,121,45,47]),(l9 x.ob)] (l5 (Tr.ap 13 x l6 l6)),j5 127 [(l5 (Tr.ap 13 x l6 l6))] (j6 true)] func99 ⟨Gc,Oy hx,(O8 (t:=Tr.ap 13 x l6 l6) (L9 hx F8 F8 13) O).b hv,Z⟩
 |false =>
  rw[ai hv];exact pV (.av (.l7 [j3 1,j6 true])::nK 4 [.av (l5 (Tr.ap 13 x l6 l6)),yF]) [_,j5 125 [(stA [117,110,97,114,121,45,47]),(l9 x.ob)] (l5 (Tr.ap 13 x l6 l6)),j5 127 [(l5 (Tr.ap 13 x l6 l6))] (j6 false)] func99 ⟨Gc,Oy hx,(O8 (t:=Tr.ap 13 x l6 l6) (L9 hx F8 F8 13) O).b hv,Z⟩
theorem a14{x y:Tr}(hx:Arg x)(hy:Arg y):j5 152 [o9 o6 [60],J2 [x,y]] (N7 (Tr.Y8 14 x y l6)):=pV (.av (.l7 [j3 2,j6 true])::nK 14 [.av (j6 (decide (x.val < y.val))),.av (l5 (U2 (decide (x.val < y.val))))]) [_,j5 199 [(l9 x.ob),(l9 y.ob)] (j6 (decide (x.val < y.val))),j5 198 [(j6 (decide (x.val < y.val)))] (l9 ((U2 (decide (x.val < y.val))).ob))] func152 ⟨Qn,a1F hx.ok hy.ok O O,qo _,Z⟩
theorem a15{x y:Tr}(hx:Arg x)(hy:Arg y):j5 99 [o9 o6 [60],J2 [x,y]] (N7 (Tr.kept' (Tr.ap 14 x y l6))):=by
 cases hv:(Tr.ap 14 x y l6).valid with
 |true =>
  rw[Z9 hv];exact pV (.av (.l7 [j3 2,j6 true])::nK 6 [.av (l5 (Tr.ap 14 x y l6)),yT]) [_,j5 126 [(stA [60]),(l9 x.ob),(l9 y.ob)] (l5 (Tr.ap 14 x y l6)),j5 127 [(l5 (Tr.ap 14 x y l6))] (j6 true)] func99 ⟨Gf,OJ hx hy,(O8 (t:=Tr.ap 14 x y l6) (L9 hx hy F8 14) O).b hv,Z⟩
 |false =>
  rw[ai hv];exact pV (.av (.l7 [j3 2,j6 true])::nK 6 [.av (l5 (Tr.ap 14 x y l6)),yF]) [_,j5 126 [(stA [60]),(l9 x.ob),(l9 y.ob)] (l5 (Tr.ap 14 x y l6)),j5 127 [(l5 (Tr.ap 14 x y l6))] (j6 false)] func99 ⟨Gf,OJ hx hy,(O8 (t:=Tr.ap 14 x y l6) (L9 hx hy F8 14) O).b hv,Z⟩
theorem a18{x:Tr}(hx:Arg x):j5 152 [o9 o6 [110,117,109,101,114,97,116,111,114],J2 [x]] (N7 (Tr.Y8 15 x l6 l6)):=pV (.av (.l7 [j3 1,j6 true])::nK 13 [.av (l5 (Tr.ap 15 x l6 l6))]) [_,j5 200 [(stA [110,117,109,101,114,97,116,111,114]),(l9 x.ob)] (l5 (Tr.ap 15 x l6 l6))] func152 ⟨Qo,a1L hx,Z⟩
theorem a19{x:Tr}(hx:Arg x):j5 99 [o9 o6 [110,117,109,101,114,97,116,111,114],J2 [x]] (N7 (Tr.kept' (Tr.ap 15 x l6 l6))):=by
 cases hv:(Tr.ap 15 x l6 l6).valid with
 |true =>
  rw[Z9 hv];exact pV (.av (.l7 [j3 1,j6 true])::nK 4 [.av (l5 (Tr.ap 15 x l6 l6)),yT]) [_,j5 125 [(stA [110,117,109,101,114,97,116,111,114]),(l9 x.ob)] (l5 (Tr.ap 15 x l6 l6)),j5 127 [(l5 (Tr.ap 15 x l6 l6))] (j6 true)] func99 ⟨Gg,Oz hx,(O8 (t:=Tr.ap 15 x l6 l6) (L9 hx F8 F8 15) O).b hv,Z⟩
 |false =>
  rw[ai hv];exact pV (.av (.l7 [j3 1,j6 true])::nK 4 [.av (l5 (Tr.ap 15 x l6 l6)),yF]) [_,j5 125 [(stA [110,117,109,101,114,97,116,111,114]),(l9 x.ob)] (l5 (Tr.ap 15 x l6 l6)),j5 127 [(l5 (Tr.ap 15 x l6 l6))] (j6 false)] func99 ⟨Gg,Oz hx,(O8 (t:=Tr.ap 15 x l6 l6) (L9 hx F8 F8 15) O).b hv,Z⟩
theorem a2a{x:Tr}(hx:Arg x):j5 152 [o9 o6 [100,101,110,111,109,105,110,97,116,111,114],J2 [x]] (N7 (Tr.Y8 16 x l6 l6)):=pV (.av (.l7 [j3 1,j6 true])::nK 13 [.av (l5 (Tr.ap 16 x l6 l6))]) [_,j5 200 [(stA [100,101,110,111,109,105,110,97,116,111,114]),(l9 x.ob)] (l5 (Tr.ap 16 x l6 l6))] func152 ⟨Qp,a1M hx,Z⟩
theorem a2b{x:Tr}(hx:Arg x):j5 99 [o9 o6 [100,101,110,111,109,105,110,97,116,111,114],J2 [x]] (N7 (Tr.kept' (Tr.ap 16 x l6 l6))):=by
 cases hv:(Tr.ap 16 x l6 l6).valid with
 |true =>
  rw[Z9 hv];exact pV (.av (.l7 [j3 1,j6 true])::nK 4 [.av (l5 (Tr.ap 16 x l6 l6)),yT]) [_,j5 125 [(stA [100,101,110,111,109,105,110,97,116,111,114]),(l9 x.ob)] (l5 (Tr.ap 16 x l6 l6)),j5 127 [(l5 (Tr.ap 16 x l6 l6))] (j6 true)] func99 ⟨Gh,OA hx,(O8 (t:=Tr.ap 16 x l6 l6) (L9 hx F8 F8 16) O).b hv,Z⟩
 |false =>
  rw[ai hv];exact pV (.av (.l7 [j3 1,j6 true])::nK 4 [.av (l5 (Tr.ap 16 x l6 l6)),yF]) [_,j5 125 [(stA [100,101,110,111,109,105,110,97,116,111,114]),(l9 x.ob)] (l5 (Tr.ap 16 x l6 l6)),j5 127 [(l5 (Tr.ap 16 x l6 l6))] (j6 false)] func99 ⟨Gh,OA hx,(O8 (t:=Tr.ap 16 x l6 l6) (L9 hx F8 F8 16) O).b hv,Z⟩
theorem a2c{x:Tr}(hx:Arg x):j5 152 [o9 o6 [102,108,111,111,114],J2 [x]] (N7 (Tr.Y8 17 x l6 l6)):=pV (.av (.l7 [j3 1,j6 true])::nK 13 [.av (l5 (Tr.ap 17 x l6 l6))]) [_,j5 200 [(stA [102,108,111,111,114]),(l9 x.ob)] (l5 (Tr.ap 17 x l6 l6))] func152 ⟨Qq,a1N hx,Z⟩
theorem a2d{x:Tr}(hx:Arg x):j5 99 [o9 o6 [102,108,111,111,114],J2 [x]] (N7 (Tr.kept' (Tr.ap 17 x l6 l6))):=by
 cases hv:(Tr.ap 17 x l6 l6).valid with
 |true =>
  rw[Z9 hv];exact pV (.av (.l7 [j3 1,j6 true])::nK 4 [.av (l5 (Tr.ap 17 x l6 l6)),yT]) [_,j5 125 [(stA [102,108,111,111,114]),(l9 x.ob)] (l5 (Tr.ap 17 x l6 l6)),j5 127 [(l5 (Tr.ap 17 x l6 l6))] (j6 true)] func99 ⟨Gi,OB hx,(O8 (t:=Tr.ap 17 x l6 l6) (L9 hx F8 F8 17) O).b hv,Z⟩
 |false =>
  rw[ai hv];exact pV (.av (.l7 [j3 1,j6 true])::nK 4 [.av (l5 (Tr.ap 17 x l6 l6)),yF]) [_,j5 125 [(stA [102,108,111,111,114]),(l9 x.ob)] (l5 (Tr.ap 17 x l6 l6)),j5 127 [(l5 (Tr.ap 17 x l6 l6))] (j6 false)] func99 ⟨Gi,OB hx,(O8 (t:=Tr.ap 17 x l6 l6) (L9 hx F8 F8 17) O).b hv,Z⟩
theorem a2e{x:Tr}(hx:Arg x):j5 152 [o9 o6 [115,121,109,98,111,108,45,110,97,109,101],J2 [x]] (N7 (Tr.Y8 18 x l6 l6)):=pV (.av (.l7 [j3 1,j6 true])::nK 13 [.av (l5 (Tr.ap 18 x l6 l6))]) [_,j5 200 [(stA [115,121,109,98,111,108,45,110,97,109,101]),(l9 x.ob)] (l5 (Tr.ap 18 x l6 l6))] func152 ⟨Qr,a1O hx,Z⟩
theorem a2f{x:Tr}(hx:Arg x):j5 99 [o9 o6 [115,121,109,98,111,108,45,110,97,109,101],J2 [x]] (N7 (Tr.kept' (Tr.ap 18 x l6 l6))):=by
 cases hv:(Tr.ap 18 x l6 l6).valid with
 |true =>
  rw[Z9 hv];exact pV (.av (.l7 [j3 1,j6 true])::nK 4 [.av (l5 (Tr.ap 18 x l6 l6)),yT]) [_,j5 125 [(stA [115,121,109,98,111,108,45,110,97,109,101]),(l9 x.ob)] (l5 (Tr.ap 18 x l6 l6)),j5 127 [(l5 (Tr.ap 18 x l6 l6))] (j6 true)] func99 ⟨Gj,OC hx,(O8 (t:=Tr.ap 18 x l6 l6) (L9 hx F8 F8 18) O).b hv,Z⟩
 |false =>
  rw[ai hv];exact pV (.av (.l7 [j3 1,j6 true])::nK 4 [.av (l5 (Tr.ap 18 x l6 l6)),yF]) [_,j5 125 [(stA [115,121,109,98,111,108,45,110,97,109,101]),(l9 x.ob)] (l5 (Tr.ap 18 x l6 l6)),j5 127 [(l5 (Tr.ap 18 x l6 l6))] (j6 false)] func99 ⟨Gj,OC hx,(O8 (t:=Tr.ap 18 x l6 l6) (L9 hx F8 F8 18) O).b hv,Z⟩
theorem a2g{x:Tr}(hx:Arg x):j5 152 [o9 o6 [115,121,109,98,111,108,45,112,97,99,107,97,103,101,45,110,97,109,101],J2 [x]] (N7 (Tr.Y8 19 x l6 l6)):=pV (.av (.l7 [j3 1,j6 true])::nK 13 [.av (l5 (Tr.ap 19 x l6 l6))]) [_,j5 200 [(stA [115,121,109,98,111,108,45,112,97,99,107,97,103,101,45,110,97,109,101]),(l9 x.ob)] (l5 (Tr.ap 19 x l6 l6))] func152 ⟨Qs,a1P hx,Z⟩
theorem a2h{x:Tr}(hx:Arg x):j5 99 [o9 o6 [115,121,109,98,111,108,45,112,97,99,107,97,103,101,45,110,97,109,101],J2 [x]] (N7 (Tr.kept' (Tr.ap 19 x l6 l6))):=by
 cases hv:(Tr.ap 19 x l6 l6).valid with
 |true =>
  rw[Z9 hv];exact pV (.av (.l7 [j3 1,j6 true])::nK 4 [.av (l5 (Tr.ap 19 x l6 l6)),yT]) [_,j5 125 [(stA [115,121,109,98,111,108,45,112,97,99,107,97,103,101,45,110,97,109,101]),(l9 x.ob)] (l5 (Tr.ap 19 x l6 l6)),j5 127 [(l5 (Tr.ap 19 x l6 l6))] (j6 true)] func99 ⟨Gl,OD hx,(O8 (t:=Tr.ap 19 x l6 l6) (L9 hx F8 F8 19) O).b hv,Z⟩
 |false =>
  rw[ai hv];exact pV (.av (.l7 [j3 1,j6 true])::nK 4 [.av (l5 (Tr.ap 19 x l6 l6)),yF]) [_,j5 125 [(stA [115,121,109,98,111,108,45,112,97,99,107,97,103,101,45,110,97,109,101]),(l9 x.ob)] (l5 (Tr.ap 19 x l6 l6)),j5 127 [(l5 (Tr.ap 19 x l6 l6))] (j6 false)] func99 ⟨Gl,OD hx,(O8 (t:=Tr.ap 19 x l6 l6) (L9 hx F8 F8 19) O).b hv,Z⟩
theorem a2i{x y:Tr}(hx:Arg x)(hy:Arg y):j5 152 [o9 o6 [105,110,116,101,114,110],J2 [x,y]] (N7 (Tr.Y8 20 x y l6)):=pV (.av (.l7 [j3 2,j6 true])::nK 11 [.av (l5 (Tr.ap 20 x y l6))]) [_,j5 195 [(l9 x.ob),(l9 y.ob)] (l5 (Tr.ap 20 x y l6))] func152 ⟨Qt,ZW hx.ok hy.ok,Z⟩
theorem a2j{x y:Tr}(hx:Arg x)(hy:Arg y):j5 99 [o9 o6 [105,110,116,101,114,110],J2 [x,y]] (N7 (Tr.kept' (Tr.ap 20 x y l6))):=by
 cases hv:(Tr.ap 20 x y l6).valid with
 |true =>
  rw[Z9 hv];exact pV (.av (.l7 [j3 2,j6 true])::nK 6 [.av (l5 (Tr.ap 20 x y l6)),yT]) [_,j5 126 [(stA [105,110,116,101,114,110]),(l9 x.ob),(l9 y.ob)] (l5 (Tr.ap 20 x y l6)),j5 127 [(l5 (Tr.ap 20 x y l6))] (j6 true)] func99 ⟨Gm,OM hx hy,(O8 (t:=Tr.ap 20 x y l6) (L9 hx hy F8 20) O).b hv,Z⟩
 |false =>
  rw[ai hv];exact pV (.av (.l7 [j3 2,j6 true])::nK 6 [.av (l5 (Tr.ap 20 x y l6)),yF]) [_,j5 126 [(stA [105,110,116,101,114,110]),(l9 x.ob),(l9 y.ob)] (l5 (Tr.ap 20 x y l6)),j5 127 [(l5 (Tr.ap 20 x y l6))] (j6 false)] func99 ⟨Gm,OM hx hy,(O8 (t:=Tr.ap 20 x y l6) (L9 hx hy F8 20) O).b hv,Z⟩
theorem a2k{x y:Tr}(hx:Arg x)(hy:Arg y):j5 152 [o9 o6 [115,116,114,105,110,103,45,97,112,112,101,110,100],J2 [x,y]] (N7 (Tr.Y8 21 x y l6)):=by
 have e:Tr.Y8 21 x y l6=Tr.kept' (Tr.ap 21 x y l6):=rfl;rw[e];cases hv:(Tr.ap 21 x y l6).valid with
 |true =>
  rw[Z9 hv];exact pV (.av (.l7 [j3 2,j6 true])::nK 10 [.av (stA (x.tx++y.tx)),.av (l5 (.txt (x.tx++y.tx))),yT]) [_,Bs .add 9 67 69 x.ob.text y.ob.text (str (x.tx++y.tx)),j5 194 [(stA (x.tx++y.tx))] (l9 ((Tr.txt (x.tx++y.tx)).ob)),j5 201 [(l9 ((Tr.txt (x.tx++y.tx)).ob))] (j6 true)] func152 ⟨Gw,Az (a:=x.tx) (b:=y.tx) (by have:=hx.tx;have:=hy.tx;omega),tC _,(nM (t:=Tr.ap 21 x y l6) (L9 hx hy F8 21) O).b hv,Z⟩
 |false =>
  rw[ai hv];exact pV (.av (.l7 [j3 2,j6 true])::nK 10 [.av (stA (x.tx++y.tx)),.av (l5 (.txt (x.tx++y.tx))),yF]) [_,Bs .add 9 67 69 x.ob.text y.ob.text (str (x.tx++y.tx)),j5 194 [(stA (x.tx++y.tx))] (l9 ((Tr.txt (x.tx++y.tx)).ob)),j5 201 [(l9 ((Tr.txt (x.tx++y.tx)).ob))] (j6 false)] func152 ⟨Gw,Az (a:=x.tx) (b:=y.tx) (by have:=hx.tx;have:=hy.tx;omega),tC _,(nM (t:=Tr.ap 21 x y l6) (L9 hx hy F8 21) O).b hv,Z⟩
theorem a2l{x y:Tr}(hx:Arg x)(hy:Arg y):j5 99 [o9 o6 [115,116,114,105,110,103,45,97,112,112,101,110,100],J2 [x,y]] (N7 (Tr.kept' (Tr.ap 21 x y l6))):=by
 cases hv:(Tr.ap 21 x y l6).valid with
 |true =>
  rw[Z9 hv];exact pV (.av (.l7 [j3 2,j6 true])::nK 6 [.av (l5 (Tr.ap 21 x y l6)),yT]) [_,j5 126 [(stA [115,116,114,105,110,103,45,97,112,112,101,110,100]),(l9 x.ob),(l9 y.ob)] (l5 (Tr.ap 21 x y l6)),j5 127 [(l5 (Tr.ap 21 x y l6))] (j6 true)] func99 ⟨Gn,OL hx hy,(O8 (t:=Tr.ap 21 x y l6) (L9 hx hy F8 21) O).b hv,Z⟩
 |false =>
  rw[ai hv];exact pV (.av (.l7 [j3 2,j6 true])::nK 6 [.av (l5 (Tr.ap 21 x y l6)),yF]) [_,j5 126 [(stA [115,116,114,105,110,103,45,97,112,112,101,110,100]),(l9 x.ob),(l9 y.ob)] (l5 (Tr.ap 21 x y l6)),j5 127 [(l5 (Tr.ap 21 x y l6))] (j6 false)] func99 ⟨Gn,OL hx hy,(O8 (t:=Tr.ap 21 x y l6) (L9 hx hy F8 21) O).b hv,Z⟩
theorem a2m{x:Tr}(hx:Arg x):j5 152 [o9 o6 [115,116,114,105,110,103,45,108,101,110,103,116,104],J2 [x]] (N7 (Tr.Y8 22 x l6 l6)):=pV (.av (.l7 [j3 1,j6 true])::nK 13 [.av (l5 (Tr.ap 22 x l6 l6))]) [_,j5 200 [(stA [115,116,114,105,110,103,45,108,101,110,103,116,104]),(l9 x.ob)] (l5 (Tr.ap 22 x l6 l6))] func152 ⟨Qu,a1Q hx,Z⟩
theorem a2n{x:Tr}(hx:Arg x):j5 99 [o9 o6 [115,116,114,105,110,103,45,108,101,110,103,116,104],J2 [x]] (N7 (Tr.kept' (Tr.ap 22 x l6 l6))):=by
 cases hv:(Tr.ap 22 x l6 l6).valid with
 |true =>
  rw[Z9 hv];exact pV (.av (.l7 [j3 1,j6 true])::nK 4 [.av (l5 (Tr.ap 22 x l6 l6)),yT]) [_,j5 125 [(stA [115,116,114,105,110,103,45,108,101,110,103,116,104]),(l9 x.ob)] (l5 (Tr.ap 22 x l6 l6)),j5 127 [(l5 (Tr.ap 22 x l6 l6))] (j6 true)] func99 ⟨Gp,OE hx,(O8 (t:=Tr.ap 22 x l6 l6) (L9 hx F8 F8 22) O).b hv,Z⟩
 |false =>
  rw[ai hv];exact pV (.av (.l7 [j3 1,j6 true])::nK 4 [.av (l5 (Tr.ap 22 x l6 l6)),yF]) [_,j5 125 [(stA [115,116,114,105,110,103,45,108,101,110,103,116,104]),(l9 x.ob)] (l5 (Tr.ap 22 x l6 l6)),j5 127 [(l5 (Tr.ap 22 x l6 l6))] (j6 false)] func99 ⟨Gp,OE hx,(O8 (t:=Tr.ap 22 x l6 l6) (L9 hx F8 F8 22) O).b hv,Z⟩
theorem a2o{x y:Tr}(_:Arg x)(hy:Arg y):j5 152 [o9 o6 [115,116,114,105,110,103,45,98,121,116,101],J2 [x,y]] (N7 (Tr.Y8 23 x y l6)):=by
 have e:Tr.Y8 23 x y l6=some (Tr.ap 23 x y l6):=rfl;rw[e];have hi:=a81 x hy.ok O;cases ho:x.dn y with
 |none =>
  rw[Sb ho];rw[ho]at hi;exact pV (.av (.l7 [j3 2,j6 true])::nK 12 [.av (.l7 [j3 (yz x y),j6 false]),.av (l5 l6)]) [_,_,_] func152 ⟨Gy,hi,jg,Z⟩
 |some n =>
  obtain⟨h2,_,_,h0,h1⟩:=Ow ho;rw[Sc ho];rw[ho,h2]at hi;generalize hb:x.tx.getD n.toNat 0=b;have hg:=QH h0 h1;rw[hb]at hg;have:=b.toNat_lt;exact pV (.av (.l7 [j3 2,j6 true])::nK 12 [.av (.l7 [j3 n,j6 true]),.av (.dt (.val (.int .u8 b.toNat))),.av (j3 b.toNat),.av (l5 (.num ((b.toNat:Int):Rat)))]) [_,_,fE ({ data:=x.ob.text.toArray:ByteArray }) n (Value.int .u8 ↑b.toNat),(vi ↑b.toNat)=(vi (IntKind.i64.wrap ↑b.toNat)),j5 197 [(j3 ↑b.toNat)] (l5 (Tr.num ↑↑b.toNat))] func152 ⟨Gy,hi,⟨b,h0,by rw[EP];exact hg,rfl⟩,by rw[QI],wU _ J J,Z⟩
theorem a2p{x y:Tr}(hx:Arg x)(hy:Arg y):j5 99 [o9 o6 [115,116,114,105,110,103,45,98,121,116,101],J2 [x,y]] (N7 (Tr.kept' (Tr.ap 23 x y l6))):=by
 cases hv:(Tr.ap 23 x y l6).valid with
 |true =>
  rw[Z9 hv];exact pV (.av (.l7 [j3 2,j6 true])::nK 6 [.av (l5 (Tr.ap 23 x y l6)),yT]) [_,j5 126 [(stA [115,116,114,105,110,103,45,98,121,116,101]),(l9 x.ob),(l9 y.ob)] (l5 (Tr.ap 23 x y l6)),j5 127 [(l5 (Tr.ap 23 x y l6))] (j6 true)] func99 ⟨Gq,OO hx hy,(O8 (t:=Tr.ap 23 x y l6) (L9 hx hy F8 23) O).b hv,Z⟩
 |false =>
  rw[ai hv];exact pV (.av (.l7 [j3 2,j6 true])::nK 6 [.av (l5 (Tr.ap 23 x y l6)),yF]) [_,j5 126 [(stA [115,116,114,105,110,103,45,98,121,116,101]),(l9 x.ob),(l9 y.ob)] (l5 (Tr.ap 23 x y l6)),j5 127 [(l5 (Tr.ap 23 x y l6))] (j6 false)] func99 ⟨Gq,OO hx hy,(O8 (t:=Tr.ap 23 x y l6) (L9 hx hy F8 23) O).b hv,Z⟩
theorem a2q{x:Tr}(hx:Arg x):j5 152 [o9 o6 [98,121,116,101,45,115,116,114,105,110,103],J2 [x]] (N7 (Tr.Y8 24 x l6 l6)):=pV (.av (.l7 [j3 1,j6 true])::nK 13 [.av (l5 (Tr.ap 24 x l6 l6))]) [_,j5 200 [(stA [98,121,116,101,45,115,116,114,105,110,103]),(l9 x.ob)] (l5 (Tr.ap 24 x l6 l6))] func152 ⟨Qv,a1R hx,Z⟩
theorem a2r{x:Tr}(hx:Arg x):j5 99 [o9 o6 [98,121,116,101,45,115,116,114,105,110,103],J2 [x]] (N7 (Tr.kept' (Tr.ap 24 x l6 l6))):=by
 cases hv:(Tr.ap 24 x l6 l6).valid with
 |true =>
  rw[Z9 hv];exact pV (.av (.l7 [j3 1,j6 true])::nK 4 [.av (l5 (Tr.ap 24 x l6 l6)),yT]) [_,j5 125 [(stA [98,121,116,101,45,115,116,114,105,110,103]),(l9 x.ob)] (l5 (Tr.ap 24 x l6 l6)),j5 127 [(l5 (Tr.ap 24 x l6 l6))] (j6 true)] func99 ⟨Gr,OG hx,(O8 (t:=Tr.ap 24 x l6 l6) (L9 hx F8 F8 24) O).b hv,Z⟩
 |false =>
  rw[ai hv];exact pV (.av (.l7 [j3 1,j6 true])::nK 4 [.av (l5 (Tr.ap 24 x l6 l6)),yF]) [_,j5 125 [(stA [98,121,116,101,45,115,116,114,105,110,103]),(l9 x.ob)] (l5 (Tr.ap 24 x l6 l6)),j5 127 [(l5 (Tr.ap 24 x l6 l6))] (j6 false)] func99 ⟨Gr,OG hx,(O8 (t:=Tr.ap 24 x l6 l6) (L9 hx F8 F8 24) O).b hv,Z⟩
theorem TN{n:Int}(h:n.natAbs < 10 ^ 100):dg (Lib.itoa n)≤100:=by
 have e:norm (Lib.itoa n)=Lib.itoa n:=by rw[norm_eq,j4.K5]
 have h1:=j4.ny (k:=100) O h;show (j4.mag (norm (Lib.itoa n))).length≤100;rw[e];by_cases hv:n < 0
 ·rw[pK hv,j4.pO];exact h1
 ·rw[rY J];exact Nat.le_trans (j4.iF _) h1
theorem TP{n:Int}(h:dg (Lib.itoa n)≤100):n.natAbs < 10 ^ 100:=by
 obtain⟨hd,_,hv,_⟩:=vV (Lib.itoa n);rw[j4.K5]at hv;rw[←hv];exact Nat.lt_of_lt_of_le (j4.wF _ hd) (Nat.pow_le_pow_right O h)
namespace Tr
theorem sN{q:Rat}:good (.num q)=true↔Rb 100 q:=by
 show decide (dg (Lib.itoa q.num)≤100∧dg (Lib.itoa (q.den:Int))≤100)=true↔_;rw[decide_eq_true_eq];constructor
 ·intro h;have h2:=TP h.2;rw[Int.natAbs_natCast]at h2;exact⟨TP h.1,h2,O⟩
 ·intro h;exact⟨TN h.num,TN (by rw[Int.natAbs_natCast];exact h.den)⟩
theorem iG{t:Tr}(h:t.valid=true):t.good=true:=(lg.1 h).2
theorem wE{t:Tr}(h:t.good=true):Rb 100 t.val:=by
 cases t with
 |num q=>exact sN.1 h
 |_=>exact Rb.zero.mono O
theorem QJ{t:Tr}(h:t.good=true):t.tx.length≤200:=by
 cases t with
 |txt s=>exact of_decide_eq_true h
 |_=>exact Nat.zero_le _
theorem EY{q:Rat}(h:Rb 100 q):valid (.num q)=true:=lg.2 ⟨(by decide:1≤3000),sN.2 h⟩
theorem vT{n:Int}(h:n.natAbs < 10 ^ 100):valid (.num (n:Rat))=true:=EY (zD O h)
theorem sF{l:bi}(h:l.length≤200):valid (.txt l)=true:=lg.2 ⟨(by decide:1≤3000),decide_eq_true h⟩
theorem ZX{p s:bi}(h:P7 ⟨p,s⟩=true):valid (.sym p s)=true:=lg.2 ⟨(by decide:1≤3000),h⟩
theorem nG:valid l6=true:=by decide +kernel
theorem a4T:valid (.sym o6 [116])=true:=by decide +kernel
theorem pY(b:Bool):valid (U2 b)=true:=by cases b;exact nG;exact a4T
theorem I9{t:Tr}(h:t.valid=true):Arg t:=⟨(FM (iG h)).mono O,Nat.le_trans (QJ (iG h)) O⟩
theorem OQ{p s:bi}(h:P7 ⟨p,s⟩=true):p.length≤40∧s.length≤40:=by
 have h':(dQ p && gK s)=true:=h;simp only[dQ,gK,Bool.and_eq_true,decide_eq_true_eq]at h';omega
theorem a2s{x y z:Tr}(hx:x.valid=true)(hy:y.valid=true)(hz:z.valid=true):∀i:Nat,i≠2→i≠10→i≠11→i≠21→(ap i x y z).valid=true
 |0,_,_,_,_=>by
  show (if x=l6 then z else y).valid=true;split
  ·exact hz
  ·exact hy
 |1,_,_,_,_=>pY _
 |2,h,_,_,_=>absurd rfl h
 |3,_,_,_,_=>by
  cases x with
  |cons a d=>exact (LG hx).1
  |_=>exact nG
 |4,_,_,_,_=>by
  cases x with
  |cons a d=>exact (LG hx).2
  |_=>exact nG
 |5,_,_,_,_=>pY _
 |6,_,_,_,_=>pY _
 |7,_,_,_,_=>pY _
 |8,_,_,_,_=>pY _
 |9,_,_,_,_=>pY _
 |10,_,h,_,_=>absurd rfl h
 |11,_,_,h,_=>absurd rfl h
 |12,_,_,_,_=>EY (wE (iG hx)).neg
 |13,_,_,_,_=>EY (wE (iG hx)).inv
 |14,_,_,_,_=>pY _
 |15,_,_,_,_=>vT (wE (iG hx)).num
 |16,_,_,_,_=>vT (by rw[Int.natAbs_natCast];exact (wE (iG hx)).den)
 |17,_,_,_,_=>vT (by
   have hp:(0:Int) < x.val.den:=Int.natCast_pos.2 x.val.den_pos;unfold qd;rw[if_neg J,if_pos hp];exact Nat.lt_of_le_of_lt (Int.natAbs_ediv_le_natAbs _ _) (wE (iG hx)).num)
 |18,_,_,_,_=>by
  cases x with
  |sym p s=>exact sF (by have h:=OQ (iG hx);show s.length≤200;omega)
  |_=>exact sF (Nat.zero_le _)
 |19,_,_,_,_=>by
  cases x with
  |sym p s=>exact sF (by have h:=OQ (iG hx);show p.length≤200;omega)
  |_=>exact sF (Nat.zero_le _)
 |20,_,_,_,_=>by
  show (if x.ae && y.ae && P7 ⟨y.tx,x.tx⟩ then Tr.sym y.tx x.tx else l6).valid=true;split
  ·rename_i h;rw[Bool.and_eq_true]at h;exact ZX h.2
  ·exact nG
 |21,_,_,_,h=>absurd rfl h
 |22,_,_,_,_=>vT (by
   have:=QJ (iG hx);rw[Int.natAbs_natCast];exact Nat.lt_of_le_of_lt this O)
 |23,_,_,_,_=>by
  show (match x.dn y with | some n=>Tr.num (((x.tx.getD n.toNat 0).toNat:Int):Rat) | none=>l6).valid=true;split
  ·rename_i n _;exact vT (by rw[Int.natAbs_natCast];exact Nat.lt_trans (x.tx.getD n.toNat 0).toNat_lt O)
  ·exact nG
 |24,_,_,_,_=>by
  show (match x.eZ with | some n=>Tr.txt [UInt8.ofNat n.toNat] | none=>Tr.txt []).valid=true;split
  ·exact sF (show 1≤200 by decide)
  ·exact sF (Nat.zero_le _)
 |_+25,_,_,_,_=>nG
theorem aR{x y z:Tr}(hx:x.valid=true)(hy:y.valid=true)(hz:z.valid=true)(i:Nat):Y8 i x y z=kept' (ap i x y z):=by
 unfold Y8;split
 ·rfl
 ·rename_i h;rw[Z9 (a2s hx hy hz i J J J J)]
abbrev zF(i:Nat)(l:List Tr):Tr:=ap i (l.getD 0 l6) (l.getD 1 l6) (l.getD 2 l6)
end Tr
theorem I1{l:List Tr}(h:∀t∈l,t.valid=true)(i:Nat):(l.getD i l6).valid=true:=by
 rw[List.getD_eq_getElem?_getD];rcases Nat.lt_or_ge i l.length with h1 | h1
 ·rw[List.getElem?_eq_getElem h1];exact h _ (List.getElem_mem h1)
 ·rw[List.getElem?_eq_none h1];exact Tr.nG
theorem a7k:∀{i:Nat} {s:bi} {a:Nat},I5[i]?=some (s,a)→j5 150 [o9 o6 s] (.l7 [j3 (a:Int),j6 true])
 |0,_,_,h=>by cases h;exact Ia
 |1,_,_,h=>by cases h;exact RB
 |2,_,_,h=>by cases h;exact Ib
 |3,_,_,h=>by cases h;exact RD
 |4,_,_,h=>by cases h;exact RF
 |5,_,_,h=>by cases h;exact RG
 |6,_,_,h=>by cases h;exact RH
 |7,_,_,h=>by cases h;exact RI
 |8,_,_,h=>by cases h;exact RJ
 |9,_,_,h=>by cases h;exact RN
 |10,_,_,h=>by cases h;exact Gu
 |11,_,_,h=>by cases h;exact Gv
 |12,_,_,h=>by cases h;exact Ql
 |13,_,_,h=>by cases h;exact Qm
 |14,_,_,h=>by cases h;exact Qn
 |15,_,_,h=>by cases h;exact Qo
 |16,_,_,h=>by cases h;exact Qp
 |17,_,_,h=>by cases h;exact Qq
 |18,_,_,h=>by cases h;exact Qr
 |19,_,_,h=>by cases h;exact Qs
 |20,_,_,h=>by cases h;exact Qt
 |21,_,_,h=>by cases h;exact Gw
 |22,_,_,h=>by cases h;exact Qu
 |23,_,_,h=>by cases h;exact Gy
 |24,_,_,h=>by cases h;exact Qv
 |_+25,_,_,h=>by cases h
theorem a9c:∀{i:Nat} {s:bi} {a:Nat} {l:List Tr},I5[i]?=some (s,a)→(∀t∈l,t.valid=true)→l.length=a→j5 152 [o9 o6 s,J2 l] (N7 (Tr.kept' (Tr.zF i l)))
 |0,_,_,[x,y,z],h,hl,_=>by cases h;exact (a4z (Tr.I9 (hl x (List.mem_cons_self ..))) (Tr.I9 (hl y (List.mem_cons_of_mem _ (List.mem_cons_self ..)))) (Tr.I9 (hl z (List.mem_cons_of_mem _ (List.mem_cons_of_mem _ (List.mem_cons_self ..)))))).r (Tr.aR (I1 hl 0) (I1 hl 1) (I1 hl 2) 0)
 |0,_,_,[],h,_,hn=>by cases h;exact absurd hn I
 |0,_,_,[_],h,_,hn=>by cases h;exact absurd hn I
 |0,_,_,[_,_],h,_,hn=>by cases h;exact absurd hn I
 |0,_,_,_::_::_::_::_,h,_,hn=>by cases h;simp at hn
 |1,_,_,[x,y],h,hl,_=>by cases h;exact (a4B (Tr.I9 (hl x (List.mem_cons_self ..))) (Tr.I9 (hl y (List.mem_cons_of_mem _ (List.mem_cons_self ..))))).r (Tr.aR (I1 hl 0) (I1 hl 1) (I1 hl 2) 1)
 |1,_,_,[],h,_,hn=>by cases h;exact absurd hn I
 |1,_,_,[_],h,_,hn=>by cases h;exact absurd hn I
 |1,_,_,_::_::_::_,h,_,hn=>by cases h;simp at hn
 |2,_,_,[x,y],h,hl,_=>by cases h;exact (a4D (Tr.I9 (hl x (List.mem_cons_self ..))) (Tr.I9 (hl y (List.mem_cons_of_mem _ (List.mem_cons_self ..))))).r (Tr.aR (I1 hl 0) (I1 hl 1) (I1 hl 2) 2)
 |2,_,_,[],h,_,hn=>by cases h;exact absurd hn I
 |2,_,_,[_],h,_,hn=>by cases h;exact absurd hn I
 |2,_,_,_::_::_::_,h,_,hn=>by cases h;simp at hn
 |3,_,_,[x],h,hl,_=>by cases h;exact (a4F (Tr.I9 (hl x (List.mem_cons_self ..)))).r (Tr.aR (I1 hl 0) (I1 hl 1) (I1 hl 2) 3)
 |3,_,_,[],h,_,hn=>by cases h;exact absurd hn I
 |3,_,_,_::_::_,h,_,hn=>by cases h;simp at hn
 |4,_,_,[x],h,hl,_=>by cases h;exact (a4H (Tr.I9 (hl x (List.mem_cons_self ..)))).r (Tr.aR (I1 hl 0) (I1 hl 1) (I1 hl 2) 4)
 |4,_,_,[],h,_,hn=>by cases h;exact absurd hn I
 |4,_,_,_::_::_,h,_,hn=>by cases h;simp at hn
 |5,_,_,[x],h,hl,_=>by cases h;exact (a4J (Tr.I9 (hl x (List.mem_cons_self ..)))).r (Tr.aR (I1 hl 0) (I1 hl 1) (I1 hl 2) 5)
 |5,_,_,[],h,_,hn=>by cases h;exact absurd hn I
 |5,_,_,_::_::_,h,_,hn=>by cases h;simp at hn
 |6,_,_,[x],h,hl,_=>by cases h;exact (a4L (Tr.I9 (hl x (List.mem_cons_self ..)))).r (Tr.aR (I1 hl 0) (I1 hl 1) (I1 hl 2) 6)
 |6,_,_,[],h,_,hn=>by cases h;exact absurd hn I
 |6,_,_,_::_::_,h,_,hn=>by cases h;simp at hn
 |7,_,_,[x],h,hl,_=>by cases h;exact (a4N (Tr.I9 (hl x (List.mem_cons_self ..)))).r (Tr.aR (I1 hl 0) (I1 hl 1) (I1 hl 2) 7)
 |7,_,_,[],h,_,hn=>by cases h;exact absurd hn I
 |7,_,_,_::_::_,h,_,hn=>by cases h;simp at hn
 |8,_,_,[x],h,hl,_=>by cases h;exact (a4P (Tr.I9 (hl x (List.mem_cons_self ..)))).r (Tr.aR (I1 hl 0) (I1 hl 1) (I1 hl 2) 8)
 |8,_,_,[],h,_,hn=>by cases h;exact absurd hn I
 |8,_,_,_::_::_,h,_,hn=>by cases h;simp at hn
 |9,_,_,[x],h,hl,_=>by cases h;exact (a4R (Tr.I9 (hl x (List.mem_cons_self ..)))).r (Tr.aR (I1 hl 0) (I1 hl 1) (I1 hl 2) 9)
 |9,_,_,[],h,_,hn=>by cases h;exact absurd hn I
 |9,_,_,_::_::_,h,_,hn=>by cases h;simp at hn
 |10,_,_,[x,y],h,hl,_=>by cases h;exact (a1T (Tr.I9 (hl x (List.mem_cons_self ..))) (Tr.I9 (hl y (List.mem_cons_of_mem _ (List.mem_cons_self ..))))).r (Tr.aR (I1 hl 0) (I1 hl 1) (I1 hl 2) 10)
 |10,_,_,[],h,_,hn=>by cases h;exact absurd hn I
 |10,_,_,[_],h,_,hn=>by cases h;exact absurd hn I
 |10,_,_,_::_::_::_,h,_,hn=>by cases h;simp at hn
 |11,_,_,[x,y],h,hl,_=>by cases h;exact (a1V (Tr.I9 (hl x (List.mem_cons_self ..))) (Tr.I9 (hl y (List.mem_cons_of_mem _ (List.mem_cons_self ..))))).r (Tr.aR (I1 hl 0) (I1 hl 1) (I1 hl 2) 11)
 |11,_,_,[],h,_,hn=>by cases h;exact absurd hn I
 |11,_,_,[_],h,_,hn=>by cases h;exact absurd hn I
 |11,_,_,_::_::_::_,h,_,hn=>by cases h;simp at hn
 |12,_,_,[x],h,hl,_=>by cases h;exact (a1X (Tr.I9 (hl x (List.mem_cons_self ..)))).r (Tr.aR (I1 hl 0) (I1 hl 1) (I1 hl 2) 12)
 |12,_,_,[],h,_,hn=>by cases h;exact absurd hn I
 |12,_,_,_::_::_,h,_,hn=>by cases h;simp at hn
 |13,_,_,[x],h,hl,_=>by cases h;exact (a1Z (Tr.I9 (hl x (List.mem_cons_self ..)))).r (Tr.aR (I1 hl 0) (I1 hl 1) (I1 hl 2) 13)
 |13,_,_,[],h,_,hn=>by cases h;exact absurd hn I
 |13,_,_,_::_::_,h,_,hn=>by cases h;simp at hn
 |14,_,_,[x,y],h,hl,_=>by cases h;exact (a14 (Tr.I9 (hl x (List.mem_cons_self ..))) (Tr.I9 (hl y (List.mem_cons_of_mem _ (List.mem_cons_self ..))))).r (Tr.aR (I1 hl 0) (I1 hl 1) (I1 hl 2) 14)
 |14,_,_,[],h,_,hn=>by cases h;exact absurd hn I
 |14,_,_,[_],h,_,hn=>by cases h;exact absurd hn I
 |14,_,_,_::_::_::_,h,_,hn=>by cases h;simp at hn
 |15,_,_,[x],h,hl,_=>by cases h;exact (a18 (Tr.I9 (hl x (List.mem_cons_self ..)))).r (Tr.aR (I1 hl 0) (I1 hl 1) (I1 hl 2) 15)
 |15,_,_,[],h,_,hn=>by cases h;exact absurd hn I
 |15,_,_,_::_::_,h,_,hn=>by cases h;simp at hn
 |16,_,_,[x],h,hl,_=>by cases h;exact (a2a (Tr.I9 (hl x (List.mem_cons_self ..)))).r (Tr.aR (I1 hl 0) (I1 hl 1) (I1 hl 2) 16)
 |16,_,_,[],h,_,hn=>by cases h;exact absurd hn I
 |16,_,_,_::_::_,h,_,hn=>by cases h;simp at hn
 |17,_,_,[x],h,hl,_=>by cases h;exact (a2c (Tr.I9 (hl x (List.mem_cons_self ..)))).r (Tr.aR (I1 hl 0) (I1 hl 1) (I1 hl 2) 17)
 |17,_,_,[],h,_,hn=>by cases h;exact absurd hn I
 |17,_,_,_::_::_,h,_,hn=>by cases h;simp at hn
 |18,_,_,[x],h,hl,_=>by cases h;exact (a2e (Tr.I9 (hl x (List.mem_cons_self ..)))).r (Tr.aR (I1 hl 0) (I1 hl 1) (I1 hl 2) 18)
 |18,_,_,[],h,_,hn=>by cases h;exact absurd hn I
 |18,_,_,_::_::_,h,_,hn=>by cases h;simp at hn
 |19,_,_,[x],h,hl,_=>by cases h;exact (a2g (Tr.I9 (hl x (List.mem_cons_self ..)))).r (Tr.aR (I1 hl 0) (I1 hl 1) (I1 hl 2) 19)
 |19,_,_,[],h,_,hn=>by cases h;exact absurd hn I
 |19,_,_,_::_::_,h,_,hn=>by cases h;simp at hn
 |20,_,_,[x,y],h,hl,_=>by cases h;exact (a2i (Tr.I9 (hl x (List.mem_cons_self ..))) (Tr.I9 (hl y (List.mem_cons_of_mem _ (List.mem_cons_self ..))))).r (Tr.aR (I1 hl 0) (I1 hl 1) (I1 hl 2) 20)
 |20,_,_,[],h,_,hn=>by cases h;exact absurd hn I
 |20,_,_,[_],h,_,hn=>by cases h;exact absurd hn I
 |20,_,_,_::_::_::_,h,_,hn=>by cases h;simp at hn
 |21,_,_,[x,y],h,hl,_=>by cases h;exact (a2k (Tr.I9 (hl x (List.mem_cons_self ..))) (Tr.I9 (hl y (List.mem_cons_of_mem _ (List.mem_cons_self ..))))).r (Tr.aR (I1 hl 0) (I1 hl 1) (I1 hl 2) 21)
 |21,_,_,[],h,_,hn=>by cases h;exact absurd hn I
 |21,_,_,[_],h,_,hn=>by cases h;exact absurd hn I
 |21,_,_,_::_::_::_,h,_,hn=>by cases h;simp at hn
 |22,_,_,[x],h,hl,_=>by cases h;exact (a2m (Tr.I9 (hl x (List.mem_cons_self ..)))).r (Tr.aR (I1 hl 0) (I1 hl 1) (I1 hl 2) 22)
 |22,_,_,[],h,_,hn=>by cases h;exact absurd hn I
 |22,_,_,_::_::_,h,_,hn=>by cases h;simp at hn
 |23,_,_,[x,y],h,hl,_=>by cases h;exact (a2o (Tr.I9 (hl x (List.mem_cons_self ..))) (Tr.I9 (hl y (List.mem_cons_of_mem _ (List.mem_cons_self ..))))).r (Tr.aR (I1 hl 0) (I1 hl 1) (I1 hl 2) 23)
 |23,_,_,[],h,_,hn=>by cases h;exact absurd hn I
 |23,_,_,[_],h,_,hn=>by cases h;exact absurd hn I
 |23,_,_,_::_::_::_,h,_,hn=>by cases h;simp at hn
 |24,_,_,[x],h,hl,_=>by cases h;exact (a2q (Tr.I9 (hl x (List.mem_cons_self ..)))).r (Tr.aR (I1 hl 0) (I1 hl 1) (I1 hl 2) 24)
 |24,_,_,[],h,_,hn=>by cases h;exact absurd hn I
 |24,_,_,_::_::_,h,_,hn=>by cases h;simp at hn
 |_+25,_,_,_,h,_,_=>by cases h
theorem a9d:∀{i:Nat} {s:bi} {a:Nat} {l:List Tr},I5[i]?=some (s,a)→(∀t∈l,t.valid=true)→l.length=a→j5 99 [o9 o6 s,J2 l] (N7 (Tr.kept' (Tr.zF i l)))
 |0,_,_,[x,y,z],h,hl,_=>by cases h;exact a4A (Tr.I9 (hl x (List.mem_cons_self ..))) (Tr.I9 (hl y (List.mem_cons_of_mem _ (List.mem_cons_self ..)))) (Tr.I9 (hl z (List.mem_cons_of_mem _ (List.mem_cons_of_mem _ (List.mem_cons_self ..)))))
 |0,_,_,[],h,_,hn=>by cases h;exact absurd hn I
 |0,_,_,[_],h,_,hn=>by cases h;exact absurd hn I
 |0,_,_,[_,_],h,_,hn=>by cases h;exact absurd hn I
 |0,_,_,_::_::_::_::_,h,_,hn=>by cases h;simp at hn
 |1,_,_,[x,y],h,hl,_=>by cases h;exact a4C (Tr.I9 (hl x (List.mem_cons_self ..))) (Tr.I9 (hl y (List.mem_cons_of_mem _ (List.mem_cons_self ..))))
 |1,_,_,[],h,_,hn=>by cases h;exact absurd hn I
 |1,_,_,[_],h,_,hn=>by cases h;exact absurd hn I
 |1,_,_,_::_::_::_,h,_,hn=>by cases h;simp at hn
 |2,_,_,[x,y],h,hl,_=>by cases h;exact a4E (Tr.I9 (hl x (List.mem_cons_self ..))) (Tr.I9 (hl y (List.mem_cons_of_mem _ (List.mem_cons_self ..))))
 |2,_,_,[],h,_,hn=>by cases h;exact absurd hn I
 |2,_,_,[_],h,_,hn=>by cases h;exact absurd hn I
 |2,_,_,_::_::_::_,h,_,hn=>by cases h;simp at hn
 |3,_,_,[x],h,hl,_=>by cases h;exact a4G (Tr.I9 (hl x (List.mem_cons_self ..)))
 |3,_,_,[],h,_,hn=>by cases h;exact absurd hn I
 |3,_,_,_::_::_,h,_,hn=>by cases h;simp at hn
 |4,_,_,[x],h,hl,_=>by cases h;exact a4I (Tr.I9 (hl x (List.mem_cons_self ..)))
 |4,_,_,[],h,_,hn=>by cases h;exact absurd hn I
 |4,_,_,_::_::_,h,_,hn=>by cases h;simp at hn
 |5,_,_,[x],h,hl,_=>by cases h;exact a4K (Tr.I9 (hl x (List.mem_cons_self ..)))
 |5,_,_,[],h,_,hn=>by cases h;exact absurd hn I
 |5,_,_,_::_::_,h,_,hn=>by cases h;simp at hn
 |6,_,_,[x],h,hl,_=>by cases h;exact a4M (Tr.I9 (hl x (List.mem_cons_self ..)))
 |6,_,_,[],h,_,hn=>by cases h;exact absurd hn I
 |6,_,_,_::_::_,h,_,hn=>by cases h;simp at hn
 |7,_,_,[x],h,hl,_=>by cases h;exact a4O (Tr.I9 (hl x (List.mem_cons_self ..)))
 |7,_,_,[],h,_,hn=>by cases h;exact absurd hn I
 |7,_,_,_::_::_,h,_,hn=>by cases h;simp at hn
 |8,_,_,[x],h,hl,_=>by cases h;exact a4Q (Tr.I9 (hl x (List.mem_cons_self ..)))
 |8,_,_,[],h,_,hn=>by cases h;exact absurd hn I
 |8,_,_,_::_::_,h,_,hn=>by cases h;simp at hn
 |9,_,_,[x],h,hl,_=>by cases h;exact a4S (Tr.I9 (hl x (List.mem_cons_self ..)))
 |9,_,_,[],h,_,hn=>by cases h;exact absurd hn I
 |9,_,_,_::_::_,h,_,hn=>by cases h;simp at hn
 |10,_,_,[x,y],h,hl,_=>by cases h;exact a1U (Tr.I9 (hl x (List.mem_cons_self ..))) (Tr.I9 (hl y (List.mem_cons_of_mem _ (List.mem_cons_self ..))))
 |10,_,_,[],h,_,hn=>by cases h;exact absurd hn I
 |10,_,_,[_],h,_,hn=>by cases h;exact absurd hn I
 |10,_,_,_::_::_::_,h,_,hn=>by cases h;simp at hn
 |11,_,_,[x,y],h,hl,_=>by cases h;exact a1W (Tr.I9 (hl x (List.mem_cons_self ..))) (Tr.I9 (hl y (List.mem_cons_of_mem _ (List.mem_cons_self ..))))
 |11,_,_,[],h,_,hn=>by cases h;exact absurd hn I
 |11,_,_,[_],h,_,hn=>by cases h;exact absurd hn I
 |11,_,_,_::_::_::_,h,_,hn=>by cases h;simp at hn
 |12,_,_,[x],h,hl,_=>by cases h;exact a1Y (Tr.I9 (hl x (List.mem_cons_self ..)))
 |12,_,_,[],h,_,hn=>by cases h;exact absurd hn I
 |12,_,_,_::_::_,h,_,hn=>by cases h;simp at hn
 |13,_,_,[x],h,hl,_=>by cases h;exact a13 (Tr.I9 (hl x (List.mem_cons_self ..)))
 |13,_,_,[],h,_,hn=>by cases h;exact absurd hn I
 |13,_,_,_::_::_,h,_,hn=>by cases h;simp at hn
 |14,_,_,[x,y],h,hl,_=>by cases h;exact a15 (Tr.I9 (hl x (List.mem_cons_self ..))) (Tr.I9 (hl y (List.mem_cons_of_mem _ (List.mem_cons_self ..))))
 |14,_,_,[],h,_,hn=>by cases h;exact absurd hn I
 |14,_,_,[_],h,_,hn=>by cases h;exact absurd hn I
 |14,_,_,_::_::_::_,h,_,hn=>by cases h;simp at hn
 |15,_,_,[x],h,hl,_=>by cases h;exact a19 (Tr.I9 (hl x (List.mem_cons_self ..)))
 |15,_,_,[],h,_,hn=>by cases h;exact absurd hn I
 |15,_,_,_::_::_,h,_,hn=>by cases h;simp at hn
 |16,_,_,[x],h,hl,_=>by cases h;exact a2b (Tr.I9 (hl x (List.mem_cons_self ..)))
 |16,_,_,[],h,_,hn=>by cases h;exact absurd hn I
 |16,_,_,_::_::_,h,_,hn=>by cases h;simp at hn
 |17,_,_,[x],h,hl,_=>by cases h;exact a2d (Tr.I9 (hl x (List.mem_cons_self ..)))
 |17,_,_,[],h,_,hn=>by cases h;exact absurd hn I
 |17,_,_,_::_::_,h,_,hn=>by cases h;simp at hn
 |18,_,_,[x],h,hl,_=>by cases h;exact a2f (Tr.I9 (hl x (List.mem_cons_self ..)))
 |18,_,_,[],h,_,hn=>by cases h;exact absurd hn I
 |18,_,_,_::_::_,h,_,hn=>by cases h;simp at hn
 |19,_,_,[x],h,hl,_=>by cases h;exact a2h (Tr.I9 (hl x (List.mem_cons_self ..)))
 |19,_,_,[],h,_,hn=>by cases h;exact absurd hn I
 |19,_,_,_::_::_,h,_,hn=>by cases h;simp at hn
 |20,_,_,[x,y],h,hl,_=>by cases h;exact a2j (Tr.I9 (hl x (List.mem_cons_self ..))) (Tr.I9 (hl y (List.mem_cons_of_mem _ (List.mem_cons_self ..))))
 |20,_,_,[],h,_,hn=>by cases h;exact absurd hn I
 |20,_,_,[_],h,_,hn=>by cases h;exact absurd hn I
 |20,_,_,_::_::_::_,h,_,hn=>by cases h;simp at hn
 |21,_,_,[x,y],h,hl,_=>by cases h;exact a2l (Tr.I9 (hl x (List.mem_cons_self ..))) (Tr.I9 (hl y (List.mem_cons_of_mem _ (List.mem_cons_self ..))))
 |21,_,_,[],h,_,hn=>by cases h;exact absurd hn I
 |21,_,_,[_],h,_,hn=>by cases h;exact absurd hn I
 |21,_,_,_::_::_::_,h,_,hn=>by cases h;simp at hn
 |22,_,_,[x],h,hl,_=>by cases h;exact a2n (Tr.I9 (hl x (List.mem_cons_self ..)))
 |22,_,_,[],h,_,hn=>by cases h;exact absurd hn I
 |22,_,_,_::_::_,h,_,hn=>by cases h;simp at hn
 |23,_,_,[x,y],h,hl,_=>by cases h;exact a2p (Tr.I9 (hl x (List.mem_cons_self ..))) (Tr.I9 (hl y (List.mem_cons_of_mem _ (List.mem_cons_self ..))))
 |23,_,_,[],h,_,hn=>by cases h;exact absurd hn I
 |23,_,_,[_],h,_,hn=>by cases h;exact absurd hn I
 |23,_,_,_::_::_::_,h,_,hn=>by cases h;simp at hn
 |24,_,_,[x],h,hl,_=>by cases h;exact a2r (Tr.I9 (hl x (List.mem_cons_self ..)))
 |24,_,_,[],h,_,hn=>by cases h;exact absurd hn I
 |24,_,_,_::_::_,h,_,hn=>by cases h;simp at hn
 |_+25,_,_,_,h,_,_=>by cases h
end Go.Proofs.YtdkehabacmlegaaGreatDoor
namespace Go.Proofs.YtdkehabacmlegaaGreatDoor
open Go.Proofs.Tryz
open Go.RowKit
open Te
abbrev D6:=List ((bi×bi)×Tr)
def dw:D6→bi→bi→Option Tr
 |[],_,_=>none
 |x::r,p,n=>if x.1.1=p∧x.1.2=n then some x.2 else dw r p n
def dm:List (bi)→List Tr→D6
 |n::r,x::s=>((o6,n),x)::dm r s
 |_,_=>[]
def mW:List (bi×Nat)→Nat→bi→Option (Nat×Nat)
 |[],_,_=>none
 |x::r,i,n=>if x.1=n then some (i,x.2) else mW r (i+1) n
theorem OT:∀{L:List (bi×Nat)} {i j a:Nat} {n:bi},mW L i n=some (j,a)→i≤j∧L[j - i]?=some (n,a)
 |[],_,_,_,_,h=>by cases h
 |x::r,i,j,a,n,h=>by
  rw[mW]at h;split at h
  ·rename_i hx;cases h;rw[Nat.sub_self,←hx];exact⟨Nat.le_refl _,rfl⟩
  ·obtain⟨h1,h2⟩:=OT h;refine⟨J,?_⟩;rw[show j - i=(j - (i+1))+1 by omega,List.getElem?_cons_succ]
   exact h2
theorem OU:∀{L:List (bi×Nat)} {i:Nat} {n:bi},mW L i n=none→∀x∈L,n≠x.1
 |[],_,_,_,x,hx=>by cases hx
 |y::r,i,n,h,x,hx=>by
  rw[mW]at h;split at h
  ·cases h
  ·rename_i hy;rcases List.mem_cons.1 hx with rfl | hx
   ·exact fun e=>hy e.symm
   ·exact OU h x hx
noncomputable def Cy(o:Ob):Tr:=open Classical in if h:∃t:Tr,t.ob=o then h.choose else l6
theorem a4U(t:Tr):Cy t.ob=t:=by
 have h:∃t':Tr,t'.ob=t.ob:=⟨t,rfl⟩;unfold Cy;rw[dif_pos h];exact Tr.Bc h.choose_spec
abbrev jL:=Except Int Tr×Nat
def bn(g:Te→Nat→jL):List Te→Nat→Except Int (List Tr)×Nat
 |[],l=>(.ok [],l)
 |t::r,l=>match g t l with
  | (.error e,l')=>(.error e,l')
  | (.ok x,l')=>match bn g r l' with
   | (.error e,l2)=>(.error e,l2)
   | (.ok xs,l2)=>(.ok (x::xs),l2)
def kR(i:Nat)(vs:List Tr):Except Int Tr:=match Tr.kept' (Tr.zF i vs) with
 |some x=>.ok x
 |none=>.error 2
def mX(W:List o8.E8)(e:D6→Te→Nat→jL)(env:D6)(t:Te)(l:Nat):jL :=
 if is t x8 3 then
  match e env (t.arg 0) l with
  | (.error c,l')=>(.error c,l')
  | (.ok x,l')=>if x=l6 then e env (t.arg 2) l' else e env (t.arg 1) l'
 else match bn (e env) t.args l with
  | (.error c,l')=>(.error c,l')
  | (.ok vs,l')=>match mW I5 0 t.nn with
   |some (i,_)=>(kR i vs,l')
   |none=>match W.find? fun f=>f.nm == t.nn with
    |some fn=>e (dm fn.ps vs) fn.body l'
    |none=>(.error 7,l')
noncomputable def mY(env:D6)(t:Te)(l:Nat)(r:jL):jL :=
 if t.kind=1 then (match dw env t.np t.nn with | some x=>.ok x | none=>.error 6,l)
 else if t.kind=2 then (.ok (Cy t.val),l) else r
noncomputable def ev(W:List o8.E8):Nat→D6→Te→Nat→jL
 |0,env,t,l=>mY env t l (.error 9,l)
 |f+1,env,t,l=>mY env t l (if l=0 then (.error 9,l) else mX W (ev W f) env t (l - 1))
theorem BB{g:Te→Nat→jL}(hg:∀t l,(g t l).2≤l):∀(s:List Te) (l:Nat),(bn g s l).2≤l
 |[],l=>Nat.le_refl _
 |t::r,l=>by
  rw[bn];have h:=hg t l;split
  ·rename_i e l' hh;rw[hh]at h;exact h
  ·rename_i x l' hh;rw[hh]at h;have h2:=BB hg r l';split
   ·rename_i e l2 hk;rw[hk]at h2;exact Nat.le_trans h2 h
   ·rename_i xs l2 hk;rw[hk]at h2;exact Nat.le_trans h2 h
theorem a7l{W:List o8.E8}{e:D6→Te→Nat→jL}(he:∀env t l,(e env t l).2≤l)(env:D6)(t:Te)(l:Nat):(mX W e env t l).2≤l:=by
 unfold mX;split
 ·have h:=he env (t.arg 0) l;split
  ·rename_i c l' hh;rw[hh]at h;exact h
  ·rename_i x l' hh;rw[hh]at h;split
   ·exact Nat.le_trans (he ..) h
   ·exact Nat.le_trans (he ..) h
 ·have h:=BB (he env) t.args l;split
  ·rename_i c l' hh;rw[hh]at h;exact h
  ·rename_i vs l' hh;rw[hh]at h;split
   ·exact h
   ·split
    ·exact Nat.le_trans (he ..) h
    ·exact h
theorem Sd{env:D6}{t:Te}{l:Nat}{r:jL}(h:r.2≤l):(mY env t l r).2≤l:=by
 unfold mY;split
 ·exact Nat.le_refl _
 ·split
  ·exact Nat.le_refl _
  ·exact h
theorem nX(W:List o8.E8):∀(f:Nat) (env:D6) (t:Te) (l:Nat),(ev W f env t l).2≤l
 |0,env,t,l=>by rw[ev];exact Sd (Nat.le_refl _)
 |f+1,env,t,l=>by
  rw[ev];refine Sd ?_;split
  ·exact Nat.le_refl _
  ·exact Nat.le_trans (a7l (nX W f) env t (l - 1)) (Nat.sub_le _ _)
def fU(env:D6):Prop:=∀x∈env,x.2.valid=true
theorem GD:∀{env:D6} {p n:bi} {x:Tr},dw env p n=some x→∃y∈env,y.2=x
 |[],_,_,_,h=>by cases h
 |y::r,p,n,x,h=>by
  rw[dw]at h;split at h
  ·cases h;exact⟨y,List.mem_cons_self ..,rfl⟩
  ·obtain⟨z,h1,h2⟩:=GD h;exact⟨z,List.mem_cons_of_mem _ h1,h2⟩
theorem Ba:∀(ps:List (bi)) (vs:List Tr),(∀x∈vs,x.valid=true)→fU (dm ps vs)
 |[],_,_=>by rw[dm];intro x hx;cases hx;all_goals simp
 |n::r,[],_=>by rw[dm];intro x hx;cases hx;all_goals simp
 |n::r,x::s,h=>by
  rw[dm];intro y hy;rcases List.mem_cons.1 hy with rfl | hy
  ·exact h x (List.mem_cons_self ..)
  ·exact Ba r s (fun z hz=>h z (List.mem_cons_of_mem _ hz)) y hy
theorem a7m{i:Nat}{vs:List Tr}{x:Tr}(h:kR i vs=.ok x):x.valid=true:=by
 unfold kR at h;split at h
 ·rename_i y hy;cases h;unfold Tr.kept' at hy;split at hy
  ·rename_i hv;cases hy;exact hv
  ·cases hy
 ·cases h
inductive Wd:Te→Prop
 |var (p n:bi):Wd ⟨1,p,n,U0,[]⟩
 |V8 (t:Tr) (h:t.valid=true):Wd (Te.V8 t.ob)
 |ap (n:bi) (l:List Te) (ha:eY H8 n=some l.length) (hl:l.length≤8) (h:∀x∈l,Wd x):Wd (Te.ap n l)
end Go.Proofs.YtdkehabacmlegaaGreatDoor
namespace Go.Proofs.YtdkehabacmlegaaGreatDoor
open Go.Proofs.Tryz
open Go.RowKit
theorem ZY:∀x∈tT,P7 ⟨x.1,x.2⟩=true:=by decide +kernel
theorem a4V(n:Int):P7 ⟨(aY n).1,(aY n).2⟩=true:=by
 have hlt:(n % 13).toNat < tT.length:=by show (n % 13).toNat < 13;omega
 unfold aY;rw[List.getD_eq_getElem?_getD,List.getElem?_eq_getElem hlt];exact ZY _ (List.getElem_mem hlt)
theorem Nr:∀{l:List Tr},(∀t∈l,t.good=true)→(Tr.list l).good=true
 |[],_=>Tr.iG Tr.nG
 |a::r,h=>by
  show (a.good && (Tr.list r).good)=true;rw[h a (List.mem_cons_self ..),Nr fun t ht=>h t (List.mem_cons_of_mem _ ht)];rfl
theorem YY:jq.good=true:=Tr.sN.2 (Rb.mono (qi O) O)
theorem Ns{l:List Tr}(h:∀t∈l,t.good=true)(i:Nat):(l.getD i jq).good=true:=by
 rw[List.getD_eq_getElem?_getD];rcases Nat.lt_or_ge i l.length with h1 | h1
 ·rw[List.getElem?_eq_getElem h1];exact h _ (List.getElem_mem h1)
 ·rw[List.getElem?_eq_none h1];exact YY
theorem a2t(r:Raw):Fit r→(U3 r).good=true:=by
 induction r using Raw.ind with
 |step r ih =>
  intro h;have hl:∀t∈r.l.map U3,t.good=true:=by
   intro t ht;obtain⟨x,hx,rfl⟩:=List.mem_map.1 ht;exact ih x hx (h.kids hx)
  rw[Bf];unfold mkK;split
  ·exact Tr.sN.2 ((qi J).mono O)
  ·split
   ·exact Tr.sN.2 ((NM J (by have:=h.s;omega)).mono O)
   ·split
    ·exact a4V r.n
    ·split
     ·have:=h.s;exact decide_eq_true (by omega:r.s.length≤200)
     ·split
      ·show (((r.l.map U3).getD 0 jq).good && ((r.l.map U3).getD 1 jq).good)=true;rw[Ns hl 0,Ns hl 1];rfl
      ·exact Nr hl
def gY(r:Raw):Prop:=Fit r∧r.size≤700
theorem gY.kids{r x:Raw}(h:gY r)(hx:x∈r.l):gY x:=⟨h.1.kids hx,by have:=Raw.tK hx;have:=h.2;omega⟩
theorem QK{r:Raw}(h:gY r):(U3 r).valid=true:=Tr.lg.2 ⟨by have:=a0E r;have:=h.2;omega,a2t r h.1⟩
theorem ZZ{r:Raw}{m:Int}(h0:0≤m)(h1:m≤700)(h:gX r m=true):gY r:=⟨a1p h0 J h,by have:=ZR h0 J h;omega⟩
theorem Bb{n:Int}(h:n.natAbs < 10 ^ 4):(Tr.num (n:Rat)).valid=true:=Tr.lg.2 ⟨by show 1≤3000;omega,Tr.sN.2 ((qi h).mono O)⟩
end Go.Proofs.YtdkehabacmlegaaGreatDoor
namespace Go.Proofs.YtdkehabacmlegaaGreatDoor
open Go.Proofs.Tryz
open Go.RowKit
open Te
def Ju(o:Ob):Bool:=decide (o=M5) || decide (o=tO) || decide (o=(Tr.num 0).ob) || decide (o=(Tr.num 1).ob) || decide (o=(Tr.num (-1)).ob)
theorem a4W{o:Ob}(h:Ju o=true):∃t:Tr,t.ob=o∧t.valid=true:=by
 unfold Ju at h;simp only[Bool.or_eq_true,decide_eq_true_eq]at h;rcases h with (((rfl | rfl) | rfl) | rfl) | rfl
 ·exact⟨Tr.sym o6 R4,rfl,by decide +kernel⟩
 ·exact⟨Tr.sym o6 [116],rfl,by decide +kernel⟩
 ·exact⟨_,rfl,Bb (n:=0) O⟩
 ·exact⟨_,rfl,Bb (n:=1) O⟩
 ·exact⟨_,rfl,Bb (n:=-1) O⟩
mutual
def Cz:Te→Bool
 |⟨k,p,n,o,l⟩=>if k=1 then decide (o=U0) && l.isEmpty
  else if k=2 then p.isEmpty && (n.isEmpty && (l.isEmpty && Ju o))
  else decide (k=3) && (decide (p=o6) && (decide (o=U0) && (decide (eY H8 n=some l.length) && (decide (l.length≤8) && CB l))))
def CB:List Te→Bool
 |[]=>true
 |x::r=>Cz x && CB r
end
mutual
theorem QL:∀t:Te,Cz t=true→Wd t
 |⟨k,p,n,o,l⟩,h=>by
  rw[Cz]at h;split at h
  ·rename_i hk;subst hk;simp only[Bool.and_eq_true,decide_eq_true_eq,List.isEmpty_iff]at h;obtain⟨rfl,rfl⟩:=h;exact .var p n
  ·split at h
   ·rename_i hk;subst hk;simp only[Bool.and_eq_true,List.isEmpty_iff]at h;obtain⟨rfl,rfl,rfl,h⟩:=h;obtain⟨t,rfl,hv⟩:=a4W h;exact .V8 t hv
   ·simp only[Bool.and_eq_true,decide_eq_true_eq]at h;obtain⟨rfl,rfl,rfl,h1,h2,h3⟩:=h;exact .ap n l h1 h2 (QM l h3)
theorem QM:∀l:List Te,CB l=true→∀x∈l,Wd x
 |[],_=>fun x hx=>by cases hx
 |y::r,h=>by
  rw[CB,Bool.and_eq_true]at h;have h1:=QL y h.1;have h2:=QM r h.2;intro x hx;rcases List.mem_cons.1 hx with e | hx
  ·rw[e];exact h1
  ·exact h2 x hx
end
theorem a0a:(H8.all fun f=>Cz f.body && decide (f.ps.length≤8))=true:=by decide +kernel
theorem GG{f:o8.E8}(h:f∈H8):Wd f.body∧f.ps.length≤8:=by
 have:=List.all_eq_true.1 a0a f h;rw[Bool.and_eq_true]at this;exact⟨QL _ this.1,of_decide_eq_true this.2⟩
theorem a2u:(I5.all fun x=>(H8.find? fun f=>f.nm == x.1).isNone)=true:=by decide +kernel
theorem a4X{x:bi×Nat}(h:x∈I5):(H8.find? fun f=>f.nm == x.1)=none:=by
 have:=List.all_eq_true.1 a2u x h;simpa using this
theorem Mv{n:bi}{k:Nat}(h:eY H8 n=some k):(∃i,I5[i]?=some (n,k)∧mW I5 0 n=some (i,k)∧(H8.find? fun f=>f.nm == n)=none)∨(∃f,f∈H8∧(H8.find? fun f=>f.nm == n)=some f∧f.ps.length=k∧mW I5 0 n=none∧∀x∈I5,n≠x.1):=by
 cases hp:mW I5 0 n with
 |some q =>
  obtain⟨i,a⟩:=q;obtain⟨_,h2⟩:=OT hp;rw[Nat.sub_zero]at h2;have hm:=List.mem_of_getElem? h2;have hno:=a4X hm;have ha:eY H8 n=some a:=by
   have hall:(I5.all fun x=>decide (eY H8 x.1=some x.2))=true:=by decide +kernel
   exact of_decide_eq_true (List.all_eq_true.1 hall _ hm)
  rw[ha]at h;cases h;exact .inl ⟨i,h2,rfl,hno⟩
 |none =>
  have hne:=OU hp;have hpr:o8.uL I5 n=none:=by
   cases hq:o8.uL I5 n with
   |none=>rfl
   |some k' =>
    exfalso
    unfold o8.uL at hq;rw[Option.map_eq_some_iff]at hq;obtain⟨x,hx,_⟩:=hq;have h1:=List.find?_some hx;have h2:=List.mem_of_find?_eq_some hx;exact hne x h2 (by simpa using h1:x.1=n).symm
  unfold eY at h;rw[hpr]at h;dsimp only at h;rw[Option.map_eq_some_iff]at h;obtain⟨f,hf,hk⟩:=h;exact .inr ⟨f,List.mem_of_find?_eq_some hf,hf,hk,rfl,hne⟩
end Go.Proofs.YtdkehabacmlegaaGreatDoor
