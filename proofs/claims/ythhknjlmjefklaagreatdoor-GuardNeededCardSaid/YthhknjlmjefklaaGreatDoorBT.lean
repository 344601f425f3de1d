/- Guard of both texts, on trees. -/
import Derived.Test.YthhknjlmjefklaaGreatDoorBR
import Derived.MapKept
import Derived.Test.YthhknjlmjefklaaGreatDoorBS
namespace Go.Proofs.YthhknjlmjefklaaGreatDoor
open Go.Proofs.Tryz
open Go.RowKit
def Aj(k:ByteArray):List Value→Option (Option Nat)
 |[]=>some none
 |.string s::t=>if k == s then some (some 0) else (Aj k t).map (·.map (·+1))
 |_=>none
theorem NV{k:ByteArray}:∀(keys:List Value) (es:List MapEntry) (i:Nat) (r:Option Nat),es.map (·.key)=keys→Aj k keys=some r→Instr.findNow .string (.string k) es i=some (r.bind fun j=>(es[j]?).map fun e=>(i+j,e.val))
 |[],[],i,r,_,h=>by cases h;rfl
 |[],_::_,_,_,h,_=>by cases h
 |_::_,[],_,_,h,_=>by cases h
 |v::t,e::es,i,r,he,h=>by
  simp only[ZaC,List.cons.injEq]at he;obtain⟨he,ht⟩:=he;subst he;unfold Instr.findNow;cases hk:e.key with
  |string s =>
   rw[hk]at h;unfold Aj at h;show (match some (k == s) with | some true=>_ | some false=>_ | none=>_)=_;cases hs:k == s with
   |true =>
    rw[hs,Za0 rfl]at h;cases h;rfl
   |false =>
    rw[hs,lw O]at h;cases hr:Aj k t with
    |none=>rw[hr]at h;cases h
    |some r' =>
     rw[hr]at h;cases h;have:=NV t es (i+1) r' ht hr;show Instr.findNow .string (.string k) es (i+1)=_;rw[this];cases r' with
     |none=>rfl
     |some j =>
      show some ((es[j]?).map fun e=>(i+1+j,e.val))=some ((es[j]?).map fun e=>(i+(j+1),e.val));rw[show i+1+j=i+(j+1) by omega]
  |_=>rw[hk]at h;cases h
theorem dN{P:Program}{kt:TypeId}(hu:P.underlying kt=some .string){k:ByteArray}{keys:List Value}{r:Option Nat}(h:Aj k keys=some r):nY P kt (.string k) keys r:=fun es w he=>by
 have h1:=MapKept.run_checkKey (P:=P) (w:=w) (k:=.string k) hu trivial es.isEmpty 9999;have h2:=MapKept.run_findKey (w:=w) hu (NV keys es 0 r he h);simp only[Za8,h1,Result.andThen];rw[h2];cases r with
 |none=>rfl
 |some j=>simp
theorem iV{P:Program}{kt:TypeId}(hu:P.underlying kt=some .string){k:ByteArray}{keys:List Value}(h:Aj k keys=some none):eY P kt (.string k) keys:=fun es w he=>by
 have h1:=MapKept.run_checkKey (P:=P) (w:=w) (k:=.string k) hu trivial false 9999;have h2:=MapKept.run_findKey (w:=w) hu (NV keys es 0 none he h);simp only[Za8,h1,Result.andThen];exact h2
def Tr.gd:Nat→Tr→Tr→Bool
 |3,x,_=>x.isC || decide (x=o8)
 |4,x,_=>x.isC || decide (x=o8)
 |10,x,y=>x.J9 && y.J9
 |11,x,y=>x.J9 && y.J9
 |12,x,_=>x.J9
 |13,x,_=>x.J9 && !decide (x.ob.num=[48])
 |14,x,y=>x.J9 && y.J9
 |15,x,_=>x.J9
 |16,x,_=>x.J9
 |17,x,_=>x.J9
 |18,x,_=>x.dE
 |19,x,_=>x.dE
 |20,x,y=>x.O9 && y.O9
 |21,x,y=>x.O9 && y.O9
 |22,x,_=>x.O9
 |23,x,y=>(x.eG y).isSome
 |24,x,_=>x.dJ.isSome
 |_,_,_=>true
theorem oJ(x:Tr):l7 158 [o9 x] (o6 x.J9):=pV [.av (o6 x.J9)] [Bk .eql 3 4 1 x.ob.kind (Value.bool x.J9)] func158 ⟨F6 (RH x),Z⟩
theorem a2R(x:Tr):l7 159 [o9 x] (o6 x.dE):=pV [.av (o6 x.dE)] [Bk .eql 3 4 2 x.ob.kind (Value.bool x.dE)] func159 ⟨F6 (RG x),Z⟩
theorem ES(x:Tr):l7 160 [o9 x] (o6 x.O9):=pV [.av (o6 x.O9)] [Bk .eql 3 4 3 x.ob.kind (Value.bool x.O9)] func160 ⟨F6 (iG x),Z⟩
theorem a2S(x:Tr):l7 161 [o9 x] (o6 (x.isC || decide (x=o8))):=by
 cases hC:x.isC with
 |true=>exact pV [yT] [Bk .eql 3 4 4 x.ob.kind bT] func161 ⟨F6 ((JF x).trans hC),Z⟩
 |false=>exact pV [yF,.av (o6 (decide (x=o8)))] [Bk .eql 3 4 4 x.ob.kind bF,l7 119 [(x9 x.ob)] (o6 (decide (x=o8)))] func161 ⟨F6 ((JF x).trans hC),yX x,Z⟩
theorem b8P(x:Tr):l7 162 [o9 x,.pin [.ak 158 []]] (o6 (x.J9 && !decide (x.ob.num=[48]))):=by
 have h1:=oJ x;cases hN:x.J9 with
 |true =>
  rw[hN]at h1;exact pV [yT,.av (o6 (!decide (x.ob.num=[48])))] [_,Bl .neq 9 9 [48] x.ob.num (Value.bool (!decide (x.ob.num=[48])))] func162 ⟨h1,OT (by rw[Bool.not_not]),Z⟩
 |false =>
  rw[hN]at h1;exact pV [yF] [_] func162 ⟨h1,Z⟩
theorem b8Q{x:Tr}{k:Nat}(hx:x.Ok k)(hk:k≤100000):l7 163 [o9 x] (o6 x.dJ.isSome):=pV [.av (.o7 [.dt (.val (.int .u8 (IntKind.u8.wrap (ae x.ob.num).1))),o6 (x.dJ).isSome])] [l7 164 [(x9 x.ob)] (.o7 [(.dt (.val (Value.int .u8 (IntKind.u8.wrap (ae x.ob.num).fst)))),(o6 x.dJ.isSome)])] func163 ⟨Zi hx hk,Z⟩
theorem fM{f:FuncId}{caps:List AV}{x:Tr}{b:Bool}(h:l7 f (o9 x::caps) (o6 b)):l7 166 [o9 x,.pin [.ak f caps]] (o6 (!b)):=pV [.av (o6 b)] [_] func166 ⟨h,Z⟩
theorem oh{f:FuncId}{caps:List AV}{x:Tr}{b:Bool}(h:l7 f (o9 x::caps) (o6 b)):l7 165 [rowA [x],.ak f caps] (o6 b):=by
 cases b with
 |true =>
  have h1:l7 205 [rowA [x],.ak f caps] (inA 0):=pV [.no,.no,.no,yT] [_] func205 ⟨h,Z⟩;exact pV [.av (inA 0),.no] [_] func165 ⟨h1,Z⟩
 |false =>
  have h1:l7 205 [rowA [x],.ak f caps] (inA (-1)):=pV [.no,.no,.no,yF,.no,.no] [_] func205 ⟨h,Z⟩;exact pV [.av (inA (-1)),.no] [_] func165 ⟨h1,Z⟩
theorem Ei{f:FuncId}{caps:List AV}{x y:Tr}{a b:Bool}(ha:l7 f (o9 x::caps) (o6 a))(hb:l7 f (o9 y::caps) (o6 b)):l7 165 [rowA [x,y],.ak f caps] (o6 (a || b)):=by
 cases a with
 |true =>
  have h1:l7 205 [rowA [x,y],.ak f caps] (inA 0):=pV [.no,.no,.no,yT] [_] func205 ⟨ha,Z⟩;exact pV [.av (inA 0),.no] [_] func165 ⟨h1,Z⟩
 |false =>
  cases b with
  |true =>
   have h1:l7 205 [rowA [x,y],.ak f caps] (inA 1):=pV [.no,.no,.no,yF,.no,.no,.no,yT] [_,_] func205 ⟨ha,hb,Z⟩;exact pV [.av (inA 1),.no] [_] func165 ⟨h1,Z⟩
  |false =>
   have h1:l7 205 [rowA [x,y],.ak f caps] (inA (-1)):=pV [.no,.no,.no,yF,.no,.no,.no,yF,.no,.no] [_,_] func205 ⟨ha,hb,Z⟩;exact pV [.av (inA (-1)),.no] [_] func165 ⟨h1,Z⟩
abbrev c1Q:List Value:=[(str [99,97,114]),(str [99,100,114]),(str [98,105,110,97,114,121,45,43]),(str [98,105,110,97,114,121,45,42]),(str [117,110,97,114,121,45,45]),(str [60]),(str [110,117,109,101,114,97,116,111,114]),(str [100,101,110,111,109,105,110,97,116,111,114]),(str [102,108,111,111,114]),(str [117,110,97,114,121,45,47]),(str [115,121,109,98,111,108,45,110,97,109,101]),(str [115,121,109,98,111,108,45,112,97,99,107,97,103,101,45,110,97,109,101]),(str [105,110,116,101,114,110]),(str [115,116,114,105,110,103,45,97,112,112,101,110,100]),(str [115,116,114,105,110,103,45,108,101,110,103,116,104]),(str [98,121,116,101,45,115,116,114,105,110,103])]
abbrev mns:List Prop:=[eY prog 9 (str [99,97,114]) [],eY prog 9 (str [99,100,114]) [(str [99,97,114])],eY prog 9 (str [98,105,110,97,114,121,45,43]) [(str [99,97,114]),(str [99,100,114])],eY prog 9 (str [98,105,110,97,114,121,45,42]) [(str [99,97,114]),(str [99,100,114]),(str [98,105,110,97,114,121,45,43])],eY prog 9 (str [117,110,97,114,121,45,45]) [(str [99,97,114]),(str [99,100,114]),(str [98,105,110,97,114,121,45,43]),(str [98,105,110,97,114,121,45,42])],eY prog 9 (str [60]) [(str [99,97,114]),(str [99,100,114]),(str [98,105,110,97,114,121,45,43]),(str [98,105,110,97,114,121,45,42]),(str [117,110,97,114,121,45,45])],eY prog 9 (str [110,117,109,101,114,97,116,111,114]) [(str [99,97,114]),(str [99,100,114]),(str [98,105,110,97,114,121,45,43]),(str [98,105,110,97,114,121,45,42]),(str [117,110,97,114,121,45,45]),(str [60])],eY prog 9 (str [100,101,110,111,109,105,110,97,116,111,114]) [(str [99,97,114]),(str [99,100,114]),(str [98,105,110,97,114,121,45,43]),(str [98,105,110,97,114,121,45,42]),(str [117,110,97,114,121,45,45]),(str [60]),(str [110,117,109,101,114,97,116,111,114])],eY prog 9 (str [102,108,111,111,114]) [(str [99,97,114]),(str [99,100,114]),(str [98,105,110,97,114,121,45,43]),(str [98,105,110,97,114,121,45,42]),(str [117,110,97,114,121,45,45]),(str [60]),(str [110,117,109,101,114,97,116,111,114]),(str [100,101,110,111,109,105,110,97,116,111,114])],eY prog 9 (str [117,110,97,114,121,45,47]) [(str [99,97,114]),(str [99,100,114]),(str [98,105,110,97,114,121,45,43]),(str [98,105,110,97,114,121,45,42]),(str [117,110,97,114,121,45,45]),(str [60]),(str [110,117,109,101,114,97,116,111,114]),(str [100,101,110,111,109,105,110,97,116,111,114]),(str [102,108,111,111,114])],eY prog 9 (str [115,121,109,98,111,108,45,110,97,109,101]) [(str [99,97,114]),(str [99,100,114]),(str [98,105,110,97,114,121,45,43]),(str [98,105,110,97,114,121,45,42]),(str [117,110,97,114,121,45,45]),(str [60]),(str [110,117,109,101,114,97,116,111,114]),(str [100,101,110,111,109,105,110,97,116,111,114]),(str [102,108,111,111,114]),(str [117,110,97,114,121,45,47])],eY prog 9 (str [115,121,109,98,111,108,45,112,97,99,107,97,103,101,45,110,97,109,101]) [(str [99,97,114]),(str [99,100,114]),(str [98,105,110,97,114,121,45,43]),(str [98,105,110,97,114,121,45,42]),(str [117,110,97,114,121,45,45]),(str [60]),(str [110,117,109,101,114,97,116,111,114]),(str [100,101,110,111,109,105,110,97,116,111,114]),(str [102,108,111,111,114]),(str [117,110,97,114,121,45,47]),(str [115,121,109,98,111,108,45,110,97,109,101])],eY prog 9 (str [105,110,116,101,114,110]) [(str [99,97,114]),(str [99,100,114]),(str [98,105,110,97,114,121,45,43]),(str [98,105,110,97,114,121,45,42]),(str [117,110,97,114,121,45,45]),(str [60]),(str [110,117,109,101,114,97,116,111,114]),(str [100,101,110,111,109,105,110,97,116,111,114]),(str [102,108,111,111,114]),(str [117,110,97,114,121,45,47]),(str [115,121,109,98,111,108,45,110,97,109,101]),(str [115,121,109,98,111,108,45,112,97,99,107,97,103,101,45,110,97,109,101])],eY prog 9 (str [115,116,114,105,110,103,45,97,112,112,101,110,100]) [(str [99,97,114]),(str [99,100,114]),(str [98,105,110,97,114,121,45,43]),(str [98,105,110,97,114,121,45,42]),(str [117,110,97,114,121,45,45]),(str [60]),(str [110,117,109,101,114,97,116,111,114]),(str [100,101,110,111,109,105,110,97,116,111,114]),(str [102,108,111,111,114]),(str [117,110,97,114,121,45,47]),(str [115,121,109,98,111,108,45,110,97,109,101]),(str [115,121,109,98,111,108,45,112,97,99,107,97,103,101,45,110,97,109,101]),(str [105,110,116,101,114,110])],eY prog 9 (str [115,116,114,105,110,103,45,108,101,110,103,116,104]) [(str [99,97,114]),(str [99,100,114]),(str [98,105,110,97,114,121,45,43]),(str [98,105,110,97,114,121,45,42]),(str [117,110,97,114,121,45,45]),(str [60]),(str [110,117,109,101,114,97,116,111,114]),(str [100,101,110,111,109,105,110,97,116,111,114]),(str [102,108,111,111,114]),(str [117,110,97,114,121,45,47]),(str [115,121,109,98,111,108,45,110,97,109,101]),(str [115,121,109,98,111,108,45,112,97,99,107,97,103,101,45,110,97,109,101]),(str [105,110,116,101,114,110]),(str [115,116,114,105,110,103,45,97,112,112,101,110,100])],eY prog 9 (str [98,121,116,101,45,115,116,114,105,110,103]) [(str [99,97,114]),(str [99,100,114]),(str [98,105,110,97,114,121,45,43]),(str [98,105,110,97,114,121,45,42]),(str [117,110,97,114,121,45,45]),(str [60]),(str [110,117,109,101,114,97,116,111,114]),(str [100,101,110,111,109,105,110,97,116,111,114]),(str [102,108,111,111,114]),(str [117,110,97,114,121,45,47]),(str [115,121,109,98,111,108,45,110,97,109,101]),(str [115,121,109,98,111,108,45,112,97,99,107,97,103,101,45,110,97,109,101]),(str [105,110,116,101,114,110]),(str [115,116,114,105,110,103,45,97,112,112,101,110,100]),(str [115,116,114,105,110,103,45,108,101,110,103,116,104])]]
theorem I5.app:∀{a b:List Prop},I5 a→I5 b→I5 (a++b)
 |[],_,_,h=>h
 |_::_,_,⟨h,t⟩,h'=>⟨h,I5.app t h'⟩
theorem dR:I5 mns:=⟨iV Tryz.underlying9 (by kernel_rfl),iV Tryz.underlying9 (by kernel_rfl),iV Tryz.underlying9 (by kernel_rfl),iV Tryz.underlying9 (by kernel_rfl),iV Tryz.underlying9 (by kernel_rfl),iV Tryz.underlying9 (by kernel_rfl),iV Tryz.underlying9 (by kernel_rfl),iV Tryz.underlying9 (by kernel_rfl),iV Tryz.underlying9 (by kernel_rfl),iV Tryz.underlying9 (by kernel_rfl),iV Tryz.underlying9 (by kernel_rfl),iV Tryz.underlying9 (by kernel_rfl),iV Tryz.underlying9 (by kernel_rfl),iV Tryz.underlying9 (by kernel_rfl),iV Tryz.underlying9 (by kernel_rfl),iV Tryz.underlying9 (by kernel_rfl),Z⟩
abbrev gM(k:List UInt8)(o:Option Nat)(l:List Prop):List Prop:=mns++nY prog 9 (str k) c1Q o::l
theorem gO{k:List UInt8}{o:Option Nat}{l:List Prop}(t:I5 l)(h:Aj ⟨k.toArray⟩ c1Q=some o:=by kernel_rfl):I5 (gM k o l):=I5.app dR ⟨dN Tryz.underlying9 h,t⟩
theorem b39{x:Tr}(_hx:Arg x){y:Tr}(_hy:Arg y){z:Tr}(_hz:Arg z):l7 120 [y7 x8 [105,102],rowA [x,y,z]] (o6 (Tr.gd 0 x y)):=pV (.av (.o7 [inA 3,o6 true])::nK 4 []) (_::gM [105,102] none []) func120 ⟨IX,gO Z⟩
theorem b4a{x:Tr}(_hx:Arg x){y:Tr}(_hy:Arg y):l7 120 [y7 x8 [101,113,117,97,108],rowA [x,y]] (o6 (Tr.gd 1 x y)):=pV (.av (.o7 [inA 2,o6 true])::nK 4 []) (_::gM [101,113,117,97,108] none []) func120 ⟨QA,gO Z⟩
theorem b4b{x:Tr}(_hx:Arg x){y:Tr}(_hy:Arg y):l7 120 [y7 x8 [99,111,110,115],rowA [x,y]] (o6 (Tr.gd 2 x y)):=pV (.av (.o7 [inA 2,o6 true])::nK 4 []) (_::gM [99,111,110,115] none []) func120 ⟨IY,gO Z⟩
theorem QL{x:Tr}(_hx:Arg x):l7 120 [y7 x8 [99,97,114],rowA [x]] (o6 (Tr.gd 3 x o8)):=by
 have h:l7 120 [y7 x8 [99,97,114],rowA [x]] (o6 (!(!(x.isC || decide (x=o8))))):=pV [.av (.o7 [inA 1,o6 true]),.no,.no,.no,.av (inA 0),.av (o6 (!(x.isC || decide (x=o8))))] (_::gM [99,97,114] (some 0) [_]) func120 ⟨QB,gO ⟨oh (fM (a2S x)),Z⟩⟩;exact h.b (by
  show (!(!(x.isC || decide (x=o8))))=((x.isC || decide (x=o8)));simp)
theorem b4c{x:Tr}(_hx:Arg x):l7 120 [y7 x8 [99,100,114],rowA [x]] (o6 (Tr.gd 4 x o8)):=by
 have h:l7 120 [y7 x8 [99,100,114],rowA [x]] (o6 (!(!(x.isC || decide (x=o8))))):=pV [.av (.o7 [inA 1,o6 true]),.no,.no,.no,.av (inA 1),.av (o6 (!(x.isC || decide (x=o8))))] (_::gM [99,100,114] (some 1) [_]) func120 ⟨QC,gO ⟨oh (fM (a2S x)),Z⟩⟩;exact h.b (by
  show (!(!(x.isC || decide (x=o8))))=((x.isC || decide (x=o8)));simp)
theorem b4d{x:Tr}(_hx:Arg x):l7 120 [y7 x8 [99,111,110,115,112],rowA [x]] (o6 (Tr.gd 5 x o8)):=pV (.av (.o7 [inA 1,o6 true])::nK 4 []) (_::gM [99,111,110,115,112] none []) func120 ⟨QD,gO Z⟩
theorem b4e{x:Tr}(_hx:Arg x):l7 120 [y7 x8 [115,121,109,98,111,108,112],rowA [x]] (o6 (Tr.gd 6 x o8)):=pV (.av (.o7 [inA 1,o6 true])::nK 4 []) (_::gM [115,121,109,98,111,108,112] none []) func120 ⟨QE,gO Z⟩
theorem b4f{x:Tr}(_hx:Arg x):l7 120 [y7 x8 [115,116,114,105,110,103,112],rowA [x]] (o6 (Tr.gd 7 x o8)):=pV (.av (.o7 [inA 1,o6 true])::nK 4 []) (_::gM [115,116,114,105,110,103,112] none []) func120 ⟨QF,gO Z⟩
theorem b4g{x:Tr}(_hx:Arg x):l7 120 [y7 x8 [114,97,116,105,111,110,97,108,112],rowA [x]] (o6 (Tr.gd 8 x o8)):=pV (.av (.o7 [inA 1,o6 true])::nK 4 []) (_::gM [114,97,116,105,111,110,97,108,112] none []) func120 ⟨QG,gO Z⟩
theorem b4h{x:Tr}(_hx:Arg x):l7 120 [y7 x8 [105,110,116,101,103,101,114,112],rowA [x]] (o6 (Tr.gd 9 x o8)):=pV (.av (.o7 [inA 1,o6 true])::nK 4 []) (_::gM [105,110,116,101,103,101,114,112] none []) func120 ⟨QH,gO Z⟩
theorem b1S{x:Tr}(_hx:Arg x){y:Tr}(_hy:Arg y):l7 120 [y7 x8 [98,105,110,97,114,121,45,43],rowA [x,y]] (o6 (Tr.gd 10 x y)):=by
 have h:l7 120 [y7 x8 [98,105,110,97,114,121,45,43],rowA [x,y]] (o6 (!(!x.J9 || !y.J9))):=pV [.av (.o7 [inA 2,o6 true]),.no,.no,.no,.av (inA 2),.av (o6 (!x.J9 || !y.J9))] (_::gM [98,105,110,97,114,121,45,43] (some 2) [_]) func120 ⟨Iq,gO ⟨Ei (fM (oJ x)) (fM (oJ y)),Z⟩⟩;exact h.b (by
  show (!(!x.J9 || !y.J9))=(x.J9 && y.J9);simp)
theorem b1T{x:Tr}(_hx:Arg x){y:Tr}(_hy:Arg y):l7 120 [y7 x8 [98,105,110,97,114,121,45,42],rowA [x,y]] (o6 (Tr.gd 11 x y)):=by
 have h:l7 120 [y7 x8 [98,105,110,97,114,121,45,42],rowA [x,y]] (o6 (!(!x.J9 || !y.J9))):=pV [.av (.o7 [inA 2,o6 true]),.no,.no,.no,.av (inA 3),.av (o6 (!x.J9 || !y.J9))] (_::gM [98,105,110,97,114,121,45,42] (some 3) [_]) func120 ⟨Ir,gO ⟨Ei (fM (oJ x)) (fM (oJ y)),Z⟩⟩;exact h.b (by
  show (!(!x.J9 || !y.J9))=(x.J9 && y.J9);simp)
theorem b1U{x:Tr}(_hx:Arg x):l7 120 [y7 x8 [117,110,97,114,121,45,45],rowA [x]] (o6 (Tr.gd 12 x o8)):=by
 have h:l7 120 [y7 x8 [117,110,97,114,121,45,45],rowA [x]] (o6 (!(!x.J9))):=pV [.av (.o7 [inA 1,o6 true]),.no,.no,.no,.av (inA 4),.av (o6 (!x.J9))] (_::gM [117,110,97,114,121,45,45] (some 4) [_]) func120 ⟨PG,gO ⟨oh (fM (oJ x)),Z⟩⟩;exact h.b (by
  show (!(!x.J9))=(x.J9);simp)
theorem b1V{x:Tr}(_hx:Arg x):l7 120 [y7 x8 [117,110,97,114,121,45,47],rowA [x]] (o6 (Tr.gd 13 x o8)):=by
 have h:l7 120 [y7 x8 [117,110,97,114,121,45,47],rowA [x]] (o6 (!(!(x.J9 && !decide (x.ob.num=[48]))))):=pV [.av (.o7 [inA 1,o6 true]),.no,.no,.no,.av (inA 9),.av (o6 (!(x.J9 && !decide (x.ob.num=[48]))))] (_::gM [117,110,97,114,121,45,47] (some 9) [_]) func120 ⟨PH,gO ⟨oh (fM (b8P x)),Z⟩⟩;exact h.b (by
  show (!(!(x.J9 && !decide (x.ob.num=[48]))))=((x.J9 && !decide (x.ob.num=[48])));simp)
theorem b1W{x:Tr}(_hx:Arg x){y:Tr}(_hy:Arg y):l7 120 [y7 x8 [60],rowA [x,y]] (o6 (Tr.gd 14 x y)):=by
 have h:l7 120 [y7 x8 [60],rowA [x,y]] (o6 (!(!x.J9 || !y.J9))):=pV [.av (.o7 [inA 2,o6 true]),.no,.no,.no,.av (inA 5),.av (o6 (!x.J9 || !y.J9))] (_::gM [60] (some 5) [_]) func120 ⟨PI,gO ⟨Ei (fM (oJ x)) (fM (oJ y)),Z⟩⟩;exact h.b (by
  show (!(!x.J9 || !y.J9))=(x.J9 && y.J9);simp)
theorem b1X{x:Tr}(_hx:Arg x):l7 120 [y7 x8 [110,117,109,101,114,97,116,111,114],rowA [x]] (o6 (Tr.gd 15 x o8)):=by
 have h:l7 120 [y7 x8 [110,117,109,101,114,97,116,111,114],rowA [x]] (o6 (!(!x.J9))):=pV [.av (.o7 [inA 1,o6 true]),.no,.no,.no,.av (inA 6),.av (o6 (!x.J9))] (_::gM [110,117,109,101,114,97,116,111,114] (some 6) [_]) func120 ⟨PK,gO ⟨oh (fM (oJ x)),Z⟩⟩;exact h.b (by
  show (!(!x.J9))=(x.J9);simp)
theorem b1Y{x:Tr}(_hx:Arg x):l7 120 [y7 x8 [100,101,110,111,109,105,110,97,116,111,114],rowA [x]] (o6 (Tr.gd 16 x o8)):=by
 have h:l7 120 [y7 x8 [100,101,110,111,109,105,110,97,116,111,114],rowA [x]] (o6 (!(!x.J9))):=pV [.av (.o7 [inA 1,o6 true]),.no,.no,.no,.av (inA 7),.av (o6 (!x.J9))] (_::gM [100,101,110,111,109,105,110,97,116,111,114] (some 7) [_]) func120 ⟨PL,gO ⟨oh (fM (oJ x)),Z⟩⟩;exact h.b (by
  show (!(!x.J9))=(x.J9);simp)
theorem b1Z{x:Tr}(_hx:Arg x):l7 120 [y7 x8 [102,108,111,111,114],rowA [x]] (o6 (Tr.gd 17 x o8)):=by
 have h:l7 120 [y7 x8 [102,108,111,111,114],rowA [x]] (o6 (!(!x.J9))):=pV [.av (.o7 [inA 1,o6 true]),.no,.no,.no,.av (inA 8),.av (o6 (!x.J9))] (_::gM [102,108,111,111,114] (some 8) [_]) func120 ⟨PM,gO ⟨oh (fM (oJ x)),Z⟩⟩;exact h.b (by
  show (!(!x.J9))=(x.J9);simp)
theorem b2a{x:Tr}(_hx:Arg x):l7 120 [y7 x8 [115,121,109,98,111,108,45,110,97,109,101],rowA [x]] (o6 (Tr.gd 18 x o8)):=by
 have h:l7 120 [y7 x8 [115,121,109,98,111,108,45,110,97,109,101],rowA [x]] (o6 (!(!x.dE))):=pV [.av (.o7 [inA 1,o6 true]),.no,.no,.no,.av (inA 10),.av (o6 (!x.dE))] (_::gM [115,121,109,98,111,108,45,110,97,109,101] (some 10) [_]) func120 ⟨PN,gO ⟨oh (fM (a2R x)),Z⟩⟩;exact h.b (by
  show (!(!x.dE))=(x.dE);simp)
theorem b2b{x:Tr}(_hx:Arg x):l7 120 [y7 x8 [115,121,109,98,111,108,45,112,97,99,107,97,103,101,45,110,97,109,101],rowA [x]] (o6 (Tr.gd 19 x o8)):=by
 have h:l7 120 [y7 x8 [115,121,109,98,111,108,45,112,97,99,107,97,103,101,45,110,97,109,101],rowA [x]] (o6 (!(!x.dE))):=pV [.av (.o7 [inA 1,o6 true]),.no,.no,.no,.av (inA 11),.av (o6 (!x.dE))] (_::gM [115,121,109,98,111,108,45,112,97,99,107,97,103,101,45,110,97,109,101] (some 11) [_]) func120 ⟨PO,gO ⟨oh (fM (a2R x)),Z⟩⟩;exact h.b (by
  show (!(!x.dE))=(x.dE);simp)
theorem b2c{x:Tr}(_hx:Arg x){y:Tr}(_hy:Arg y):l7 120 [y7 x8 [105,110,116,101,114,110],rowA [x,y]] (o6 (Tr.gd 20 x y)):=by
 have h:l7 120 [y7 x8 [105,110,116,101,114,110],rowA [x,y]] (o6 (!(!x.O9 || !y.O9))):=pV [.av (.o7 [inA 2,o6 true]),.no,.no,.no,.av (inA 12),.av (o6 (!x.O9 || !y.O9))] (_::gM [105,110,116,101,114,110] (some 12) [_]) func120 ⟨PQ,gO ⟨Ei (fM (ES x)) (fM (ES y)),Z⟩⟩;exact h.b (by
  show (!(!x.O9 || !y.O9))=(x.O9 && y.O9);simp)
theorem b2d{x:Tr}(_hx:Arg x){y:Tr}(_hy:Arg y):l7 120 [y7 x8 [115,116,114,105,110,103,45,97,112,112,101,110,100],rowA [x,y]] (o6 (Tr.gd 21 x y)):=by
 have h:l7 120 [y7 x8 [115,116,114,105,110,103,45,97,112,112,101,110,100],rowA [x,y]] (o6 (!(!x.O9 || !y.O9))):=pV [.av (.o7 [inA 2,o6 true]),.no,.no,.no,.av (inA 13),.av (o6 (!x.O9 || !y.O9))] (_::gM [115,116,114,105,110,103,45,97,112,112,101,110,100] (some 13) [_]) func120 ⟨Iu,gO ⟨Ei (fM (ES x)) (fM (ES y)),Z⟩⟩;exact h.b (by
  show (!(!x.O9 || !y.O9))=(x.O9 && y.O9);simp)
theorem b2e{x:Tr}(_hx:Arg x):l7 120 [y7 x8 [115,116,114,105,110,103,45,108,101,110,103,116,104],rowA [x]] (o6 (Tr.gd 22 x o8)):=by
 have h:l7 120 [y7 x8 [115,116,114,105,110,103,45,108,101,110,103,116,104],rowA [x]] (o6 (!(!x.O9))):=pV [.av (.o7 [inA 1,o6 true]),.no,.no,.no,.av (inA 14),.av (o6 (!x.O9))] (_::gM [115,116,114,105,110,103,45,108,101,110,103,116,104] (some 14) [_]) func120 ⟨PR,gO ⟨oh (fM (ES x)),Z⟩⟩;exact h.b (by
  show (!(!x.O9))=(x.O9);simp)
theorem b2f{x:Tr}(_hx:Arg x){y:Tr}(hy:Arg y):l7 120 [y7 x8 [115,116,114,105,110,103,45,98,121,116,101],rowA [x,y]] (o6 (Tr.gd 23 x y)):=pV (.av (.o7 [inA 2,o6 true])::nK 5 [.av (.o7 [inA (xJ x y),o6 (x.eG y).isSome])]) [_,l7 157 [(x9 x.ob),(x9 y.ob)] (.o7 [(inA (xJ x y)),(o6 ((x.eG y).isSome))])] func120 ⟨Iw,a1I x hy.ok O,Z⟩
theorem b2g{x:Tr}(hx:Arg x):l7 120 [y7 x8 [98,121,116,101,45,115,116,114,105,110,103],rowA [x]] (o6 (Tr.gd 24 x o8)):=by
 have h:l7 120 [y7 x8 [98,121,116,101,45,115,116,114,105,110,103],rowA [x]] (o6 (!(!x.dJ.isSome))):=pV [.av (.o7 [inA 1,o6 true]),.no,.no,.no,.av (inA 15),.av (o6 (!x.dJ.isSome))] (_::gM [98,121,116,101,45,115,116,114,105,110,103] (some 15) [_]) func120 ⟨PS,gO ⟨oh (fM (b8Q hx.ok O)),Z⟩⟩;exact h.b (by
  show (!(!x.dJ.isSome))=(x.dJ.isSome);simp)
end Go.Proofs.YthhknjlmjefklaaGreatDoor
namespace Go.Proofs.YthhknjlmjefklaaGreatDoor
open Go.Proofs.Tryz
open Go.RowKit
open Te
abbrev V6:aa0:=[114,97,116,105,111,110,97,108,112]
abbrev mQ:aa0:=[115,121,109,98,111,108,112]
abbrev di:aa0:=[115,116,114,105,110,103,112]
abbrev lG:aa0:=[105,110,116,101,103,101,114,112]
abbrev aV:aa0:=[60]
abbrev lH:aa0:=[115,116,114,105,110,103,45,108,101,110,103,116,104]
abbrev kT(k:Int):Te:=G9 (Tr.num (k:Rat)).ob
abbrev oK(x:Te):Te:=ap Q7 [ap kY [x],G8,ap eH [x,noT]]
def cnd:Nat→List Te→List Te
 |3,l=>[oK (l.getD 0 N9)]
 |4,l=>[oK (l.getD 0 N9)]
 |10,l=>l.map fun x=>ap V6 [x]
 |11,l=>l.map fun x=>ap V6 [x]
 |12,l=>l.map fun x=>ap V6 [x]
 |13,l=>(l.map fun x=>ap V6 [x])++[ap O8 [ap eH [l.getD 0 N9,kT 0]]]
 |14,l=>l.map fun x=>ap V6 [x]
 |15,l=>l.map fun x=>ap V6 [x]
 |16,l=>l.map fun x=>ap V6 [x]
 |17,l=>l.map fun x=>ap V6 [x]
 |18,l=>l.map fun x=>ap mQ [x]
 |19,l=>l.map fun x=>ap mQ [x]
 |20,l=>l.map fun x=>ap di [x]
 |21,l=>l.map fun x=>ap di [x]
 |22,l=>l.map fun x=>ap di [x]
 |23,l=>[ap di [l.getD 0 N9],ap lG [l.getD 1 N9],ap O8 [ap aV [l.getD 1 N9,kT 0]],ap aV [l.getD 1 N9,ap lH [l.getD 0 N9]]]
 |24,l=>[ap lG [l.getD 0 N9],ap O8 [ap aV [l.getD 0 N9,kT 0]],ap aV [l.getD 0 N9,kT 256]]
 |_,_=>[]
def Es(env:E8)(t:Te)(x:Tr)(n:Nat):Prop:=∀f l,n≤l→l≤f→∃l',l - n≤l'∧ev F9 f env t l=(.ok x,l')
theorem Es.mono{env:E8}{t:Te}{x:Tr}{n m:Nat}(h:Es env t x n)(hn:n≤m):Es env t x m:=fun f l h1 h2=>by
 obtain⟨l',h3,h4⟩:=h f l J h2;exact⟨l',J,h4⟩
theorem Es.G9(env:E8)(x:Tr):Es env (Te.G9 x.ob) x 0:=fun f l _ _=>⟨l,J,rF F9 f env x l⟩
theorem Es.p1{env:E8}{n:aa0}{i k:Nat}{t:Te}{x:Tr}(h:Es env t x k)(hp:bZ I7 0 n=some (i,1))(hv:(Tr.jP i [x]).valid=true):Es env (ap n [t]) (Tr.jP i [x]) (k+1):=fun f l h1 h2=>by
 obtain⟨f,rfl⟩:∃g,f=g+1:=⟨f - 1,J⟩;obtain⟨l,rfl⟩:∃g,l=g+1:=⟨l - 1,J⟩;obtain⟨l',h3,h4⟩:=h f l J J;refine⟨l',J,?_⟩;rw[qj];unfold iQ;rw[lw (show ¬is (ap n [t]) Q7 3 from fun e=>absurd (show 1=3 from e.2.2.2) O),show (ap n [t]).args=[t] from rfl,show (ap n [t]).nn=n from rfl,U2,h4]
 dsimp only;rw[U2];dsimp only;rw[hp];dsimp only;unfold iP;rw[aP hv]
theorem Es.p2{env:E8}{n:aa0}{i k m:Nat}{t u:Te}{x y:Tr}(h:Es env t x k)(h':Es env u y m)(hp:bZ I7 0 n=some (i,2))(hv:(Tr.jP i [x,y]).valid=true):Es env (ap n [t,u]) (Tr.jP i [x,y]) (k+m+1):=fun f l h1 h2=>by
 obtain⟨f,rfl⟩:∃g,f=g+1:=⟨f - 1,J⟩;obtain⟨l,rfl⟩:∃g,l=g+1:=⟨l - 1,J⟩;obtain⟨l1,h3,h4⟩:=h f l J J;have hle:=jy F9 f env t l;rw[h4]at hle;have hle:l1≤l:=hle;obtain⟨l2,h5,h6⟩:=h' f l1 J J;refine⟨l2,J,?_⟩;rw[qj];unfold iQ;rw[lw (show ¬is (ap n [t,u]) Q7 3 from fun e=>absurd (show 2=3 from e.2.2.2) O),show (ap n [t,u]).args=[t,u] from rfl,show (ap n [t,u]).nn=n from rfl,U2,h4]
 dsimp only;rw[U2,h6];dsimp only;rw[U2];dsimp only;rw[hp];dsimp only;unfold iP;rw[aP hv]
theorem Es.ite{env:E8}{a b c:Te}{x y:Tr}{k m:Nat}(h:Es env a x k)(hb:x≠o8→Es env b y m)(hc:x=o8→Es env c y m):Es env (ap Q7 [a,b,c]) y (k+m+1):=fun f l h1 h2=>by
 obtain⟨f,rfl⟩:∃g,f=g+1:=⟨f - 1,J⟩;obtain⟨l,rfl⟩:∃g,l=g+1:=⟨l - 1,J⟩;obtain⟨l1,h3,h4⟩:=h f l J J;have hle:=jy F9 f env a l;rw[h4]at hle;have hle:l1≤l:=hle;rw[qj];unfold iQ;rw[Za0 ⟨rfl,rfl,rfl,rfl⟩,show (ap Q7 [a,b,c]).arg 0=a from rfl,show (ap Q7 [a,b,c]).arg 1=b from rfl,show (ap Q7 [a,b,c]).arg 2=c from rfl,h4]
 dsimp only;by_cases hx:x=o8
 ·rw[Za0 hx];obtain⟨l2,h5,h6⟩:=hc hx f l1 J J;exact⟨l2,J,h6⟩
 ·rw[lw hx];obtain⟨l2,h5,h6⟩:=hb hx f l1 J J;exact⟨l2,J,h6⟩
theorem Es.not{env:E8}{t:Te}{x:Tr}{k:Nat}(h:Es env t x k):Es env (ap O8 [t]) (if x=o8 then vT else o8) (k+2):=fun f l h1 h2=>by
 obtain⟨f,rfl⟩:∃g,f=g+1:=⟨f - 1,J⟩;obtain⟨l,rfl⟩:∃g,l=g+1:=⟨l - 1,J⟩;obtain⟨l1,h3,h4⟩:=h f l J J;have hle:=jy F9 f env t l;rw[h4]at hle;have hle:l1≤l:=hle;have hi:Es (fV [[112]] [x]) (ap Q7 [vP,noT,G8]) (if x=o8 then vT else o8) 1:=Es.ite (k:=0) (m:=0) (x:=x)
  (fun f l _ _=>⟨l,J,by rw[pY,show dn (fV [[112]] [x]) x8 [112]=some x from b6c x []]⟩)
  (fun hx=>by rw[lw hx];exact Es.G9 _ o8) (fun hx=>by rw[Za0 hx];exact Es.G9 _ vT)
 obtain⟨l2,h5,h6⟩:=hi f l1 J J;refine⟨l2,J,?_⟩;rw[qj];unfold iQ;rw[lw (show ¬is (ap O8 [t]) Q7 3 from fun e=>absurd (show 1=3 from e.2.2.2) O),show (ap O8 [t]).args=[t] from rfl,show (ap O8 [t]).nn=O8 from rfl,U2,h4]
 dsimp only;rw[U2];dsimp only;rw[show bZ I7 0 O8=none by decide +kernel]
 dsimp only;have hb:=b6b;rw[ZaG]at hb;obtain⟨fn,g1,g2⟩:=hb;rw[g1];dsimp only;rw[show fn.ps=[[112]] from congrArg Prod.fst g2,show fn.body=ap Q7 [vP,noT,G8] from congrArg Prod.snd g2]
 exact h6
def CV(env:E8)(k:Nat)(c:Te)(b:Bool):Prop:=∃v:Tr,v.valid=true∧Es env c v k∧decide (v=o8)=!b
def tK(env:E8)(k:Nat):List Te→List Bool→Prop
 |[],[]=>True
 |c::r,b::s=>CV env k c b∧tK env k r s
 |_,_=>False
def VS(env:E8)(k:Nat):List Te→List Tr→Prop
 |[],[]=>True
 |t::r,x::s=>Es env t x k∧VS env k r s
 |_,_=>False
theorem VS.one{env:E8}{k:Nat}{l:List Te}{v:List Tr}(h:VS env k l v)(hl:l.length=1):∃t x,l=[t]∧v=[x]∧Es env t x k:=by
 match l,v,h,hl with
 |[t],[x],h,_=>exact⟨t,x,rfl,rfl,h.1⟩
theorem VS.two{env:E8}{k:Nat}{l:List Te}{v:List Tr}(h:VS env k l v)(hl:l.length=2):∃t u x y,l=[t,u]∧v=[x,y]∧Es env t x k∧Es env u y k:=by
 match l,v,h,hl with
 |[t,u],[x,y],h,_=>exact⟨t,u,x,y,rfl,rfl,h.1,h.2.1⟩
theorem IA(b:Bool):decide (Z8 b=o8)=!b:=by cases b <;> decide
section
variable {env:E8} {k:Nat}
theorem FZ{n:aa0}{i:Nat}{t:Te}{x:Tr}{b:Bool}(h:Es env t x k)(hp:bZ I7 0 n=some (i,1))(hb:Tr.jP i [x]=Z8 b):CV env (2 * k+5) (ap n [t]) b:=by
 have h:=Es.p1 h hp (by rw[hb];exact Tr.iy b);rw[hb]at h;exact⟨_,Tr.iy b,h.mono J,IA b⟩
theorem cv2{n:aa0}{i:Nat}{t u:Te}{x y:Tr}{b:Bool}(h:Es env t x k)(h':Es env u y k)(hp:bZ I7 0 n=some (i,2))(hb:Tr.jP i [x,y]=Z8 b):CV env (2 * k+5) (ap n [t,u]) b:=by
 have h:=Es.p2 h h' hp (by rw[hb];exact Tr.iy b);rw[hb]at h;exact⟨_,Tr.iy b,h.mono J,IA b⟩
theorem RN{n:aa0}{i:Nat}{t u:Te}{x y:Tr}{b:Bool}(h:Es env t x k)(h':Es env u y k)(hp:bZ I7 0 n=some (i,2))(hb:Tr.jP i [x,y]=Z8 b):CV env (2 * k+5) (ap O8 [ap n [t,u]]) (!b):=by
 have h:=(Es.p2 h h' hp (by rw[hb];exact Tr.iy b)).not;rw[hb]at h;refine⟨_,?_,h.mono J,?_⟩
 ·cases b
  ·exact Tr.Dp
  ·exact Tr.gu
 ·cases b <;> decide
theorem a1U{t:Te}{x:Tr}(h:Es env t x k):CV env (2 * k+5) (oK t) (x.isC || decide (x=o8)):=by
 have h1:=Es.p1 (n:=kY) (i:=5) h (by decide +kernel) (Tr.iy x.isC);have h2:=Es.p2 (n:=eH) (i:=1) h (Es.G9 env o8) (by decide +kernel) (Tr.iy (decide (x=o8)));cases hc:x.isC with
 |true =>
  have e:Tr.jP 5 [x]≠o8:=by show Z8 x.isC≠o8;rw[hc];decide
  exact⟨vT,Tr.Dp,(Es.ite (y:=vT) (m:=k+1) h1 (fun _=>(Es.G9 env vT).mono (ww _)) (fun h=>absurd h e)).mono J,by rw[Bool.true_or];decide⟩
 |false =>
  have e:Tr.jP 5 [x]=o8:=by show Z8 x.isC=o8;rw[hc];rfl
  exact⟨Z8 (decide (x=o8)),Tr.iy _,(Es.ite (m:=k+1) h1 (fun h=>absurd e h) (fun _=>h2)).mono J,by rw[Bool.false_or];exact IA _⟩
theorem b8R{t u:Te}{x y:Tr}(hx:x.valid=true)(h:Es env t x k)(h':Es env u y k):CV env (2 * k+5) (ap aV [u,ap lH [t]]) (decide (y.val < ((x.tx.length:Int):Rat))):=by
 have h1:=Es.p1 (n:=lH) (i:=22) h (by decide +kernel) (Tr.Ye hx Tr.gu Tr.gu 22 O O O O);have h2:=Es.p2 (n:=aV) (i:=14) h' h1 (by decide +kernel) (Tr.iy _);exact⟨_,Tr.iy _,h2.mono J,IA _⟩
theorem LM{n:aa0}{i:Nat}{f:Tr→Bool}(hp:bZ I7 0 n=some (i,1))(hb:∀x,Tr.jP i [x]=Z8 (f x)):∀{l:List Te} {v:List Tr},VS env k l v→tK env (2 * k+5) (l.map fun x=>ap n [x]) (v.map f)
 |[],[],_=>trivial
 |_::_,x::_,h=>⟨FZ h.1 hp (hb x),LM hp hb h.2⟩
 |[],_::_,h=>h.elim
 |_::_,[],h=>h.elim
theorem xM{l:List Te}{v:List Tr}(h:VS env k l v):tK env (2 * k+5) (l.map fun x=>ap V6 [x]) (v.map Tr.J9):=LM (i:=8) (by decide +kernel) (fun _=>rfl) h
theorem a2T{l:List Te}{v:List Tr}(h:VS env k l v):tK env (2 * k+5) (l.map fun x=>ap mQ [x]) (v.map Tr.dE):=LM (i:=6) (by decide +kernel) (fun _=>rfl) h
theorem Tf{l:List Te}{v:List Tr}(h:VS env k l v):tK env (2 * k+5) (l.map fun x=>ap di [x]) (v.map Tr.O9):=LM (i:=7) (by decide +kernel) (fun _=>rfl) h
theorem LP(c:Int):Es env (kT c) (Tr.num (c:Rat)) k:=(Es.G9 env (Tr.num (c:Rat))).mono (ww _)
end
theorem ZA{l:aa0}(h:(ae l).2=false):1000000000≤(l9.D5 l).natAbs:=by
 unfold ae at h;split at h
 ·cases h
 ·rename_i hn;refine Nat.le_of_not_lt fun hlt=>hn ?_
  obtain⟨m1,m2,m3,_⟩:=zg l;by_cases h0:norm l=[48]
  ·rw[h0];decide
  ·obtain⟨h1,h2⟩:=(l9.pz h0).1 (Ho l);have e:=(l9.BK _ h1 h2).1;rw[m3]at e;rw[←e];exact l9.qQ J hlt
theorem a0F{l:aa0}(h:(ae l).2=true):(ae l).1=l9.D5 l:=by
 unfold ae at h ⊢;split
 ·rfl
 ·rename_i hn;rw[lw hn]at h;cases h
theorem a1V(q:Rat):l9.D5 (Tr.num q).ob.num=q.num:=by
 show l9.D5 (Lib.itoa q.num)=q.num;exact l9.P9 _
theorem a1W{q:Rat}(h:q.den=1):q=((q.num:Int):Rat):=by
 exact Rat.ext rfl h
theorem b6d{x y:Tr}(hx:x.valid=true):(x.O9 && (y.aH && (!decide (y.val < ((0:Int):Rat)) && decide (y.val < ((x.tx.length:Int):Rat)))))=(x.eG y).isSome:=by
 rw[RI];have hl:=Tr.PV (Tr.lX hx);cases y with
 |num q =>
  cases hi:(Tr.num q).aH with
  |false=>simp only[Zb6,Bool.and_false]
  |true =>
   have hd:q.den=1:=Zad hi;have e:=a1W hd;have v:(Tr.num q).val=((q.num:Int):Rat):=e;have d:=a1V q;rw[v];have c1:decide (((q.num:Int):Rat) < ((0:Int):Rat))=decide (q.num < 0):=Zam.2 Rat.intCast_lt_intCast;have c2:decide (((q.num:Int):Rat) < ((x.tx.length:Int):Rat))=decide (q.num < (x.tx.length:Int)):=Zam.2 Rat.intCast_lt_intCast;rw[c1,c2,Zbq,ZaU];cases hs:(ae (Tr.num q).ob.num).2 with
   |true =>
    rw[a0F hs,d,ZaU];by_cases h0:q.num < 0
    ·rw[UV h0,WF (show ¬0≤q.num by omega)];simp
    ·rw[WF h0,UV (show 0≤q.num by omega)];simp
   |false =>
    have hb:=ZA hs;rw[d]at hb;rw[Bool.and_false,Zb6,Zb6];by_cases h0:q.num < 0
    ·rw[UV h0];simp
    ·rw[WF (show ¬q.num < (x.tx.length:Int) by omega)];simp
 |txt s=>simp[Tr.aH]
 |sym p s=>simp[Tr.aH]
 |cons a d=>simp[Tr.aH]
theorem b4i{x:Tr}:(x.aH && (!decide (x.val < ((0:Int):Rat)) && decide (x.val < ((256:Int):Rat))))=x.dJ.isSome:=by
 rw[QI];cases x with
 |num q =>
  cases hi:(Tr.num q).aH with
  |false=>simp only[Zb6]
  |true =>
   have hd:q.den=1:=Zad hi;have v:(Tr.num q).val=((q.num:Int):Rat):=a1W hd;have d:=a1V q;rw[v];have c1:decide (((q.num:Int):Rat) < ((0:Int):Rat))=decide (q.num < 0):=Zam.2 Rat.intCast_lt_intCast;have c2:decide (((q.num:Int):Rat) < ((256:Int):Rat))=decide (q.num < 256):=Zam.2 Rat.intCast_lt_intCast;rw[c1,c2,Zbq];cases hs:(ae (Tr.num q).ob.num).2 with
   |true =>
    rw[a0F hs,d,Zbq];by_cases h0:q.num < 0
    ·rw[UV h0,WF (show ¬0≤q.num by omega)];simp
    ·rw[WF h0,UV (show 0≤q.num by omega)]
     simp only[Bool.not_false,Zbq];exact Zam.2 J
   |false =>
    have hb:=ZA hs;rw[d]at hb;rw[Bool.and_false,Zb6,Zb6];by_cases h0:q.num < 0
    ·rw[UV h0];simp
    ·rw[WF (show ¬q.num < 256 by omega)];simp
 |txt s=>simp[Tr.aH]
 |sym p s=>simp[Tr.aH]
 |cons a d=>simp[Tr.aH]
theorem b4j{env:E8}{k:Nat}:∀{i:Nat} {s:aa0} {a:Nat} {l:List Te} {v:List Tr},I7[i]?=some (s,a)→VS env k l v→(∀t∈v,t.valid=true)→l.length=a→∃bs:List Bool,tK env (2 * k+5) (cnd i l) bs∧bs.all id=Tr.gd i (v.getD 0 o8) (v.getD 1 o8):=by
 intro i s a l v h hv hl ha;have hi:i < 25:=(Pi.1 h).1
 match i,hi with
 |0,_=>exact⟨[],trivial,rfl⟩
 |1,_=>exact⟨[],trivial,rfl⟩
 |2,_=>exact⟨[],trivial,rfl⟩
 |3,_=>cases h;obtain⟨t,x,rfl,rfl,e⟩:=hv.one ha;exact⟨[x.isC || decide (x=o8)],⟨a1U e,Z⟩,ZaU _⟩
 |4,_=>cases h;obtain⟨t,x,rfl,rfl,e⟩:=hv.one ha;exact⟨[x.isC || decide (x=o8)],⟨a1U e,Z⟩,ZaU _⟩
 |5,_=>exact⟨[],trivial,rfl⟩
 |6,_=>exact⟨[],trivial,rfl⟩
 |7,_=>exact⟨[],trivial,rfl⟩
 |8,_=>exact⟨[],trivial,rfl⟩
 |9,_=>exact⟨[],trivial,rfl⟩
 |10,_=>cases h;obtain⟨t,u,x,y,rfl,rfl,e,e2⟩:=hv.two ha;exact⟨_,xM hv,by show (x.J9 && (y.J9 && true))=(x.J9 && y.J9);rw[ZaU]⟩
 |11,_=>cases h;obtain⟨t,u,x,y,rfl,rfl,e,e2⟩:=hv.two ha;exact⟨_,xM hv,by show (x.J9 && (y.J9 && true))=(x.J9 && y.J9);rw[ZaU]⟩
 |12,_=>cases h;obtain⟨t,x,rfl,rfl,e⟩:=hv.one ha;exact⟨_,xM hv,ZaU _⟩
 |13,_ =>
  cases h;obtain⟨t,x,rfl,rfl,e⟩:=hv.one ha;refine⟨[x.J9,!decide (x=Tr.num 0)],⟨FZ (i:=8) e (by decide +kernel) rfl,RN (i:=1) (x:=x) (y:=Tr.num ((0:Int):Rat)) e (LP 0) (by decide +kernel) rfl,Z⟩,?_⟩;show (x.J9 && (!decide (x=Tr.num 0) && true))=(x.J9 && !decide (x.ob.num=[48]));rw[ZaU];cases x with
  |num q =>
   have e:(Tr.num q=Tr.num 0)↔((Tr.num q).ob.num=[48]):=by
    rw[Tr.num.injEq];show q=0↔Lib.itoa q.num=[48];have z:Lib.itoa 0=[48]:=by decide +kernel
    constructor
    ·intro h;rw[h];exact z
    ·intro h;rw[←z]at h;exact Rat.num_eq_zero.1 (l9.yZ h)
   rw[Zam.2 e]
  |txt s=>rfl
  |sym p s=>rfl
  |cons a d=>rfl
 |14,_=>cases h;obtain⟨t,u,x,y,rfl,rfl,e,e2⟩:=hv.two ha;exact⟨_,xM hv,by show (x.J9 && (y.J9 && true))=(x.J9 && y.J9);rw[ZaU]⟩
 |15,_=>cases h;obtain⟨t,x,rfl,rfl,e⟩:=hv.one ha;exact⟨_,xM hv,ZaU _⟩
 |16,_=>cases h;obtain⟨t,x,rfl,rfl,e⟩:=hv.one ha;exact⟨_,xM hv,ZaU _⟩
 |17,_=>cases h;obtain⟨t,x,rfl,rfl,e⟩:=hv.one ha;exact⟨_,xM hv,ZaU _⟩
 |18,_=>cases h;obtain⟨t,x,rfl,rfl,e⟩:=hv.one ha;exact⟨_,a2T hv,ZaU _⟩
 |19,_=>cases h;obtain⟨t,x,rfl,rfl,e⟩:=hv.one ha;exact⟨_,a2T hv,ZaU _⟩
 |20,_=>cases h;obtain⟨t,u,x,y,rfl,rfl,e,e2⟩:=hv.two ha;exact⟨_,Tf hv,by show (x.O9 && (y.O9 && true))=(x.O9 && y.O9);rw[ZaU]⟩
 |21,_=>cases h;obtain⟨t,u,x,y,rfl,rfl,e,e2⟩:=hv.two ha;exact⟨_,Tf hv,by show (x.O9 && (y.O9 && true))=(x.O9 && y.O9);rw[ZaU]⟩
 |22,_=>cases h;obtain⟨t,x,rfl,rfl,e⟩:=hv.one ha;exact⟨_,Tf hv,ZaU _⟩
 |23,_ =>
  cases h;obtain⟨t,u,x,y,rfl,rfl,e,e2⟩:=hv.two ha;have hx:=hl x (PP ..);refine⟨[x.O9,y.aH,!decide (y.val < ((0:Int):Rat)),decide (y.val < ((x.tx.length:Int):Rat))],⟨FZ (i:=7) e (by decide +kernel) rfl,FZ (i:=9) e2 (by decide +kernel) rfl,RN (i:=14) (x:=y) (y:=Tr.num ((0:Int):Rat)) e2 (LP 0) (by decide +kernel) rfl,b8R hx e e2,Z⟩,?_⟩;have:=b6d (x:=x) (y:=y) hx;show (x.O9 && (y.aH && (!decide (y.val < ((0:Int):Rat)) && (decide (y.val < ((x.tx.length:Int):Rat)) && true))))=(x.eG y).isSome;rw[ZaU];exact this
 |24,_ =>
  cases h;obtain⟨t,x,rfl,rfl,e⟩:=hv.one ha;refine⟨[x.aH,!decide (x.val < ((0:Int):Rat)),decide (x.val < ((256:Int):Rat))],⟨FZ (i:=9) e (by decide +kernel) rfl,RN (i:=14) (x:=x) (y:=Tr.num ((0:Int):Rat)) e (LP 0) (by decide +kernel) rfl,cv2 (i:=14) (x:=x) (y:=Tr.num ((256:Int):Rat)) e (LP 256) (by decide +kernel) rfl,Z⟩,?_⟩;have:=b4i (x:=x);show (x.aH && (!decide (x.val < ((0:Int):Rat)) && (decide (x.val < ((256:Int):Rat)) && true)))=x.dJ.isSome;rw[ZaU];exact this
inductive Pd:Te→Prop
 |var (p n:aa0):Pd ⟨1,p,n,V9,[]⟩
 |G9 (t:Tr) (h:t.valid=true):Pd (Te.G9 t.ob)
 |ap (n:aa0) (l:List Te) (i:Nat) (hp:bZ I7 0 n=some (i,l.length)) (h:∀x∈l,Pd x):Pd (Te.ap n l)
mutual
def Te.calls:Te→Nat
 |⟨k,_,_,_,l⟩=>Te.fH l+if k=3 then 1 else 0
def Te.fH:List Te→Nat
 |[]=>0
 |t::r=>Te.calls t+Te.fH r
end
theorem Ib(n:aa0)(l:List Te):(Te.ap n l).calls=Te.fH l+1:=by unfold Te.ap;rw[Te.calls,Za0 rfl]
theorem VW:∀{l:List Te} {t:Te},t∈l→t.calls≤Te.fH l
 |x::r,t,h=>by
  rw[Te.fH];rcases Zao.1 h with rfl | h
  ·omega
  ·have:=VW h;omega
def vU(e:Te→Nat→gm)(t:Te)(l:Nat):gm :=
 if is t Q7 3 then
  match e (t.arg 0) l with
  | (.error c,l')=>(.error c,l')
  | (.ok x,l')=>if x=o8 then e (t.arg 2) l' else e (t.arg 1) l'
 else match U2 e t.args l with
  | (.error c,l')=>(.error c,l')
  | (.ok vs,l')=>match bZ I7 0 t.nn with
   |some (i,_)=>(if Tr.gd i (vs.getD 0 o8) (vs.getD 1 o8) then iP i vs else .error 10,l')
   |none=>(.error 7,l')
noncomputable def gv:Nat→E8→Te→Nat→gm
 |0,env,t,l=>iR env t l (.error 9,l)
 |f+1,env,t,l=>iR env t l (if l=0 then (.error 9,l) else vU (gv f env) t (l - 1))
theorem wW(f:Nat)(env:E8)(p n:aa0)(l:Nat):gv f env ⟨1,p,n,V9,[]⟩ l=(match dn env p n with | some x=>.ok x | none=>.error 6,l):=by
 cases f <;> (rw[gv];unfold iR;exact Za0 rfl)
theorem wX(f:Nat)(env:E8)(t:Tr)(l:Nat):gv f env (Te.G9 t.ob) l=(.ok t,l):=by
 have key:∀r,iR env (Te.G9 t.ob) l r=(.ok t,l):=fun r=>by
  unfold iR;rw[lw (show ¬(Te.G9 t.ob).kind=1 from fun h=>absurd (show (2:Int)=1 from h) O),Za0 (show (Te.G9 t.ob).kind=2 from rfl)]
  show (Except.ok (ER t.ob),l)=_;rw[Zw]
 cases f <;> (rw[gv];exact key _)
theorem Ti(env:E8)(n:aa0)(a:List Te)(l:Nat):gv 0 env (Te.ap n a) l=(.error 9,l):=by rw[gv,rG]
theorem DU(f:Nat)(env:E8)(n:aa0)(a:List Te):gv f env (Te.ap n a) 0=(.error 9,0):=by
 cases f with
 |zero=>rw[gv,rG]
 |succ f=>rw[gv,rG,Za0 rfl]
theorem JG(f:Nat)(env:E8)(n:aa0)(a:List Te)(l:Nat):gv (f+1) env (Te.ap n a) (l+1)=vU (gv f env) (Te.ap n a) l:=by
 rw[gv,rG,lw J,Zb7]
theorem b4k{e:Te→Nat→gm}(he:∀t l,(e t l).2≤l)(t:Te)(l:Nat):(vU e t l).2≤l:=by
 unfold vU;split
 ·have h:=he (t.arg 0) l;split
  ·rename_i c l' hh;rw[hh]at h;exact h
  ·rename_i x l' hh;rw[hh]at h;split
   ·exact Za6 (he ..) h
   ·exact Za6 (he ..) h
 ·have h:=zV he t.args l;split
  ·rename_i c l' hh;rw[hh]at h;exact h
  ·rename_i vs l' hh;rw[hh]at h;split
   ·exact h
   ·exact h
theorem RQ:∀(f:Nat) (env:E8) (t:Te) (l:Nat),(gv f env t l).2≤l
 |0,env,t,l=>by rw[gv];exact Jb (NE _)
 |f+1,env,t,l=>by
  rw[gv];refine Jb ?_;split
  ·exact NE _
  ·exact Za6 (b4k (RQ f env) t (l - 1)) (Nat.sub_le _ _)
theorem ZB{g g':Te→Nat→gm}:∀{s:List Te} {l:Nat} {xs:List Tr} {l':Nat},(∀t∈s,∀l x l',g t l=(.ok x,l')→g' t l=(.ok x,l'))→U2 g s l=(.ok xs,l')→U2 g' s l=(.ok xs,l')
 |[],l,xs,l',_,e=>by rw[U2]at e ⊢;exact e
 |t::r,l,xs,l',h,e=>by
  rw[U2]at e ⊢
  split at e
  ·cases e
  ·rename_i x l1 hh;rw[h t (PP ..) _ _ _ hh];dsimp only;split at e
   ·cases e
   ·rename_i ys l2 hk;cases e;rw[ZB (fun t ht=>h t (lm _ ht)) hk]
theorem uC{t:Te}{n:aa0}{k i:Nat}(hi:is t n k)(hk:i < k):t.arg i∈t.args:=Za5 (dQ hi hk)
theorem RS:∀(f:Nat) (env:E8) (t:Te) (l:Nat) (x:Tr) (l':Nat),Pd t→gv f env t l=(.ok x,l')→ev F9 f env t l=(.ok x,l'):=by
 intro f
 induction f with
 |zero =>
  intro env t l x l' ht h;cases ht with
  |var p n=>rw[wW]at h;rw[pY];exact h
  |G9 t ht=>rw[wX]at h;rw[rF];exact h
  |ap n a i hp ha=>rw[Ti]at h;cases h
 |succ f ih =>
  intro env t l x l' ht h;cases ht with
  |var p n=>rw[wW]at h;rw[pY];exact h
  |G9 t ht=>rw[wX]at h;rw[rF];exact h
  |ap n a i hp ha =>
   cases l with
   |zero=>rw[DU]at h;cases h
   |succ l =>
    rw[JG]at h;rw[qj];unfold vU at h;unfold iQ;by_cases hif:is (Te.ap n a) Q7 3
    ·rw[Za0 hif]at h ⊢
     have w:=fun j (hj:j < 3)=>ha _ (uC hif hj)
     split at h
     ·cases h
     ·rename_i y l1 hh;rw[ih _ _ _ _ _ (w 0 J) hh];dsimp only;split
      ·rename_i hy;rw[Za0 hy]at h;exact ih _ _ _ _ _ (w 2 J) h
      ·rename_i hy;rw[lw hy]at h;exact ih _ _ _ _ _ (w 1 J) h
    ·rw[lw hif]at h ⊢
     split at h
     ·cases h
     ·rename_i vs l1 hh;rw[show (Te.ap n a).args=a from rfl]at hh ⊢
      rw[ZB (g':=ev F9 f env) (fun t ht l x l'=>ih env t l x l' (ha t ht)) hh];dsimp only;rw[show (Te.ap n a).nn=n from rfl,hp]at h ⊢
      dsimp only at h ⊢;split at h
      ·exact h
      ·cases h
def VC(env:E8):List Te→List Tr→Prop
 |[],[]=>True
 |t::r,x::s=>Es env t x t.calls∧VC env r s
 |_,_=>False
theorem VC.vs{env:E8}{k:Nat}:∀{l:List Te} {v:List Tr},VC env l v→Te.fH l≤k→VS env k l v
 |[],[],_,_=>trivial
 |t::r,x::s,h,hk=>by
  rw[Te.fH]at hk;exact⟨h.1.mono J,VC.vs h.2 J⟩
 |[],_::_,h,_=>h.elim
 |_::_,[],h,_=>h.elim
theorem VC.U2{env:E8}:∀{s:List Te} {v:List Tr},VC env s v→∀f l,Te.fH s≤l→l≤f→∃l',l - Te.fH s≤l'∧U2 (ev F9 f env) s l=(.ok v,l')
 |[],[],_,f,l,_,_=>⟨l,Nat.sub_le _ _,rfl⟩
 |t::r,x::s,h,f,l,h1,h2=>by
  rw[Te.fH]at h1 ⊢
  obtain⟨l1,h3,h4⟩:=h.1 f l J h2;have hle:=jy F9 f env t l;rw[h4]at hle;have hle:l1≤l:=hle;obtain⟨l2,h5,h6⟩:=VC.U2 h.2 f l1 J J;refine⟨l2,J,?_⟩;rw[Go.Proofs.YthhknjlmjefklaaGreatDoor.U2,h4];dsimp only;rw[h6]
 |[],_::_,h,_,_,_,_=>h.elim
 |_::_,[],h,_,_,_,_=>h.elim
theorem QM{env:E8}{g:Te→Nat→gm}:∀{s:List Te} {l:Nat} {xs:List Tr} {l':Nat},(∀t∈s,∀l x l',g t l=(.ok x,l')→Es env t x t.calls)→U2 g s l=(.ok xs,l')→VC env s xs
 |[],l,xs,l',_,e=>by rw[U2]at e;cases e;trivial
 |t::r,l,xs,l',h,e=>by
  rw[U2]at e;split at e
  ·cases e
  ·rename_i x l1 hh;split at e
   ·cases e
   ·rename_i ys l2 hk;cases e;exact⟨h t (PP ..) _ _ _ hh,QM (fun t ht=>h t (lm _ ht)) hk⟩
theorem RU:∀(f:Nat) (env:E8) (t:Te) (l:Nat) (x:Tr) (l':Nat),Pd t→ev F9 f env t l=(.ok x,l')→Es env t x t.calls:=by
 intro f;have base:∀(f:Nat) (env:E8) (t:Te) (l:Nat) (x:Tr) (l':Nat),(∃p n,t=⟨1,p,n,V9,[]⟩)∨(∃o:Tr,t=Te.G9 o.ob)→ev F9 f env t l=(.ok x,l')→Es env t x t.calls:=by
  intro f env t l x l' ht h;rcases ht with⟨p,n,rfl⟩ | ⟨o,rfl⟩
  ·rw[pY]at h;cases hv:dn env p n with
   |none=>rw[hv]at h;cases h
   |some y=>rw[hv]at h;cases h;exact fun f l _ _=>⟨l,Nat.sub_le _ _,by rw[pY,hv]⟩
  ·rw[rF]at h;cases h;exact (Es.G9 env _).mono (ww _)
 induction f with
 |zero =>
  intro env t l x l' ht h;cases ht with
  |var p n=>exact base _ _ _ _ _ _ (.inl ⟨p,n,rfl⟩) h
  |G9 t ht=>exact base _ _ _ _ _ _ (.inr ⟨t,rfl⟩) h
  |ap n a i hp ha=>rw[ev,rG]at h;cases h
 |succ f ih =>
  intro env t l x l' ht h;cases ht with
  |var p n=>exact base _ _ _ _ _ _ (.inl ⟨p,n,rfl⟩) h
  |G9 t ht=>exact base _ _ _ _ _ _ (.inr ⟨t,rfl⟩) h
  |ap n a i hp ha =>
   cases l with
   |zero=>rw[zX]at h;cases h
   |succ l =>
    rw[qj]at h;rw[Ib];unfold iQ at h;by_cases hif:is (Te.ap n a) Q7 3
    ·rw[Za0 hif]at h;have hn:n=Q7:=hif.2.2.1;subst hn;obtain⟨b,c,d,rfl⟩:=Kw (show a.length=3 from hif.2.2.2);rw[show (Te.ap Q7 [b,c,d]).arg 0=b from rfl,show (Te.ap Q7 [b,c,d]).arg 1=c from rfl,show (Te.ap Q7 [b,c,d]).arg 2=d from rfl]at h
     split at h
     ·cases h
     ·rename_i y l1 hh;have h1:=ih _ _ _ _ _ (ha b I) hh;have e:Te.fH [b,c,d]=b.calls+(c.calls+d.calls):=by simp only[Te.fH,Nat.add_zero]
      rw[e];by_cases hy:y=o8
      ·rw[Za0 hy]at h;exact Es.ite h1 (fun h=>absurd hy h) (fun _=>(ih _ _ _ _ _ (ha d I) h).mono J)
      ·rw[lw hy]at h;exact Es.ite h1 (fun _=>(ih _ _ _ _ _ (ha c I) h).mono J) (fun h=>absurd h hy)
    ·rw[lw hif]at h;split at h
     ·cases h
     ·rename_i vs l1 hh;rw[show (Te.ap n a).args=a from rfl]at hh
      have hv:=QM (fun t ht l x l'=>ih env t l x l' (ha t ht)) hh;rw[show (Te.ap n a).nn=n from rfl,hp]at h
      dsimp only at h;intro F L h1 h2;obtain⟨F,rfl⟩:∃g,F=g+1:=⟨F - 1,J⟩;obtain⟨L,rfl⟩:∃g,L=g+1:=⟨L - 1,J⟩;obtain⟨L',h3,h4⟩:=hv.U2 F L J J;refine⟨L',J,?_⟩;rw[qj];unfold iQ;rw[lw hif,show (Te.ap n a).args=a from rfl,h4]
      dsimp only;rw[show (Te.ap n a).nn=n from rfl,hp]
      dsimp only;simp only[Prod.mk.injEq]at h;rw[h.1]
def mV(t:Te):List Te:=match bZ I7 0 t.nn with
 |some (i,_)=>cnd i t.args
 |none=>[]
def vis(hd:List Te):Nat→Te→List Te→List (List Te)
 |0,_,_=>[]
 |f+1,t,ts =>
  if t.kind=3 then
   if is t Q7 3 then vis hd f (t.arg 0) ts++vis hd f (t.arg 1) (ts++[t.arg 0])++vis hd f (t.arg 2) (ts++[ap O8 [t.arg 0]])
   else (t.args.map fun x=>vis hd f x ts).flatten++(mV t).map fun c=>addN [] (hd++ts.map neg++[c])
  else []
theorem OE:∀(l out:List Te) (y:Te),y∈addN out l→y∈out∨y∈l
 |[],out,y,h=>.inl h
 |t::r,out,y,h=>by
  rw[addN]at h;rcases OE r _ y h with h | h
  ·split at h
   ·exact .inl h
   ·rcases ZaA.1 h with h | h
    ·exact .inl h
    ·rw[ut]at h;subst h;exact .inr (PP ..)
  ·exact .inr (lm _ h)
theorem ZC:bZ I7 0 O8=none:=by decide +kernel
theorem Pd.b8S{t:Te}(h:Pd t):¬is t O8 1:=fun e=>by
 cases h with
 |var p n=>exact absurd (show (1:Int)=3 from e.1) O
 |G9 t h=>exact absurd (show (2:Int)=3 from e.1) O
 |ap n l i hp h =>
  have:n=O8:=e.2.2.1;subst this;rw[ZC]at hp;cases hp
theorem QN{t:Te}(h:Pd t):Te.neg t=ap O8 [t]:=by unfold Te.neg;rw[lw h.b8S]
theorem Yh(t:Te):Te.neg (ap O8 [t])=t:=by unfold Te.neg;rw[Za0 ⟨rfl,rfl,rfl,rfl⟩];rfl
theorem Qa{g:Te→Nat→gm}:∀{s:List Te} {l:Nat} {e:Int} {l':Nat},U2 g s l=(.error e,l')→∃t∈s,∃l1 l2,g t l1=(.error e,l2)
 |[],l,e,l',h=>by rw[U2]at h;cases h
 |t::r,l,e,l',h=>by
  rw[U2]at h;split at h
  ·rename_i c l1 hh;cases h;exact⟨t,PP ..,_,_,hh⟩
  ·rename_i x l1 hh;split at h
   ·rename_i c l2 hk;cases h;obtain⟨u,hu,k⟩:=Qa hk;exact⟨u,lm _ hu,k⟩
   ·cases h
theorem tK.ff{env:E8}{k:Nat}:∀{l:List Te} {bs:List Bool},tK env k l bs→bs.all id=false→∃c∈l,Es env c o8 k
 |c::r,b::s,h,hb=>by
  cases b with
  |false =>
   obtain⟨v,_,h2,h3⟩:=h.1;have e:v=o8:=Zad h3;subst e;exact⟨c,PP ..,h2⟩
  |true =>
   obtain⟨d,hd,h2⟩:=tK.ff h.2 (by simpa using hb);exact⟨d,lm _ hd,h2⟩
 |[],[],_,hb=>by cases hb
 |[],_::_,h,_=>h.elim
 |_::_,[],h,_=>h.elim
theorem Yi{f:Nat}{env:E8}{t:Te}{l l':Nat}{x:Tr}(hw:Wd t)(he:ku env)(hp:Pd t)(h:gv f env t l=(.ok x,l')):x.valid=true:=(mF f env t l hw he).1 x l' (RS f env t l x l' hp h)
theorem IB:∀x∈I7,x.2≤3:=O
theorem jU{n:aa0}{i a:Nat}(h:bZ I7 0 n=some (i,a)):I7[i]?=some (n,a):=(OC h).2
theorem Yj:∀{L:List (aa0×Nat)} {i j a:Nat} {n:aa0},bZ L i n=some (j,a)→(L.find? fun x=>x.1 == n)=some (n,a)
 |[],_,_,_,_,h=>by cases h
 |x::r,i,j,a,n,h=>by
  rw[bZ]at h;rw[List.find?_cons];split at h
  ·rename_i hx;cases h;rw[show (x.1 == n)=true by simpa using hx]
   subst hx;rfl
  ·rename_i hx;rw[show (x.1 == n)=false by simpa using hx]
   exact Yj h
theorem ZE{n:aa0}{i a:Nat}(h:bZ I7 0 n=some (i,a))(W:List y8.H8):bH W n=some a:=by
 unfold bH y8.xG;rw[Yj h];rfl
theorem Pd.wd{t:Te}(h:Pd t):Wd t:=by
 induction h with
 |var p n=>exact .var p n
 |G9 t h=>exact .G9 t h
 |ap n l i hp h ih =>
  have hm:=IB _ (Za5 (jU hp));have hm:l.length≤3:=hm;exact .ap n l (ZE hp _) J ih
theorem b4l{hd:List Te}{env:E8}(he:ku env)(hh:∀y∈hd,Es env y o8 300):∀(f:Nat) (t:Te) (l l' F:Nat) (ts:List Te),Pd t→t.calls≤100→t.size≤F→(∀y∈ts,Es env (neg y) o8 300)→gv f env t l=(.error 10,l')→∃c∈vis hd F t ts,∀y∈c,Es env y o8 300:=by
 intro f
 induction f with
 |zero =>
  intro t l l' F ts ht _ _ _ h;cases ht with
  |var p n=>rw[wW]at h;split at h <;> cases h
  |G9 t ht=>rw[wX]at h;cases h
  |ap n a i hp ha=>rw[Ti]at h;cases h
 |succ f ih =>
  intro t l l' F ts ht hc hF hts h;cases ht with
  |var p n=>rw[wW]at h;split at h <;> cases h
  |G9 t ht=>rw[wX]at h;cases h
  |ap n a i hp ha =>
   cases l with
   |zero=>rw[DU]at h;cases h
   |succ l =>
    cases F with
    |zero=>have:=Te.size_pos (Te.ap n a);omega
    |succ F =>
    rw[JG]at h;rw[Ib]at hc;have hsz:∀x∈(Te.ap n a).args,x.size≤F:=fun x hx=>by have:=Te.Ci hx;omega
    have hcl:∀x∈(Te.ap n a).args,x.calls≤100:=fun x hx=>by have:=VW (show x∈a from hx);omega
    rw[vis,Za0 (show (Te.ap n a).kind=3 from rfl)]
    unfold vU at h;by_cases hif:is (Te.ap n a) Q7 3
    ·rw[Za0 hif]at h ⊢
     have w:=fun j (hj:j < 3)=>ha _ (uC hif hj)
     have s:=fun j (hj:j < 3)=>hsz _ (uC hif hj)
     have c:=fun j (hj:j < 3)=>hcl _ (uC hif hj)
     split at h
     ·rename_i e l1 hh;cases h;obtain⟨d,h1,h2⟩:=ih _ _ _ F ts (w 0 J) (c 0 J) (s 0 J) hts hh;exact⟨d,ZaB _ (ZaB _ h1),h2⟩
     ·rename_i y l1 hh;have e0:=RU f env _ _ _ _ (w 0 J) (RS f env _ _ _ _ (w 0 J) hh);have hc0:=c 0 J;by_cases hy:y=o8
      ·rw[Za0 hy]at h;subst hy;obtain⟨d,h1,h2⟩:=ih _ _ _ F (ts++[ap O8 [(Te.ap n a).arg 0]]) (w 2 J) (c 2 J) (s 2 J) (fun z hz=>by
        rcases ZaA.1 hz with hz | hz
        ·exact hts z hz
        ·rw[ut]at hz;subst hz;rw[Yh];exact e0.mono J) h
       exact⟨d,ZaS _ h1,h2⟩
      ·rw[lw hy]at h;obtain⟨d,h1,h2⟩:=ih _ _ _ F (ts++[(Te.ap n a).arg 0]) (w 1 J) (c 1 J) (s 1 J) (fun z hz=>by
        rcases ZaA.1 hz with hz | hz
        ·exact hts z hz
        ·rw[ut]at hz;subst hz;rw[QN (w 0 J)];have:=e0.not;rw[lw hy]at this;exact this.mono J) h
       exact⟨d,ZaB _ (ZaS _ h1),h2⟩
    ·rw[lw hif]at h ⊢
     rw[show (Te.ap n a).args=a from rfl]at h hsz hcl ⊢
     split at h
     ·rename_i e l1 hk;cases h;obtain⟨x,hx,l2,l3,hx2⟩:=Qa hk;obtain⟨d,h1,h2⟩:=ih _ _ _ F ts (ha x hx) (hcl x hx) (hsz x hx) hts hx2;exact⟨d,ZaB _ (List.mem_flatten.2 ⟨_,List.mem_map.2 ⟨x,hx,rfl⟩,h1⟩),h2⟩
     ·rename_i vs l1 hk;rw[show (Te.ap n a).nn=n from rfl,hp]at h
      dsimp only at h;split at h
      ·unfold iP at h;split at h <;> cases h
      ·rename_i hg;have hv:=QM (fun t ht l x l' hh=>RU f env t l x l' (ha t ht) (RS f env t l x l' (ha t ht) hh)) hk;have hvs:=hv.vs (k:=100) J;have hok:=(uJ _ _ _ _ (fun t ht l x l' hh=>Yi (ha t ht).wd he (ha t ht) hh) hk).2;obtain⟨bs,h1,h2⟩:=b4j (jU hp) hvs hok rfl;rw[Zal.2 hg]at h2;obtain⟨c,h3,h4⟩:=h1.ff h2;refine⟨addN [] (hd++ts.map neg++[c]),ZaS _ (List.mem_map.2 ⟨c,?_,rfl⟩),fun y hy=>?_⟩
       ·unfold mV;rw[show (Te.ap n a).nn=n from rfl,hp]
        exact h3
       ·rcases OE _ _ _ hy with hy | hy
        ·cases hy
        ·rcases ZaA.1 hy with hy | hy
         ·rcases ZaA.1 hy with hy | hy
          ·exact hh y hy
          ·obtain⟨z,hz,rfl⟩:=List.mem_map.1 hy;exact hts z hz
         ·rw[ut]at hy;subst hy;exact h4.mono J
end Go.Proofs.YthhknjlmjefklaaGreatDoor
