/- Guard of both texts, on trees. -/
import Derived.Test.YthhknjlmjefklaaGreatDoorMO
import Derived.MapKept
import Derived.Test.YthhknjlmjefklaaGreatDoorMI
namespace Go.Proofs.YthhknjlmjefklaaGreatDoor
open Go.RowKit
def kfind (k:ByteArray):List Value→Option (Option Nat)
 | []=>some none
 | .string s::t=>if k == s then some (some 0) else (kfind k t).map (·.map (·+1))
 | _=>none
theorem findNow_k {k:ByteArray}:∀ (keys:List Value) (es:List MapEntry) (i:Nat) (r:Option Nat),es.map (·.key)=keys→kfind k keys=some r→Instr.findNow .string (.string k) es i=some (r.bind fun j=>(es[j]?).map fun e=>(i+j,e.val))
 | [],[],i,r,_,h=>by cases h;rfl
 | [],_::_,_,_,h,_=>by cases h
 | _::_,[],_,_,h,_=>by cases h
 | v::t,e::es,i,r,he,h=>by
  simp only [List.map_cons,List.cons.injEq] at he
  obtain ⟨he,ht⟩:=he
  subst he
  unfold Instr.findNow
  cases hk:e.key with
  | string s =>
   rw [hk] at h
   unfold kfind at h
   show (match some (k == s) with | some true=>_ | some false=>_ | none=>_)=_
   cases hs:k == s with
   | true =>
    rw [hs,if_pos rfl] at h
    cases h
    rfl
   | false =>
    rw [hs,if_neg (by decide)] at h
    cases hr:kfind k t with
    | none=>rw [hr] at h;cases h
    | some r' =>
     rw [hr] at h
     cases h
     have:=findNow_k t es (i+1) r' ht hr
     show Instr.findNow .string (.string k) es (i+1)=_
     rw [this]
     cases r' with
     | none=>rfl
     | some j =>
      show some ((es[j]?).map fun e=>(i+1+j,e.val))=some ((es[j]?).map fun e=>(i+(j+1),e.val))
      rw [show i+1+j=i+(j+1) by omega]
  | _=>rw [hk] at h;cases h
theorem mfind_str {P:Program} {kt:TypeId} (hu:P.underlying kt=some .string) {k:ByteArray} {keys:List Value} {r:Option Nat} (h:kfind k keys=some r):MFind P kt (.string k) keys r:=fun es w he=>by
 have h1:=MapKept.run_checkKey (P:=P) (w:=w) (k:=.string k) hu trivial es.isEmpty 9999
 have h2:=MapKept.run_findKey (w:=w) hu (findNow_k keys es 0 r he h)
 simp only [Sem.run_bind,h1,Result.andThen]
 rw [h2]
 cases r with
 | none=>rfl
 | some j=>simp
theorem mnew_str {P:Program} {kt:TypeId} (hu:P.underlying kt=some .string) {k:ByteArray} {keys:List Value} (h:kfind k keys=some none):MNew P kt (.string k) keys:=fun es w he=>by
 have h1:=MapKept.run_checkKey (P:=P) (w:=w) (k:=.string k) hu trivial false 9999
 have h2:=MapKept.run_findKey (w:=w) hu (findNow_k keys es 0 none he h)
 simp only [Sem.run_bind,h1,Result.andThen]
 exact h2
def Tr.gd:Nat→Tr→Tr→Bool
 | 3,x,_=>x.isC || decide (x=nilT)
 | 4,x,_=>x.isC || decide (x=nilT)
 | 10,x,y=>x.isN && y.isN
 | 11,x,y=>x.isN && y.isN
 | 12,x,_=>x.isN
 | 13,x,_=>x.isN && !decide (x.ob.num=[48])
 | 14,x,y=>x.isN && y.isN
 | 15,x,_=>x.isN
 | 16,x,_=>x.isN
 | 17,x,_=>x.isN
 | 18,x,_=>x.isY
 | 19,x,_=>x.isY
 | 20,x,y=>x.isT && y.isT
 | 21,x,y=>x.isT && y.isT
 | 22,x,_=>x.isT
 | 23,x,y=>(x.ixV y).isSome
 | 24,x,_=>x.octV.isSome
 | _,_,_=>true
theorem p_g4 (x:Tr):Puk 161 [trA x] (boA (x.isC || decide (x=nilT))):=by
 cases hC:x.isC with
 | true=>exact pwalk (an:=[yT]) (ls:=[]) (ps:=[Bn .eql 3 (.tmp 4) (.const (vi 4)) (vi x.ob.kind) (vi 4) bT]) Tryz.func161 (by kernel_rfl) (by kernel_rfl) ⟨bin_ieq ((isC_k x).trans hC),trivial⟩
 | false=>exact pwalk (an:=[yF,.av (boA (decide (x=nilT)))]) (ls:=[]) (ps:=[Bn .eql 3 (.tmp 4) (.const (vi 4)) (vi x.ob.kind) (vi 4) bF,Puk 119 [(obA x.ob)] (boA (decide (x=nilT)))]) Tryz.func161 (by kernel_rfl) (by kernel_rfl) ⟨bin_ieq ((isC_k x).trans hC),p_oIsNil7 x,trivial⟩
theorem p_g7 {f:FuncId} {caps:List AV} {x:Tr} {b:Bool} (h:Puk f (trA x::caps) (boA b)):Puk 166 [trA x,.pin [.clf f caps]] (boA (!b)):=pwalk (an:=[.av (boA b)]) (ls:=[]) (ps:=[Puk f ([(obA x.ob)]++caps) (boA b)]) Tryz.func166 (by kernel_rfl) (by kernel_rfl) ⟨h,trivial⟩
theorem p_cf1 {f:FuncId} {caps:List AV} {x:Tr} {b:Bool} (h:Puk f (trA x::caps) (boA b)):Puk 165 [rowA [x],.clf f caps] (boA b):=by
 cases b with
 | true =>
  have h1:Puk 205 [rowA [x],.clf f caps] (inA 0):=pwalk (an:=[.no,.no,.no,yT]) (ls:=[]) (ps:=[Puk f ([(obA x.ob)]++caps) (boA true)]) Tryz.func205 (by kernel_rfl) (by kernel_rfl) ⟨h,trivial⟩
  exact pwalk (an:=[.av (inA 0),.no]) (ls:=[]) (ps:=[Puk 205 [(.dt (.row (List.map (fun t=>encL t.ob) [x]))),(.clf f caps)] (inA 0)]) Tryz.func165 (by kernel_rfl) (by kernel_rfl) ⟨h1,trivial⟩
 | false =>
  have h1:Puk 205 [rowA [x],.clf f caps] (inA (-1)):=pwalk (an:=[.no,.no,.no,yF,.no,.no]) (ls:=[]) (ps:=[Puk f ([(obA x.ob)]++caps) (boA false)]) Tryz.func205 (by kernel_rfl) (by kernel_rfl) ⟨h,trivial⟩
  exact pwalk (an:=[.av (inA (-1)),.no]) (ls:=[]) (ps:=[Puk 205 [(.dt (.row (List.map (fun t=>encL t.ob) [x]))),(.clf f caps)] (inA (-1))]) Tryz.func165 (by kernel_rfl) (by kernel_rfl) ⟨h1,trivial⟩
abbrev keysV:List Value:=[(str [99,97,114]),(str [99,100,114]),(str [98,105,110,97,114,121,45,43]),(str [98,105,110,97,114,121,45,42]),(str [117,110,97,114,121,45,45]),(str [60]),(str [110,117,109,101,114,97,116,111,114]),(str [100,101,110,111,109,105,110,97,116,111,114]),(str [102,108,111,111,114]),(str [117,110,97,114,121,45,47]),(str [115,121,109,98,111,108,45,110,97,109,101]),(str [115,121,109,98,111,108,45,112,97,99,107,97,103,101,45,110,97,109,101]),(str [105,110,116,101,114,110]),(str [115,116,114,105,110,103,45,97,112,112,101,110,100]),(str [115,116,114,105,110,103,45,108,101,110,103,116,104]),(str [98,121,116,101,45,115,116,114,105,110,103])]
abbrev mns:List Prop:=[MNew Tryz.prog 9 (str [99,97,114]) [],MNew Tryz.prog 9 (str [99,100,114]) [(str [99,97,114])],MNew Tryz.prog 9 (str [98,105,110,97,114,121,45,43]) [(str [99,97,114]),(str [99,100,114])],MNew Tryz.prog 9 (str [98,105,110,97,114,121,45,42]) [(str [99,97,114]),(str [99,100,114]),(str [98,105,110,97,114,121,45,43])],MNew Tryz.prog 9 (str [117,110,97,114,121,45,45]) [(str [99,97,114]),(str [99,100,114]),(str [98,105,110,97,114,121,45,43]),(str [98,105,110,97,114,121,45,42])],MNew Tryz.prog 9 (str [60]) [(str [99,97,114]),(str [99,100,114]),(str [98,105,110,97,114,121,45,43]),(str [98,105,110,97,114,121,45,42]),(str [117,110,97,114,121,45,45])],MNew Tryz.prog 9 (str [110,117,109,101,114,97,116,111,114]) [(str [99,97,114]),(str [99,100,114]),(str [98,105,110,97,114,121,45,43]),(str [98,105,110,97,114,121,45,42]),(str [117,110,97,114,121,45,45]),(str [60])],MNew Tryz.prog 9 (str [100,101,110,111,109,105,110,97,116,111,114]) [(str [99,97,114]),(str [99,100,114]),(str [98,105,110,97,114,121,45,43]),(str [98,105,110,97,114,121,45,42]),(str [117,110,97,114,121,45,45]),(str [60]),(str [110,117,109,101,114,97,116,111,114])],MNew Tryz.prog 9 (str [102,108,111,111,114]) [(str [99,97,114]),(str [99,100,114]),(str [98,105,110,97,114,121,45,43]),(str [98,105,110,97,114,121,45,42]),(str [117,110,97,114,121,45,45]),(str [60]),(str [110,117,109,101,114,97,116,111,114]),(str [100,101,110,111,109,105,110,97,116,111,114])],MNew Tryz.prog 9 (str [117,110,97,114,121,45,47]) [(str [99,97,114]),(str [99,100,114]),(str [98,105,110,97,114,121,45,43]),(str [98,105,110,97,114,121,45,42]),(str [117,110,97,114,121,45,45]),(str [60]),(str [110,117,109,101,114,97,116,111,114]),(str [100,101,110,111,109,105,110,97,116,111,114]),(str [102,108,111,111,114])],MNew Tryz.prog 9 (str [115,121,109,98,111,108,45,110,97,109,101]) [(str [99,97,114]),(str [99,100,114]),(str [98,105,110,97,114,121,45,43]),(str [98,105,110,97,114,121,45,42]),(str [117,110,97,114,121,45,45]),(str [60]),(str [110,117,109,101,114,97,116,111,114]),(str [100,101,110,111,109,105,110,97,116,111,114]),(str [102,108,111,111,114]),(str [117,110,97,114,121,45,47])],MNew Tryz.prog 9 (str [115,121,109,98,111,108,45,112,97,99,107,97,103,101,45,110,97,109,101]) [(str [99,97,114]),(str [99,100,114]),(str [98,105,110,97,114,121,45,43]),(str [98,105,110,97,114,121,45,42]),(str [117,110,97,114,121,45,45]),(str [60]),(str [110,117,109,101,114,97,116,111,114]),(str [100,101,110,111,109,105,110,97,116,111,114]),(str [102,108,111,111,114]),(str [117,110,97,114,121,45,47]),(str [115,121,109,98,111,108,45,110,97,109,101])],MNew Tryz.prog 9 (str [105,110,116,101,114,110]) [(str [99,97,114]),(str [99,100,114]),(str [98,105,110,97,114,121,45,43]),(str [98,105,110,97,114,121,45,42]),(str [117,110,97,114,121,45,45]),(str [60]),(str [110,117,109,101,114,97,116,111,114]),(str [100,101,110,111,109,105,110,97,116,111,114]),(str [102,108,111,111,114]),(str [117,110,97,114,121,45,47]),(str [115,121,109,98,111,108,45,110,97,109,101]),(str [115,121,109,98,111,108,45,112,97,99,107,97,103,101,45,110,97,109,101])],MNew Tryz.prog 9 (str [115,116,114,105,110,103,45,97,112,112,101,110,100]) [(str [99,97,114]),(str [99,100,114]),(str [98,105,110,97,114,121,45,43]),(str [98,105,110,97,114,121,45,42]),(str [117,110,97,114,121,45,45]),(str [60]),(str [110,117,109,101,114,97,116,111,114]),(str [100,101,110,111,109,105,110,97,116,111,114]),(str [102,108,111,111,114]),(str [117,110,97,114,121,45,47]),(str [115,121,109,98,111,108,45,110,97,109,101]),(str [115,121,109,98,111,108,45,112,97,99,107,97,103,101,45,110,97,109,101]),(str [105,110,116,101,114,110])],MNew Tryz.prog 9 (str [115,116,114,105,110,103,45,108,101,110,103,116,104]) [(str [99,97,114]),(str [99,100,114]),(str [98,105,110,97,114,121,45,43]),(str [98,105,110,97,114,121,45,42]),(str [117,110,97,114,121,45,45]),(str [60]),(str [110,117,109,101,114,97,116,111,114]),(str [100,101,110,111,109,105,110,97,116,111,114]),(str [102,108,111,111,114]),(str [117,110,97,114,121,45,47]),(str [115,121,109,98,111,108,45,110,97,109,101]),(str [115,121,109,98,111,108,45,112,97,99,107,97,103,101,45,110,97,109,101]),(str [105,110,116,101,114,110]),(str [115,116,114,105,110,103,45,97,112,112,101,110,100])],MNew Tryz.prog 9 (str [98,121,116,101,45,115,116,114,105,110,103]) [(str [99,97,114]),(str [99,100,114]),(str [98,105,110,97,114,121,45,43]),(str [98,105,110,97,114,121,45,42]),(str [117,110,97,114,121,45,45]),(str [60]),(str [110,117,109,101,114,97,116,111,114]),(str [100,101,110,111,109,105,110,97,116,111,114]),(str [102,108,111,111,114]),(str [117,110,97,114,121,45,47]),(str [115,121,109,98,111,108,45,110,97,109,101]),(str [115,121,109,98,111,108,45,112,97,99,107,97,103,101,45,110,97,109,101]),(str [105,110,116,101,114,110]),(str [115,116,114,105,110,103,45,97,112,112,101,110,100]),(str [115,116,114,105,110,103,45,108,101,110,103,116,104])]]
theorem AllP.app:∀ {a b:List Prop},AllP a→AllP b→AllP (a++b)
 | [],_,_,h=>h
 | _::_,_,⟨h,t⟩,h'=>⟨h,AllP.app t h'⟩
theorem mns_ok:AllP mns:=⟨mnew_str Tryz.underlying9 (by kernel_rfl),mnew_str Tryz.underlying9 (by kernel_rfl),mnew_str Tryz.underlying9 (by kernel_rfl),mnew_str Tryz.underlying9 (by kernel_rfl),mnew_str Tryz.underlying9 (by kernel_rfl),mnew_str Tryz.underlying9 (by kernel_rfl),mnew_str Tryz.underlying9 (by kernel_rfl),mnew_str Tryz.underlying9 (by kernel_rfl),mnew_str Tryz.underlying9 (by kernel_rfl),mnew_str Tryz.underlying9 (by kernel_rfl),mnew_str Tryz.underlying9 (by kernel_rfl),mnew_str Tryz.underlying9 (by kernel_rfl),mnew_str Tryz.underlying9 (by kernel_rfl),mnew_str Tryz.underlying9 (by kernel_rfl),mnew_str Tryz.underlying9 (by kernel_rfl),mnew_str Tryz.underlying9 (by kernel_rfl),trivial⟩
theorem p_oGd3 {x:Tr} (_hx:Arg x):Puk 120 [syA lispB [99,97,114],rowA [x]] (boA (Tr.gd 3 x nilT)):=by
 have h:Puk 120 [syA lispB [99,97,114],rowA [x]] (boA (!(!(x.isC || decide (x=nilT))))):=pwalk (an:=[.av (.tup [inA 1,boA true]),.no,.no,.no,.av (inA 0),.av (boA (!(x.isC || decide (x=nilT))))]) (ls:=[]) (ps:=Puk 38 [syA lispB [99,97,114]] (.tup [inA 1,boA true])::(mns++[MFind Tryz.prog 9 (str [99,97,114]) keysV (some 0),Puk 165 [rowA [x],.clf 166 [.pin [.clf 161 []]]] (boA (!(x.isC || decide (x=nilT))))])) Tryz.func120 (by kernel_rfl) (by kernel_rfl) ⟨p_oAr3,AllP.app mns_ok ⟨mfind_str Tryz.underlying9 (by kernel_rfl),p_cf1 (p_g7 (p_g4 x)),trivial⟩⟩
 exact h.b (by
  show (!(!(x.isC || decide (x=nilT))))=((x.isC || decide (x=nilT)))
  simp)
end Go.Proofs.YthhknjlmjefklaaGreatDoor
namespace Go.Proofs.YthhknjlmjefklaaGreatDoor
open Go.RowKit
open Te
abbrev gRat:List UInt8:=[114,97,116,105,111,110,97,108,112]
abbrev gSym:List UInt8:=[115,121,109,98,111,108,112]
abbrev gTxt:List UInt8:=[115,116,114,105,110,103,112]
abbrev gInt:List UInt8:=[105,110,116,101,103,101,114,112]
abbrev gLss:List UInt8:=[60]
abbrev gLen:List UInt8:=[115,116,114,105,110,103,45,108,101,110,103,116,104]
abbrev kT (k:Int):Te:=con (Tr.num (k:Rat)).ob
abbrev carC (x:Te):Te:=ap ifB [ap conspB [x],yesT,ap equalB [x,noT]]
def cnd:Nat→List Te→List Te
 | 3,l=>[carC (l.getD 0 zTe)]
 | 4,l=>[carC (l.getD 0 zTe)]
 | 10,l=>l.map fun x=>ap gRat [x]
 | 11,l=>l.map fun x=>ap gRat [x]
 | 12,l=>l.map fun x=>ap gRat [x]
 | 13,l=>(l.map fun x=>ap gRat [x])++[ap notB [ap equalB [l.getD 0 zTe,kT 0]]]
 | 14,l=>l.map fun x=>ap gRat [x]
 | 15,l=>l.map fun x=>ap gRat [x]
 | 16,l=>l.map fun x=>ap gRat [x]
 | 17,l=>l.map fun x=>ap gRat [x]
 | 18,l=>l.map fun x=>ap gSym [x]
 | 19,l=>l.map fun x=>ap gSym [x]
 | 20,l=>l.map fun x=>ap gTxt [x]
 | 21,l=>l.map fun x=>ap gTxt [x]
 | 22,l=>l.map fun x=>ap gTxt [x]
 | 23,l=>[ap gTxt [l.getD 0 zTe],ap gInt [l.getD 1 zTe],ap notB [ap gLss [l.getD 1 zTe,kT 0]],ap gLss [l.getD 1 zTe,ap gLen [l.getD 0 zTe]]]
 | 24,l=>[ap gInt [l.getD 0 zTe],ap notB [ap gLss [l.getD 0 zTe,kT 0]],ap gLss [l.getD 0 zTe,kT 256]]
 | _,_=>[]
def Es (env:Bnd) (t:Te) (x:Tr) (n:Nat):Prop:=∀ f l,n≤l→l≤f→∃ l',l - n≤l'∧ev worldB f env t l=(.ok x,l')
theorem Es.mono {env:Bnd} {t:Te} {x:Tr} {n m:Nat} (h:Es env t x n) (hn:n≤m):Es env t x m:=fun f l h1 h2=>by
 obtain ⟨l',h3,h4⟩:=h f l (by omega) h2
 exact ⟨l',by omega,h4⟩
theorem Es.con (env:Bnd) (x:Tr):Es env (Te.con x.ob) x 0:=fun f l _ _=>⟨l,by omega,ev_con worldB f env x l⟩
theorem Es.p1 {env:Bnd} {n:List UInt8} {i k:Nat} {t:Te} {x:Tr} (h:Es env t x k) (hp:pix primL 0 n=some (i,1)) (hv:(Tr.apL i [x]).valid=true):Es env (ap n [t]) (Tr.apL i [x]) (k+1):=fun f l h1 h2=>by
 obtain ⟨f,rfl⟩:∃ g,f=g+1:=⟨f - 1,by omega⟩
 obtain ⟨l,rfl⟩:∃ g,l=g+1:=⟨l - 1,by omega⟩
 obtain ⟨l',h3,h4⟩:=h f l (by omega) (by omega)
 refine ⟨l',by omega,?_⟩
 rw [ev_ap]
 unfold evC
 rw [if_neg (show ¬ is (ap n [t]) ifB 3 from fun e=>absurd (show 1=3 from e.2.2.2) (by decide)),show (ap n [t]).args=[t] from rfl,show (ap n [t]).nn=n from rfl,evA,h4]
 dsimp only
 rw [evA]
 dsimp only
 rw [hp]
 dsimp only
 unfold evP
 rw [kept_t hv]
theorem Es.p2 {env:Bnd} {n:List UInt8} {i k m:Nat} {t u:Te} {x y:Tr} (h:Es env t x k) (h':Es env u y m) (hp:pix primL 0 n=some (i,2)) (hv:(Tr.apL i [x,y]).valid=true):Es env (ap n [t,u]) (Tr.apL i [x,y]) (k+m+1):=fun f l h1 h2=>by
 obtain ⟨f,rfl⟩:∃ g,f=g+1:=⟨f - 1,by omega⟩
 obtain ⟨l,rfl⟩:∃ g,l=g+1:=⟨l - 1,by omega⟩
 obtain ⟨l1,h3,h4⟩:=h f l (by omega) (by omega)
 have hle:=ev_le worldB f env t l
 rw [h4] at hle
 have hle:l1≤l:=hle
 obtain ⟨l2,h5,h6⟩:=h' f l1 (by omega) (by omega)
 refine ⟨l2,by omega,?_⟩
 rw [ev_ap]
 unfold evC
 rw [if_neg (show ¬ is (ap n [t,u]) ifB 3 from fun e=>absurd (show 2=3 from e.2.2.2) (by decide)),show (ap n [t,u]).args=[t,u] from rfl,show (ap n [t,u]).nn=n from rfl,evA,h4]
 dsimp only
 rw [evA,h6]
 dsimp only
 rw [evA]
 dsimp only
 rw [hp]
 dsimp only
 unfold evP
 rw [kept_t hv]
theorem Es.ite {env:Bnd} {a b c:Te} {x y:Tr} {k m:Nat} (h:Es env a x k) (hb:x≠nilT→Es env b y m) (hc:x=nilT→Es env c y m):Es env (ap ifB [a,b,c]) y (k+m+1):=fun f l h1 h2=>by
 obtain ⟨f,rfl⟩:∃ g,f=g+1:=⟨f - 1,by omega⟩
 obtain ⟨l,rfl⟩:∃ g,l=g+1:=⟨l - 1,by omega⟩
 obtain ⟨l1,h3,h4⟩:=h f l (by omega) (by omega)
 have hle:=ev_le worldB f env a l
 rw [h4] at hle
 have hle:l1≤l:=hle
 rw [ev_ap]
 unfold evC
 rw [if_pos ⟨rfl,rfl,rfl,rfl⟩,show (ap ifB [a,b,c]).arg 0=a from rfl,show (ap ifB [a,b,c]).arg 1=b from rfl,show (ap ifB [a,b,c]).arg 2=c from rfl,h4]
 dsimp only
 by_cases hx:x=nilT
 ·rw [if_pos hx]
  obtain ⟨l2,h5,h6⟩:=hc hx f l1 (by omega) (by omega)
  exact ⟨l2,by omega,h6⟩
 ·rw [if_neg hx]
  obtain ⟨l2,h5,h6⟩:=hb hx f l1 (by omega) (by omega)
  exact ⟨l2,by omega,h6⟩
theorem Es.not {env:Bnd} {t:Te} {x:Tr} {k:Nat} (h:Es env t x k):Es env (ap notB [t]) (if x=nilT then tTr else nilT) (k+2):=fun f l h1 h2=>by
 obtain ⟨f,rfl⟩:∃ g,f=g+1:=⟨f - 1,by omega⟩
 obtain ⟨l,rfl⟩:∃ g,l=g+1:=⟨l - 1,by omega⟩
 obtain ⟨l1,h3,h4⟩:=h f l (by omega) (by omega)
 have hle:=ev_le worldB f env t l
 rw [h4] at hle
 have hle:l1≤l:=hle
 have hi:Es (bndP [[112]] [x]) (ap ifB [vP,noT,yesT]) (if x=nilT then tTr else nilT) 1:=Es.ite (k:=0) (m:=0) (x:=x)
  (fun f l _ _=>⟨l,by omega,by rw [ev_var,show vlk (bndP [[112]] [x]) lispB [112]=some x from vlk_p x []]⟩)
  (fun hx=>by rw [if_neg hx];exact Es.con _ nilT) (fun hx=>by rw [if_pos hx];exact Es.con _ tTr)
 obtain ⟨l2,h5,h6⟩:=hi f l1 (by omega) (by omega)
 refine ⟨l2,by omega,?_⟩
 rw [ev_ap]
 unfold evC
 rw [if_neg (show ¬ is (ap notB [t]) ifB 3 from fun e=>absurd (show 1=3 from e.2.2.2) (by decide)),show (ap notB [t]).args=[t] from rfl,show (ap notB [t]).nn=notB from rfl,evA,h4]
 dsimp only
 rw [evA]
 dsimp only
 rw [show pix primL 0 notB=none by decide +kernel]
 dsimp only
 have hb:=b_not
 rw [Option.map_eq_some_iff] at hb
 obtain ⟨fn,g1,g2⟩:=hb
 rw [g1]
 dsimp only
 rw [show fn.ps=[[112]] from congrArg Prod.fst g2,show fn.body=ap ifB [vP,noT,yesT] from congrArg Prod.snd g2]
 exact h6
def CV (env:Bnd) (k:Nat) (c:Te) (b:Bool):Prop:=∃ v:Tr,v.valid=true∧Es env c v k∧decide (v=nilT)=!b
def CVs (env:Bnd) (k:Nat):List Te→List Bool→Prop
 | [],[]=>True
 | c::r,b::s=>CV env k c b∧CVs env k r s
 | _,_=>False
def VS (env:Bnd) (k:Nat):List Te→List Tr→Prop
 | [],[]=>True
 | t::r,x::s=>Es env t x k∧VS env k r s
 | _,_=>False
theorem VS.con (env:Bnd) (k:Nat):∀ v:List Tr,VS env k (v.map fun x=>con x.ob) v
 | []=>trivial
 | x::r=>⟨(Es.con env x).mono (Nat.zero_le _),VS.con env k r⟩
theorem VS.one {env:Bnd} {k:Nat} {l:List Te} {v:List Tr} (h:VS env k l v) (hl:l.length=1):∃ t x,l=[t]∧v=[x]∧Es env t x k:=by
 match l,v,h,hl with
 | [t],[x],h,_=>exact ⟨t,x,rfl,rfl,h.1⟩
theorem VS.two {env:Bnd} {k:Nat} {l:List Te} {v:List Tr} (h:VS env k l v) (hl:l.length=2):∃ t u x y,l=[t,u]∧v=[x,y]∧Es env t x k∧Es env u y k:=by
 match l,v,h,hl with
 | [t,u],[x,y],h,_=>exact ⟨t,u,x,y,rfl,rfl,h.1,h.2.1⟩
theorem tru_nil (b:Bool):decide (truT b=nilT)=!b:=by cases b <;> decide
section
variable {env:Bnd} {k:Nat}
theorem cv1 {n:List UInt8} {i:Nat} {t:Te} {x:Tr} {b:Bool} (h:Es env t x k) (hp:pix primL 0 n=some (i,1)) (hb:Tr.apL i [x]=truT b):CV env (2 * k+5) (ap n [t]) b:=by
 have h:=Es.p1 h hp (by rw [hb];exact Tr.valid_tru b)
 rw [hb] at h
 exact ⟨_,Tr.valid_tru b,h.mono (by omega),tru_nil b⟩
theorem cv2 {n:List UInt8} {i:Nat} {t u:Te} {x y:Tr} {b:Bool} (h:Es env t x k) (h':Es env u y k) (hp:pix primL 0 n=some (i,2)) (hb:Tr.apL i [x,y]=truT b):CV env (2 * k+5) (ap n [t,u]) b:=by
 have h:=Es.p2 h h' hp (by rw [hb];exact Tr.valid_tru b)
 rw [hb] at h
 exact ⟨_,Tr.valid_tru b,h.mono (by omega),tru_nil b⟩
theorem cvNot {n:List UInt8} {i:Nat} {t u:Te} {x y:Tr} {b:Bool} (h:Es env t x k) (h':Es env u y k) (hp:pix primL 0 n=some (i,2)) (hb:Tr.apL i [x,y]=truT b):CV env (2 * k+5) (ap notB [ap n [t,u]]) (!b):=by
 have h:=(Es.p2 h h' hp (by rw [hb];exact Tr.valid_tru b)).not
 rw [hb] at h
 refine ⟨_,?_,h.mono (by omega),?_⟩
 ·cases b
  ·exact Tr.valid_t
  ·exact Tr.valid_nil
 ·cases b <;> decide
theorem cvCar {t:Te} {x:Tr} (h:Es env t x k):CV env (2 * k+5) (carC t) (x.isC || decide (x=nilT)):=by
 have h1:=Es.p1 (n:=conspB) (i:=5) h (by decide +kernel) (Tr.valid_tru x.isC)
 have h2:=Es.p2 (n:=equalB) (i:=1) h (Es.con env nilT) (by decide +kernel) (Tr.valid_tru (decide (x=nilT)))
 cases hc:x.isC with
 | true =>
  have e:Tr.apL 5 [x]≠nilT:=by show truT x.isC≠nilT;rw [hc];decide
  exact ⟨tTr,Tr.valid_t,(Es.ite (y:=tTr) (m:=k+1) h1 (fun _=>(Es.con env tTr).mono (Nat.zero_le _)) (fun h=>absurd h e)).mono (by omega),by rw [Bool.true_or];decide⟩
 | false =>
  have e:Tr.apL 5 [x]=nilT:=by show truT x.isC=nilT;rw [hc];rfl
  exact ⟨truT (decide (x=nilT)),Tr.valid_tru _,(Es.ite (m:=k+1) h1 (fun h=>absurd e h) (fun _=>h2)).mono (by omega),by rw [Bool.false_or];exact tru_nil _⟩
theorem cvLn {t u:Te} {x y:Tr} (hx:x.valid=true) (h:Es env t x k) (h':Es env u y k):CV env (2 * k+5) (ap gLss [u,ap gLen [t]]) (decide (y.val < ((x.tx.length:Int):Rat))):=by
 have h1:=Es.p1 (n:=gLen) (i:=22) h (by decide +kernel) (Tr.ap_valid hx Tr.valid_nil Tr.valid_nil 22 (by decide) (by decide) (by decide) (by decide))
 have h2:=Es.p2 (n:=gLss) (i:=14) h' h1 (by decide +kernel) (Tr.valid_tru _)
 exact ⟨_,Tr.valid_tru _,h2.mono (by omega),tru_nil _⟩
theorem cvA {n:List UInt8} {i:Nat} {f:Tr→Bool} (hp:pix primL 0 n=some (i,1)) (hb:∀ x,Tr.apL i [x]=truT (f x)):∀ {l:List Te} {v:List Tr},VS env k l v→CVs env (2 * k+5) (l.map fun x=>ap n [x]) (v.map f)
 | [],[],_=>trivial
 | _::_,x::_,h=>⟨cv1 h.1 hp (hb x),cvA hp hb h.2⟩
 | [],_::_,h=>h.elim
 | _::_,[],h=>h.elim
theorem cvRa {l:List Te} {v:List Tr} (h:VS env k l v):CVs env (2 * k+5) (l.map fun x=>ap gRat [x]) (v.map Tr.isN):=cvA (i:=8) (by decide +kernel) (fun _=>rfl) h
theorem cvSy {l:List Te} {v:List Tr} (h:VS env k l v):CVs env (2 * k+5) (l.map fun x=>ap gSym [x]) (v.map Tr.isY):=cvA (i:=6) (by decide +kernel) (fun _=>rfl) h
theorem cvTx {l:List Te} {v:List Tr} (h:VS env k l v):CVs env (2 * k+5) (l.map fun x=>ap gTxt [x]) (v.map Tr.isT):=cvA (i:=7) (by decide +kernel) (fun _=>rfl) h
theorem esT (c:Int):Es env (kT c) (Tr.num (c:Rat)) k:=(Es.con env (Tr.num (c:Rat))).mono (Nat.zero_le _)
end
theorem smV_big {l:List UInt8} (h:(smV l).2=false):1000000000≤(Dec.dval l).natAbs:=by
 unfold smV at h
 split at h
 ·cases h
 ·rename_i hn
  refine Nat.le_of_not_lt fun hlt=>hn ?_
  obtain ⟨m1,m2,m3,_⟩:=mag_norm l
  by_cases h0:norm l=[48]
  ·rw [h0];decide
  ·obtain ⟨h1,h2⟩:=(Dec.isDec_iff h0).1 (norm_dec l)
   have e:=(Dec.decDigits_nval _ h1 h2).1
   rw [m3] at e
   rw [← e]
   exact Dec.decDigits_length_le (by omega) hlt
theorem smV_ok {l:List UInt8} (h:(smV l).2=true):(smV l).1=Dec.dval l:=by
 unfold smV at h ⊢
 split
 ·rfl
 ·rename_i hn;rw [if_neg hn] at h;cases h
theorem int_v (q:Rat):Dec.dval (Tr.num q).ob.num=q.num:=by
 show Dec.dval (Lib.itoa q.num)=q.num
 exact Dec.dval_itoa _
theorem int_q {q:Rat} (h:q.den=1):q=((q.num:Int):Rat):=by
 exact Rat.ext rfl h
theorem ix_gd {x y:Tr} (hx:x.valid=true):(x.isT && (y.isI && (!decide (y.val < ((0:Int):Rat)) && decide (y.val < ((x.tx.length:Int):Rat)))))=(x.ixV y).isSome:=by
 rw [ixV_b]
 have hl:=Tr.good_tx (Tr.valid_good hx)
 cases y with
 | num q =>
  cases hi:(Tr.num q).isI with
  | false=>simp only [Bool.false_and,Bool.and_false]
  | true =>
   have hd:q.den=1:=of_decide_eq_true hi
   have e:=int_q hd
   have v:(Tr.num q).val=((q.num:Int):Rat):=e
   have d:=int_v q
   rw [v]
   have c1:decide (((q.num:Int):Rat) < ((0:Int):Rat))=decide (q.num < 0):=decide_eq_decide.2 Rat.intCast_lt_intCast
   have c2:decide (((q.num:Int):Rat) < ((x.tx.length:Int):Rat))=decide (q.num < (x.tx.length:Int)):=decide_eq_decide.2 Rat.intCast_lt_intCast
   rw [c1,c2,Bool.true_and,Bool.and_true]
   cases hs:(smV (Tr.num q).ob.num).2 with
   | true =>
    rw [smV_ok hs,d,Bool.and_true]
    by_cases h0:q.num < 0
    ·rw [decide_eq_true h0,decide_eq_false (show ¬ 0≤q.num by omega)];simp
    ·rw [decide_eq_false h0,decide_eq_true (show 0≤q.num by omega)];simp
   | false =>
    have hb:=smV_big hs
    rw [d] at hb
    rw [Bool.and_false,Bool.false_and,Bool.false_and]
    by_cases h0:q.num < 0
    ·rw [decide_eq_true h0];simp
    ·rw [decide_eq_false (show ¬ q.num < (x.tx.length:Int) by omega)];simp
 | txt s=>simp [Tr.isI]
 | sym p s=>simp [Tr.isI]
 | cons a d=>simp [Tr.isI]
theorem oct_gd {x:Tr}:(x.isI && (!decide (x.val < ((0:Int):Rat)) && decide (x.val < ((256:Int):Rat))))=x.octV.isSome:=by
 rw [octV_b]
 cases x with
 | num q =>
  cases hi:(Tr.num q).isI with
  | false=>simp only [Bool.false_and]
  | true =>
   have hd:q.den=1:=of_decide_eq_true hi
   have v:(Tr.num q).val=((q.num:Int):Rat):=int_q hd
   have d:=int_v q
   rw [v]
   have c1:decide (((q.num:Int):Rat) < ((0:Int):Rat))=decide (q.num < 0):=decide_eq_decide.2 Rat.intCast_lt_intCast
   have c2:decide (((q.num:Int):Rat) < ((256:Int):Rat))=decide (q.num < 256):=decide_eq_decide.2 Rat.intCast_lt_intCast
   rw [c1,c2,Bool.true_and]
   cases hs:(smV (Tr.num q).ob.num).2 with
   | true =>
    rw [smV_ok hs,d,Bool.true_and]
    by_cases h0:q.num < 0
    ·rw [decide_eq_true h0,decide_eq_false (show ¬ 0≤q.num by omega)];simp
    ·rw [decide_eq_false h0,decide_eq_true (show 0≤q.num by omega)]
     simp only [Bool.not_false,Bool.true_and]
     exact decide_eq_decide.2 (by omega)
   | false =>
    have hb:=smV_big hs
    rw [d] at hb
    rw [Bool.and_false,Bool.false_and,Bool.false_and]
    by_cases h0:q.num < 0
    ·rw [decide_eq_true h0];simp
    ·rw [decide_eq_false (show ¬ q.num < 256 by omega)];simp
 | txt s=>simp [Tr.isI]
 | sym p s=>simp [Tr.isI]
 | cons a d=>simp [Tr.isI]
theorem cnd_gd {env:Bnd} {k:Nat}:∀ {i:Nat} {s:List UInt8} {a:Nat} {l:List Te} {v:List Tr},primL[i]?=some (s,a)→VS env k l v→(∀ t∈v,t.valid=true)→l.length=a→∃ bs:List Bool,CVs env (2 * k+5) (cnd i l) bs∧bs.all id=Tr.gd i (v.getD 0 nilT) (v.getD 1 nilT):=by
 intro i s a l v h hv hl ha
 have hi:i < 25:=(List.getElem?_eq_some_iff.1 h).1
 match i,hi with
 | 0,_=>exact ⟨[],trivial,rfl⟩
 | 1,_=>exact ⟨[],trivial,rfl⟩
 | 2,_=>exact ⟨[],trivial,rfl⟩
 | 3,_=>cases h;obtain ⟨t,x,rfl,rfl,e⟩:=hv.one ha;exact ⟨[x.isC || decide (x=nilT)],⟨cvCar e,trivial⟩,Bool.and_true _⟩
 | 4,_=>cases h;obtain ⟨t,x,rfl,rfl,e⟩:=hv.one ha;exact ⟨[x.isC || decide (x=nilT)],⟨cvCar e,trivial⟩,Bool.and_true _⟩
 | 5,_=>exact ⟨[],trivial,rfl⟩
 | 6,_=>exact ⟨[],trivial,rfl⟩
 | 7,_=>exact ⟨[],trivial,rfl⟩
 | 8,_=>exact ⟨[],trivial,rfl⟩
 | 9,_=>exact ⟨[],trivial,rfl⟩
 | 10,_=>cases h;obtain ⟨t,u,x,y,rfl,rfl,e,e2⟩:=hv.two ha;exact ⟨_,cvRa hv,by show (x.isN && (y.isN && true))=(x.isN && y.isN);rw [Bool.and_true]⟩
 | 11,_=>cases h;obtain ⟨t,u,x,y,rfl,rfl,e,e2⟩:=hv.two ha;exact ⟨_,cvRa hv,by show (x.isN && (y.isN && true))=(x.isN && y.isN);rw [Bool.and_true]⟩
 | 12,_=>cases h;obtain ⟨t,x,rfl,rfl,e⟩:=hv.one ha;exact ⟨_,cvRa hv,Bool.and_true _⟩
 | 13,_ =>
  cases h
  obtain ⟨t,x,rfl,rfl,e⟩:=hv.one ha
  refine ⟨[x.isN,!decide (x=Tr.num 0)],⟨cv1 (i:=8) e (by decide +kernel) rfl,cvNot (i:=1) (x:=x) (y:=Tr.num ((0:Int):Rat)) e (esT 0) (by decide +kernel) rfl,trivial⟩,?_⟩
  show (x.isN && (!decide (x=Tr.num 0) && true))=(x.isN && !decide (x.ob.num=[48]))
  rw [Bool.and_true]
  cases x with
  | num q =>
   have e:(Tr.num q=Tr.num 0)↔((Tr.num q).ob.num=[48]):=by
    rw [Tr.num.injEq]
    show q=0↔Lib.itoa q.num=[48]
    have z:Lib.itoa 0=[48]:=by decide +kernel
    constructor
    ·intro h;rw [h];exact z
    ·intro h;rw [← z] at h;exact Rat.num_eq_zero.1 (Dec.itoa_inj h)
   rw [decide_eq_decide.2 e]
  | txt s=>rfl
  | sym p s=>rfl
  | cons a d=>rfl
 | 14,_=>cases h;obtain ⟨t,u,x,y,rfl,rfl,e,e2⟩:=hv.two ha;exact ⟨_,cvRa hv,by show (x.isN && (y.isN && true))=(x.isN && y.isN);rw [Bool.and_true]⟩
 | 15,_=>cases h;obtain ⟨t,x,rfl,rfl,e⟩:=hv.one ha;exact ⟨_,cvRa hv,Bool.and_true _⟩
 | 16,_=>cases h;obtain ⟨t,x,rfl,rfl,e⟩:=hv.one ha;exact ⟨_,cvRa hv,Bool.and_true _⟩
 | 17,_=>cases h;obtain ⟨t,x,rfl,rfl,e⟩:=hv.one ha;exact ⟨_,cvRa hv,Bool.and_true _⟩
 | 18,_=>cases h;obtain ⟨t,x,rfl,rfl,e⟩:=hv.one ha;exact ⟨_,cvSy hv,Bool.and_true _⟩
 | 19,_=>cases h;obtain ⟨t,x,rfl,rfl,e⟩:=hv.one ha;exact ⟨_,cvSy hv,Bool.and_true _⟩
 | 20,_=>cases h;obtain ⟨t,u,x,y,rfl,rfl,e,e2⟩:=hv.two ha;exact ⟨_,cvTx hv,by show (x.isT && (y.isT && true))=(x.isT && y.isT);rw [Bool.and_true]⟩
 | 21,_=>cases h;obtain ⟨t,u,x,y,rfl,rfl,e,e2⟩:=hv.two ha;exact ⟨_,cvTx hv,by show (x.isT && (y.isT && true))=(x.isT && y.isT);rw [Bool.and_true]⟩
 | 22,_=>cases h;obtain ⟨t,x,rfl,rfl,e⟩:=hv.one ha;exact ⟨_,cvTx hv,Bool.and_true _⟩
 | 23,_ =>
  cases h
  obtain ⟨t,u,x,y,rfl,rfl,e,e2⟩:=hv.two ha
  have hx:=hl x (List.mem_cons_self ..)
  refine ⟨[x.isT,y.isI,!decide (y.val < ((0:Int):Rat)),decide (y.val < ((x.tx.length:Int):Rat))],⟨cv1 (i:=7) e (by decide +kernel) rfl,cv1 (i:=9) e2 (by decide +kernel) rfl,cvNot (i:=14) (x:=y) (y:=Tr.num ((0:Int):Rat)) e2 (esT 0) (by decide +kernel) rfl,cvLn hx e e2,trivial⟩,?_⟩
  have:=ix_gd (x:=x) (y:=y) hx
  show (x.isT && (y.isI && (!decide (y.val < ((0:Int):Rat)) && (decide (y.val < ((x.tx.length:Int):Rat)) && true))))=(x.ixV y).isSome
  rw [Bool.and_true]
  exact this
 | 24,_ =>
  cases h
  obtain ⟨t,x,rfl,rfl,e⟩:=hv.one ha
  refine ⟨[x.isI,!decide (x.val < ((0:Int):Rat)),decide (x.val < ((256:Int):Rat))],⟨cv1 (i:=9) e (by decide +kernel) rfl,cvNot (i:=14) (x:=x) (y:=Tr.num ((0:Int):Rat)) e (esT 0) (by decide +kernel) rfl,cv2 (i:=14) (x:=x) (y:=Tr.num ((256:Int):Rat)) e (esT 256) (by decide +kernel) rfl,trivial⟩,?_⟩
  have:=oct_gd (x:=x)
  show (x.isI && (!decide (x.val < ((0:Int):Rat)) && (decide (x.val < ((256:Int):Rat)) && true)))=x.octV.isSome
  rw [Bool.and_true]
  exact this
end Go.Proofs.YthhknjlmjefklaaGreatDoor
namespace Go.Proofs.YthhknjlmjefklaaGreatDoor
open Go.RowKit
open Te
inductive Pd:Te→Prop
 | var (p n:List UInt8):Pd ⟨1,p,n,zOb,[]⟩
 | con (t:Tr) (h:t.valid=true):Pd (Te.con t.ob)
 | ap (n:List UInt8) (l:List Te) (i:Nat) (hp:pix primL 0 n=some (i,l.length)) (h:∀ x∈l,Pd x):Pd (Te.ap n l)
theorem arg_mem {t:Te} {n:List UInt8} {k i:Nat} (hi:is t n k) (hk:i < k):t.arg i∈t.args:=List.mem_of_getElem? (arg_at hi hk)
def cndT (t:Te):List Te:=match pix primL 0 t.nn with
 | some (i,_)=>cnd i t.args
 | none=>[]
def vis (hd:List Te):Nat→Te→List Te→List (List Te)
 | 0,_,_=>[]
 | f+1,t,ts =>
  if t.kind=3 then
   if is t ifB 3 then vis hd f (t.arg 0) ts++vis hd f (t.arg 1) (ts++[t.arg 0])++vis hd f (t.arg 2) (ts++[ap notB [t.arg 0]])
   else (t.args.map fun x=>vis hd f x ts).flatten++(cndT t).map fun c=>addN [] (hd++ts.map neg++[c])
  else []
theorem pix_not:pix primL 0 notB=none:=by decide +kernel
theorem pix_len:∀ x∈primL,x.2≤3:=by decide
theorem pix_get {n:List UInt8} {i a:Nat} (h:pix primL 0 n=some (i,a)):primL[i]?=some (n,a):=(pix_some h).2
theorem pix_prim:∀ {L:List (List UInt8×Nat)} {i j a:Nat} {n:List UInt8},pix L i n=some (j,a)→(L.find? fun x=>x.1 == n)=some (n,a)
 | [],_,_,_,_,h=>by cases h
 | x::r,i,j,a,n,h=>by
  rw [pix] at h
  rw [List.find?_cons]
  split at h
  ·rename_i hx
   cases h
   rw [show (x.1 == n)=true by simpa using hx]
   subst hx
   rfl
  ·rename_i hx
   rw [show (x.1 == n)=false by simpa using hx]
   exact pix_prim h
theorem pix_ari {n:List UInt8} {i a:Nat} (h:pix primL 0 n=some (i,a)) (W:List Rdr.Fnc):ariW W n=some a:=by
 unfold ariW Rdr.prim
 rw [pix_prim h]
 rfl
theorem Pd.wd {t:Te} (h:Pd t):Wd t:=by
 induction h with
 | var p n=>exact .var p n
 | con t h=>exact .con t h
 | ap n l i hp h ih =>
  have hm:=pix_len _ (List.mem_of_getElem? (pix_get hp))
  have hm:l.length≤3:=hm
  exact .ap n l (pix_ari hp _) (by omega) ih
end Go.Proofs.YthhknjlmjefklaaGreatDoor
namespace Go.Proofs.YthhknjlmjefklaaGreatDoor
open Go.RowKit
open Te
theorem p_ung {t:Te} (h:t.Wf):Puk 40 [teA t] (boA (sameD t yesT)) :=
 pwalk (an:=[.av (obA tO),.av (teA (Te.con tO)),.av (boA (sameD t yesT))]) (ls:=[]) (ps:=[Puk 47 [] (obA tO),Puk 45 [(obA tO)] (.agg [(inA 2),(stA (con tO).np),(stA (con tO).nn),(inA 2),(stA (con tO).val.num),(stA (con tO).val.den),(stA (con tO).val.sp),(stA (con tO).val.sn),(stA (con tO).val.text),(.dt (.row (List.map Ob.enc (con tO).val.pair))),(.dt (.row (List.map Te.enc (con tO).args)))]),Puk 76 [(teA t),(.agg [(inA 2),(stA (con tO).np),(stA (con tO).nn),(inA 2),(stA (con tO).val.num),(stA (con tO).val.den),(stA (con tO).val.sp),(stA (con tO).val.sn),(stA (con tO).val.text),(.dt (.row (List.map Ob.enc (con tO).val.pair))),(.dt (.row (List.map Te.enc (con tO).args)))])] (boA (sameD t yesT))]) Tryz.func40 (by kernel_rfl) (by kernel_rfl) ⟨p_oT,p_tConst tO,p_teq h (Te.con tO),trivial⟩
theorem p_gneg (t:Te):Puk 57 [teA t] (teA (neg t)):=by
 unfold neg
 by_cases h:is t notB 1
 ·rw [if_pos h]
  have h0:=arg_at h (show 0 < 1 by omega)
  generalize t.arg 0=a at *
  exact pwalk (an:=[yT,yT,.av (inA t.args.length),yT,.av (.pin ((encT a).map .dt))]) (ls:=[]) (ps:=[Bn .eql 3 (.tmp 4) (.const (vi 3)) (vi t.kind) (vi 3) bT,Bn .eql 28 (.tmp 8) (.tmp 9) (Value.agg #[str t.np,str t.nn]) (Value.agg #[Value.string { data:=#[108,105,115,112]:ByteArray },Value.string { data:=#[110,111,116]:ByteArray }]) bT,(vi ↑t.args.length)=(vi (↑(List.map Te.enc t.args).length)),Bn .eql 3 (.tmp 15) (.const (vi 1)) (vi ↑t.args.length) (vi 1) bT,IxAt (List.map Te.enc t.args) 0 11 (encT a)]) Tryz.func57 (by kernel_rfl) (by kernel_rfl) ⟨bin_ieq (yesD h.1),bin_syeq (by rw [decide_eq_true h.2.1,decide_eq_true h.2.2.1];rfl),lenEncT _,bin_ieq (by have:=h.2.2.2;simp [this]),ix_te h0,trivial⟩
 ·rw [if_neg h]
  by_cases h1:t.kind=3
  ·by_cases h2:t.np=lispB∧t.nn=notB
   ·have h3:¬ t.args.length=1:=fun e=>h ⟨h1,h2.1,h2.2,e⟩
    exact pwalk (an:=[yT,yT,.av (inA t.args.length),yF,.av (teA (ap notB [t]))]) (ls:=[]) (ps:=[Bn .eql 3 (.tmp 4) (.const (vi 3)) (vi t.kind) (vi 3) bT,Bn .eql 28 (.tmp 8) (.tmp 9) (Value.agg #[str t.np,str t.nn]) (Value.agg #[Value.string { data:=#[108,105,115,112]:ByteArray },Value.string { data:=#[110,111,116]:ByteArray }]) bT,(vi ↑t.args.length)=(vi (↑(List.map Te.enc t.args).length)),Bn .eql 3 (.tmp 15) (.const (vi 1)) (vi ↑t.args.length) (vi 1) bF,Puk 43 [(stA [110,111,116]),(.dt (.row [encT t]))] (teA (ap notB [t]))]) Tryz.func57 (by kernel_rfl) (by kernel_rfl) ⟨bin_ieq (yesD h1),bin_syeq (by rw [decide_eq_true h2.1,decide_eq_true h2.2];rfl),lenEncT _,bin_ieq (decide_eq_false (by omega)),p_tLisp notB [t] (row1 t),trivial⟩
   ·exact pwalk (an:=[yT,yF,.av (teA (ap notB [t]))]) (ls:=[]) (ps:=[Bn .eql 3 (.tmp 4) (.const (vi 3)) (vi t.kind) (vi 3) bT,Bn .eql 28 (.tmp 8) (.tmp 9) (Value.agg #[str t.np,str t.nn]) (Value.agg #[Value.string { data:=#[108,105,115,112]:ByteArray },Value.string { data:=#[110,111,116]:ByteArray }]) bF,Puk 43 [(stA [110,111,116]),(.dt (.row [encT t]))] (teA (ap notB [t]))]) Tryz.func57 (by kernel_rfl) (by kernel_rfl) ⟨bin_ieq (yesD h1),bin_syeq (sy_no h2),p_tLisp notB [t] (row1 t),trivial⟩
  ·exact pwalk (an:=[yF,.av (teA (ap notB [t]))]) (ls:=[]) (ps:=[Bn .eql 3 (.tmp 4) (.const (vi 3)) (vi t.kind) (vi 3) bF,Puk 43 [(stA [110,111,116]),(.dt (.row [encT t]))] (teA (ap notB [t]))]) Tryz.func57 (by kernel_rfl) (by kernel_rfl) ⟨bin_ieq (noD h1),p_tLisp notB [t] (row1 t),trivial⟩
theorem row2 (x y:Te):[encT x,encT y]=[x,y].map Te.enc:=by rw [List.map_cons,List.map_cons,enc_T,enc_T];rfl
abbrev allF:FuncId:=42
theorem p_all1 (n:List UInt8) (x:Te):Puk allF [stA n,.pin [.dt (.row [encT x])]] (.dt (.row [encT (ap n [x])])) :=
 pwalk (an:=[.no,.no,.no,.av (teA (ap n [x])),.no,.no,.no]) (ls:=[.run 2]) (ps:=[Puk 43 [(stA n),(.dt (.row [encT x]))] (teA (ap n [x])),1=1]) Tryz.func42 (by kernel_rfl) (by kernel_rfl) ⟨p_tLisp1 n x,rfl,trivial⟩
theorem p_all2 (n:List UInt8) (x y:Te):Puk allF [stA n,.pin [.dt (.row [encT x,encT y])]] (.dt (.row [encT (ap n [x]),encT (ap n [y])])) :=
 pwalk (an:=[.no,.no,.no,.av (teA (ap n [x])),.no,.no,.no,.no,.av (teA (ap n [y])),.no,.no,.no]) (ls:=[.run 3]) (ps:=[Puk 43 [(stA n),(.dt (.row [encT x]))] (teA (ap n [x])),Puk 43 [(stA n),(.dt (.row [encT y]))] (teA (ap n [y])),2=2]) Tryz.func42 (by kernel_rfl) (by kernel_rfl) ⟨p_tLisp1 n x,p_tLisp1 n y,rfl,trivial⟩
theorem p_allN (n:List UInt8) (x:Te):PureOwn Tryz.prog Gx allF [stA n,.pin [.dt (.row [encT x])]] 41 11 [encT (ap n [x])] :=
 SOK.pureOwn (fun _ _ h hb=>h.below hb) (psw (n:=0) (ks:=[1]) (an:=[.no,.no,.no,.av (teA (ap n [x])),.no,.no,.no]) (ls:=[.run 2]) (ps:=[Puk 43 [(stA n),(.dt (.row [encT x]))] (teA (ap n [x]))]) Tryz.func42 (by kernel_rfl) (by kernel_rfl) ⟨p_tLisp1 n x,trivial⟩) rfl
theorem p_numC {n:Int} (h0:-9223372036854775808≤n) (h1:n≤9223372036854775807):Puk 44 [inA n] (teA (kT n)) :=
 pwalk (an:=[.av (trA (.num n)),.av (teA (kT n))]) (ls:=[]) (ps:=[Puk 46 [(inA n)] (trA (Tr.num ↑n)),Puk 45 [(trA (Tr.num ↑n))] (teA (kT n))]) Tryz.func44 (by kernel_rfl) (by kernel_rfl) ⟨p_oInt n h0 h1,p_tConst _,trivial⟩
theorem tesE (l:List Te):tesA l=.dt (.row (l.map encT)):=congrArg (fun r=>AV.dt (.row r)) (List.map_congr_left fun t _=>enc_T t)
structure GC (ws:List (List Dt)) (n:List UInt8) (a:Nat):Prop where
 w:Puk 37 [.dt (.row ws),syA lispB n] (.tup [inA a,boA true])
 p:Puk 38 [syA lispB n] (.tup [inA a,boA true])
abbrev gcF:FuncId:=14
theorem w_gc0 {ws:List (List Dt)} (x y z:Te) (h:GC ws [105,102] 3):Puk gcF [.dt (.row ws),syA lispB [105,102],.dt (.row [encT x,encT y,encT z])] (.dt (.row [])) :=
 pwalk (an:=[.av (.tup [inA 3,boA true]),.no,.no,.av (.tup [inA 3,boA true]),.no,.no,.no,.no,.no,.no,.no,.no,.no,.no,.no,.no,.no,.no,.no,.no,.no]) (ls:=[]) (ps:=[Puk 37 [(.dt (.row ws)),(syA lispB [105,102])] (.tup [(inA 3),(boA true)]),Puk 38 [(syA lispB [105,102])] (.tup [(inA 3),(boA true)])]) Tryz.func14 (by kernel_rfl) (by kernel_rfl) ⟨h.w,h.p,trivial⟩
theorem w_gc1 {ws:List (List Dt)} (x y:Te) (h:GC ws [101,113,117,97,108] 2):Puk gcF [.dt (.row ws),syA lispB [101,113,117,97,108],.dt (.row [encT x,encT y])] (.dt (.row [])) :=
 pwalk (an:=[.av (.tup [inA 2,boA true]),.no,.no,.av (.tup [inA 2,boA true]),.no,.no,.no,.no,.no,.no,.no,.no,.no,.no,.no,.no,.no,.no,.no,.no,.no]) (ls:=[]) (ps:=[Puk 37 [(.dt (.row ws)),(syA lispB [101,113,117,97,108])] (.tup [(inA 2),(boA true)]),Puk 38 [(syA lispB [101,113,117,97,108])] (.tup [(inA 2),(boA true)])]) Tryz.func14 (by kernel_rfl) (by kernel_rfl) ⟨h.w,h.p,trivial⟩
theorem w_gc2 {ws:List (List Dt)} (x y:Te) (h:GC ws [99,111,110,115] 2):Puk gcF [.dt (.row ws),syA lispB [99,111,110,115],.dt (.row [encT x,encT y])] (.dt (.row [])) :=
 pwalk (an:=[.av (.tup [inA 2,boA true]),.no,.no,.av (.tup [inA 2,boA true]),.no,.no,.no,.no,.no,.no,.no,.no,.no,.no,.no,.no,.no,.no,.no,.no,.no]) (ls:=[]) (ps:=[Puk 37 [(.dt (.row ws)),(syA lispB [99,111,110,115])] (.tup [(inA 2),(boA true)]),Puk 38 [(syA lispB [99,111,110,115])] (.tup [(inA 2),(boA true)])]) Tryz.func14 (by kernel_rfl) (by kernel_rfl) ⟨h.w,h.p,trivial⟩
theorem w_gc3 {ws:List (List Dt)} (x:Te) (h:GC ws [99,97,114] 1):Puk gcF [.dt (.row ws),syA lispB [99,97,114],.dt (.row [encT x])] (.dt (.row [encT (carC x)])) :=
 pwalk (an:=[.av (.tup [inA 1,boA true]),.no,.no,.av (.tup [inA 1,boA true]),.no,.no,.av (teA (ap conspB [x])),.av (obA tO),.av (teA yesT),.no,.av (obA nilO),.av (teA noT),.av (teA (ap equalB [x,noT])),.av (teA (carC x))]) (ls:=[]) (ps:=[Puk 37 [(.dt (.row ws)),(syA lispB [99,97,114])] (.tup [(inA 1),(boA true)]),Puk 38 [(syA lispB [99,97,114])] (.tup [(inA 1),(boA true)]),Puk 43 [(stA [99,111,110,115,112]),(.dt (.row [encT x]))] (teA (ap conspB [x])),Puk 47 [] (obA tO),Puk 45 [(obA tO)] (.agg [(inA 2),(stA yesT.np),(stA yesT.nn),(inA 2),(stA yesT.val.num),(stA yesT.val.den),(stA yesT.val.sp),(stA yesT.val.sn),(stA yesT.val.text),(.dt (.row (List.map Ob.enc yesT.val.pair))),(.dt (.row (List.map Te.enc yesT.args)))]),Puk 48 [] (obA nilO),Puk 45 [(obA nilO)] (.agg [(inA 2),(stA noT.np),(stA noT.nn),(inA 2),(stA noT.val.num),(stA noT.val.den),(stA noT.val.sp),(stA noT.val.sn),(stA noT.val.text),(.dt (.row (List.map Ob.enc noT.val.pair))),(.dt (.row (List.map Te.enc noT.args)))]),Puk 43 [(stA [101,113,117,97,108]),(.dt (.row [encT x,[(.val (vi 2)),(.val (str noT.np)),(.val (str noT.nn)),(.val (vi 2)),(.val (str noT.val.num)),(.val (str noT.val.den)),(.val (str noT.val.sp)),(.val (str noT.val.sn)),(.val (str noT.val.text)),(.row (List.map Ob.enc noT.val.pair)),(.row (List.map Te.enc noT.args))]]))] (teA (ap equalB [x,noT])),Puk 43 [(stA [105,102]),(.dt (.row [encT (ap conspB [x]),[(.val (vi 2)),(.val (str yesT.np)),(.val (str yesT.nn)),(.val (vi 2)),(.val (str yesT.val.num)),(.val (str yesT.val.den)),(.val (str yesT.val.sp)),(.val (str yesT.val.sn)),(.val (str yesT.val.text)),(.row (List.map Ob.enc yesT.val.pair)),(.row (List.map Te.enc yesT.args))],encT (ap equalB [x,noT])]))] (teA (carC x))]) Tryz.func14 (by kernel_rfl) (by kernel_rfl) ⟨h.w,h.p,p_tLisp1 conspB x,p_oT,p_tConst tO,p_oNil,p_tConst nilO,p_tLisp equalB [x,noT] (row2 x noT),p_tLisp3 ifB (ap conspB [x]) yesT (ap equalB [x,noT]),trivial⟩
theorem w_gc4 {ws:List (List Dt)} (x:Te) (h:GC ws [99,100,114] 1):Puk gcF [.dt (.row ws),syA lispB [99,100,114],.dt (.row [encT x])] (.dt (.row [encT (carC x)])) :=
 pwalk (an:=[.av (.tup [inA 1,boA true]),.no,.no,.av (.tup [inA 1,boA true]),.no,.no,.no,.av (teA (ap conspB [x])),.av (obA tO),.av (teA yesT),.no,.av (obA nilO),.av (teA noT),.av (teA (ap equalB [x,noT])),.av (teA (carC x))]) (ls:=[]) (ps:=[Puk 37 [(.dt (.row ws)),(syA lispB [99,100,114])] (.tup [(inA 1),(boA true)]),Puk 38 [(syA lispB [99,100,114])] (.tup [(inA 1),(boA true)]),Puk 43 [(stA [99,111,110,115,112]),(.dt (.row [encT x]))] (teA (ap conspB [x])),Puk 47 [] (obA tO),Puk 45 [(obA tO)] (.agg [(inA 2),(stA yesT.np),(stA yesT.nn),(inA 2),(stA yesT.val.num),(stA yesT.val.den),(stA yesT.val.sp),(stA yesT.val.sn),(stA yesT.val.text),(.dt (.row (List.map Ob.enc yesT.val.pair))),(.dt (.row (List.map Te.enc yesT.args)))]),Puk 48 [] (obA nilO),Puk 45 [(obA nilO)] (.agg [(inA 2),(stA noT.np),(stA noT.nn),(inA 2),(stA noT.val.num),(stA noT.val.den),(stA noT.val.sp),(stA noT.val.sn),(stA noT.val.text),(.dt (.row (List.map Ob.enc noT.val.pair))),(.dt (.row (List.map Te.enc noT.args)))]),Puk 43 [(stA [101,113,117,97,108]),(.dt (.row [encT x,[(.val (vi 2)),(.val (str noT.np)),(.val (str noT.nn)),(.val (vi 2)),(.val (str noT.val.num)),(.val (str noT.val.den)),(.val (str noT.val.sp)),(.val (str noT.val.sn)),(.val (str noT.val.text)),(.row (List.map Ob.enc noT.val.pair)),(.row (List.map Te.enc noT.args))]]))] (teA (ap equalB [x,noT])),Puk 43 [(stA [105,102]),(.dt (.row [encT (ap conspB [x]),[(.val (vi 2)),(.val (str yesT.np)),(.val (str yesT.nn)),(.val (vi 2)),(.val (str yesT.val.num)),(.val (str yesT.val.den)),(.val (str yesT.val.sp)),(.val (str yesT.val.sn)),(.val (str yesT.val.text)),(.row (List.map Ob.enc yesT.val.pair)),(.row (List.map Te.enc yesT.args))],encT (ap equalB [x,noT])]))] (teA (carC x))]) Tryz.func14 (by kernel_rfl) (by kernel_rfl) ⟨h.w,h.p,p_tLisp1 conspB x,p_oT,p_tConst tO,p_oNil,p_tConst nilO,p_tLisp equalB [x,noT] (row2 x noT),p_tLisp3 ifB (ap conspB [x]) yesT (ap equalB [x,noT]),trivial⟩
theorem w_gc5 {ws:List (List Dt)} (x:Te) (h:GC ws [99,111,110,115,112] 1):Puk gcF [.dt (.row ws),syA lispB [99,111,110,115,112],.dt (.row [encT x])] (.dt (.row [])) :=
 pwalk (an:=[.av (.tup [inA 1,boA true]),.no,.no,.av (.tup [inA 1,boA true]),.no,.no,.no,.no,.no,.no,.no,.no,.no,.no,.no,.no,.no,.no,.no,.no,.no]) (ls:=[]) (ps:=[Puk 37 [(.dt (.row ws)),(syA lispB [99,111,110,115,112])] (.tup [(inA 1),(boA true)]),Puk 38 [(syA lispB [99,111,110,115,112])] (.tup [(inA 1),(boA true)])]) Tryz.func14 (by kernel_rfl) (by kernel_rfl) ⟨h.w,h.p,trivial⟩
theorem w_gc6 {ws:List (List Dt)} (x:Te) (h:GC ws [115,121,109,98,111,108,112] 1):Puk gcF [.dt (.row ws),syA lispB [115,121,109,98,111,108,112],.dt (.row [encT x])] (.dt (.row [])) :=
 pwalk (an:=[.av (.tup [inA 1,boA true]),.no,.no,.av (.tup [inA 1,boA true]),.no,.no,.no,.no,.no,.no,.no,.no,.no,.no,.no,.no,.no,.no,.no,.no,.no]) (ls:=[]) (ps:=[Puk 37 [(.dt (.row ws)),(syA lispB [115,121,109,98,111,108,112])] (.tup [(inA 1),(boA true)]),Puk 38 [(syA lispB [115,121,109,98,111,108,112])] (.tup [(inA 1),(boA true)])]) Tryz.func14 (by kernel_rfl) (by kernel_rfl) ⟨h.w,h.p,trivial⟩
theorem w_gc7 {ws:List (List Dt)} (x:Te) (h:GC ws [115,116,114,105,110,103,112] 1):Puk gcF [.dt (.row ws),syA lispB [115,116,114,105,110,103,112],.dt (.row [encT x])] (.dt (.row [])) :=
 pwalk (an:=[.av (.tup [inA 1,boA true]),.no,.no,.av (.tup [inA 1,boA true]),.no,.no,.no,.no,.no,.no,.no,.no,.no,.no,.no,.no,.no,.no,.no,.no,.no]) (ls:=[]) (ps:=[Puk 37 [(.dt (.row ws)),(syA lispB [115,116,114,105,110,103,112])] (.tup [(inA 1),(boA true)]),Puk 38 [(syA lispB [115,116,114,105,110,103,112])] (.tup [(inA 1),(boA true)])]) Tryz.func14 (by kernel_rfl) (by kernel_rfl) ⟨h.w,h.p,trivial⟩
theorem w_gc8 {ws:List (List Dt)} (x:Te) (h:GC ws [114,97,116,105,111,110,97,108,112] 1):Puk gcF [.dt (.row ws),syA lispB [114,97,116,105,111,110,97,108,112],.dt (.row [encT x])] (.dt (.row [])) :=
 pwalk (an:=[.av (.tup [inA 1,boA true]),.no,.no,.av (.tup [inA 1,boA true]),.no,.no,.no,.no,.no,.no,.no,.no,.no,.no,.no,.no,.no,.no,.no,.no,.no]) (ls:=[]) (ps:=[Puk 37 [(.dt (.row ws)),(syA lispB [114,97,116,105,111,110,97,108,112])] (.tup [(inA 1),(boA true)]),Puk 38 [(syA lispB [114,97,116,105,111,110,97,108,112])] (.tup [(inA 1),(boA true)])]) Tryz.func14 (by kernel_rfl) (by kernel_rfl) ⟨h.w,h.p,trivial⟩
theorem w_gc9 {ws:List (List Dt)} (x:Te) (h:GC ws [105,110,116,101,103,101,114,112] 1):Puk gcF [.dt (.row ws),syA lispB [105,110,116,101,103,101,114,112],.dt (.row [encT x])] (.dt (.row [])) :=
 pwalk (an:=[.av (.tup [inA 1,boA true]),.no,.no,.av (.tup [inA 1,boA true]),.no,.no,.no,.no,.no,.no,.no,.no,.no,.no,.no,.no,.no,.no,.no,.no,.no]) (ls:=[]) (ps:=[Puk 37 [(.dt (.row ws)),(syA lispB [105,110,116,101,103,101,114,112])] (.tup [(inA 1),(boA true)]),Puk 38 [(syA lispB [105,110,116,101,103,101,114,112])] (.tup [(inA 1),(boA true)])]) Tryz.func14 (by kernel_rfl) (by kernel_rfl) ⟨h.w,h.p,trivial⟩
theorem w_gc10 {ws:List (List Dt)} (x y:Te) (h:GC ws [98,105,110,97,114,121,45,43] 2):Puk gcF [.dt (.row ws),syA lispB [98,105,110,97,114,121,45,43],.dt (.row [encT x,encT y])] (.dt (.row [encT (ap gRat [x]),encT (ap gRat [y])])) :=
 pwalk (an:=[.av (.tup [inA 2,boA true]),.no,.no,.av (.tup [inA 2,boA true]),.no,.no,.no,.av (.dt (.row [encT (ap gRat [x]),encT (ap gRat [y])]))]) (ls:=[]) (ps:=[Puk 37 [(.dt (.row ws)),(syA lispB [98,105,110,97,114,121,45,43])] (.tup [(inA 2),(boA true)]),Puk 38 [(syA lispB [98,105,110,97,114,121,45,43])] (.tup [(inA 2),(boA true)]),Puk 42 [(stA [114,97,116,105,111,110,97,108,112]),(.pin [(.dt (.row [encT x,encT y]))])] (.dt (.row [encT (ap gRat [x]),encT (ap gRat [y])]))]) Tryz.func14 (by kernel_rfl) (by kernel_rfl) ⟨h.w,h.p,p_all2 gRat x y,trivial⟩
theorem w_gc11 {ws:List (List Dt)} (x y:Te) (h:GC ws [98,105,110,97,114,121,45,42] 2):Puk gcF [.dt (.row ws),syA lispB [98,105,110,97,114,121,45,42],.dt (.row [encT x,encT y])] (.dt (.row [encT (ap gRat [x]),encT (ap gRat [y])])) :=
 pwalk (an:=[.av (.tup [inA 2,boA true]),.no,.no,.av (.tup [inA 2,boA true]),.no,.no,.no,.no,.av (.dt (.row [encT (ap gRat [x]),encT (ap gRat [y])]))]) (ls:=[]) (ps:=[Puk 37 [(.dt (.row ws)),(syA lispB [98,105,110,97,114,121,45,42])] (.tup [(inA 2),(boA true)]),Puk 38 [(syA lispB [98,105,110,97,114,121,45,42])] (.tup [(inA 2),(boA true)]),Puk 42 [(stA [114,97,116,105,111,110,97,108,112]),(.pin [(.dt (.row [encT x,encT y]))])] (.dt (.row [encT (ap gRat [x]),encT (ap gRat [y])]))]) Tryz.func14 (by kernel_rfl) (by kernel_rfl) ⟨h.w,h.p,p_all2 gRat x y,trivial⟩
theorem w_gc12 {ws:List (List Dt)} (x:Te) (h:GC ws [117,110,97,114,121,45,45] 1):Puk gcF [.dt (.row ws),syA lispB [117,110,97,114,121,45,45],.dt (.row [encT x])] (.dt (.row [encT (ap gRat [x])])) :=
 pwalk (an:=[.av (.tup [inA 1,boA true]),.no,.no,.av (.tup [inA 1,boA true]),.no,.no,.no,.no,.no,.no,.av (.dt (.row [encT (ap gRat [x])]))]) (ls:=[]) (ps:=[Puk 37 [(.dt (.row ws)),(syA lispB [117,110,97,114,121,45,45])] (.tup [(inA 1),(boA true)]),Puk 38 [(syA lispB [117,110,97,114,121,45,45])] (.tup [(inA 1),(boA true)]),Puk 42 [(stA [114,97,116,105,111,110,97,108,112]),(.pin [(.dt (.row [encT x]))])] (.dt (.row [encT (ap gRat [x])]))]) Tryz.func14 (by kernel_rfl) (by kernel_rfl) ⟨h.w,h.p,p_all1 gRat x,trivial⟩
theorem w_gc13 {ws:List (List Dt)} (x:Te) (h:GC ws [117,110,97,114,121,45,47] 1):Puk gcF [.dt (.row ws),syA lispB [117,110,97,114,121,45,47],.dt (.row [encT x])] (.dt (.row [encT (ap gRat [x]),encT (ap notB [ap equalB [x,kT 0]])])) :=
 pwalk (an:=[.av (.tup [inA 1,boA true]),.no,.no,.av (.tup [inA 1,boA true]),.av (.tup [.un]),.no,.no,.no,.no,.no,.no,.no,.no,.no,.no,.av (.tup [.own 41 11,.dt (.row [encT (ap gRat [x])])]),.no,.av (teA (kT 0)),.av (teA (ap equalB [x,kT 0])),.av (teA (ap notB [ap equalB [x,kT 0]])),.no]) (ls:=[]) (ps:=[Puk 37 [(.dt (.row ws)),(syA lispB [117,110,97,114,121,45,47])] (.tup [(inA 1),(boA true)]),Puk 38 [(syA lispB [117,110,97,114,121,45,47])] (.tup [(inA 1),(boA true)]),PureOwn Tryz.prog EX.G 42 ([AV.dt (Dt.val (Value.string { data:=#[114,97,116,105,111,110,97,108,112]:ByteArray }))]++[AV.pin (List.drop 0 [AV.dt (Dt.row [encT x])])]) 41 11 [encT (ap gRat [x])],Puk 44 [(inA 0)] (.agg [(inA 2),(stA (kT 0).np),(stA (kT 0).nn),(inA 1),(stA (kT 0).val.num),(stA (kT 0).val.den),(stA (kT 0).val.sp),(stA (kT 0).val.sn),(stA (kT 0).val.text),(.dt (.row (List.map Ob.enc (kT 0).val.pair))),(.dt (.row (List.map Te.enc (kT 0).args)))]),Puk 43 [(stA [101,113,117,97,108]),(.dt (.row [encT x,[(.val (vi 2)),(.val (str (kT 0).np)),(.val (str (kT 0).nn)),(.val (vi 1)),(.val (str (kT 0).val.num)),(.val (str (kT 0).val.den)),(.val (str (kT 0).val.sp)),(.val (str (kT 0).val.sn)),(.val (str (kT 0).val.text)),(.row (List.map Ob.enc (kT 0).val.pair)),(.row (List.map Te.enc (kT 0).args))]]))] (teA (ap equalB [x,kT 0])),Puk 43 [(stA [110,111,116]),(.dt (.row [encT (ap equalB [x,kT 0])]))] (teA (ap notB [ap equalB [x,kT 0]])),2=2]) Tryz.func14 (by kernel_rfl) (by kernel_rfl) ⟨h.w,h.p,p_allN gRat x,p_numC (by decide) (by decide),p_tLisp equalB [x,kT 0] (row2 x (kT 0)),p_tLisp1 notB (ap equalB [x,kT 0]),rfl,trivial⟩
theorem w_gc14 {ws:List (List Dt)} (x y:Te) (h:GC ws [60] 2):Puk gcF [.dt (.row ws),syA lispB [60],.dt (.row [encT x,encT y])] (.dt (.row [encT (ap gRat [x]),encT (ap gRat [y])])) :=
 pwalk (an:=[.av (.tup [inA 2,boA true]),.no,.no,.av (.tup [inA 2,boA true]),.no,.no,.no,.no,.no,.av (.dt (.row [encT (ap gRat [x]),encT (ap gRat [y])]))]) (ls:=[]) (ps:=[Puk 37 [(.dt (.row ws)),(syA lispB [60])] (.tup [(inA 2),(boA true)]),Puk 38 [(syA lispB [60])] (.tup [(inA 2),(boA true)]),Puk 42 [(stA [114,97,116,105,111,110,97,108,112]),(.pin [(.dt (.row [encT x,encT y]))])] (.dt (.row [encT (ap gRat [x]),encT (ap gRat [y])]))]) Tryz.func14 (by kernel_rfl) (by kernel_rfl) ⟨h.w,h.p,p_all2 gRat x y,trivial⟩
theorem w_gc15 {ws:List (List Dt)} (x:Te) (h:GC ws [110,117,109,101,114,97,116,111,114] 1):Puk gcF [.dt (.row ws),syA lispB [110,117,109,101,114,97,116,111,114],.dt (.row [encT x])] (.dt (.row [encT (ap gRat [x])])) :=
 pwalk (an:=[.av (.tup [inA 1,boA true]),.no,.no,.av (.tup [inA 1,boA true]),.no,.no,.no,.no,.no,.no,.no,.av (.dt (.row [encT (ap gRat [x])]))]) (ls:=[]) (ps:=[Puk 37 [(.dt (.row ws)),(syA lispB [110,117,109,101,114,97,116,111,114])] (.tup [(inA 1),(boA true)]),Puk 38 [(syA lispB [110,117,109,101,114,97,116,111,114])] (.tup [(inA 1),(boA true)]),Puk 42 [(stA [114,97,116,105,111,110,97,108,112]),(.pin [(.dt (.row [encT x]))])] (.dt (.row [encT (ap gRat [x])]))]) Tryz.func14 (by kernel_rfl) (by kernel_rfl) ⟨h.w,h.p,p_all1 gRat x,trivial⟩
theorem w_gc16 {ws:List (List Dt)} (x:Te) (h:GC ws [100,101,110,111,109,105,110,97,116,111,114] 1):Puk gcF [.dt (.row ws),syA lispB [100,101,110,111,109,105,110,97,116,111,114],.dt (.row [encT x])] (.dt (.row [encT (ap gRat [x])])) :=
 pwalk (an:=[.av (.tup [inA 1,boA true]),.no,.no,.av (.tup [inA 1,boA true]),.no,.no,.no,.no,.no,.no,.no,.no,.av (.dt (.row [encT (ap gRat [x])]))]) (ls:=[]) (ps:=[Puk 37 [(.dt (.row ws)),(syA lispB [100,101,110,111,109,105,110,97,116,111,114])] (.tup [(inA 1),(boA true)]),Puk 38 [(syA lispB [100,101,110,111,109,105,110,97,116,111,114])] (.tup [(inA 1),(boA true)]),Puk 42 [(stA [114,97,116,105,111,110,97,108,112]),(.pin [(.dt (.row [encT x]))])] (.dt (.row [encT (ap gRat [x])]))]) Tryz.func14 (by kernel_rfl) (by kernel_rfl) ⟨h.w,h.p,p_all1 gRat x,trivial⟩
theorem w_gc17 {ws:List (List Dt)} (x:Te) (h:GC ws [102,108,111,111,114] 1):Puk gcF [.dt (.row ws),syA lispB [102,108,111,111,114],.dt (.row [encT x])] (.dt (.row [encT (ap gRat [x])])) :=
 pwalk (an:=[.av (.tup [inA 1,boA true]),.no,.no,.av (.tup [inA 1,boA true]),.no,.no,.no,.no,.no,.no,.no,.no,.no,.av (.dt (.row [encT (ap gRat [x])]))]) (ls:=[]) (ps:=[Puk 37 [(.dt (.row ws)),(syA lispB [102,108,111,111,114])] (.tup [(inA 1),(boA true)]),Puk 38 [(syA lispB [102,108,111,111,114])] (.tup [(inA 1),(boA true)]),Puk 42 [(stA [114,97,116,105,111,110,97,108,112]),(.pin [(.dt (.row [encT x]))])] (.dt (.row [encT (ap gRat [x])]))]) Tryz.func14 (by kernel_rfl) (by kernel_rfl) ⟨h.w,h.p,p_all1 gRat x,trivial⟩
theorem w_gc18 {ws:List (List Dt)} (x:Te) (h:GC ws [115,121,109,98,111,108,45,110,97,109,101] 1):Puk gcF [.dt (.row ws),syA lispB [115,121,109,98,111,108,45,110,97,109,101],.dt (.row [encT x])] (.dt (.row [encT (ap gSym [x])])) :=
 pwalk (an:=[.av (.tup [inA 1,boA true]),.no,.no,.av (.tup [inA 1,boA true]),.no,.no,.no,.no,.no,.no,.no,.no,.no,.no,.no,.av (.dt (.row [encT (ap gSym [x])]))]) (ls:=[]) (ps:=[Puk 37 [(.dt (.row ws)),(syA lispB [115,121,109,98,111,108,45,110,97,109,101])] (.tup [(inA 1),(boA true)]),Puk 38 [(syA lispB [115,121,109,98,111,108,45,110,97,109,101])] (.tup [(inA 1),(boA true)]),Puk 42 [(stA [115,121,109,98,111,108,112]),(.pin [(.dt (.row [encT x]))])] (.dt (.row [encT (ap gSym [x])]))]) Tryz.func14 (by kernel_rfl) (by kernel_rfl) ⟨h.w,h.p,p_all1 gSym x,trivial⟩
theorem w_gc19 {ws:List (List Dt)} (x:Te) (h:GC ws [115,121,109,98,111,108,45,112,97,99,107,97,103,101,45,110,97,109,101] 1):Puk gcF [.dt (.row ws),syA lispB [115,121,109,98,111,108,45,112,97,99,107,97,103,101,45,110,97,109,101],.dt (.row [encT x])] (.dt (.row [encT (ap gSym [x])])) :=
 pwalk (an:=[.av (.tup [inA 1,boA true]),.no,.no,.av (.tup [inA 1,boA true]),.no,.no,.no,.no,.no,.no,.no,.no,.no,.no,.no,.no,.av (.dt (.row [encT (ap gSym [x])]))]) (ls:=[]) (ps:=[Puk 37 [(.dt (.row ws)),(syA lispB [115,121,109,98,111,108,45,112,97,99,107,97,103,101,45,110,97,109,101])] (.tup [(inA 1),(boA true)]),Puk 38 [(syA lispB [115,121,109,98,111,108,45,112,97,99,107,97,103,101,45,110,97,109,101])] (.tup [(inA 1),(boA true)]),Puk 42 [(stA [115,121,109,98,111,108,112]),(.pin [(.dt (.row [encT x]))])] (.dt (.row [encT (ap gSym [x])]))]) Tryz.func14 (by kernel_rfl) (by kernel_rfl) ⟨h.w,h.p,p_all1 gSym x,trivial⟩
theorem w_gc20 {ws:List (List Dt)} (x y:Te) (h:GC ws [105,110,116,101,114,110] 2):Puk gcF [.dt (.row ws),syA lispB [105,110,116,101,114,110],.dt (.row [encT x,encT y])] (.dt (.row [encT (ap gTxt [x]),encT (ap gTxt [y])])) :=
 pwalk (an:=[.av (.tup [inA 2,boA true]),.no,.no,.av (.tup [inA 2,boA true]),.no,.no,.no,.no,.no,.no,.no,.no,.no,.no,.no,.no,.no,.av (.dt (.row [encT (ap gTxt [x]),encT (ap gTxt [y])]))]) (ls:=[]) (ps:=[Puk 37 [(.dt (.row ws)),(syA lispB [105,110,116,101,114,110])] (.tup [(inA 2),(boA true)]),Puk 38 [(syA lispB [105,110,116,101,114,110])] (.tup [(inA 2),(boA true)]),Puk 42 [(stA [115,116,114,105,110,103,112]),(.pin [(.dt (.row [encT x,encT y]))])] (.dt (.row [encT (ap gTxt [x]),encT (ap gTxt [y])]))]) Tryz.func14 (by kernel_rfl) (by kernel_rfl) ⟨h.w,h.p,p_all2 gTxt x y,trivial⟩
theorem w_gc21 {ws:List (List Dt)} (x y:Te) (h:GC ws [115,116,114,105,110,103,45,97,112,112,101,110,100] 2):Puk gcF [.dt (.row ws),syA lispB [115,116,114,105,110,103,45,97,112,112,101,110,100],.dt (.row [encT x,encT y])] (.dt (.row [encT (ap gTxt [x]),encT (ap gTxt [y])])) :=
 pwalk (an:=[.av (.tup [inA 2,boA true]),.no,.no,.av (.tup [inA 2,boA true]),.no,.no,.no,.no,.no,.no,.no,.no,.no,.no,.no,.no,.no,.no,.av (.dt (.row [encT (ap gTxt [x]),encT (ap gTxt [y])]))]) (ls:=[]) (ps:=[Puk 37 [(.dt (.row ws)),(syA lispB [115,116,114,105,110,103,45,97,112,112,101,110,100])] (.tup [(inA 2),(boA true)]),Puk 38 [(syA lispB [115,116,114,105,110,103,45,97,112,112,101,110,100])] (.tup [(inA 2),(boA true)]),Puk 42 [(stA [115,116,114,105,110,103,112]),(.pin [(.dt (.row [encT x,encT y]))])] (.dt (.row [encT (ap gTxt [x]),encT (ap gTxt [y])]))]) Tryz.func14 (by kernel_rfl) (by kernel_rfl) ⟨h.w,h.p,p_all2 gTxt x y,trivial⟩
theorem w_gc22 {ws:List (List Dt)} (x:Te) (h:GC ws [115,116,114,105,110,103,45,108,101,110,103,116,104] 1):Puk gcF [.dt (.row ws),syA lispB [115,116,114,105,110,103,45,108,101,110,103,116,104],.dt (.row [encT x])] (.dt (.row [encT (ap gTxt [x])])) :=
 pwalk (an:=[.av (.tup [inA 1,boA true]),.no,.no,.av (.tup [inA 1,boA true]),.no,.no,.no,.no,.no,.no,.no,.no,.no,.no,.no,.no,.no,.no,.no,.av (.dt (.row [encT (ap gTxt [x])]))]) (ls:=[]) (ps:=[Puk 37 [(.dt (.row ws)),(syA lispB [115,116,114,105,110,103,45,108,101,110,103,116,104])] (.tup [(inA 1),(boA true)]),Puk 38 [(syA lispB [115,116,114,105,110,103,45,108,101,110,103,116,104])] (.tup [(inA 1),(boA true)]),Puk 42 [(stA [115,116,114,105,110,103,112]),(.pin [(.dt (.row [encT x]))])] (.dt (.row [encT (ap gTxt [x])]))]) Tryz.func14 (by kernel_rfl) (by kernel_rfl) ⟨h.w,h.p,p_all1 gTxt x,trivial⟩
theorem w_gc23 {ws:List (List Dt)} (x y:Te) (h:GC ws [115,116,114,105,110,103,45,98,121,116,101] 2):Puk gcF [.dt (.row ws),syA lispB [115,116,114,105,110,103,45,98,121,116,101],.dt (.row [encT x,encT y])] (.dt (.row [encT (ap gTxt [x]),encT (ap gInt [y]),encT (ap notB [ap gLss [y,kT 0]]),encT (ap gLss [y,ap gLen [x]])])) :=
 pwalk (an:=[.av (.tup [inA 2,boA true]),.no,.no,.av (.tup [inA 2,boA true]),.no,.no,.no,.no,.no,.no,.no,.no,.no,.no,.no,.no,.no,.no,.no,.no,.no,.av (teA (ap gTxt [x])),.no,.av (teA (ap gInt [y])),.no,.av (teA (kT 0)),.av (teA (ap gLss [y,kT 0])),.av (teA (ap notB [ap gLss [y,kT 0]])),.no,.no,.av (teA (ap gLen [x])),.av (teA (ap gLss [y,ap gLen [x]]))]) (ls:=[]) (ps:=[Puk 37 [(.dt (.row ws)),(syA lispB [115,116,114,105,110,103,45,98,121,116,101])] (.tup [(inA 2),(boA true)]),Puk 38 [(syA lispB [115,116,114,105,110,103,45,98,121,116,101])] (.tup [(inA 2),(boA true)]),Puk 43 [(stA [115,116,114,105,110,103,112]),(.dt (.row [encT x]))] (teA (ap gTxt [x])),Puk 43 [(stA [105,110,116,101,103,101,114,112]),(.dt (.row [encT y]))] (teA (ap gInt [y])),Puk 44 [(inA 0)] (.agg [(inA 2),(stA (kT 0).np),(stA (kT 0).nn),(inA 1),(stA (kT 0).val.num),(stA (kT 0).val.den),(stA (kT 0).val.sp),(stA (kT 0).val.sn),(stA (kT 0).val.text),(.dt (.row (List.map Ob.enc (kT 0).val.pair))),(.dt (.row (List.map Te.enc (kT 0).args)))]),Puk 43 [(stA [60]),(.dt (.row [encT y,[(.val (vi 2)),(.val (str (kT 0).np)),(.val (str (kT 0).nn)),(.val (vi 1)),(.val (str (kT 0).val.num)),(.val (str (kT 0).val.den)),(.val (str (kT 0).val.sp)),(.val (str (kT 0).val.sn)),(.val (str (kT 0).val.text)),(.row (List.map Ob.enc (kT 0).val.pair)),(.row (List.map Te.enc (kT 0).args))]]))] (teA (ap gLss [y,kT 0])),Puk 43 [(stA [110,111,116]),(.dt (.row [encT (ap gLss [y,kT 0])]))] (teA (ap notB [ap gLss [y,kT 0]])),Puk 43 [(stA [115,116,114,105,110,103,45,108,101,110,103,116,104]),(.dt (.row [encT x]))] (teA (ap gLen [x])),Puk 43 [(stA [60]),(.dt (.row [encT y,encT (ap gLen [x])]))] (teA (ap gLss [y,ap gLen [x]]))]) Tryz.func14 (by kernel_rfl) (by kernel_rfl) ⟨h.w,h.p,p_tLisp1 gTxt x,p_tLisp1 gInt y,p_numC (by decide) (by decide),p_tLisp gLss [y,kT 0] (row2 y (kT 0)),p_tLisp1 notB (ap gLss [y,kT 0]),p_tLisp1 gLen x,p_tLisp gLss [y,ap gLen [x]] (row2 y (ap gLen [x])),trivial⟩
theorem w_gc24 {ws:List (List Dt)} (x:Te) (h:GC ws [98,121,116,101,45,115,116,114,105,110,103] 1):Puk gcF [.dt (.row ws),syA lispB [98,121,116,101,45,115,116,114,105,110,103],.dt (.row [encT x])] (.dt (.row [encT (ap gInt [x]),encT (ap notB [ap gLss [x,kT 0]]),encT (ap gLss [x,kT 256])])) :=
 pwalk (an:=[.av (.tup [inA 1,boA true]),.no,.no,.av (.tup [inA 1,boA true]),.no,.no,.no,.no,.no,.no,.no,.no,.no,.no,.no,.no,.no,.no,.no,.no,.no,.no,.av (teA (ap gInt [x])),.no,.av (teA (kT 0)),.av (teA (ap gLss [x,kT 0])),.av (teA (ap notB [ap gLss [x,kT 0]])),.no,.av (teA (kT 256)),.av (teA (ap gLss [x,kT 256]))]) (ls:=[]) (ps:=[Puk 37 [(.dt (.row ws)),(syA lispB [98,121,116,101,45,115,116,114,105,110,103])] (.tup [(inA 1),(boA true)]),Puk 38 [(syA lispB [98,121,116,101,45,115,116,114,105,110,103])] (.tup [(inA 1),(boA true)]),Puk 43 [(stA [105,110,116,101,103,101,114,112]),(.dt (.row [encT x]))] (teA (ap gInt [x])),Puk 44 [(inA 0)] (.agg [(inA 2),(stA (kT 0).np),(stA (kT 0).nn),(inA 1),(stA (kT 0).val.num),(stA (kT 0).val.den),(stA (kT 0).val.sp),(stA (kT 0).val.sn),(stA (kT 0).val.text),(.dt (.row (List.map Ob.enc (kT 0).val.pair))),(.dt (.row (List.map Te.enc (kT 0).args)))]),Puk 43 [(stA [60]),(.dt (.row [encT x,[(.val (vi 2)),(.val (str (kT 0).np)),(.val (str (kT 0).nn)),(.val (vi 1)),(.val (str (kT 0).val.num)),(.val (str (kT 0).val.den)),(.val (str (kT 0).val.sp)),(.val (str (kT 0).val.sn)),(.val (str (kT 0).val.text)),(.row (List.map Ob.enc (kT 0).val.pair)),(.row (List.map Te.enc (kT 0).args))]]))] (teA (ap gLss [x,kT 0])),Puk 43 [(stA [110,111,116]),(.dt (.row [encT (ap gLss [x,kT 0])]))] (teA (ap notB [ap gLss [x,kT 0]])),Puk 44 [(inA 256)] (.agg [(inA 2),(stA (kT 256).np),(stA (kT 256).nn),(inA 1),(stA (kT 256).val.num),(stA (kT 256).val.den),(stA (kT 256).val.sp),(stA (kT 256).val.sn),(stA (kT 256).val.text),(.dt (.row (List.map Ob.enc (kT 256).val.pair))),(.dt (.row (List.map Te.enc (kT 256).args)))]),Puk 43 [(stA [60]),(.dt (.row [encT x,[(.val (vi 2)),(.val (str (kT 256).np)),(.val (str (kT 256).nn)),(.val (vi 1)),(.val (str (kT 256).val.num)),(.val (str (kT 256).val.den)),(.val (str (kT 256).val.sp)),(.val (str (kT 256).val.sn)),(.val (str (kT 256).val.text)),(.row (List.map Ob.enc (kT 256).val.pair)),(.row (List.map Te.enc (kT 256).args))]]))] (teA (ap gLss [x,kT 256]))]) Tryz.func14 (by kernel_rfl) (by kernel_rfl) ⟨h.w,h.p,p_tLisp1 gInt x,p_numC (by decide) (by decide),p_tLisp gLss [x,kT 0] (row2 x (kT 0)),p_tLisp1 notB (ap gLss [x,kT 0]),p_numC (by decide) (by decide),p_tLisp gLss [x,kT 256] (row2 x (kT 256)),trivial⟩
theorem p_gCond {ws:List (List Dt)}:∀ {i:Nat} {s:List UInt8} {a:Nat} {l:List Te},primL[i]?=some (s,a)→GC ws s a→l.length=a→Puk gcF [.dt (.row ws),syA lispB s,tesA l] (tesA (cnd i l)):=by
 intro i s a l h hg ha
 have hi:i < 25:=(List.getElem?_eq_some_iff.1 h).1
 match i,hi with
 | 0,_=>cases h;obtain ⟨x,y,z,rfl⟩:=len3 ha;have k:=w_gc0 x y z hg;rw [tesE,tesE];exact k
 | 1,_=>cases h;obtain ⟨x,y,rfl⟩:=len2 ha;have k:=w_gc1 x y hg;rw [tesE,tesE];exact k
 | 2,_=>cases h;obtain ⟨x,y,rfl⟩:=len2 ha;have k:=w_gc2 x y hg;rw [tesE,tesE];exact k
 | 3,_=>cases h;obtain ⟨x,rfl⟩:=len1 ha;have k:=w_gc3 x hg;rw [tesE,tesE];exact k
 | 4,_=>cases h;obtain ⟨x,rfl⟩:=len1 ha;have k:=w_gc4 x hg;rw [tesE,tesE];exact k
 | 5,_=>cases h;obtain ⟨x,rfl⟩:=len1 ha;have k:=w_gc5 x hg;rw [tesE,tesE];exact k
 | 6,_=>cases h;obtain ⟨x,rfl⟩:=len1 ha;have k:=w_gc6 x hg;rw [tesE,tesE];exact k
 | 7,_=>cases h;obtain ⟨x,rfl⟩:=len1 ha;have k:=w_gc7 x hg;rw [tesE,tesE];exact k
 | 8,_=>cases h;obtain ⟨x,rfl⟩:=len1 ha;have k:=w_gc8 x hg;rw [tesE,tesE];exact k
 | 9,_=>cases h;obtain ⟨x,rfl⟩:=len1 ha;have k:=w_gc9 x hg;rw [tesE,tesE];exact k
 | 10,_=>cases h;obtain ⟨x,y,rfl⟩:=len2 ha;have k:=w_gc10 x y hg;rw [tesE,tesE];exact k
 | 11,_=>cases h;obtain ⟨x,y,rfl⟩:=len2 ha;have k:=w_gc11 x y hg;rw [tesE,tesE];exact k
 | 12,_=>cases h;obtain ⟨x,rfl⟩:=len1 ha;have k:=w_gc12 x hg;rw [tesE,tesE];exact k
 | 13,_=>cases h;obtain ⟨x,rfl⟩:=len1 ha;have k:=w_gc13 x hg;rw [tesE,tesE];exact k
 | 14,_=>cases h;obtain ⟨x,y,rfl⟩:=len2 ha;have k:=w_gc14 x y hg;rw [tesE,tesE];exact k
 | 15,_=>cases h;obtain ⟨x,rfl⟩:=len1 ha;have k:=w_gc15 x hg;rw [tesE,tesE];exact k
 | 16,_=>cases h;obtain ⟨x,rfl⟩:=len1 ha;have k:=w_gc16 x hg;rw [tesE,tesE];exact k
 | 17,_=>cases h;obtain ⟨x,rfl⟩:=len1 ha;have k:=w_gc17 x hg;rw [tesE,tesE];exact k
 | 18,_=>cases h;obtain ⟨x,rfl⟩:=len1 ha;have k:=w_gc18 x hg;rw [tesE,tesE];exact k
 | 19,_=>cases h;obtain ⟨x,rfl⟩:=len1 ha;have k:=w_gc19 x hg;rw [tesE,tesE];exact k
 | 20,_=>cases h;obtain ⟨x,y,rfl⟩:=len2 ha;have k:=w_gc20 x y hg;rw [tesE,tesE];exact k
 | 21,_=>cases h;obtain ⟨x,y,rfl⟩:=len2 ha;have k:=w_gc21 x y hg;rw [tesE,tesE];exact k
 | 22,_=>cases h;obtain ⟨x,rfl⟩:=len1 ha;have k:=w_gc22 x hg;rw [tesE,tesE];exact k
 | 23,_=>cases h;obtain ⟨x,y,rfl⟩:=len2 ha;have k:=w_gc23 x y hg;rw [tesE,tesE];exact k
 | 24,_=>cases h;obtain ⟨x,rfl⟩:=len1 ha;have k:=w_gc24 x hg;rw [tesE,tesE];exact k
end Go.Proofs.YthhknjlmjefklaaGreatDoor
namespace Go.Proofs.YthhknjlmjefklaaGreatDoor
open Go.RowKit
theorem Tri.frzL {E:En} {c:Code} {s s':AS} {e:AE} (t b:Nat) {T:TypeId} {kk:Nat} {es:List (List Dt)} (htl:t < s.tm.length) (hb:s.bx[b]?=some (some (.buf T kk es))) (ht:s.tmf t=.own b es.length) (h:Tri E c ⟨s.tm.set t (.dt (.row es)),s.bx.set b (some (.fzn es))⟩ e s'):Tri E c s e s':=by
 obtain ⟨h1,h2⟩:=h
 have hlen:(s.tm.set t (.dt (.row es))).length=s.tm.length:=List.length_set ..
 refine ⟨h1.trans hlen,fun X n0 w0 ok0 a w hG ⟨M,hI⟩=>?_⟩
 have hbl:b < s.bx.length:=(List.getElem?_eq_some_iff.1 hb).1
 have hbf:s.bxf b=some (.buf T kk es):=by unfold AS.bxf;rw [hb]
 obtain ⟨M',g,hS,hm,ho,hF⟩:=hI.sto.frz hbf
 have e1:(AS.mk (s.tm.set t (.dt (.row es))) (s.bx.set b (some (.fzn es)))).tmf=fun i=>if i=t then .dt (.row es) else s.tmf i:=by
  funext i
  unfold AS.tmf
  by_cases hi:i=t
  ·subst hi
   simp [List.getD_eq_getElem?_getD,htl]
  ·simp [List.getD_eq_getElem?_getD,Ne.symm hi,hi]
 have e2:(AS.mk (s.tm.set t (.dt (.row es))) (s.bx.set b (some (.fzn es)))).bxf=updX1 s.bxf b (.fzn es):=by
  funext k
  unfold AS.bxf
  by_cases hk:k=b
  ·subst hk
   simp [hbl]
  ·simp only [if_neg hk]
   rw [List.getElem?_set_ne (Ne.symm hk)]
 have hL:Left X n0 w0 ok0 (AS.mk (s.tm.set t (.dt (.row es))) (s.bx.set b (some (.fzn es)))).tm.length (AS.mk (s.tm.set t (.dt (.row es))) (s.bx.set b (some (.fzn es)))).tmf (AS.mk (s.tm.set t (.dt (.row es))) (s.bx.set b (some (.fzn es)))).bxf a w:=by
  rw [e1,e2,show (AS.mk (s.tm.set t (.dt (.row es))) (s.bx.set b (some (.fzn es)))).tm.length=s.tm.length from hlen]
  refine ⟨M',hI.below,hI.le,hI.defers,hI.size,fun i=>?_,hS,fun q hq hl=>?_,hI.anc.trans g⟩
  ·by_cases hi:i=t
   ·subst hi
    have hv:=hI.tmps i
    rw [ht] at hv
    obtain ⟨A,c1,A',n',c',hv1,hv2,hv3,hv4⟩:=hv
    obtain ⟨A2,n2,c2,k1,k2⟩:=hS.box b (.fzn es) (if_pos rfl)
    rw [ho,hv2] at k1
    cases k1
    have hn:=k2.len
    obtain ⟨rfl,rfl⟩:=hv4 hn
    show RV _ _ (if i=i then _ else _) _
    rw [if_pos rfl,hv1,hn]
    exact k2
   ·show RV _ _ (if i=t then _ else _) _
    rw [if_neg hi]
    exact RV.go g _ _ (hI.tmps i)
  ·rcases hF q hq with e | e | e
   ·exact hI.src q e hl
   ·omega
   ·exact .inr e
 have:=h2 X n0 w0 ok0 a w hG hL
 rw [show (AS.mk (s.tm.set t (.dt (.row es))) (s.bx.set b (some (.fzn es)))).tm.length=s.tm.length from hlen] at this
 exact this
theorem SOK.ownV {P:Program} {G:World→Prop} {f:FuncId} {args:List AV} {a b b':AV} {T:TypeId} {kk:Nat} {r:AV} {xs':List (Option Bx)} (hbb:∀ M w v,RV M w b v→RV M w b' v) (h:SOK P G f args [some (.cells [a,b',.own 1 0]),some (.buf T kk [])] r xs'):SOK P G f args [some (.cells [a,b,.nil])] r xs':=by
 refine ⟨h.1,fun X M w vs hG hS hargs=>?_⟩
 have hk:lk [some (.cells [a,b,.nil])] 1=none:=rfl
 have g:Go1 X w.heap.size M w (M.own0 1) w:=go_own0 hS hk
 have hS2:=sto_own0 hS (Nat.le_refl _) hk T kk
 have hb0:updX1 (lk [some (.cells [a,b,.nil])]) 1 (.buf T kk []) 0=some (.cells [a,b,.nil]):=rfl
 have far:∀ q,updX1 (lk [some (.cells [a,b,.nil])]) 1 (.buf T kk []) (q+2)=none:=fun q=>by
  show (if q+2=1 then _ else _)=_
  rw [if_neg (by omega)]
  rfl
 have e0:∀ q x,q≠0→lk [some (.cells [a,b',.own 1 0]),some (.buf T kk [])] q=some x→updX1 (lk [some (.cells [a,b,.nil])]) 1 (.buf T kk []) q=some x:=by
  intro q x hq hx
  match q,hq with
  | 1,_=>exact hx
  | q+2,_=>simp [lk] at hx
 have old:∀ q x p,lk [some (.cells [a,b',.own 1 0]),some (.buf T kk [])] q=some x→Hx (M.own0 1) q x p→∃ y,updX1 (lk [some (.cells [a,b,.nil])]) 1 (.buf T kk []) q=some y∧Hx (M.own0 1) q y p:=by
  intro q x p hx hp
  by_cases hq:q=0
  ·subst hq
   cases hx
   exact ⟨_,hb0,hp⟩
  ·exact ⟨x,e0 q x hq hx,hp⟩
 have hS3:Sto X w.heap.size (M.own0 1) (lk [some (.cells [a,b',.own 1 0]),some (.buf T kk [])]) w:=by
  refine ⟨fun q x hx=>?_,fun q x p hx hp=>?_,fun q q' x x' p h1 h2 h3 h4=>?_,fun q p hp=>?_,fun q v hv=>?_,hS2.fz⟩
  ·by_cases hq:q=0
   ·subst hq
    cases hx
    obtain ⟨gg,T',us,k1,k2,u,us',rfl,k3,u2,us2,rfl,k4,u3,us3,rfl,k5,k6⟩:=hS2.box 0 _ hb0
    exact ⟨gg,T',_,k1,k2,u,_,rfl,k3,u2,_,rfl,hbb _ _ _ k4,u3,us3,rfl,⟨none,0,none,0,0,k5,M.own0_at 1,Nat.le_refl _,fun _=>⟨rfl,rfl⟩⟩,k6⟩
   ·exact hS2.box q x (e0 q x hq hx)
  ·obtain ⟨y,h1,h2⟩:=old q x p hx hp
   exact hS2.dom q y p h1 h2
  ·obtain ⟨y,k1,k2⟩:=old q x p h1 h3
   obtain ⟨y',k1',k2'⟩:=old q' x' p h2 h4
   exact hS2.inj q q' y y' p k1 k1' k2 k2'
  ·obtain ⟨x,h1,h2⟩:=hS2.hm q p hp
   match q,h1 with
   | 0,_=>exact ⟨_,rfl,rfl⟩
   | 1,h1=>exact ⟨x,h1,h2⟩
   | q+2,h1=>rw [far q] at h1;cases h1
  ·have h1:=hS2.ho q v hv
   match q,h1 with
   | 0,_=>rfl
   | 1,_=>rfl
   | q+2,h1=>rw [far q] at h1;cases h1
 refine (h.2 X (M.own0 1) w vs hG hS3 (RL.go g _ _ hargs)).mono fun e w' ⟨v,M',h1,h2,h3,h4,h5⟩=>⟨v,M',h1,g.trans h2,h3,fun q hq=>h4 q hq,h5⟩
end Go.Proofs.YthhknjlmjefklaaGreatDoor
namespace Go.Proofs.YthhknjlmjefklaaGreatDoor
open Go.RowKit
open Te
abbrev clnF:FuncId:=95
theorem p_clnT0:Suk clnF [.dt (.row [])] [] (.own 0 0) [some (.buf 41 11 [])] :=
 .empty (fun c=>.retNil (psw (n:=0) (ks:=[]) (an:=[yT]) (ls:=[]) (ps:=[Bn .eql 39 (.tmp 3) (.const (Value.slice none 0 0)) (Value.slice none 0 c) (Value.slice none 0 0) bT]) Tryz.func95 (by kernel_rfl) (by kernel_rfl) ⟨bin_nil (e:=41) (by kernel_rfl),trivial⟩))
  fun A c=>psw (n:=0) (ks:=[0]) (an:=[yF,.no]) (ls:=[]) (ps:=[Bn .eql 39 (.tmp 3) (.const (Value.slice none 0 0)) (Value.slice (some A) 0 c) (Value.slice none 0 0) bF,FitM 0 0]) Tryz.func95 (by kernel_rfl) (by kernel_rfl) ⟨bin_nil (e:=41) (by kernel_rfl),fitM0,trivial⟩
theorem p_clnT {es:List (List Dt)} (h0:es≠[]) (hl:es.length≤1000) (hs:SrcOK 11 es):Suk clnF [.dt (.row es)] [] (.own 0 es.length) [some (.buf 41 11 es)] :=
 psw (n:=0) (ks:=[0]) (an:=[.no,.av (.un)]) (ls:=[]) (ps:=[es≠[],FitM 0 0,0=0,FitB 176 (([]++es).length),SrcOK 11 es]) Tryz.func95 (by kernel_rfl) (by kernel_rfl) ⟨h0,fitM0,rfl,fit_of (by omega) (by rw [List.nil_append];omega),hs,trivial⟩
theorem p_clnL {l:List Te} (hl:l.length≤1000):Suk clnF [tesA l] [] (.own 0 (l.map Te.enc).length) [some (.buf 41 11 (l.map Te.enc))]:=by
 cases l with
 | nil=>exact p_clnT0
 | cons x r=>exact p_clnT (es:=(x::r).map Te.enc) (by simp) (by rw [List.length_map];exact hl) (src_te _)
theorem p_vis1 {x:Te} (hx:x.Wf) (y:Te):Puk 97 [teA y,.pin ((encT x).map .dt)] (boA (sameD x y)) :=
 pwalk (an:=[.av (boA (sameD x y))]) (ls:=[]) (ps:=[Puk 76 [(teA x),(teA y)] (boA (sameD x y))]) Tryz.func97 (by kernel_rfl) (by kernel_rfl) ⟨p_teq hx y,trivial⟩
theorem p_visC {x:Te} {out:List Te} (hx:x.Wf) (hl:out.length≤1000):Puk 96 [tesA out,.clf 97 [.pin ((encT x).map .dt)]] (boA (decide (x∈out))):=by
 have h:=p_ctFunc (c:=out) (f:=97) (cs:=[.pin ((encT x).map .dt)]) (p:=fun y=>sameD x y) (by omega) (fun y _=>p_vis1 hx y)
 have e:(out.any fun y=>sameD x y)=decide (x∈out):=by
  rw [Bool.eq_iff_iff,List.any_eq_true,decide_eq_true_iff]
  exact ⟨fun ⟨y,h1,h2⟩=>by rw [of_decide_eq_true h2];exact h1,fun h=>⟨x,h,decide_eq_true rfl⟩⟩
 rw [← e]
 exact h
abbrev visF:FuncId:=58
abbrev vbX (ws:List (List Dt)) (hd:List Te) (cs:List (List Dt)):List (Option Bx):=[some (.cells [.dt (.row ws),tesA hd,.own 1 cs.length]),some (.buf 81 1 cs)]
abbrev vtS (ws:List (List Dt)) (hd ts C:List Te) (cs:List (List Dt)) (c:Te) (j:Int) (es:List (List Dt)) (i:Int):AS:=⟨stt 138 [(0,.ptr 0 0),(2,tesA ts),(9,.ptr 2 0),(10,.own 3 es.length),(86,tesA C),(87,inA C.length),(88,inA j),(97,tesA ts),(98,inA ts.length),(99,inA i)],vbX ws hd cs++[some (.cells ((encT c).map .dt)),some (.buf 41 11 es)]⟩
noncomputable abbrev vtB:Code:=subC (bodyOf Tryz.f58) [1,1,1,1,1,0,0,1,1,0,0,1,1,0,1,0,0]
theorem vtB1 {ws:List (List Dt)} {hd ts C:List Te} {cs:List (List Dt)} {c x:Te} {j:Int} {es:List (List Dt)} {i:Nat} (hx:ts[i]?=some x) (hl:ts.length≤1000) (he:es.length≤5000):Tri (EXn 2) vtB (vtS ws hd ts C cs c j es i) .nxt (vtS ws hd ts C cs c j (es++[encT (neg x)]) ((i+1:Nat):Int)) :=
 have hi:=(List.getElem?_eq_some_iff.1 hx).1
 tw (E:=EXn 2) (c:=subC (bodyOf Tryz.f58) [1,1,1,1,1,0,0,1,1,0,0,1,1,0,1,0,0]) (s:=vtS ws hd ts C cs c j es i) (an:=[yT,.av (.pin ((encT x).map .dt)),.av (teA (neg x)),.av (.un),.av (inA ((i+1:Nat):Int))]) (ls:=[]) (ft:=[0,2,9,10,86,87,88,97,98,99]) (nb:=4) (e:=.nxt) (s':=vtS ws hd ts C cs c j (es++[encT (neg x)]) ((i+1:Nat):Int)) (ps:=[Bn .lss 3 (.tmp 99) (.tmp 98) (vi ↑i) (vi ↑ts.length) bT,IxAt (List.map Te.enc ts) ↑i 11 (encT x),Puk 57 [(teA x)] (teA x.neg),(es.length)=(es.length),FitB 176 ((es++[[Dt.val (vi x.neg.kind),Dt.val (str x.neg.np),Dt.val (str x.neg.nn),Dt.val (vi x.neg.val.kind),Dt.val (str x.neg.val.num),Dt.val (str x.neg.val.den),Dt.val (str x.neg.val.sp),Dt.val (str x.neg.val.sn),Dt.val (str x.neg.val.text),Dt.row (List.map Ob.enc x.neg.val.pair),Dt.row (List.map Te.enc x.neg.args)]]).length),SrcOK 11 [encT x.neg],Bn .add 3 (.tmp 99) (.const (vi 1)) (vi ↑i) (vi 1) (vi (↑(i+1)))]) (by kernel_rfl) ⟨bin_ilt (decide_eq_true (by omega)),ix_te hx,p_gneg x,rfl,fit_of (by omega) (by simp;omega),src_te1 _,bin_iadd (by omega) (by omega) (by omega),trivial⟩
theorem vtB3 {ws:List (List Dt)} {hd ts C:List Te} {cs:List (List Dt)} {c:Te} {j:Int} {es:List (List Dt)} {i:Nat} (hi:i=ts.length):Tri (EXn 2) vtB (vtS ws hd ts C cs c j es i) (.out 4) (vtS ws hd ts C cs c j es i) :=
 tw (E:=EXn 2) (c:=subC (bodyOf Tryz.f58) [1,1,1,1,1,0,0,1,1,0,0,1,1,0,1,0,0]) (s:=vtS ws hd ts C cs c j es i) (an:=[yF]) (ls:=[]) (ft:=[0,2,9,10,86,87,88,97,98,99]) (nb:=4) (e:=.out 4) (s':=vtS ws hd ts C cs c j es i) (ps:=[Bn .lss 3 (.tmp 99) (.tmp 98) (vi ↑i) (vi ↑ts.length) bF]) (by kernel_rfl) ⟨bin_ilt (decide_eq_false (by omega)),trivial⟩
theorem vt_loop {ws:List (List Dt)} {hd ts C:List Te} {cs:List (List Dt)} {c:Te} {j:Int} (hl:ts.length≤1000):∀ (q:List Te) (i:Nat) (es:List (List Dt)),ts.drop i=q→i≤ts.length→es.length≤1000+i→Lps (EXn 2) vtB (vtS ws hd ts C cs c j es i) (.out 4) (vtS ws hd ts C cs c j (es++(q.map neg).map Te.enc) ts.length):=by
 intro q
 induction q with
 | nil =>
  intro i es hd hi he
  have e1:=congrArg List.length hd
  rw [List.length_drop,List.length_nil] at e1
  obtain rfl:i=ts.length:=by omega
  rw [List.map_nil,List.map_nil,List.append_nil]
  exact .stop (vtB3 rfl) (fun h=>by cases h)
 | cons x q ih =>
  intro i es hd hi he
  have hx:ts[i]?=some x:=by rw [← List.head?_drop,hd];rfl
  have hlt:=(List.getElem?_eq_some_iff.1 hx).1
  have:=ih (i+1) (es++[encT (neg x)]) (by rw [← List.drop_drop,hd];rfl) hlt (by simp;omega)
  rw [List.append_assoc] at this
  have e:[encT (neg x)]++(q.map neg).map Te.enc=((x::q).map neg).map Te.enc:=by rw [row1];rfl
  rw [e] at this
  exact .more (vtB1 hx hl (by omega)) this
abbrev vdS (ws:List (List Dt)) (hd ts C:List Te) (cs:List (List Dt)) (c:Te) (j:Int) (E out:List Te) (i:Int):AS:=⟨stt 138 [(0,.ptr 0 0),(2,tesA ts),(13,.own 4 out.length),(86,tesA C),(87,inA C.length),(88,inA j),(112,tesA E),(113,inA E.length),(114,inA i)],vbX ws hd cs++[some (.cells ((encT c).map .dt)),some (.fzn (E.map Te.enc)),some (.buf 41 11 (out.map Te.enc))]⟩
noncomputable abbrev vdB:Code:=subC (bodyOf Tryz.f58) [1,1,1,1,1,0,0,1,1,0,0,1,1,1,1,0,1,0,0]
theorem vdB1 {ws:List (List Dt)} {hd ts C:List Te} {cs:List (List Dt)} {c x:Te} {j:Int} {E out:List Te} {i:Nat} (hx:E[i]?=some x) (hl:E.length≤5000) (ho:out.length≤1000) (hw:x.Wf) (hm:x∈out):Tri (EXn 2) vdB (vdS ws hd ts C cs c j E out i) .nxt (vdS ws hd ts C cs c j E out ((i+1:Nat):Int)) :=
 have hi:=(List.getElem?_eq_some_iff.1 hx).1
 tw (E:=EXn 2) (c:=subC (bodyOf Tryz.f58) [1,1,1,1,1,0,0,1,1,0,0,1,1,1,1,0,1,0,0]) (s:=vdS ws hd ts C cs c j E out i) (an:=[yT,.av (.pin ((encT x).map .dt)),yT,.av (inA ((i+1:Nat):Int))]) (ls:=[]) (ft:=[0,2,13,86,87,88,112,113,114]) (nb:=5) (e:=.nxt) (s':=vdS ws hd ts C cs c j E out ((i+1:Nat):Int)) (ps:=[Bn .lss 3 (.tmp 114) (.tmp 113) (vi ↑i) (vi ↑E.length) bT,IxAt (List.map Te.enc E) ↑i 11 (encT x),Puk 96 [(.dt (.row (List.map Te.enc out))),(.clf 97 [(.pin ((encT x).map .dt))])] (boA true),((List.map Te.enc out).length)=(out.length),Bn .add 3 (.tmp 114) (.const (vi 1)) (vi ↑i) (vi 1) (vi (↑(i+1)))]) (by kernel_rfl) ⟨bin_ilt (decide_eq_true (by omega)),ix_te hx,(p_visC hw ho).b (decide_eq_true hm),List.length_map ..,bin_iadd (by omega) (by omega) (by omega),trivial⟩
theorem vdB2 {ws:List (List Dt)} {hd ts C:List Te} {cs:List (List Dt)} {c x:Te} {j:Int} {E out:List Te} {i:Nat} (hx:E[i]?=some x) (hl:E.length≤5000) (ho:out.length≤1000) (hw:x.Wf) (hm:x ∉ out):Tri (EXn 2) vdB (vdS ws hd ts C cs c j E out i) .nxt (vdS ws hd ts C cs c j E (out++[x]) ((i+1:Nat):Int)):=by
 have hi:=(List.getElem?_eq_some_iff.1 hx).1
 have h:Tri (EXn 2) vdB (vdS ws hd ts C cs c j E out i) .nxt ⟨stt 138 [(0,.ptr 0 0),(2,tesA ts),(13,.own 4 (out.map Te.enc++[encT x]).length),(86,tesA C),(87,inA C.length),(88,inA j),(112,tesA E),(113,inA E.length),(114,inA ((i+1:Nat):Int))],vbX ws hd cs++[some (.cells ((encT c).map .dt)),some (.fzn (E.map Te.enc)),some (.buf 41 11 (out.map Te.enc++[encT x]))]⟩ :=
  tw (E:=EXn 2) (c:=subC (bodyOf Tryz.f58) [1,1,1,1,1,0,0,1,1,0,0,1,1,1,1,0,1,0,0]) (s:=vdS ws hd ts C cs c j E out i) (an:=[yT,.av (.pin ((encT x).map .dt)),yF,.av (.un),.av (inA ((i+1:Nat):Int))]) (ls:=[]) (ft:=[0,2,13,86,87,88,112,113,114]) (nb:=5) (e:=.nxt) (s':=⟨stt 138 [(0,.ptr 0 0),(2,tesA ts),(13,.own 4 (out.map Te.enc++[encT x]).length),(86,tesA C),(87,inA C.length),(88,inA j),(112,tesA E),(113,inA E.length),(114,inA ((i+1:Nat):Int))],vbX ws hd cs++[some (.cells ((encT c).map .dt)),some (.fzn (E.map Te.enc)),some (.buf 41 11 (out.map Te.enc++[encT x]))]⟩) (ps:=[Bn .lss 3 (.tmp 114) (.tmp 113) (vi ↑i) (vi ↑E.length) bT,IxAt (List.map Te.enc E) ↑i 11 (encT x),Puk 96 [(.dt (.row (List.map Te.enc out))),(.clf 97 [(.pin ((encT x).map .dt))])] (boA false),((List.map Te.enc out).length)=(out.length),((List.map Te.enc out).length)=(out.length),FitB 176 ((List.map Te.enc out++[encT x]).length),SrcOK 11 [encT x],Bn .add 3 (.tmp 114) (.const (vi 1)) (vi ↑i) (vi 1) (vi (↑(i+1)))]) (by kernel_rfl) ⟨bin_ilt (decide_eq_true (by omega)),ix_te hx,(p_visC hw ho).b (decide_eq_false hm),List.length_map ..,List.length_map ..,fit_of (by omega) (by simp;omega),src_te1 _,bin_iadd (by omega) (by omega) (by omega),trivial⟩
 have e:out.map Te.enc++[encT x]=(out++[x]).map Te.enc:=enc_snoc out x
 rw [e,List.length_map] at h
 exact h
theorem vdB3 {ws:List (List Dt)} {hd ts C:List Te} {cs:List (List Dt)} {c:Te} {j:Int} {E out:List Te} {i:Nat} (hi:i=E.length):Tri (EXn 2) vdB (vdS ws hd ts C cs c j E out i) (.out 6) (vdS ws hd ts C cs c j E out i) :=
 tw (E:=EXn 2) (c:=subC (bodyOf Tryz.f58) [1,1,1,1,1,0,0,1,1,0,0,1,1,1,1,0,1,0,0]) (s:=vdS ws hd ts C cs c j E out i) (an:=[yF]) (ls:=[]) (ft:=[0,2,13,86,87,88,112,113,114]) (nb:=5) (e:=.out 6) (s':=vdS ws hd ts C cs c j E out i) (ps:=[Bn .lss 3 (.tmp 114) (.tmp 113) (vi ↑i) (vi ↑E.length) bF]) (by kernel_rfl) ⟨bin_ilt (decide_eq_false (by omega)),trivial⟩
theorem vd_loop {ws:List (List Dt)} {hd ts C:List Te} {cs:List (List Dt)} {c:Te} {j:Int} {E:List Te} (hl:E.length≤900) (hw:∀ x∈E,x.Wf):∀ (q:List Te) (i:Nat) (out:List Te),E.drop i=q→i≤E.length→out.length≤i→Lps (EXn 2) vdB (vdS ws hd ts C cs c j E out i) (.out 6) (vdS ws hd ts C cs c j E (addN out q) E.length):=by
 intro q
 induction q with
 | nil =>
  intro i out hd hi ho
  have e1:=congrArg List.length hd
  rw [List.length_drop,List.length_nil] at e1
  obtain rfl:i=E.length:=by omega
  exact .stop (vdB3 rfl) (fun h=>by cases h)
 | cons x q ih =>
  intro i out hd hi ho
  have hx:E[i]?=some x:=by rw [← List.head?_drop,hd];rfl
  have hlt:=(List.getElem?_eq_some_iff.1 hx).1
  have hw1:=hw x (List.mem_of_getElem? hx)
  rw [addN]
  by_cases hm:x∈out
  ·rw [if_pos hm]
   exact .more (vdB1 hx (by omega) (by omega) hw1 hm) (ih (i+1) out (by rw [← List.drop_drop,hd];rfl) hlt (by omega))
  ·rw [if_neg hm]
   exact .more (vdB2 hx (by omega) (by omega) hw1 hm) (ih (i+1) (out++[x]) (by rw [← List.drop_drop,hd];rfl) hlt (by simp;omega))
end Go.Proofs.YthhknjlmjefklaaGreatDoor
namespace Go.Proofs.YthhknjlmjefklaaGreatDoor
open Go.RowKit
open Te
abbrev vgS (ws:List (List Dt)) (hd ts C:List Te) (cs:List (List Dt)) (i:Int):AS:=⟨stt 138 [(0,.ptr 0 0),(2,tesA ts),(86,tesA C),(87,inA C.length),(88,inA i)],vbX ws hd cs⟩
noncomputable abbrev vgB:Code:=subC (bodyOf Tryz.f58) [1,1,1,1,1,0,0]
abbrev vd0 (ws:List (List Dt)) (hd ts C:List Te) (cs:List (List Dt)) (c:Te) (j m:Int) (es:List (List Dt)):AS:=⟨stt 138 [(0,.ptr 0 0),(2,tesA ts),(13,.nil),(86,tesA C),(87,inA C.length),(88,inA j),(112,.own 3 es.length),(113,inA m),(114,inA 0)],vbX ws hd cs++[some (.cells ((encT c).map .dt)),some (.buf 41 11 es)]⟩
theorem vgB1 {ws:List (List Dt)} {hd ts C E out:List Te} {cs es:List (List Dt)} {c:Te} {i m:Nat} {k k2:Int} (hx:C[i]?=some c) (hC:C.length≤1000) (hcs:cs.length≤100000) (hes:es.length≤3000) (hm:m=es.length+1) (hh:Suk clnF [tesA hd] [] (.own 0 (hd.map Te.enc).length) [some (.buf 41 11 (hd.map Te.enc))])
  (h3:Tri (EXn 2) (.loop vtB) (vtS ws hd ts C cs c i (hd.map Te.enc) 0) (.out 4) (vtS ws hd ts C cs c i es k)) (h4:Tri (EXn 2) (.loop vdB) (vd0 ws hd ts C cs c i m (es++[encT c])) (.out 6) (vdS ws hd ts C cs c i E out k2)):Tri (EXn 2) vgB (vgS ws hd ts C cs i) .nxt (vgS ws hd ts C (cs++[encC out]) ((i+1:Nat):Int)) :=
 have hi:=(List.getElem?_eq_some_iff.1 hx).1
 tw (E:=EXn 2) (c:=subC (bodyOf Tryz.f58) [1,1,1,1,1,0,0]) (s:=vgS ws hd ts C cs i) (an:=[yT,.av (.pin ((encT c).map .dt)),.av (inA ts.length),.av (.un),.av (inA m),.av (.un),.av (inA ((i+1:Nat):Int))]) (ls:=[.scl 14 4 [] (.own 0 (hd.map Te.enc).length) [some (.buf 41 11 (hd.map Te.enc))],.inv [0,2,9,10,86,87,88,97,98,99] 4 (.out 4) (vtS ws hd ts C cs c i es k),.inv [0,2,13,86,87,88,112,113,114] 4 (.out 6) (vdS ws hd ts C cs c i E out k2)]) (ft:=[0,2,86,87,88]) (nb:=2) (e:=.nxt) (s':=vgS ws hd ts C (cs++[encC out]) ((i+1:Nat):Int)) (ps:=[Bn .lss 3 (.tmp 88) (.tmp 87) (vi ↑i) (vi ↑C.length) bT,IxAt (List.map Te.enc C) ↑i 11 (encT c),Suk 95 [AV.dt (Dt.row (List.map Te.enc hd))] [] (AV.own 0 (List.map Te.enc hd).length) [some (Bx.buf 41 11 (List.map Te.enc hd))],(vi ↑ts.length)=(vi (↑(List.map Te.enc ts).length)),Tri (EXn 2) (.loop (subC (bodyOf Tryz.f58) [1,1,1,1,1,0,0,1,1,0,0,1,1,0,1,0,0])) (vtS ws hd ts C cs c i (hd.map Te.enc) 0) (.out 4) (vtS ws hd ts C cs c i es k),(es.length)=(es.length),FitB 176 ((es++[encT c]).length),SrcOK 11 [encT c],(vi ↑m)=(vi (↑(es++[encT c]).length)),Tri (EXn 2) (.loop (subC (bodyOf Tryz.f58) [1,1,1,1,1,0,0,1,1,0,0,1,1,1,1,0,1,0,0])) (vd0 ws hd ts C cs c i m (es++[encT c])) (.out 6) (vdS ws hd ts C cs c i E out k2),((List.map Te.enc out).length)=(out.length),(cs.length)=(cs.length),FitB 24 ((cs++[[Dt.row (List.map Te.enc out)]]).length),SrcOK 1 [[(.row (List.map Te.enc out))]],Bn .add 3 (.tmp 88) (.const (vi 1)) (vi ↑i) (vi 1) (vi (↑(i+1)))]) (by kernel_rfl) ⟨bin_ilt (decide_eq_true (by omega)),ix_te hx,hh,lenEncT _,h3,rfl,fit_of (by omega) (by simp;omega),src_te1 c,congrArg vi (by rw [hm];simp),h4,List.length_map ..,rfl,fit_of (by omega) (by simp;omega),src_c _,bin_iadd (by omega) (by omega) (by omega),trivial⟩
theorem vgB3 {ws:List (List Dt)} {hd ts C:List Te} {cs:List (List Dt)} {i:Nat} (hi:i=C.length):Tri (EXn 2) vgB (vgS ws hd ts C cs i) (.out 2) (vgS ws hd ts C cs i) :=
 tw (E:=EXn 2) (c:=subC (bodyOf Tryz.f58) [1,1,1,1,1,0,0]) (s:=vgS ws hd ts C cs i) (an:=[yF]) (ls:=[]) (ft:=[0,2,86,87,88]) (nb:=2) (e:=.out 2) (s':=vgS ws hd ts C cs i) (ps:=[Bn .lss 3 (.tmp 88) (.tmp 87) (vi ↑i) (vi ↑C.length) bF]) (by kernel_rfl) ⟨bin_ilt (decide_eq_false (by omega)),trivial⟩
theorem vg_loop {ws:List (List Dt)} {hd ts C:List Te} (hC:C.length≤100) (hhd:∀ x∈hd,x.Wf) (hts:∀ x∈ts,(neg x).Wf) (hCw:∀ x∈C,x.Wf) (hl1:hd.length≤100) (hl2:ts.length≤600):∀ (q:List Te) (i:Nat) (cs:List (List Dt)),C.drop i=q→i≤C.length→cs.length≤50000+i→Lps (EXn 2) vgB (vgS ws hd ts C cs i) (.out 2) (vgS ws hd ts C (cs++(q.map fun c=>addN [] (hd++ts.map neg++[c])).map encC) C.length):=by
 intro q
 induction q with
 | nil =>
  intro i cs hd' hi hcs
  have e1:=congrArg List.length hd'
  rw [List.length_drop,List.length_nil] at e1
  obtain rfl:i=C.length:=by omega
  rw [List.map_nil,List.map_nil,List.append_nil]
  exact .stop (vgB3 rfl) (fun h=>by cases h)
 | cons c q ih =>
  intro i cs hd' hi hcs
  have hx:C[i]?=some c:=by rw [← List.head?_drop,hd'];rfl
  have hlt:=(List.getElem?_eq_some_iff.1 hx).1
  have k:=ih (i+1) (cs++[encC (addN [] (hd++ts.map neg++[c]))]) (by rw [← List.drop_drop,hd'];rfl) hlt (by simp;omega)
  rw [List.append_assoc cs] at k
  refine .more ?_ k
  have h3:=(vt_loop (ws:=ws) (hd:=hd) (ts:=ts) (C:=C) (cs:=cs) (c:=c) (j:=(i:Int)) (by omega) ts 0 (hd.map Te.enc) rfl (Nat.zero_le _) (by rw [List.length_map];omega)).tri
  have e:(hd.map Te.enc++(ts.map neg).map Te.enc)++[encT c]=(hd++ts.map neg++[c]).map Te.enc:=by rw [List.map_append,List.map_append,row1]
  have hE:∀ x∈hd++ts.map neg++[c],x.Wf:=fun x hx'=>by
   rcases List.mem_append.1 hx' with h | h
   ·rcases List.mem_append.1 h with h | h
    ·exact hhd x h
    ·obtain ⟨y,hy,rfl⟩:=List.mem_map.1 h
     exact hts y hy
   ·rw [List.mem_singleton] at h;subst h;exact hCw x (List.mem_of_getElem? hx)
  have h4:=(vd_loop (ws:=ws) (hd:=hd) (ts:=ts) (C:=C) (cs:=cs) (c:=c) (j:=(i:Int)) (E:=hd++ts.map neg++[c]) (by simp;omega) hE _ 0 [] rfl (Nat.zero_le _) (Nat.zero_le _)).tri
  have len:((hd++ts.map neg++[c]).map Te.enc).length=(hd++ts.map neg++[c]).length:=List.length_map ..
  refine vgB1 (E:=hd++ts.map neg++[c]) (k2:=((hd++ts.map neg++[c]).length:Nat)) (es:=hd.map Te.enc++(ts.map neg).map Te.enc) (m:=(hd++ts.map neg++[c]).length) hx (by omega) (by omega) (by simp;omega) (by simp;omega) (p_clnL (by omega)) h3 (Tri.own0 13 41 11 (by show 13 < 138;omega) rfl ?_)
  rw [e]
  exact Tri.frzL 112 3 (T:=41) (kk:=11) (es:=(hd++ts.map neg++[c]).map Te.enc) (by show 112 < 138;omega) rfl rfl h4
end Go.Proofs.YthhknjlmjefklaaGreatDoor
