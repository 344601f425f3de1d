/- Plain arithmetic of decimals and limbs: what the Go texts of chapter 1 compute, with no program in sight. -/
import Derived.Lib.ItoaMem
import Derived.Lib.ParseIntB
import Derived.Lib.AtoiAll
import Derived.Lib.Strings
import Derived.WalkKit
import Derived.WalkSpells
import Derived.Test.YthhknjlmjefklaaGreatDoorProg
import Derived.Deep.QuietTactic
import Derived.BigQuiet
import Derived.OwnWalk
set_option maxRecDepth 100000
set_option maxHeartbeats 4000000
namespace Go.Proofs.YthhknjlmjefklaaGreatDoor
theorem J{p:Prop}(h:p:=by omega):p:=h
theorem O{p:Prop}(h:p:=by decide):p:=h
theorem I{p:Prop}(h:p:=by simp):p:=h
theorem Z:True:=⟨⟩
abbrev aa0:=List UInt8
theorem WF:∀ {p:Prop} [Decidable p],¬p→decide p=false:=@decide_eq_false
theorem WP:∀ {p:Prop},p→Go.RowKit.Hid p:=@Lib.hid
theorem UV:∀ {p:Prop} [Decidable p],p→decide p=true:=@decide_eq_true
theorem Pi.{u}:∀ {α:Type u}{i:Nat}{a:α}{l:List α},l[i]?=some a↔∃ h,l[i]=a:=@List.getElem?_eq_some_iff
theorem PP.{u}:∀ {α:Type u}{a:α}{l:List α},a∈a::l:=@List.mem_cons_self
theorem NE:∀ (n:Nat),n≤n:=@Nat.le_refl
theorem IR.{u}:∀ {α:Type u} [BEq α] [LawfulBEq α] {a b:α},(a == b)=false↔a ≠ b:=@beq_eq_false_iff_ne
theorem EQ.{u,v}:∀ {α:Type u}{β:Type v}{q:List α} (f:α→β),(List.map f q).length=q.length:=@List.length_map
theorem AC:∀ (a b:Bool),((a && b)=true)=(a=true∧b=true):=@Bool.and_eq_true
theorem ww:∀ (n:Nat),0≤n:=@Nat.zero_le
theorem ut.{u}:∀ {α:Type u}{a b:α},a∈[b]↔a=b:=@List.mem_singleton
theorem lm.{u}:∀ {α:Type u} (y:α) {a:α}{l:List α},a∈l→a∈y::l:=@List.mem_cons_of_mem
theorem lw.{u}:∀ {c:Prop}{_:Decidable c},¬c→∀ {α:Sort u}{t e:α},(if c then t else e)=e:=@if_neg
theorem bi.{u}:∀ {α:Type u}{l:List α}{i:Nat}{a:α},l.getD i a=l[i]?.getD a:=@List.getD_eq_getElem?_getD
theorem Za0.{u}:∀ {c:Prop}{_:Decidable c},c→∀ {α:Sort u}{t e:α},(if c then t else e)=t:=@if_pos
theorem Za1.{u}:∀ {α:Type u}{a:α}{q:List α},(a::q).length=q.length+1:=@List.length_cons
theorem Za2.{u}:∀ {α:Type u}{l:List α}{i:Nat} (h:i < l.length),l[i]?=some l[i]:=@List.getElem?_eq_getElem
theorem Za3:∀ {p:Prop} [Decidable p],(decide p=true)=p:=@decide_eq_true_eq
theorem Za4.{u}:∀ {α:Type u}{q bs:List α},(q ++ bs).length=q.length+bs.length:=@List.length_append
theorem Za5.{u}:∀ {α:Type u}{l:List α}{i:Nat}{a:α},l[i]?=some a→a∈l:=@List.mem_of_getElem?
theorem Za6:∀ {n m k:Nat},n≤m→m≤k→n≤k:=@Nat.le_trans
theorem Za7.{u}:∀ {α:Type u}{i:Nat}{l:List α},(List.drop i l).length=l.length - i:=@List.length_drop
theorem Za8:∀ {α β:Type} (P:Go.Program) (w:Go.World) (x:Go.Sem α) (f:α→Go.Sem β),Go.Sem.run P (x >>= f) w=(Go.Sem.run P x w).andThen fun a w' => Go.Sem.run P (f a) w':=@Sem.run_bind
theorem Za9.{u}:∀ {α:Type u}{l:List α},l.length=0→l=[]:=@List.eq_nil_of_length_eq_zero
theorem Zaa:∀ {n m k:Nat},n < m→m≤k→n < k:=@Nat.lt_of_lt_of_le
theorem Zab:∀ {α:Type} (P:Go.Program) (w:Go.World) (a:α),Go.Sem.run P (pure a) w=Go.Result.ok a w:=@Sem.run_pure
theorem Zad:∀ {p:Prop} [Decidable p],decide p=true→p:=@of_decide_eq_true
theorem Zae.{u}:∀ {α:Type u}{i:Nat}{l:List α},l.length≤i→List.take i l=l:=@List.take_of_length_le
theorem Zaf.{u}:∀ {α:Type u}{l:List α}{i:Nat},l.length≤i→l[i]?=none:=@List.getElem?_eq_none
theorem Zag.{u,v}:∀ {α:Type u}{β:Type v}{f:α→β}{l:List α}{i:Nat},(List.map f l)[i]?=Option.map f l[i]?:=@List.getElem?_map
theorem Zah.{u}:∀ {α:Type u} (q bs cs:List α),q ++ bs ++ cs=q ++ (bs ++ cs):=@List.append_assoc
theorem Zai:∀ (n m:Nat),n < m∨n ≥ m:=@Nat.lt_or_ge
theorem Zaj.{u}:∀ {α:Type u}{i j:Nat}{l:List α},List.drop i (List.drop j l)=List.drop (j+i) l:=@List.drop_drop
theorem Zak.{u}:∀ {α:Type u}{l:List α}{i:Nat},(List.drop i l).head?=l[i]?:=@List.head?_drop
theorem Zal:∀ {b:Bool},b=false↔b ≠ true:=@Bool.eq_false_iff
theorem Zam:∀ {p q:Prop}{_:Decidable p}{_:Decidable q},decide p=decide q↔(p↔q):=@decide_eq_decide
theorem Zao.{u}:∀ {α:Type u}{b:α}{l:List α}{a:α},a∈b::l↔a=b∨a∈l:=@List.mem_cons
theorem Zap:∀ (a:Option Go.Addr) (len cap:Nat) (a_1:Option Go.Addr) (len_1 cap_1:Nat),(Go.Value.slice a len cap=Go.Value.slice a_1 len_1 cap_1)=(a=a_1∧len=len_1∧cap=cap_1):=@Value.slice.injEq
theorem Zar:∀ (s:ByteArray),s.size=s.data.toList.length:=@Lib.size_eq
theorem Zas:∀ (n:Nat),n=0∨n > 0:=@Nat.eq_zero_or_pos
theorem Zat:∀ {P:Go.Program}{t:Go.TypeId}{d:Go.TypeDesc},P.underlying t=some d→∀ (w:Go.World),Go.Sem.run P (Go.underlying t) w=Go.Result.ok d w:=@run_underlying
theorem Zau:∀ {n m:Nat},n.beq m=true→n=m:=@Nat.eq_of_beq_eq_true
theorem Zav.{u}:∀ {α:Type u}{p:α→Bool}{l:List α},l.all p=true↔∀ (x:α),x∈l→p x=true:=@List.all_eq_true
theorem Zaw.{u}:∀ {α:Type u}{a:α},[a].length=1:=@List.length_singleton
theorem Zax.{u}:∀ {α:Type u}{i:Nat}{l:List α},l.length≤i→List.drop i l=[]:=@List.drop_of_length_le
theorem Zay.{u}:∀ {α:Type u}{l:List α}{n:Nat} (h:n < l.length),l[n]∈l:=@List.getElem_mem
theorem Zaz.{u}:∀ {α:Type u}{i:Nat}{l:List α},(List.take i l).length=min i l.length:=@List.length_take
theorem ZaA.{u}:∀ {α:Type u}{a:α}{s t:List α},a∈s ++ t↔a∈s∨a∈t:=@List.mem_append
theorem ZaB.{u}:∀ {α:Type u}{a:α}{q:List α} (bs:List α),a∈q→a∈q ++ bs:=@List.mem_append_left
theorem ZaC.{u,v}:∀ {α:Type u}{β:Type v}{f:α→β}{a:α}{l:List α},List.map f (a::l)=f a::List.map f l:=@List.map_cons
theorem ZaD:∀ {n m:Nat},n.ble m=true→n≤m:=@Nat.le_of_ble_eq_true
theorem ZaF:∀ {n:Nat},n > 0→∀ {i j:Nat},i≤j→n ^ i≤n ^ j:=@Nat.pow_le_pow_right
theorem ZaG.{u,v}:∀ {α:Type u}{b:α}{α_1:Type v}{x:Option α_1}{f:α_1→α},Option.map f x=some b↔∃ a,x=some a∧f a=b:=@Option.map_eq_some_iff
theorem ZaH:∀ (n:Nat),0+n=n:=@Nat.zero_add
theorem ZaI.{u}:∀ {α:Type u} (q:List α),q ++ []=q:=@List.append_nil
theorem ZaJ:∀ {n m:Nat} (k:Nat),n≤m→n * k≤m * k:=@Nat.mul_le_mul_right
theorem ZaK.{u}:∀ {α:Type u}{l₁ l₂:List α}{i:Nat},l₁.length≤i→(l₁ ++ l₂)[i]?=l₂[i - l₁.length]?:=@List.getElem?_append_right
theorem ZaL.{u,v}:∀ {α:Type u}{β:Type v}{f:α→β}{l₁ l₂:List α},List.map f (l₁ ++ l₂)=List.map f l₁ ++ List.map f l₂:=@List.map_append
theorem ZaM.{u}:∀ {α:Sort u}{_:Decidable False} (t e:α),(if False then t else e)=e:=@if_false
theorem ZaN.{u}:∀ {α:Type u}{l₁ l₂:List α}{i:Nat},i < l₁.length→(l₁ ++ l₂)[i]?=l₁[i]?:=@List.getElem?_append_left
theorem ZaO.{u}:∀ {α:Type u}{a:α},¬a∈[]:=@List.not_mem_nil
theorem ZaP.{u}:∀ {α:Sort u}{_:Decidable True} (t e:α),(if True then t else e)=t:=@if_true
theorem ZaQ.{u}:∀ {α:Type u}{i:Nat}{xs:Array α},xs.size≤i→xs[i]?=none:=@Array.getElem?_eq_none
theorem ZaR.{u}:∀ {α:Sort u}{a b:α},a ≠ b→b ≠ a:=@Ne.symm
theorem ZaS.{u}:∀ {α:Type u}{b:α} (q:List α) {bs:List α},b∈bs→b∈q ++ bs:=@List.mem_append_right
theorem ZaT.{u}:∀ {α:Type u}{i:Nat}{l:List α} (h:i < l.length),List.drop i l=l[i]::List.drop (i+1) l:=@List.drop_eq_getElem_cons
theorem ZaU:∀ (b:Bool),(b && true)=b:=@Bool.and_true
theorem ZaV.{u}:∀ {α:Type u}{xs:Array α}{i:Nat}{d:α},xs.getD i d=xs[i]?.getD d:=@Array.getD_eq_getD_getElem?
theorem ZaW.{u}:∀ {α:Type u} (a:α) (q:List α) (h:0 < (a::q).length),(a::q)[0]=a:=@List.getElem_cons_zero
theorem ZaY:(false=true)=False:=@Bool.false_eq_true
theorem Zb0:∀ (n m:Nat),n ^ m.succ=n ^ m * n:=@Nat.pow_succ
theorem Zb1:∀ (n m k:Nat),n * (m+k)=n * m+n * k:=@Nat.mul_add
theorem Zb2:∀ (s:ByteArray),s.toList=s.data.toList:=@Lib.toList_data
theorem Zb3.{u}:∀ {α:Type u}{a b:α},(some a).getD b=a:=@Option.getD_some
theorem Zb4.{u,v}:∀ {α:Type u}{β:Type v}{f:α→β},List.map f []=[]:=@List.map_nil
theorem Zb5.{u}:∀ {α:Type u}{l:List α},List.drop 0 l=l:=@List.drop_zero
theorem Zb6:∀ (b:Bool),(false && b)=false:=@Bool.false_and
theorem Zb7:∀ (n m:Nat),n+m - m=n:=@Nat.add_sub_cancel
theorem Zbb:∀ (n m:Nat),n * m=m * n:=@Nat.mul_comm
theorem Zbe:∀ {p:Prop} [Decidable p],decide p=false→¬p:=@of_decide_eq_false
theorem Zbl:∀ (n:Nat),n - n=0:=@Nat.sub_self
theorem Zbn:∀ (a b:Int),a * b=b * a:=@Int.mul_comm
theorem Zbq:∀ (b:Bool),(true && b)=b:=@Bool.true_and
end Go.Proofs.YthhknjlmjefklaaGreatDoor
namespace Go.Proofs.YthhknjlmjefklaaGreatDoor.l9
open Tryz
open Go Go.Lib
def D6(B:Nat):List Nat→Nat
 |[]=>0
 |x::r=>x+B * D6 B r
def rf(B:Nat):Nat→Nat→List Nat
 |0,_=>[]
 |f+1,n=>if n=0 then [] else n % B::rf B f (n / B)
def limbs(B n:Nat):List Nat:=rf B n n
def Small(B:Nat)(l:List Nat):Prop:=∀x∈l,x < B
def au(l:List Nat):List Nat:=(l.reverse.dropWhile (· == 0)).reverse
theorem Vj(B:Nat)(hB:2≤B):∀(f g n:Nat),n≤f→n≤g→rf B f n=rf B g n
 |0,0,_,_,_=>rfl
 |0,g+1,n,h,_=>by
              have:n=0:=J;subst this;simp[rf]
 |f+1,0,n,_,h=>by
              have:n=0:=J;subst this;simp[rf]
 |f+1,g+1,n,h1,h2=>by
  by_cases hn:n=0
  ·subst hn;simp[rf]
  ·have hd:n / B < n:=Nat.div_lt_self J J;simp only[rf,hn,ZaM];rw[Vj B hB f g (n / B) J J]
theorem wE(B:Nat):limbs B 0=[]:=rfl
theorem yQ{B n:Nat}(hB:2≤B)(hn:n≠0):limbs B n=n % B::limbs B (n / B):=by
 have hd:n / B < n:=Nat.div_lt_self J J;obtain⟨m,rfl⟩:∃m,n=m+1:=⟨n - 1,J⟩;unfold limbs;rw[rf,lw hn,Vj B hB m ((m+1) / B) _ J (NE _)]
theorem L8{B:Nat}(hB:2≤B)(n:Nat):D6 B (limbs B n)=n:=by
 induction n using Nat.strongRecOn with
 |_ n ih =>
  by_cases hn:n=0
  ·subst hn;rfl
  ·rw[yQ hB hn,D6,ih (n / B) (Nat.div_lt_self J J)];exact Nat.mod_add_div n B
theorem Q4{B:Nat}(hB:2≤B)(n:Nat):Small B (limbs B n):=by
 induction n using Nat.strongRecOn with
 |_ n ih =>
  by_cases hn:n=0
  ·subst hn;intro x hx;cases hx
  ·rw[yQ hB hn];intro x hx;rcases Zao.1 hx with rfl | hx
   ·exact Nat.mod_lt _ J
   ·exact ih (n / B) (Nat.div_lt_self J J) x hx
theorem qR{B n:Nat}(hB:2≤B):limbs B n=[]↔n=0:=by
 constructor
 ·intro h;rw[←L8 hB n,h];rfl
 ·rintro rfl;rfl
theorem a4L{B:Nat}(hB:2≤B)(n:Nat):∀h:limbs B n≠[],(limbs B n).getLast h≠0:=by
 induction n using Nat.strongRecOn with
 |_ n ih =>
  intro h;have hn:n≠0:=fun e=>h (by subst e;rfl)
  have e:=yQ hB hn;by_cases hq:n / B=0
  ·have:limbs B n=[n % B]:=by rw[e,hq];rfl
   simp only[this,List.getLast_singleton];have:=Nat.mod_add_div n B;rw[hq]at this;omega
  ·have hne:limbs B (n / B)≠[]:=fun h'=>hq ((qR hB).1 h')
   have:=ih (n / B) (Nat.div_lt_self J J) hne;have key:∀(l:List Nat) (h:l≠[]),l=n % B::limbs B (n / B)→l.getLast h≠0:=by
    rintro _ h rfl;rw[List.getLast_cons hne];exact this
   exact key _ h e
theorem BM(B:Nat)(l r:List Nat):D6 B (l++r)=D6 B l+B ^ l.length * D6 B r:=by
 induction l with
 |nil=>simp[D6]
 |cons x l ih =>
  simp only[List.cons_append,D6,ih,Za1,Zb0];rw[Zb1,Zbb (B ^ l.length) B,Nat.mul_assoc];omega
theorem mf{B:Nat}(hB:1≤B):∀{l:List Nat},Small B l→D6 B l < B ^ l.length
 |[],_=>by simp[D6]
 |x::r,h=>by
  have h1:x < B:=h x I;have h2:=mf hB (l:=r) (fun y hy=>h y (by simp[hy]));simp only[D6,Za1,Zb0];have:B * (D6 B r+1)≤B * B ^ r.length:=Nat.mul_le_mul_left B h2;rw[Zb1]at this;rw[Zbb (B ^ r.length) B];omega
theorem Small.cons{B x:Nat}{l:List Nat}(h:x < B)(hl:Small B l):Small B (x::l):=by
 intro y hy;rcases Zao.1 hy with rfl | hy
 ·exact h
 ·exact hl y hy
theorem Small.append{B:Nat}{l r:List Nat}(hl:Small B l)(hr:Small B r):Small B (l++r):=by
 intro y hy;rcases ZaA.1 hy with hy | hy
 ·exact hl y hy
 ·exact hr y hy
theorem Small.nil{B:Nat}:Small B []:=fun _ h=>by cases h
theorem Small.take{B:Nat}{l:List Nat}(h:Small B l)(k:Nat):Small B (l.take k):=fun x hx=>h x (List.mem_of_mem_take hx)
theorem Small.drop{B:Nat}{l:List Nat}(h:Small B l)(k:Nat):Small B (l.drop k):=fun x hx=>h x (List.mem_of_mem_drop hx)
theorem Small.getD{B:Nat}{l:List Nat}(hB:1≤B)(h:Small B l)(k:Nat):l.getD k 0 < B:=by
 by_cases hk:k < l.length
 ·rw[bi,Za2 hk];exact h _ (Zay hk)
 ·rw[bi,Zaf J];simp;omega
theorem MR{B:Nat}(hB:2≤B):∀(l:List Nat),Small B l→(∀h:l≠[],l.getLast h≠0)→l=limbs B (D6 B l)
 |[],_,_=>rfl
 |x::r,hs,hl=>by
  have hx:x < B:=hs x I;have hr:Small B r:=fun y hy=>hs y (by simp[hy])
  have hrl:∀h:r≠[],r.getLast h≠0:=fun h=>by
   have:=hl I
   rwa [List.getLast_cons h]at this
  have ih:=MR hB r hr hrl;have hv:x+B * D6 B r≠0:=by
   by_cases hn:r=[]
   ·subst hn;have:=hl I;simp only[List.getLast_singleton]at this;omega
   ·have h0:D6 B r≠0:=fun e=>hn (by rw[ih,e];rfl)
    have:0 < B * D6 B r:=Nat.mul_pos J J;omega
  simp only[D6];rw[yQ hB hv,Nat.add_mul_mod_self_left,Nat.mod_eq_of_lt hx,Nat.add_mul_div_left _ _ J,Nat.div_eq_of_lt hx,ZaH,←ih]
theorem MH(l:List Nat):au (l++[0])=au l:=by simp[au]
theorem Nj{x:Nat}(hx:x≠0)(l:List Nat):au (l++[x])=l++[x]:=by
 simp[au,hx]
theorem a4C(B:Nat)(l:List Nat):D6 B (l++[0])=D6 B l:=by simp[BM,D6]
theorem a5t{B:Nat}(hB:2≤B)(l:List Nat)(hs:Small B l):au l=limbs B (D6 B l):=by
 induction hk:l.length generalizing l with
 |zero =>
      obtain rfl:l=[]:=Za9 hk;rfl
 |succ k ih =>
  obtain⟨r,x,rfl⟩:∃r x,l=r++[x]:=⟨l.dropLast,l.getLast (by intro e;subst e;simp at hk),(List.dropLast_concat_getLast _).symm⟩;by_cases hx:x=0
  ·subst hx;rw[MH,a4C,ih r (fun y hy=>hs y (by simp[hy])) (by simpa using hk)]
  ·rw[Nj hx];exact MR hB _ hs (fun h=>by simpa using hx)
theorem BI{B n k:Nat}(hB:2≤B)(h:n < B ^ k):(limbs B n).length≤k:=by
 induction k generalizing n with
 |zero=>simp at h;subst h;simp[wE]
 |succ k ih =>
  by_cases hn:n=0
  ·subst hn;simp[wE]
  ·rw[yQ hB hn,Za1];have:n / B < B ^ k:=Nat.div_lt_of_lt_mul (by rw[Zb0,Zbb]at h;exact h);have:=ih this;omega
def dm(c:UInt8):Bool:=decide (48≤c.toNat) && decide (c.toNat≤57)
def V3(l:aa0):Bool:=l.all dm
def U5(l:aa0):Nat:=l.foldl (fun a c=>a * 10+(c.toNat - 48)) 0
theorem a5U(l:aa0):∀a:Nat,l.foldl (fun a c=>a * 10+(c.toNat - 48)) a=a * 10 ^ l.length+U5 l:=by
 induction l with
 |nil=>intro a;simp[U5]
 |cons c l ih =>
  intro a;simp only[List.foldl_cons,U5,Za1];rw[ih (a * 10+(c.toNat - 48)),ih (0 * 10+(c.toNat - 48)),Zb0,Nat.add_mul,Nat.mul_assoc,Zbb 10];simp only[Nat.zero_mul,ZaH];omega
theorem qU(l r:aa0):U5 (l++r)=U5 l * 10 ^ r.length+U5 r:=by
 unfold U5;rw[List.foldl_append,a5U];rfl
theorem WX:U5 []=0:=rfl
theorem uj(c:UInt8):U5 [c]=c.toNat - 48:=by simp[U5]
theorem Hm{α:Type}{motive:List α→Prop}(nil:motive [])(snoc:∀l c,motive l→motive (l++[c])):∀l,motive l:=by
 intro l;rw[←List.reverse_reverse l]
 induction l.reverse with
 |nil=>exact nil
 |cons c r ih=>rw[List.reverse_cons];exact snoc _ _ ih
theorem CZ(l:aa0)(h:V3 l=true):U5 l < 10 ^ l.length:=by
 induction l using Hm with
 |nil=>simp[U5]
 |snoc l c ih =>
  have hc:dm c=true:=by simp[V3]at h;exact h.2
  have hl:V3 l=true:=by simp[V3]at h ⊢;exact h.1
  have:=ih hl;rw[qU,uj,Za4,Zaw,Zb0];simp[dm]at hc;omega
theorem BJ{u:Nat}(h:u < 10):decDigits u=[UInt8.ofNat (48+u)]:=by rw[decDigits,dif_pos h]
theorem BL{u:Nat}(h:¬u < 10):decDigits u=decDigits (u / 10)++[UInt8.ofNat (48+u % 10)]:=by rw[decDigits,dif_neg h]
theorem ofNat_toNat{d:Nat}(h:d < 10):(UInt8.ofNat (48+d)).toNat=48+d:=by
 rw[UInt8.toNat_ofNat'];omega
theorem VZ{d:Nat}(h:d < 10):dm (UInt8.ofNat (48+d))=true:=by
 simp only[dm,ofNat_toNat h,AC,Za3];omega
theorem wu(u:Nat):V3 (decDigits u)=true:=by
 induction u using Nat.strongRecOn with
 |_ u ih =>
  by_cases h:u < 10
  ·rw[BJ h,V3,List.all_cons,VZ h];rfl
  ·rw[BL h];have:=ih (u / 10) J;have h2:=VZ (d:=u % 10) J;simp only[V3,List.all_append,AC]at this ⊢
   exact⟨this,by rw[List.all_cons,h2];rfl⟩
theorem yK(u:Nat):U5 (decDigits u)=u:=by
 induction u using Nat.strongRecOn with
 |_ u ih =>
  by_cases h:u < 10
  ·rw[BJ h,uj,ofNat_toNat h];omega
  ·rw[BL h,qU,ih (u / 10) J,uj,ofNat_toNat J];simp only[Zaw,Nat.pow_one];omega
theorem yL{u:Nat}(hu:u≠0):∃c r,decDigits u=c::r∧c.toNat≠48:=by
 induction u using Nat.strongRecOn with
 |_ u ih =>
  by_cases h:u < 10
  ·exact⟨_,_,BJ h,by rw[ofNat_toNat h];omega⟩
  ·obtain⟨c,r,e,hc⟩:=ih (u / 10) J J;exact⟨c,r++[UInt8.ofNat (48+u % 10)],by rw[BL h,e];rfl,hc⟩
theorem We{l:aa0}{c:UInt8}:V3 (l++[c])=true↔V3 l=true∧dm c=true:=by
 simp[V3,List.all_append]
theorem MX{l r:aa0}:V3 (l++r)=true↔V3 l=true∧V3 r=true:=by
 simp[V3,List.all_append]
theorem Vk{c:UInt8}(h:dm c=true):c=UInt8.ofNat (48+(c.toNat - 48)):=by
 simp only[dm,AC,Za3]at h;rw[Nat.add_sub_cancel' h.1,UInt8.ofNat_toNat]
theorem BK(l:aa0):V3 l=true→(∃c r,l=c::r∧c.toNat≠48)→decDigits (U5 l)=l∧U5 l≠0:=by
 induction l using Hm with
 |nil=>rintro _ ⟨c,r,h,_⟩;cases h
 |snoc l d ih =>
  intro hd hh;obtain⟨hl,hc⟩:=We.1 hd;have hcc:=hc;simp only[dm,AC,Za3]at hcc;by_cases hn:l=[]
  ·subst hn;obtain⟨c,r,h,h48⟩:=hh;simp only[List.nil_append,List.cons.injEq]at h;obtain⟨rfl,rfl⟩:=h;simp only[List.nil_append,uj];refine⟨?_,J⟩;rw[BJ J,←Vk hc]
  ·obtain⟨c,r,h,h48⟩:=hh;have hl':∃c r,l=c::r∧c.toNat≠48:=by
    cases l with
    |nil=>exact absurd rfl hn
    |cons x t =>
           simp only[List.cons_append,List.cons.injEq]at h;exact⟨x,t,rfl,by rw[h.1];exact h48⟩
   obtain⟨e,hz⟩:=ih hl hl';rw[qU,uj,Zaw,Nat.pow_one];refine⟨?_,J⟩;rw[BL J];have h1:(U5 l * 10+(d.toNat - 48)) / 10=U5 l:=J;have h2:(U5 l * 10+(d.toNat - 48)) % 10=d.toNat - 48:=J;rw[h1,h2,e,←Vk hc]
def mag:aa0→aa0
 |[]=>[]
 |c::r=>if c=45 then r else c::r
def neg:aa0→Bool
 |[]=>false
 |c::_=>c == 45
def U4(s:aa0):Bool:=s == [48] || (match mag s with | []=>false | c::r=>c != 48 && V3 (c::r))
def D5(s:aa0):Int:=if U4 s then (if neg s then -(U5 (mag s):Int) else U5 (mag s)) else 0
theorem Vw(r:aa0):neg (45::r)=true:=by simp[neg]
theorem wF(r:aa0):mag (45::r)=r:=by simp[mag]
theorem yR{s:aa0}(h:neg s=false):mag s=s:=by
 cases s with
 |nil=>rfl
 |cons c r=>simp[neg]at h;simp[mag,h]
theorem Gy{s:aa0}(h:neg s=true):s=45::mag s:=by
 cases s with
 |nil=>simp[neg]at h
 |cons c r=>simp[neg]at h;subst h;simp[mag]
theorem pz{s:aa0}(h0:s≠[48]):U4 s=true↔(V3 (mag s)=true∧∃c r,mag s=c::r∧c.toNat≠48):=by
 have hb:(s == [48])=false:=by simpa using h0
 unfold U4;rw[hb,Bool.false_or];cases hm:mag s with
 |nil=>simp
 |cons c r =>
  simp only[AC,bne_iff_ne,ne_eq,List.cons.injEq];constructor
  ·rintro⟨h1,h2⟩;refine⟨h2,c,r,⟨rfl,rfl⟩,fun e=>h1 ?_⟩;exact UInt8.toNat_inj.1 (by simpa using e)
  ·rintro⟨h2,c',r',⟨rfl,rfl⟩,h1⟩;exact⟨fun e=>h1 (by subst e;rfl),h2⟩
theorem jR:itoa 0=[48]:=by decide +kernel
theorem qX{u:Nat}:itoa (u:Int)=decDigits u:=by simp[itoa]
theorem BV{u:Nat}(h:u≠0):itoa (-(u:Int))=45::decDigits u:=by
 rw[itoa,Za0 J];simp
theorem BX{c:UInt8}{r:aa0}(h:V3 (c::r)=true):c≠45:=by
 rintro rfl;simp[V3,dm]at h
theorem Wh:D5 [48]=0:=O
theorem a6w{s:aa0}(h:U4 s=true):itoa (D5 s)=s:=by
 by_cases h0:s=[48]
 ·subst h0;rw[Wh,jR]
 ·obtain⟨hd,hh⟩:=(pz h0).1 h;obtain⟨e,hz⟩:=BK _ hd hh;unfold D5;rw[Za0 h];cases hn:neg s with
  |true=>rw[Za0 rfl,BV hz,e];exact (Gy hn).symm
  |false=>rw[lw I,qX,e,yR hn]
theorem Nk(n:Int):U4 (itoa n)=true:=by
 by_cases hz:n=0
 ·subst hz;rw[jR];rfl
 ·by_cases hn:n < 0
  ·obtain⟨u,rfl⟩:∃u:Nat,n=-(u:Int):=⟨n.natAbs,J⟩;have hu:u≠0:=J;obtain⟨c,r,e,hc⟩:=yL hu;rw[BV hu];refine (pz (by intro h;simp at h)).2 ?_;rw[wF];exact⟨wu u,c,r,e,hc⟩
  ·obtain⟨u,rfl⟩:∃u:Nat,n=(u:Int):=⟨n.toNat,J⟩;have hu:u≠0:=J;obtain⟨c,r,e,hc⟩:=yL hu;have hd:=wu u;rw[qX];have hm:mag (decDigits u)=decDigits u:=by
    rw[e]at hd ⊢
    simp[mag,BX hd]
   refine (pz ?_).2 ?_
   ·intro h;rw[e]at h;simp only[List.cons.injEq]at h;exact hc (by rw[h.1];rfl)
   ·rw[hm];exact⟨hd,c,r,e,hc⟩
theorem P9(n:Int):D5 (itoa n)=n:=by
 unfold D5;rw[Za0 (Nk n)];by_cases hz:n=0
 ·subst hz;rw[jR];rfl
 ·by_cases hn:n < 0
  ·obtain⟨u,rfl⟩:∃u:Nat,n=-(u:Int):=⟨n.natAbs,J⟩;have hu:u≠0:=J;rw[BV hu,Vw,wF,yK];rfl
  ·obtain⟨u,rfl⟩:∃u:Nat,n=(u:Int):=⟨n.toNat,J⟩;have hu:u≠0:=J;obtain⟨c,r,e,hc⟩:=yL hu;have hd:=wu u;rw[qX];have iI:neg (decDigits u)=false:=by
    rw[e]at hd ⊢
    simp[neg,BX hd]
   rw[iI,yR iI,yK];rfl
theorem yZ{a b:Int}(h:itoa a=itoa b):a=b:=by rw[←P9 a,h,P9]
theorem yM(B:Nat)(l:List Nat)(i:Nat):D6 B (l.take (i+1))=D6 B (l.take i)+B ^ i * l.getD i 0:=by
 by_cases h:i < l.length
 ·rw[List.take_succ_eq_append_getElem h,BM,Zaz,Nat.min_eq_left J,bi,Za2 h];simp[D6]
 ·rw[Zae J,Zae J,bi,Zaf J];simp
theorem BZ(B:Nat)(l:List Nat)(x:Nat):D6 B (l++[x])=D6 B l+B ^ l.length * x:=by
 rw[BM];simp[D6]
theorem uh(B:Nat)(l:List Nat)(i:Nat)(h:i < l.length):D6 B (l.drop i)=l.getD i 0+B * D6 B (l.drop (i+1)):=by
 rw[ZaT h,D6,bi,Za2 h];rfl
theorem NY(B:Nat):∀(l:List Nat) (k v:Nat),k < l.length→D6 B (l.set k v)+B ^ k * l.getD k 0=D6 B l+B ^ k * v
 |[],_,_,h=>by simp at h
 |x::r,0,v,_=>by simp[D6];omega
 |x::r,k+1,v,h=>by
  have ih:=NY B r k v (by simpa using h);simp only[List.set_cons_succ,D6,List.getD_cons_succ,Zb0];have e:B * D6 B (r.set k v)+B * (B ^ k * r.getD k 0)=B * D6 B r+B * (B ^ k * v):=by rw[←Zb1,ih,Zb1]
  rw[Zbb (B ^ k) B,Nat.mul_assoc,Nat.mul_assoc];omega
theorem Small.set{B:Nat}{l:List Nat}{k v:Nat}(h:Small B l)(hv:v < B):Small B (l.set k v):=by
 intro x hx;rcases List.mem_or_eq_of_mem_set hx with hx | rfl
 ·exact h x hx
 ·exact hv
theorem uf{B:Nat}{a b o:List Nat}{i c n:Nat}(ho:o.length=i)
  (h:D6 B o+B ^ i * c=D6 B (a.take i)+D6 B (b.take i)) (hn:n=a.getD i 0+c+b.getD i 0) :
  D6 B (o++[n % B])+B ^ (i+1) * (n / B)=D6 B (a.take (i+1))+D6 B (b.take (i+1)):=by
 rw[yM,yM,BZ,ho,Zb0,Nat.mul_assoc,Nat.add_assoc,←Zb1,Nat.mod_add_div,hn];have:B ^ i * (a.getD i 0+c+b.getD i 0)=B ^ i * a.getD i 0+B ^ i * c+B ^ i * b.getD i 0:=by rw[Zb1,Zb1]
 omega
theorem MZ{B:Nat}{a b o:List Nat}{i c d n:Nat}(ho:o.length=i)
  (h:D6 B (a.take i)+B ^ i * c=D6 B o+D6 B (b.take i)) (hn:a.getD i 0+B * d=n+c+b.getD i 0) :
  D6 B (a.take (i+1))+B ^ (i+1) * d=D6 B (o++[n])+D6 B (b.take (i+1)):=by
 rw[yM,yM,BZ,ho,Zb0,Nat.mul_assoc];have:B ^ i * (a.getD i 0+B * d)=B ^ i * (n+c+b.getD i 0):=by rw[hn]
 rw[Zb1,Zb1,Zb1]at this;omega
theorem Vl{B:Nat}{o o' b:List Nat}{x i j c n s:Nat}(hk:i+j < o.length)
  (h:D6 B o+B ^ (i+j) * c=s+B ^ i * (x * D6 B (b.take j))) (hn:n=o.getD (i+j) 0+x * b.getD j 0+c) (ho:o'=o.set (i+j) (n % B)) :
  D6 B o'+B ^ (i+(j+1)) * (n / B)=s+B ^ i * (x * D6 B (b.take (j+1))):=by
 have h1:=NY B o (i+j) (n % B) hk;have h2:B ^ (i+(j+1))=B ^ (i+j) * B:=by rw[←Nat.add_assoc,Zb0]
 have h3:B ^ (i+j) * (n % B)+B ^ (i+j) * B * (n / B)=B ^ (i+j) * n:=by rw[Nat.mul_assoc,←Zb1,Nat.mod_add_div]
 have h4:B ^ (i+j) * n=B ^ (i+j) * o.getD (i+j) 0+B ^ (i+j) * (x * b.getD j 0)+B ^ (i+j) * c:=by rw[hn,Zb1,Zb1]
 have h5:B ^ i * (x * (D6 B (b.take j)+B ^ j * b.getD j 0))=B ^ i * (x * D6 B (b.take j))+B ^ (i+j) * (x * b.getD j 0):=by
  rw[Nat.pow_add];grind
 rw[ho,h2,yM,h5];omega
theorem Vx{B o x y c:Nat}(hB:2≤B)(ho:o < B)(hx:x < B)(hy:y < B)(hc:c < B):o+x * y+c < B * B:=by
 obtain⟨b,rfl⟩:∃b,B=b+1:=⟨B - 1,J⟩;have h:x * y≤b * b:=Nat.mul_le_mul J J;have:(b+1) * (b+1)=b * b+2 * b+1:=by grind
 omega
theorem Wi{B:Nat}{o b:List Nat}{x i c s:Nat}(hk:i+b.length < o.length)(hz:o.getD (i+b.length) 0=0)
  (h:D6 B o+B ^ (i+b.length) * c=s+B ^ i * (x * D6 B (b.take b.length))) :
  D6 B (o.set (i+b.length) c)=s+B ^ i * (x * D6 B b):=by
 have h1:=NY B o (i+b.length) c hk;rw[hz]at h1;rw[List.take_length]at h;omega
theorem Vm{B:Nat}{a b:List Nat}{i s:Nat}(hs:s=D6 B (a.take i) * D6 B b) :
  s+B ^ i * (a.getD i 0 * D6 B b)=D6 B (a.take (i+1)) * D6 B b:=by
 rw[yM,hs];grind
theorem Wj{B b r q A x:Nat}(h:A=q * b+r) :
  x+B * A=((x+B * r) / b+B * q) * b+(x+B * r) % b:=by
 have:=Nat.div_add_mod (x+B * r) b;subst h
 grind
theorem Wl{B b r x:Nat}(hx:x < B)(hr:r < b):(x+B * r) / b < B:=by
 apply Nat.div_lt_of_lt_mul;have:B * (r+1)≤B * b:=Nat.mul_le_mul_left B hr;rw[Zbb b B];rw[Zb1]at this;omega
theorem cu{B a b:Nat}(hB:2≤B)(h:b≤a):(limbs B b).length≤(limbs B a).length:=by
 apply BI hB;have:=mf (B:=B) J (Q4 hB a);rw[L8 hB]at this;omega
theorem Gp{B a b:Nat}(hB:2≤B)(h:(limbs B a).length < (limbs B b).length):a < b:=by
 have h1:=cu (B:=B) (a:=a) (b:=b) hB;rcases Zai a b with h2 | h2
 ·exact h2
 ·have:=h1 h2;omega
theorem Gt{B:Nat}{a b:List Nat}{i:Nat}(ha:Small B a)(hB:2≤B)(hla:i < a.length)(hl:a.length=b.length)
  (he:a.drop (i+1)=b.drop (i+1)) (hlt:a.getD i 0 < b.getD i 0):D6 B a < D6 B b:=by
 have e1:D6 B a=D6 B (a.take i)+B ^ i * D6 B (a.drop i):=by
  have:=BM B (a.take i) (a.drop i)
  rwa [List.take_append_drop,Zaz,Nat.min_eq_left J]at this
 have e2:D6 B b=D6 B (b.take i)+B ^ i * D6 B (b.drop i):=by
  have:=BM B (b.take i) (b.drop i)
  rwa [List.take_append_drop,Zaz,Nat.min_eq_left J]at this
 rw[e1,e2,uh B a i hla,uh B b i J,he];have h1:=mf (B:=B) J (ha.take i);rw[Zaz,Nat.min_eq_left J]at h1;have h2:B ^ i * (a.getD i 0+1+B * D6 B (b.drop (i+1)))≤B ^ i * (b.getD i 0+B * D6 B (b.drop (i+1))):=Nat.mul_le_mul_left _ J;rw[Zb1,Zb1]at h2;rw[Zb1];omega
def uO(b:Nat):aa0:=List.replicate (9 - (decDigits b).length) 48++decDigits b
theorem a4D(k:Nat):U5 (List.replicate k 48)=0:=by
 induction k with
 |zero=>rfl
 |succ k ih =>
  rw[List.replicate_succ',qU,ih,uj];simp
theorem a4E(k:Nat):V3 (List.replicate k 48)=true:=by
 simp[V3,dm]
theorem a4v{k u:Nat}(hk:1≤k)(h:u < 10 ^ k):nDigits u≤k:=by
 induction u using Nat.strongRecOn generalizing k with
 |_ u ih =>
  by_cases h10:u < 10
  ·rw[nDigits_small h10];exact hk
  ·rw[nDigits_big h10];obtain⟨m,rfl⟩:∃m,k=m+1:=⟨k - 1,J⟩;rw[Zb0]at h;by_cases hm:m=0
   ·subst hm;simp at h;omega
   ·have:=ih (u / 10) J (k:=m) J J;omega
theorem qQ{k u:Nat}(hk:1≤k)(h:u < 10 ^ k):(decDigits u).length≤k:=by
 rw[decDigits_length];exact a4v hk h
theorem a5u{b:Nat}(h:b < 1000000000):(uO b).length=9:=by
 have:=qQ (k:=9) (u:=b) J (by simpa using h);simp[uO];omega
theorem a6x(b:Nat):U5 (uO b)=b:=by
 rw[uO,qU,a4D,yK];simp
theorem a6y(b:Nat):V3 (uO b)=true:=MX.2 ⟨a4E _,wu b⟩
theorem a4M{a b:Nat}(ha:a≠0)(hb:b < 1000000000):decDigits (b+1000000000 * a)=decDigits a++uO b:=by
 obtain⟨c,r,e,hc⟩:=yL ha;have h:=(BK (decDigits a++uO b) (MX.2 ⟨wu a,a6y b⟩) ⟨c,r++uO b,by rw[e];rfl,hc⟩).1;rw[qU,yK,a6x,a5u hb]at h;rw[←h];congr 1;omega
def jm(l:aa0):List Nat:=l.reverse.map fun c=>c.toNat - 48
theorem a4X(l:aa0):D6 10 (jm l)=U5 l:=by
 induction l using Hm with
 |nil=>rfl
 |snoc l c ih =>
  rw[qU,uj,←ih];simp only[jm,List.reverse_append,List.reverse_singleton,List.singleton_append,ZaC,D6,Zaw,Nat.pow_one];omega
theorem a4N{l:aa0}(h:V3 l=true):Small 10 (jm l):=by
 intro x hx;simp only[jm,List.mem_map,List.mem_reverse]at hx;obtain⟨c,hc,rfl⟩:=hx;have:=Zav.1 h c hc;simp only[dm,AC,Za3]at this;omega
theorem UO{l:aa0}(h:V3 l=true)(hh:∃c r,l=c::r∧c.toNat≠48):jm l=limbs 10 (U5 l):=by
 rw[←a4X l];refine MR J _ (a4N h) fun hne=>?_
 obtain⟨c,r,rfl,hc⟩:=hh;have hd:=Zav.1 h c I;simp only[dm,AC,Za3]at hd;simp[jm];omega
theorem a4u{n:Nat}(hn:n≠0):(limbs 10 n).reverse.map (fun d=>UInt8.ofNat (48+d))=decDigits n:=by
 induction n using Nat.strongRecOn with
 |_ n ih =>
  rw[yQ J hn,List.reverse_cons,ZaL];by_cases h:n < 10
  ·rw[BJ h,Nat.div_eq_of_lt h,wE,Nat.mod_eq_of_lt h];rfl
  ·rw[BL h,ih (n / 10) J J];rfl
theorem a4Y{B:Nat}{D d e:aa0}{x:List Nat}(h:U5 D=D6 B x+B ^ x.length * U5 (d++e))(he:10 ^ e.length=B∨d=[]) :
  U5 D=D6 B (x++[U5 e])+B ^ (x.length+1) * U5 d:=by
 rw[BZ,h,qU,Zb0];rcases he with he | rfl
 ·rw[he,Zb1,Zbb (U5 d) B,←Nat.mul_assoc];omega
 ·simp[WX]
theorem lV(s:aa0):(mag s).length≤s.length:=by
 cases s with
 |nil=>simp[mag]
 |cons c r=>simp only[mag];split <;> simp
theorem MI:∀(l:aa0) (M acc:Nat),V3 l=true→acc * 10 ^ l.length+U5 l≤M→M < 18446744073709551616→parseUintM M acc l=.ok (acc * 10 ^ l.length+U5 l)
 |[],M,acc,_,_,_=>by simp[parseUintM,U5]
 |c::r,M,acc,h,hM,hlt=>by
  have hc:dm c=true:=by simp[V3]at h;exact h.1
  have hr:V3 r=true:=by simp[V3]at h ⊢;exact h.2
  simp only[dm,AC,Za3]at hc;have e:U5 (c::r)=(c.toNat - 48) * 10 ^ r.length+U5 r:=by
   have:=qU [c] r
   rwa [uj]at this
  have e2:acc * 10 ^ (c::r).length+U5 (c::r)=(acc * 10+(c.toNat - 48)) * 10 ^ r.length+U5 r:=by
   rw[e,Za1,Zb0];grind
  have hp:1≤10 ^ r.length:=Nat.one_le_pow _ _ J;have hle:acc * 10+(c.toNat - 48)≤M:=by
   have:(acc * 10+(c.toNat - 48)) * 1≤(acc * 10+(c.toNat - 48)) * 10 ^ r.length:=Nat.mul_le_mul_left _ hp;omega
  rw[parseUintM,Za0 hc,lw J,lw J,MI r M _ hr J hlt,e2]
theorem a5v{l:aa0}(h:V3 l=true)(h0:l≠[])(h9:l.length≤9):parseUintB 32 l=.ok (U5 l):=by
 have h1:=CZ l h;have h2:10 ^ l.length≤10 ^ 9:=ZaF J h9;rw[parseUintB,lw h0,MI l _ 0 h (by simp;omega) O];simp
theorem a4F{s:aa0}(h:U4 s=true)(h18:s.length≤18):parseIntB 64 s=.ok (D5 s):=by
 by_cases h0:s=[48]
 ·subst h0;decide
 ·obtain⟨hd,hh⟩:=(pz h0).1 h;have hne:mag s≠[]:=by obtain⟨c,r,e,_⟩:=hh;rw[e];simp
  have hl:(mag s).length≤18:=Za6 (lV s) h18;have h1:=CZ _ hd;have h2:10 ^ (mag s).length≤10 ^ 18:=ZaF J hl;have hp:parseUintB 64 (mag s)=.ok (U5 (mag s)):=by
   rw[parseUintB,lw hne,MI _ _ 0 hd (by simp;omega) O];simp
  have hv:D5 s=if neg s then -(U5 (mag s):Int) else U5 (mag s):=by unfold D5;rw[Za0 h]
  cases s with
  |nil=>simp[mag]at hne
  |cons c r =>
   have e45:(c.toNat=45)↔c=45:=⟨fun e=>UInt8.toNat_inj.1 (by simpa using e),fun e=>by subst e;rfl⟩;by_cases hc:c=45
   ·subst hc;rw[wF]at hp h1 h2;rw[hv];simp only[parseIntB,Vw,wF];rw[Za0 (Or.inr O),hp];simp only[ZaP];rw[lw (by intro h;exact h.1 O),lw (by intro h;have:=h.2;omega),Za0 O]
   ·have iI:neg (c::r)=false:=by simp[neg,hc]
    have hm:=yR iI;rw[hm]at hp h1 h2 hd;have c1R:c.toNat≠43:=by
     intro e;have:=Zav.1 hd c I;simp[dm,e]at this
    have a2e:c.toNat≠45:=fun e=>hc (e45.1 e)
    rw[hv,iI,hm];simp only[parseIntB];rw[lw J,hp];simp only[ZaY,ZaM];rw[lw (by intro h;have:=h.2;omega),lw (by intro h;exact a2e h.1),lw a2e]
end Go.Proofs.YthhknjlmjefklaaGreatDoor.l9
namespace Go.Proofs.YthhknjlmjefklaaGreatDoor
open Tryz
open Go.RowKit
structure Sl (w:World) (k:IntKind) (A:Option Addr) (n c:Nat) (l:List Nat):Prop where
 len:l.length=n
 cap:n≤c
 cells:0 < n→∃b o,A=some ⟨b,o,none⟩∧b < w.heap.size∧∀i,i < n→w.cell? ⟨b,o+i,none⟩=some (.int k (l.getD i 0:Nat))
section
variable {w w':World} {k:IntKind} {A:Option Addr} {n c:Nat} {l:List Nat}
theorem Sl.nil(w:World)(k:IntKind)(A:Option Addr)(c:Nat):Sl w k A 0 c []:=⟨rfl,ww _,fun h=>absurd h J⟩
theorem Sl.below(h:Sl w k A n c l)(hb:Below w.heap.size w w'):Sl w' k A n c l :=
 ⟨h.len,h.cap,fun hn=>by
  obtain⟨b,o,e,hlt,hc⟩:=h.cells hn;exact⟨b,o,e,Zaa hlt hb.size,fun i hi=>(hb.cell (p:=⟨b,o+i,none⟩) hlt).trans (hc i hi)⟩⟩
theorem Sl.take(h:Sl w k A n c l){m:Nat}(hm:m≤n):Sl w k A m c (l.take m) :=
 ⟨by rw[Zaz,h.len];omega,Za6 hm h.cap,fun h0=>by
  obtain⟨b,o,e,hlt,hc⟩:=h.cells J;refine⟨b,o,e,hlt,fun i hi=>?_⟩;rw[hc i J,bi,bi,List.getElem?_take_of_lt hi]⟩
theorem Sl.drew(h:Sl w k A n c l)(m:Nat):Sl (w.drewN m) k A n c l:=⟨h.len,h.cap,h.cells⟩
end
theorem below_drewN{B:Nat}{a w:World}(h:Below B a w)(n:Nat):Below B a (w.drewN n):=⟨h.os,h.tape,h.output,h.size,h.block⟩
theorem a7q(w:World)(a b:Nat):∃k,(w.drewN a).drewN b=w.drewN k:=⟨a+b,by rw[World.drewN_drewN]⟩
theorem NZ(w:World)(a b c:Nat):∃k,((w.drewN a).drewN b).drewN c=w.drewN k:=⟨a+b+c,by rw[World.drewN_drewN,World.drewN_drewN,Nat.add_assoc]⟩
def ik(k:IntKind)(l:List Nat)(w:World)(e:Ending)(w':World):Prop:=∃A n c,e=.returned (.slice A n c)∧Sl w' k A n c l∧Below w.heap.size w w'∧∀b o,A=some ⟨b,o,none⟩→w.heap.size≤b
theorem Vy(l:List Nat):l.take (l9.au l).length=l9.au l:=by
 induction l using l9.Hm with
 |nil=>rfl
 |snoc l c ih =>
  by_cases hc:c=0
  ·subst hc;rw[l9.MH,List.take_append_of_le_length,ih];have:=congrArg List.length ih;rw[Zaz]at this;omega
  ·rw[l9.Nj hc,List.take_length]
theorem yI(l:List Nat):(l9.au l).length≤l.length:=by
 have:=congrArg List.length (Vy l);rw[Zaz]at this;omega
theorem Vz{l:List Nat}{m:Nat}(h0:0 < m)(hm:m≤l.length)(hz:l.getD (m - 1) 0=0):l9.au (l.take (m - 1))=l9.au (l.take m):=by
 obtain⟨k,rfl⟩:∃k,m=k+1:=⟨m - 1,J⟩;rw[Zb7]at hz ⊢
 rw[List.take_succ_eq_append_getElem J];rw[bi,Za2 J]at hz;simp only[Zb3]at hz;rw[hz,l9.MH]
theorem VA{l:List Nat}{m:Nat}(h0:0 < m)(hm:m≤l.length)(hz:l.getD (m - 1) 0≠0):l9.au (l.take m)=l.take m:=by
 obtain⟨k,rfl⟩:∃k,m=k+1:=⟨m - 1,J⟩;rw[Zb7]at hz;rw[List.take_succ_eq_append_getElem J];rw[bi,Za2 J]at hz;exact l9.Nj hz _
def sliceLen:Value→Nat
 |.slice _ m _=>m
 |_=>0
theorem uk(A:Option Addr)(n c:Nat)(l:List Nat)(w:World)(h:Sl w .u32 A n c l)(hn:n≤1000000000) :
  Calls prog 266 #[.slice A n c] w fun e w'=>e=.returned (.slice A (l9.au l).length c)∧w=w':=by
 have hlen:=h.len;have hcap:=h.cap
 go_enter func266,ntmps266
 go_wp2
 go_loop [0] (fun v=>∃m:Nat,v=.slice A m c∧m≤n∧l9.au (l.take m)=l9.au l) (fun v=>sliceLen v)
 case atStart=>exact⟨n,rfl,NE _,by rw[Zae J]⟩
 case round =>
  obtain⟨m,rfl,hm,ht⟩:=hrel;have HT:=WP ht;clear ht;by_cases h0:0 < m
  ·obtain⟨b,o,rfl,hb,hc⟩:=h.cells J;have hcm:=hc (m - 1) J;clear hc;go_wp2
   ·have hz:l.getD (m - 1) 0=0:=by simpa using ‹((l[m - 1]?.getD 0:Nat) == (0:Int))=true›
    exact⟨⟨m - 1,rfl,J,by rw[Vz h0 J hz];exact HT.out⟩,by simp only[sliceLen];omega⟩
   ·have hz:l.getD (m - 1) 0≠0:=by simpa using ‹((l[m - 1]?.getD 0:Nat) == (0:Int))=false›
    go_ret;refine⟨?_,rfl⟩;have e:(l9.au l).length=m:=by
     rw[←HT.out,VA h0 J hz,Zaz];omega
    rw[e];rfl
  ·go_wp2;go_ret;refine⟨?_,rfl⟩;have e:(l9.au l).length=m:=by
    rw[←HT.out,show m=0 by omega];rfl
   rw[e];rfl
theorem Sl.trimmed{w:World}{k:IntKind}{A:Option Addr}{n c:Nat}{l:List Nat}(h:Sl w k A n c l){B:Nat}(hB:2≤B)(hs:l9.Small B l) :
  Sl w k A (l9.au l).length c (l9.limbs B (l9.D6 B l)):=by
 have h1:=h.take (m:=(l9.au l).length) (by rw[←h.len];exact yI l);rw[Vy]at h1;rw[←l9.a5t hB l hs];exact h1
def gI(a b:Nat):Int:=if a < b then -1 else if b < a then 1 else 0
theorem pJ{a b:Nat}(h:a < b):gI a b=-1:=by simp[gI,h]
theorem pK{a b:Nat}(h:b < a):gI a b=1:=by simp[gI,h];omega
theorem uu(a:Nat):gI a a=0:=by simp[gI]
theorem drop_pred{x y:List Nat}{k:Nat}(h0:0 < k)(hk:k≤x.length)(hl:x.length=y.length)(hd:x.drop k=y.drop k)(he:x.getD (k - 1) 0=y.getD (k - 1) 0) :
  x.drop (k - 1)=y.drop (k - 1):=by
 obtain⟨m,rfl⟩:∃m,k=m+1:=⟨k - 1,J⟩;rw[Zb7]at he ⊢
 rw[ZaT (l:=x) (i:=m) J,ZaT (l:=y) (i:=m) J,hd];rw[bi,bi,Za2 J,Za2 J]at he;simp only[Zb3]at he;rw[he]
def Cmp(a b:Nat)(w:World)(e:Ending)(w':World):Prop:=e=.returned (.int .i64 (gI a b))∧∃q,w'=w.drewN q
theorem a4Z(B:Nat)(hB:2≤B)(A A':Option Addr)(n c c':Nat)(x y:List Nat)(w:World)(hx:Sl w .u32 A n c x)(hy:Sl w .u32 A' n c' y)(hn:n≤1000000000)
  (hsx:l9.Small B x) (hsy:l9.Small B y) :
  Calls prog 264 #[.slice A n c,.slice A' n c'] w (Cmp (l9.D6 B x) (l9.D6 B y) w):=by
 have hlx:=hx.len;have kG:=hy.len;have HX:=WP hlx;have HY:=WP kG;clear hlx kG
 go_enter func264,ntmps264
 go_wp2
 go_loopw [5] (fun i wr=>∃k q:Nat,k≤n∧i=.int .i64 ((k:Int) - 1)∧Hid (x.drop k=y.drop k)∧wr=w.drewN q) (fun i _=>(intOf i+1).toNat)
 case atStart=>exact⟨n,0,NE _,rfl,(by rw[Zax (by rw[HX.out];exact NE _),Zax (by rw[HY.out];exact NE _)]:x.drop n=y.drop n),rfl⟩
 case round =>
  obtain⟨k,q,hk,rfl,HD,rfl⟩:=hrel;by_cases h0:0 < k
  ·obtain⟨b,o,rfl,hb,hc⟩:=hx.cells J;obtain⟨b',o',rfl,hb',hc'⟩:=hy.cells J;have hcm:=hc (k - 1) J;have hcm':=hc' (k - 1) J;clear hc hc' hb hb';have hi1:(0:Int)≤(k:Int) - 1:=J;have hi2:(k:Int) - 1 < n:=J;have hi3:((k:Int) - 1).toNat=k - 1:=J;generalize hu:x.getD (k - 1) 0=u at hcm;generalize hv:y.getD (k - 1) 0=v at hcm';have HU:=WP hu;have HV:=WP hv;clear hu hv;rcases Nat.lt_trichotomy u v with hlt | heq | hgt
   ·have e1:((u:Int) != v)=true:=by rw[bne_iff_ne];omega
    have e2:decide ((u:Int) < v)=true:=by simp;omega
    go_wp2
    go_quiet (fail)
    go_wp2
    go_quiet (fail)
    go_wp2;go_ret;refine⟨?_,NZ _ _ _ _⟩;rw[pJ (l9.Gt (i:=k - 1) hsx hB (by rw[HX.out];omega) (by rw[HX.out,HY.out]) (by rw[Nat.sub_add_cancel h0];exact HD.out) (by rw[HU.out,HV.out];exact hlt))];rfl
   ·have e1:((u:Int) != v)=false:=by rw[bne_eq_false_iff_eq];omega
    go_wp2
    go_quiet (fail)
    go_wp2
    go_roundw
    case rel=>exact⟨k - 1,_,J,by go_num,drop_pred h0 (by rw[HX.out];exact hk) (by rw[HX.out,HY.out]) HD.out (by rw[HU.out,HV.out,heq]),rfl⟩
    case measure=>simp only[intOf];omega
   ·have e1:((u:Int) != v)=true:=by rw[bne_iff_ne];omega
    have e2:decide ((u:Int) < v)=false:=by simp;omega
    go_wp2
    go_quiet (fail)
    go_wp2
    go_quiet (fail)
    go_wp2;go_ret;refine⟨?_,NZ _ _ _ _⟩;rw[pK (l9.Gt (i:=k - 1) hsy hB (by rw[HY.out];omega) (by rw[HX.out,HY.out]) (by rw[Nat.sub_add_cancel h0];exact HD.out.symm) (by rw[HU.out,HV.out];exact hgt))];rfl
  ·have hk0:k=0:=J;subst hk0;go_wp2;go_ret;refine⟨?_,_,rfl⟩;have e:x=y:=by simpa using HD.out
   rw[e,uu];rfl
theorem yO(B:Nat)(hB:2≤B)(A A':Option Addr)(n n' c c' a b:Nat)(w:World)(hx:Sl w .u32 A n c (l9.limbs B a))(hy:Sl w .u32 A' n' c' (l9.limbs B b))(hn:n≤1000000000)(hn':n'≤1000000000) :
  Calls prog 264 #[.slice A n c,.slice A' n' c'] w (Cmp a b w):=by
 rcases Nat.lt_trichotomy n n' with hlt | heq | hgt
 ·have e1:((n:Int) != n')=true:=by rw[bne_iff_ne];omega
  have hv:a < b:=l9.Gp hB (by rw[hx.len,hy.len];exact hlt);have HV:=WP (pJ hv);clear hv hx hy
  go_enter func264,ntmps264
  go_wp2;go_ret;refine⟨?_,0,rfl⟩;rw[HV.out];rfl
 ·subst heq;have:=a4Z B hB A A' n c c' _ _ w hx hy hn (l9.Q4 hB a) (l9.Q4 hB b)
  rwa [l9.L8 hB,l9.L8 hB]at this
 ·have e1:((n:Int) != n')=true:=by rw[bne_iff_ne];omega
  have e2:decide (n < n')=false:=by simp;omega
  have hv:b < a:=l9.Gp hB (by rw[hx.len,hy.len];exact hgt);have HV:=WP (pK hv);clear hv hx hy
  go_enter func264,ntmps264
  go_wp2;go_ret;refine⟨?_,0,rfl⟩;rw[HV.out];rfl
structure Own (w:World) (base:Nat) (E:TypeId) (k:IntKind) (A:Option Addr) (n c:Nat) (l:List Nat):Prop where
 own:w.ownsRow base E 1 (.slice A n c) n (l.map fun x=>Value.int k (x:Nat))
section
variable {w w':World} {base:Nat} {E:TypeId} {k:IntKind} {A:Option Addr} {n c:Nat} {l:List Nat}
theorem Own.len(h:Own w base E k A n c l):l.length=n:=by have:=h.own.1;simpa using this
theorem Own.nil(w:World)(base:Nat)(E:TypeId)(k:IntKind):Own w base E k none 0 0 []:=⟨World.ownsRow_nil w base E 1⟩
theorem Own.sl(h:Own w base E k A n c l):Sl w k A n c l:=by
 have hlen:=h.len;rcases h.own.2 with⟨hv,hn⟩ | ⟨g,cap,cur,hv,hbg,hg,hnc,hcm,hcs,ht⟩
 ·refine⟨hlen,J,fun h0=>J⟩
 ·simp only[Zap]at hv;obtain⟨rfl,_,rfl⟩:=hv;refine⟨hlen,hnc,fun _=>⟨g,0,rfl,?_,fun i hi=>?_⟩⟩
  ·rcases Zai g w.heap.size with hlt | hge
   ·exact hlt
   ·rw[ZaQ hge]at hg;cases hg
  ·have e:cur[i]?=some (Value.int k (l.getD i 0:Nat)):=by
    have h1:(cur.toList.take (n * 1))[i]?=(l.map fun x=>Value.int k (x:Nat))[i]?:=by rw[ht]
    rw[List.getElem?_take_of_lt J,Zag,Za2 (l:=l) J]at h1;rw[bi,Za2 J];simpa using h1
   rw[ZaH];simp[World.cell?,hg,e]
theorem Own.at_(h:Own w base E k A n c l)(hn:0 < n):∃g,A=some ⟨g,0,none⟩∧base≤g∧g < w.heap.size∧(∀i,w.frozen? ⟨g,i,none⟩=false)∧∀i,i < n→w.cell? ⟨g,i,none⟩=some (.int k (l.getD i 0:Nat)):=by
 obtain⟨b,o,e,hb,hc⟩:=h.sl.cells hn;rcases h.own.2 with⟨hv,hn'⟩ | ⟨g,cap,cur,hv,hbg,hg,_⟩
 ·omega
 ·simp only[Zap]at hv;obtain⟨rfl,_,rfl⟩:=hv;injection e with e
  injection e with e1 e2
  subst e1 e2;exact⟨g,rfl,hbg,hb,fun i=>by simp[World.frozen?,hg],fun i hi=>by have:=hc i hi;rwa [ZaH]at this⟩
theorem Own.keep(h:Own w base E k A n c l)(hk:∀g,A=some ⟨g,0,none⟩→w'.heap[g]?=w.heap[g]?):Own w' base E k A n c l:=by
 refine⟨h.own.1,?_⟩;rcases h.own.2 with hv | ⟨g,cap,cur,hv,hbg,hg,hr⟩
 ·exact .inl hv
 ·refine .inr ⟨g,cap,cur,hv,hbg,?_,hr⟩;simp only[Zap]at hv;rw[hk g hv.1];exact hg
theorem Own.lt(h:Own w base E k A n c l){g:Nat}(e:A=some ⟨g,0,none⟩):base≤g∧g < w.heap.size:=by
 rcases h.own.2 with⟨hv,_⟩ | ⟨g',cap,cur,hv,hbg,hg,_⟩
 ·simp only[Zap]at hv;rw[e]at hv;cases hv.1
 ·simp only[Zap]at hv;obtain⟨rfl,_,rfl⟩:=hv;injection e with e
  injection e with e1
  subst e1;refine⟨hbg,?_⟩;rcases Zai g' w.heap.size with hlt | hge
  ·exact hlt
  ·rw[ZaQ hge]at hg;cases hg
theorem Own.below(h:Own w base E k A n c l)(hb:Below w.heap.size w w'):Own w' base E k A n c l :=
 h.keep fun g e=>hb.block g (h.lt e).2
theorem Own.alloc(h:Own w base E k A n c l)(o:Obj):Own (w.alloc o) base E k A n c l :=
 h.keep fun g e=>Below.heap_alloc w o g (h.lt e).2
theorem Own.drewN(h:Own w base E k A n c l)(m:Nat):Own (w.drewN m) base E k A n c l:=h.keep fun _ _=>rfl
theorem Own.set{g i y:Nat}(h:Own w base E k (some ⟨g,0,none⟩) n c l):Own (w.setCell ⟨g,i,none⟩ (.int k (y:Nat))) base E k (some ⟨g,0,none⟩) n c (l.set i y):=by
 have hlen:=h.len;refine⟨by simp[hlen],?_⟩;rcases h.own.2 with⟨hv,_⟩ | ⟨g',cap,cur,hv,hbg,hg,hnc,hcm,hcs,ht⟩
 ·simp only[Zap]at hv;cases hv.1
 ·simp only[Zap]at hv;obtain⟨e,_,rfl⟩:=hv;injection e with e
  injection e with e1
  subst e1;refine .inr ⟨g,c,cur.setIfInBounds i (.int k (y:Nat)),rfl,hbg,?_,hnc,hcm,by simpa using hcs,?_⟩
  ·simp[World.setCell,Array.getElem?_modify,hg]
  ·rw[Array.toList_setIfInBounds,List.take_set,ht,List.map_set]
end
theorem Own.cellAt{w:World}{base:Nat}{E:TypeId}{k:IntKind}{g n c i:Nat}{l:List Nat}(h:Own w base E k (some ⟨g,0,none⟩) n c l)(hi:i < n) :
  w.cell? ⟨g,i,none⟩=some (.int k (l.getD i 0:Nat))∧w.frozen? ⟨g,i,none⟩=false∧base≤g∧g < w.heap.size:=by
 obtain⟨g',e,h1,h2,h3,h4⟩:=h.at_ J;injection e with e
 injection e with e1
 subst e1;exact⟨h4 i hi,h3 i,h1,h2⟩
theorem Own.setInt{w:World}{base:Nat}{E:TypeId}{k:IntKind}{g n c i y:Nat}{l l':List Nat}{d:Int}(h:Own w base E k (some ⟨g,0,none⟩) n c l)(hd:d=(y:Int))(hl:l.set i y=l') :
  Own (w.setCell ⟨g,i,none⟩ (.int k d)) base E k (some ⟨g,0,none⟩) n c l':=by
 subst hd hl;exact h.set
theorem Own.fresh{w:World}{base:Nat}{E:TypeId}{k:IntKind}{A:Option Addr}{n c:Nat}{l:List Nat}(h:Own w base E k A n c l):∀b o,A=some ⟨b,o,none⟩→base≤b:=by
 rintro b o rfl;rcases h.own.2 with⟨hv,_⟩ | ⟨g,cap,cur,hv,hbg,_⟩
 ·simp only[Zap]at hv;cases hv.1
 ·simp only[Zap]at hv;obtain⟨e,_⟩:=hv;injection e with e
  injection e with e1
  subst e1;exact hbg
theorem Gu(o:List Nat)(n k y:Nat)(hk:k < n)(ho:o.length=k):(o++List.replicate (n - k) 0).set k y=(o++[y])++List.replicate (n - (k+1)) 0:=by
 subst ho;rw[List.set_append_right _ _ (NE _),Zbl,show n - o.length=(n - (o.length+1))+1 by omega,List.replicate_succ]
 simp
theorem fQ{P:Program}{w0 W:World}{ops:Array Oper}{rest:List Oper}{o:Oper}{a:Act}{Q:Exit→Act→World→Prop}(hgd:o.guard=none)(s x:Operand)(t:TypeId)
  (ho:o.op=.call { callee:=.builtin .append,args:=#[s,x],argTypes:=#[t,t] })
  (E:TypeId) (k:IntKind) (bytes:Nat) (ht:P.underlying t=some (.slice E)) (hinfo:(P.info? E).map (fun i=>(i.zero,i.size,i.bytes))=some (some (.int k 0),1,bytes)) (hbytes:bytes≤8)
  (A:Option Addr) (n c:Nat) (l:List Nat) (hs:a.eval s=.slice A n c) (hown:Own W w0.heap.size E k A n c l)
  (d:Int) (y:Nat) (hd:d=(y:Int)) (hx:a.eval x=.slice (some ⟨W.heap.size,0,none⟩) 1 1) (hn:n≤1000000000000) (hB:Below w0.heap.size w0 W)
  (h:∀A' c' w',Own w' w0.heap.size E k A' (n+1) c' (l++[y])→Below w0.heap.size w0 w'→(∀g,g < W.heap.size→A≠some ⟨g,0,none⟩→w'.heap[g]?=W.heap[g]?)→W.heap.size≤w'.heap.size→(A'=A∨A'=some ⟨W.heap.size+1,0,none⟩) →
   wpList P ops Q rest (a.put o.dst (.slice A' (n+1) c')) w') :
  wpList P ops Q (o::rest) a (W.alloc (.cells #[.int k d] E)):=by
 subst hd;obtain⟨i0,hi0,hz0,hz1,hz2⟩:=info_parts hinfo;refine wpList_append_own_at (P:=P) _ hgd s x t ho w0.heap.size E i0 (.int k 0) 1 bytes ht hi0 hz0 hz1 hz2 rfl J _ n _ hs (hown.alloc _).own ⟨W.heap.size,0,none⟩ 1 1 [.int k (y:Int)] hx rfl
  (cell_one_new _ _ _) (by simp[Value.oneCell']) (by unfold maxLen;omega) (by
   have:(n+1) * bytes≤1000000000001 * 8:=Nat.mul_le_mul J hbytes;omega) (by have:=hB.size;simp;omega) ?_
 intro v' w' hown' hg _ hat;have hlt:∀g,A=some ⟨g,0,none⟩→w0.heap.size≤g:=fun g e=>(hown.lt e).1
 have hown2:w'.ownsRow w0.heap.size E 1 v' (n+1) ((l++[y]).map fun x=>Value.int k (x:Nat)):=by simpa using hown'
 obtain⟨A',c',rfl⟩:∃A' c',v'=.slice A' (n+1) c':=by
  rcases hown'.2 with⟨_,h0⟩ | ⟨g,cap,cur,rfl,_⟩
  ·omega
  ·exact⟨_,_,rfl⟩
 have hAn:A=none∨∃g,A=some ⟨g,0,none⟩:=by
  rcases hown.own.2 with⟨hv,_⟩ | ⟨g,cap,cur,hv,_⟩
  ·simp only[Zap]at hv;exact .inl hv.1
  ·simp only[Zap]at hv;exact .inr ⟨g,hv.1⟩
 have hblk:∀g,g < W.heap.size→A≠some ⟨g,0,none⟩→w'.heap[g]?=W.heap[g]?:=fun g hgl hne =>
  (hg.block g (by simp;omega) (fun e=>by
   rcases hAn with rfl | ⟨g',rfl⟩
   ·simp[Value.ownBlock]at e
   ·simp[Value.ownBlock]at e;subst e;exact hne rfl)).trans (Below.heap_alloc W _ g hgl)
 have hsz:W.heap.size≤w'.heap.size:=by have:=hg.size;simp at this;omega
 refine h A' c' w' ⟨hown2⟩ ⟨hg.os.trans hB.os,hg.tape.trans hB.tape,hg.output.trans hB.output,Za6 hB.size hsz,fun i hi=>?_⟩ hblk hsz ?_
 ·exact (hblk i (Zaa hi hB.size) (fun e=>by have:=hlt i e;omega)).trans (hB.block i hi)
 ·rcases hown'.2 with⟨_,h0⟩ | ⟨g,cap,cur,hv,_⟩
  ·omega
  ·simp only[Zap]at hv;obtain⟨rfl,_,rfl⟩:=hv;rcases hat with e | e
   ·rcases hAn with rfl | ⟨g',rfl⟩
    ·simp[Value.ownBlock]at e
    ·simp[Value.ownBlock]at e;subst e;exact .inl rfl
   ·simp[Value.ownBlock]at e;subst e;exact .inr rfl
theorem a7r(k:IntKind)(n:Nat):(madeCells (Value.int k 0).cells (n * 1)).toList=(List.replicate n 0).map fun x=>Value.int k (x:Nat):=by
 simp only[madeCells,Value.cells,Nat.mul_one];apply List.ext_getElem
 ·simp
 ·intro i h1 h2;simp[Nat.mod_one]
theorem Cb{P:Program}{w0 W:World}{ops:Array Oper}{rest:List Oper}{o:Oper}{a:Act}{Q:Exit→Act→World→Prop}(hgd:o.guard=none)(s x:Operand)(t:TypeId)(ho:o.op=Op.makeSlice t s x)
  (E:TypeId) (k:IntKind) (bytes:Nat) (ht:P.underlying t=some (.slice E)) (hinfo:(P.info? E).map (fun i=>(i.zero,i.size,i.bytes))=some (some (.int k 0),1,bytes)) (hbytes:bytes≤8)
  (kl kc:IntKind) (L C:Int) (n:Nat) (hs:a.eval s=.int kl L) (hx:a.eval x=.int kc C) (hL:L=(n:Int)) (hC:C=(n:Int)) (hn:n≤1000000000000) (hB:Below w0.heap.size w0 W)
  (h:∀w',Own w' w0.heap.size E k (some ⟨W.heap.size,0,none⟩) n n (List.replicate n 0)→Below w0.heap.size w0 w'→Below W.heap.size W w'→W.heap.size < w'.heap.size→wpList P ops Q rest (a.put o.dst (.slice (some ⟨W.heap.size,0,none⟩) n n)) w') :
  wpList P ops Q (o::rest) a W:=by
 obtain⟨i0,hi0,hz0,hz1,hz2⟩:=info_parts hinfo;refine wpList_make_full (P:=P) W hgd s x t ho w0.heap.size E i0 (.int k 0) 1 ht hi0 hz0 hz1 kl kc L C n hs hx hL hC (by
  rw[hz2];have:bytes * n≤8 * 1000000000000:=Nat.mul_le_mul hbytes hn;omega) (by unfold maxLen;omega) hB.size ?_
 intro w' hown hg;rw[a7r]at hown;have hb:Below W.heap.size W w':=⟨hg.os,hg.tape,hg.output,hg.size,fun i hi=>hg.block i hi I⟩;have hown':Own w' w0.heap.size E k (some ⟨W.heap.size,0,none⟩) n n (List.replicate n 0):=⟨hown⟩;exact h w' hown' (hB.trans (hb.mono hB.size)) hb (hown'.lt rfl).2
theorem VB{P:Program}{w0 W:World}{ops:Array Oper}{rest:List Oper}{o:Oper}{a:Act}{Q:Exit→Act→World→Prop}(hgd:o.guard=none)(s x:Operand)(t:TypeId)(ho:o.op=Op.makeSlice t s x)
  (E:TypeId) (k:IntKind) (bytes:Nat) (ht:P.underlying t=some (.slice E)) (hinfo:(P.info? E).map (fun i=>(i.zero,i.size,i.bytes))=some (some (.int k 0),1,bytes)) (hbytes:bytes≤8)
  (kl kc:IntKind) (C:Int) (n:Nat) (hs:a.eval s=.int kl 0) (hx:a.eval x=.int kc C) (hC:C=(n:Int)) (hn:n≤1000000000000) (hB:Below w0.heap.size w0 W)
  (h:∀w',Own w' w0.heap.size E k (some ⟨W.heap.size,0,none⟩) 0 n []→Below w0.heap.size w0 w'→Below W.heap.size W w'→W.heap.size < w'.heap.size→wpList P ops Q rest (a.put o.dst (.slice (some ⟨W.heap.size,0,none⟩) 0 n)) w') :
  wpList P ops Q (o::rest) a W:=by
 obtain⟨i0,hi0,hz0,hz1,hz2⟩:=info_parts hinfo;refine wpList_make_own (P:=P) W hgd s x t ho w0.heap.size E i0 (.int k 0) 1 ht hi0 hz0 hz1 kl kc C n hs hx hC (by
  rw[hz2];have:bytes * n≤8 * 1000000000000:=Nat.mul_le_mul hbytes hn;omega) (by unfold maxLen;omega) hB.size ?_
 intro w' hown hg;have hb:Below W.heap.size W w':=⟨hg.os,hg.tape,hg.output,hg.size,fun i hi=>hg.block i hi I⟩;have hown':Own w' w0.heap.size E k (some ⟨W.heap.size,0,none⟩) 0 n []:=⟨hown⟩;exact h w' hown' (hB.trans (hb.mono hB.size)) hb (hown'.lt rfl).2
theorem kS:(prog.info? 254).map (fun i=>(i.zero,i.size,i.bytes))=some (some (.int .u32 0),1,4):=by kernel_rfl
theorem getD_lt{B:Nat}{l:List Nat}(hs:l9.Small B l)(hB:1≤B)(k:Nat):l.getD k 0 < B:=hs.getD hB k
theorem a9V(A A':Option Addr)(n n' c c':Nat)(x y:List Nat)(w:World)(hx:Sl w .u32 A n c x)(hy:Sl w .u32 A' n' c' y)(hn:n≤100000000)(hn':n'≤100000000)
  (hsx:l9.Small 1000000000 x) (hsy:l9.Small 1000000000 y) (hlt:¬n < n') :
  Calls prog 250 #[.slice A n c,.slice A' n' c'] w (ik .u32 (l9.limbs 1000000000 (l9.D6 1000000000 x+l9.D6 1000000000 y)) w):=by
 go_enter func250,ntmps250
 go_wp2_with (at_make;refine VB (w0:=w) rfl _ _ _ rfl 254 .u32 4 Tryz.underlying267 kS J _ _ _ (n+1) rfl rfl J J (Below.refl _ _) ?_;intro w1 hown1 hb1 _ _)
 go_loopw [5,6,22] (fun out cr ix wr=>∃(k:Nat) (A2:Option Addr) (c2:Nat) (o:List Nat) (cy:Nat),k≤n∧ix=.int .i64 k∧out=.slice A2 k c2∧cr=.int .u32 cy∧cy≤1∧Own wr w.heap.size 254 .u32 A2 k c2 o∧l9.Small 1000000000 o∧Hid (l9.D6 1000000000 o+1000000000 ^ k * cy=l9.D6 1000000000 (x.take k)+l9.D6 1000000000 (y.take k))∧Below w.heap.size w wr) (fun _ _ ix _=>n - (intOf ix).toNat)
 case atStart=>exact⟨0,_,_,[],0,ww _,rfl,rfl,rfl,J,hown1,l9.Small.nil,(by simp[l9.D6]:l9.D6 1000000000 []+1000000000 ^ 0 * 0=l9.D6 1000000000 (x.take 0)+l9.D6 1000000000 (y.take 0)),hb1⟩
 case round =>
  obtain⟨k,A2,c2,o,cy,hk,rfl,rfl,rfl,hcy,hown,hso,HV,hb⟩:=hrel;have HO:=WP hown.len;by_cases hkn:k < n
  ·obtain⟨b,off,rfl,_,hcx⟩:=(hx.below hb).cells J;have bg:=hcx k hkn;clear hcx;have hu:=getD_lt (l:=x) hsx J k;by_cases kH:k < n'
   ·obtain⟨b',off',rfl,_,dZ⟩:=(hy.below hb).cells J;have hcv:=dZ k kH;clear dZ;have hv:=getD_lt (l:=y) hsy J k;have HR:=WP (l9.uf (a:=x) (b:=y) HO.out HV.out rfl);generalize x.getD k 0=u at bg hu HR;generalize y.getD k 0=v at hcv hv HR
    go_wp2_with (at_builtin;refine fQ (w0:=w) rfl _ _ _ rfl 254 .u32 4 Tryz.underlying267 kS J _ _ _ o rfl hown _ ((u+cy+v) % 1000000000) J rfl J hb ?_;intro A3 c3 w2 hown2 hb2 _ _ _)
    go_roundw
    case rel=>exact⟨k+1,A3,c3,o++[(u+cy+v) % 1000000000],(u+cy+v) / 1000000000,J,by go_num,rfl,by go_num,J,hown2,hso.append (l9.Small.cons J l9.Small.nil),HR.out,hb2⟩
    case measure=>simp only[intOf];omega
   ·have hv:y.getD k 0=0:=by
     have:=hy.len;rw[bi,Zaf J];rfl
    have HR:=WP (l9.uf (a:=x) (b:=y) (n:=x.getD k 0+cy) HO.out HV.out J);clear hv;generalize x.getD k 0=u at bg hu HR
    go_wp2_with (at_builtin;refine fQ (w0:=w) rfl _ _ _ rfl 254 .u32 4 Tryz.underlying267 kS J _ _ _ o rfl hown _ ((u+cy) % 1000000000) J rfl J hb ?_;intro A3 c3 w2 hown2 hb2 _ _ _)
    go_roundw
    case rel=>exact⟨k+1,A3,c3,o++[(u+cy) % 1000000000],(u+cy) / 1000000000,J,by go_num,rfl,by go_num,J,hown2,hso.append (l9.Small.cons J l9.Small.nil),HR.out,hb2⟩
    case measure=>simp only[intOf];omega
  ·have hkk:k=n:=J;subst hkk;have HF:Hid (l9.D6 1000000000 (o++[cy])=l9.D6 1000000000 x+l9.D6 1000000000 y):=by
    have h:=HV.out;rw[Zae (by rw[hx.len];omega),Zae (by rw[hy.len];omega)]at h;rw[l9.BZ,HO.out];show _=_;omega
   go_wp2_with (at_builtin;refine fQ (w0:=w) rfl _ _ _ rfl 254 .u32 4 Tryz.underlying267 kS J _ _ _ o rfl hown _ cy rfl rfl J hb ?_;intro A3 c3 w2 hown2 hb2 _ _ _)
   refine (uk _ _ _ _ _ hown2.sl J).mono ?_;rintro e w' ⟨rfl,rfl⟩;go_wp2;go_ret;refine⟨_,_,_,rfl,?_,hb2,hown2.fresh⟩;have:=hown2.sl.trimmed (B:=1000000000) J (hso.append (l9.Small.cons J l9.Small.nil));rw[HF.out]at this;exact this
theorem a9W(A A':Option Addr)(n n' c c':Nat)(x y:List Nat)(w:World)(hx:Sl w .u32 A n c x)(hy:Sl w .u32 A' n' c' y)(hn:n≤100000000)(hn':n'≤100000000)
  (hsx:l9.Small 1000000000 x) (hsy:l9.Small 1000000000 y) (hlt:n < n') :
  Calls prog 250 #[.slice A n c,.slice A' n' c'] w (ik .u32 (l9.limbs 1000000000 (l9.D6 1000000000 x+l9.D6 1000000000 y)) w):=by
 go_enter func250,ntmps250
 go_wp2_with (at_make;refine VB (w0:=w) rfl _ _ _ rfl 254 .u32 4 Tryz.underlying267 kS J _ _ _ (n'+1) rfl rfl J J (Below.refl _ _) ?_;intro w1 hown1 hb1 _ _)
 go_loopw [5,6,22] (fun out cr ix wr=>∃(k:Nat) (A2:Option Addr) (c2:Nat) (o:List Nat) (cy:Nat),k≤n'∧ix=.int .i64 k∧out=.slice A2 k c2∧cr=.int .u32 cy∧cy≤1∧Own wr w.heap.size 254 .u32 A2 k c2 o∧l9.Small 1000000000 o∧Hid (l9.D6 1000000000 o+1000000000 ^ k * cy=l9.D6 1000000000 (y.take k)+l9.D6 1000000000 (x.take k))∧Below w.heap.size w wr) (fun _ _ ix _=>n' - (intOf ix).toNat)
 case atStart=>exact⟨0,_,_,[],0,ww _,rfl,rfl,rfl,J,hown1,l9.Small.nil,(by simp[l9.D6]:l9.D6 1000000000 []+1000000000 ^ 0 * 0=l9.D6 1000000000 (y.take 0)+l9.D6 1000000000 (x.take 0)),hb1⟩
 case round =>
  obtain⟨k,A2,c2,o,cy,hk,rfl,rfl,rfl,hcy,hown,hso,HV,hb⟩:=hrel;have HO:=WP hown.len;by_cases hkn:k < n'
  ·obtain⟨b,off,rfl,_,hcx⟩:=(hy.below hb).cells J;have bg:=hcx k hkn;clear hcx;have hu:=getD_lt (l:=y) hsy J k;by_cases kH:k < n
   ·obtain⟨b',off',rfl,_,dZ⟩:=(hx.below hb).cells J;have hcv:=dZ k kH;clear dZ;have hv:=getD_lt (l:=x) hsx J k;have HR:=WP (l9.uf (a:=y) (b:=x) HO.out HV.out rfl);generalize y.getD k 0=u at bg hu HR;generalize x.getD k 0=v at hcv hv HR
    go_wp2_with (at_builtin;refine fQ (w0:=w) rfl _ _ _ rfl 254 .u32 4 Tryz.underlying267 kS J _ _ _ o rfl hown _ ((u+cy+v) % 1000000000) J rfl J hb ?_;intro A3 c3 w2 hown2 hb2 _ _ _)
    go_roundw
    case rel=>exact⟨k+1,A3,c3,o++[(u+cy+v) % 1000000000],(u+cy+v) / 1000000000,J,by go_num,rfl,by go_num,J,hown2,hso.append (l9.Small.cons J l9.Small.nil),HR.out,hb2⟩
    case measure=>simp only[intOf];omega
   ·have hv:x.getD k 0=0:=by
     have:=hx.len;rw[bi,Zaf J];rfl
    have HR:=WP (l9.uf (a:=y) (b:=x) (n:=y.getD k 0+cy) HO.out HV.out J);clear hv;generalize y.getD k 0=u at bg hu HR
    go_wp2_with (at_builtin;refine fQ (w0:=w) rfl _ _ _ rfl 254 .u32 4 Tryz.underlying267 kS J _ _ _ o rfl hown _ ((u+cy) % 1000000000) J rfl J hb ?_;intro A3 c3 w2 hown2 hb2 _ _ _)
    go_roundw
    case rel=>exact⟨k+1,A3,c3,o++[(u+cy) % 1000000000],(u+cy) / 1000000000,J,by go_num,rfl,by go_num,J,hown2,hso.append (l9.Small.cons J l9.Small.nil),HR.out,hb2⟩
    case measure=>simp only[intOf];omega
  ·have hkk:k=n':=J;subst hkk;have HF:Hid (l9.D6 1000000000 (o++[cy])=l9.D6 1000000000 x+l9.D6 1000000000 y):=by
    have h:=HV.out;rw[Zae (by rw[hy.len];omega),Zae (by rw[hx.len];omega)]at h;rw[l9.BZ,HO.out];show _=_;omega
   go_wp2_with (at_builtin;refine fQ (w0:=w) rfl _ _ _ rfl 254 .u32 4 Tryz.underlying267 kS J _ _ _ o rfl hown _ cy rfl rfl J hb ?_;intro A3 c3 w2 hown2 hb2 _ _ _)
   refine (uk _ _ _ _ _ hown2.sl J).mono ?_;rintro e w' ⟨rfl,rfl⟩;go_wp2;go_ret;refine⟨_,_,_,rfl,?_,hb2,hown2.fresh⟩;have:=hown2.sl.trimmed (B:=1000000000) J (hso.append (l9.Small.cons J l9.Small.nil));rw[HF.out]at this;exact this
theorem WY(A A':Option Addr)(n n' c c':Nat)(x y:List Nat)(w:World)(hx:Sl w .u32 A n c x)(hy:Sl w .u32 A' n' c' y)(hn:n≤100000000)(hn':n'≤100000000)
  (hsx:l9.Small 1000000000 x) (hsy:l9.Small 1000000000 y) :
  Calls prog 250 #[.slice A n c,.slice A' n' c'] w (ik .u32 (l9.limbs 1000000000 (l9.D6 1000000000 x+l9.D6 1000000000 y)) w):=by
 by_cases h:n < n'
 ·exact a9W A A' n n' c c' x y w hx hy hn hn' hsx hsy h
 ·exact a9V A A' n n' c c' x y w hx hy hn hn' hsx hsy h
theorem GY(A A':Option Addr)(n n' c c':Nat)(x y:List Nat)(w:World)(hx:Sl w .u32 A n c x)(hy:Sl w .u32 A' n' c' y)(hn:n≤100000000)(hnn:n'≤n)
  (hsx:l9.Small 1000000000 x) (hsy:l9.Small 1000000000 y) (hle:l9.D6 1000000000 y≤l9.D6 1000000000 x) :
  Calls prog 251 #[.slice A n c,.slice A' n' c'] w (ik .u32 (l9.limbs 1000000000 (l9.D6 1000000000 x - l9.D6 1000000000 y)) w):=by
 go_enter func251,ntmps251
 go_wp2_with (at_make;refine Cb (w0:=w) rfl _ _ _ rfl 254 .u32 4 Tryz.underlying267 kS J _ _ _ _ n rfl rfl J J J (Below.refl _ _) ?_;intro w1 hown1 hb1 _ _)
 go_loopw [6,14] (fun br ix wr=>∃(k:Nat) (o:List Nat) (bw:Nat),k≤n∧ix=.int .i64 k∧br=.int .i64 bw∧bw≤1∧Own wr w.heap.size 254 .u32 (some ⟨w.heap.size,0,none⟩) n n (o++List.replicate (n - k) 0)∧Hid (o.length=k)∧l9.Small 1000000000 o∧Hid (l9.D6 1000000000 (x.take k)+1000000000 ^ k * bw=l9.D6 1000000000 o+l9.D6 1000000000 (y.take k))∧Below w.heap.size w wr) (fun _ ix _=>n - (intOf ix).toNat)
 case atStart=>exact⟨0,[],0,ww _,rfl,rfl,J,hown1,(rfl:([]:List Nat).length=0),l9.Small.nil,(by simp[l9.D6]:l9.D6 1000000000 (x.take 0)+1000000000 ^ 0 * 0=l9.D6 1000000000 []+l9.D6 1000000000 (y.take 0)),hb1⟩
 case round =>
  obtain⟨k,o,bw,hk,rfl,rfl,hbw,hown,HO,hso,HV,hb⟩:=hrel;by_cases hkn:k < n
  ·obtain⟨b,off,rfl,_,hcx⟩:=(hx.below hb).cells J;have bg:=hcx k hkn;clear hcx;have hu:=getD_lt (l:=x) hsx J k;obtain⟨hco,hfo,_,hgl⟩:=hown.cellAt hkn;generalize (o++List.replicate (n - k) 0).getD k 0=z at hco;by_cases kH:k < n'
   ·obtain⟨b',off',rfl,_,dZ⟩:=(hy.below hb).cells J;have hcv:=dZ k kH;clear dZ;have hv:=getD_lt (l:=y) hsy J k;have HR:=fun d t=>WP (l9.MZ (B:=1000000000) (a:=x) (b:=y) (d:=d) (n:=t) HO.out HV.out)
    generalize x.getD k 0=u at bg hu HR;generalize y.getD k 0=v at hcv hv HR;by_cases hneg:(u:Int) - bw - v < 0
    ·have HR1:=WP ((HR 1 (u+1000000000 - bw - v)).out J);clear HR;go_wp2
     go_roundw
     case rel=>exact⟨k+1,o++[u+1000000000 - bw - v],1,J,by go_num,rfl,J,hown.setInt J (Gu o n k _ hkn HO.out),(by rw[Za4,HO.out];rfl:(o++[u+1000000000 - bw - v]).length=k+1),hso.append (l9.Small.cons J l9.Small.nil),HR1.out,hb.setCell (p:=⟨w.heap.size,k,none⟩) (NE _) _⟩
     case measure=>simp only[intOf];omega
    ·have HR1:=WP ((HR 0 (u - bw - v)).out J);clear HR;go_wp2
     go_roundw
     case rel=>exact⟨k+1,o++[u - bw - v],0,J,by go_num,rfl,J,hown.setInt J (Gu o n k _ hkn HO.out),(by rw[Za4,HO.out];rfl:(o++[u - bw - v]).length=k+1),hso.append (l9.Small.cons J l9.Small.nil),HR1.out,hb.setCell (p:=⟨w.heap.size,k,none⟩) (NE _) _⟩
     case measure=>simp only[intOf];omega
   ·have hv:y.getD k 0=0:=by
     have:=hy.len;rw[bi,Zaf J];rfl
    have HR:=fun d t=>WP (l9.MZ (B:=1000000000) (a:=x) (b:=y) (d:=d) (n:=t) HO.out HV.out)
    rw[hv]at HR;clear hv;generalize x.getD k 0=u at bg hu HR;by_cases hneg:(u:Int) - bw < 0
    ·have HR1:=WP ((HR 1 (u+1000000000 - bw)).out J);clear HR;go_wp2
     go_roundw
     case rel=>exact⟨k+1,o++[u+1000000000 - bw],1,J,by go_num,rfl,J,hown.setInt J (Gu o n k _ hkn HO.out),(by rw[Za4,HO.out];rfl:(o++[u+1000000000 - bw]).length=k+1),hso.append (l9.Small.cons J l9.Small.nil),HR1.out,hb.setCell (p:=⟨w.heap.size,k,none⟩) (NE _) _⟩
     case measure=>simp only[intOf];omega
    ·have HR1:=WP ((HR 0 (u - bw)).out J);clear HR;go_wp2
     go_roundw
     case rel=>exact⟨k+1,o++[u - bw],0,J,by go_num,rfl,J,hown.setInt J (Gu o n k _ hkn HO.out),(by rw[Za4,HO.out];rfl:(o++[u - bw]).length=k+1),hso.append (l9.Small.cons J l9.Small.nil),HR1.out,hb.setCell (p:=⟨w.heap.size,k,none⟩) (NE _) _⟩
     case measure=>simp only[intOf];omega
  ·have hkk:k=n:=J;subst hkk;have hfin:l9.D6 1000000000 o=l9.D6 1000000000 x - l9.D6 1000000000 y:=by
    have h:=HV.out;rw[Zae (by rw[hx.len];omega),Zae (by rw[hy.len];omega)]at h;have hlt:=l9.mf (B:=1000000000) J hso;rw[HO.out]at hlt;rcases Zas bw with e | e
    ·subst e;omega
    ·obtain rfl:bw=1:=J;omega
   have HF:=WP hfin;clear hfin;have hsl:=hown.sl;rw[Zbl]at hsl;simp only[List.replicate_zero,ZaI]at hsl
   go_wp2_with fail
   refine (uk _ _ _ _ _ hsl J).mono ?_;rintro e w' ⟨rfl,rfl⟩;go_wp2;go_ret;refine⟨_,_,_,rfl,?_,hb,hown.fresh⟩;have:=hsl.trimmed (B:=1000000000) J hso;rw[HF.out]at this;exact this
theorem getD_set_ne(l:List Nat)(i j v:Nat)(h:i≠j):(l.set i v).getD j 0=l.getD j 0:=by
 rw[bi,bi,List.getElem?_set_ne h]
theorem MJ(n j:Nat):(List.replicate n 0).getD j 0=0:=by
 rw[bi,List.getElem?_replicate];split <;> rfl
theorem UM(B n:Nat):l9.D6 B (List.replicate n 0)=0:=by
 induction n with
 |zero=>rfl
 |succ n ih=>rw[List.replicate_succ,l9.D6,ih];simp
theorem Gq(B n:Nat)(hB:1≤B):l9.Small B (List.replicate n 0):=by
 intro x hx;rw[(List.mem_replicate.1 hx).2];omega
theorem a6z{u v:Nat}(hu:u < 1000000000)(hv:v < 1000000000):(0:Int)≤(u:Int) * v∧(u:Int) * v≤999999998000000001:=by
 have h:u * v≤999999999 * 999999999:=Nat.mul_le_mul J J;have e:((u * v:Nat):Int)=(u:Int) * v:=by rw[Int.natCast_mul]
 omega
theorem a7s{z u v c:Nat}:((z:Int)+(u:Int) * v+c) % 1000000000=(((z+u * v+c) % 1000000000:Nat):Int):=by
 rw[Int.natCast_emod,Int.natCast_add,Int.natCast_add,Int.natCast_mul];rfl
theorem a7t{z u v c:Nat}:((z:Int)+(u:Int) * v+c) / 1000000000=(((z+u * v+c) / 1000000000:Nat):Int):=by
 rw[Int.natCast_ediv,Int.natCast_add,Int.natCast_add,Int.natCast_mul];rfl
theorem times_any(A A':Option Addr)(n n' c c':Nat)(x y:List Nat)(w:World)(hx:Sl w .u32 A n c x)(hy:Sl w .u32 A' n' c' y)(hn:n≤100000000)(hn':n'≤100000000)
  (hsx:l9.Small 1000000000 x) (hsy:l9.Small 1000000000 y) :
  Calls prog 246 #[.slice A n c,.slice A' n' c'] w (ik .u32 (l9.limbs 1000000000 (l9.D6 1000000000 x * l9.D6 1000000000 y)) w):=by
 go_enter func246,ntmps246
 go_wp2_with (at_make;refine Cb (w0:=w) rfl _ _ _ rfl 254 .u32 4 Tryz.underlying267 kS J _ _ _ _ (n+n') rfl rfl J J J (Below.refl _ _) ?_;intro w1 hown1 hb1 _ _)
 go_loopw [20] (fun ix wr=>∃(k:Nat) (L:List Nat),k≤n∧ix=.int .i64 k∧Own wr w.heap.size 254 .u32 (some ⟨w.heap.size,0,none⟩) (n+n') (n+n') L∧l9.Small 1000000000 L∧Hid (l9.D6 1000000000 L=l9.D6 1000000000 (x.take k) * l9.D6 1000000000 y)∧Hid (∀j,k+n'≤j→L.getD j 0=0)∧Below w.heap.size w wr) (fun ix _=>n - (intOf ix).toNat)
 case atStart=>exact⟨0,_,ww _,rfl,hown1,Gq _ _ J,(by rw[UM,List.take_zero];simp[l9.D6]:l9.D6 1000000000 (List.replicate (n+n') 0)=l9.D6 1000000000 (x.take 0) * l9.D6 1000000000 y),(fun j _=>MJ _ j:∀j,0+n'≤j→(List.replicate (n+n') 0).getD j 0=0),hb1⟩
 case round =>
  obtain⟨k,L,hk,rfl,hown,hsL,HV,HZ,hb⟩:=hrel;obtain⟨wo,rfl⟩:∃wo:World,wo=wr:=⟨_,rfl⟩;by_cases hkn:k < n
  ·obtain⟨b,off,rfl,_,hcx⟩:=(hx.below hb).cells J;have bg:=hcx k hkn;clear hcx;have hu:=getD_lt (l:=x) hsx J k;have HT:=WP (l9.Vm (B:=1000000000) (a:=x) (b:=y) (i:=k) HV.out);generalize x.getD k 0=u at bg hu HT;go_wp2
   go_loopw [8,27] (fun cr jx wr=>∃(m cy:Nat) (M:List Nat),m≤n'∧jx=.int .i64 m∧cr=.int .u64 cy∧cy < 1000000000∧Own wr w.heap.size 254 .u32 (some ⟨w.heap.size,0,none⟩) (n+n') (n+n') M∧l9.Small 1000000000 M∧Hid (l9.D6 1000000000 M+1000000000 ^ (k+m) * cy=l9.D6 1000000000 L+1000000000 ^ k * (u * l9.D6 1000000000 (y.take m)))∧Hid (∀j,k+n'≤j→M.getD j 0=0)∧Below w.heap.size w wr) (fun _ jx _=>n' - (intOf jx).toNat)
   case atStart=>exact⟨0,0,L,ww _,rfl,rfl,J,hown,hsL,(by simp[l9.D6]:l9.D6 1000000000 L+1000000000 ^ (k+0) * 0=l9.D6 1000000000 L+1000000000 ^ k * (u * l9.D6 1000000000 (y.take 0))),HZ,hb⟩
   case round =>
    obtain⟨m,cy,M,hm,rfl,rfl,hcy,lq,hsM,HM,rZ,su⟩:=hrel;by_cases hmn:m < n'
    ·obtain⟨b',off',rfl,_,dZ⟩:=(hy.below su).cells J;have hcv:=dZ m hmn;clear dZ;have hv:=getD_lt (l:=y) hsy J m;have hlM:=lq.len;obtain⟨hco,hfo,_,hgl⟩:=lq.cellAt (i:=k+m) J;have hz:=getD_lt (l:=M) hsM J (k+m);have HR:=WP (l9.Vl (B:=1000000000) (o:=M) (b:=y) (x:=u) (i:=k) (j:=m) J HM.out rfl rfl);clear hlM;generalize M.getD (k+m) 0=z at hco hz HR;generalize y.getD m 0=v at hcv hv HR;obtain⟨hp1,hp2⟩:=a6z hu hv;have hfit:=l9.Vx (B:=1000000000) J hz hu hv hcy;go_wp2
     go_roundw
     case rel =>
      refine⟨m+1,(z+u * v+cy) / 1000000000,M.set (k+m) ((z+u * v+cy) % 1000000000),J,by go_num,?_,J,lq.setInt ?_ rfl,hsM.set J,HR.out,(fun j hj=>by rw[getD_set_ne _ _ _ _ J];exact rZ.out j hj:∀j,k+n'≤j→(M.set (k+m) ((z+u * v+cy) % 1000000000)).getD j 0=0),su.setCell (p:=⟨w.heap.size,k+m,none⟩) (NE _) _⟩
      ·rw[a7t]
      ·rw[a7s]
     case measure=>simp only[intOf];omega
    ·have hmm:m=n':=J;subst hmm;obtain⟨hco,hfo,_,hgl⟩:=lq.cellAt (i:=k+m) J;have HR:Hid (l9.D6 1000000000 (M.set (k+m) cy)=l9.D6 1000000000 (x.take (k+1)) * l9.D6 1000000000 y):=by
      have kG:=hy.len;subst kG;exact (l9.Wi (by rw[lq.len];omega) (rZ.out _ (NE _)) HM.out).trans HT.out
     generalize M.getD (k+m) 0=z at hco;go_wp2
     go_roundw
     case rel=>exact⟨k+1,M.set (k+m) cy,J,by go_num,lq.setInt J rfl,hsM.set hcy,HR.out,(fun j hj=>by rw[getD_set_ne _ _ _ _ J];exact rZ.out j J:∀j,k+1+m≤j→(M.set (k+m) cy).getD j 0=0),su.setCell (p:=⟨w.heap.size,k+m,none⟩) (NE _) _⟩
     case measure=>simp only[intOf];omega
  ·have hkk:k=n:=J;subst hkk;have hsl:=hown.sl
   go_wp2_with fail
   refine (uk _ _ _ _ _ hsl J).mono ?_;rintro e w' ⟨rfl,rfl⟩;go_wp2;go_ret;refine⟨_,_,_,rfl,?_,hb,hown.fresh⟩;have:=hsl.trimmed (B:=1000000000) J hsL;rw[HV.out,Zae (by rw[hx.len];omega)]at this;exact this
end Go.Proofs.YthhknjlmjefklaaGreatDoor
