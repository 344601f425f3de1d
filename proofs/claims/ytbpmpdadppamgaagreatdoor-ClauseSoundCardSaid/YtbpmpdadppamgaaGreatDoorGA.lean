/- Plain arithmetic of decimals and limbs: what the Go texts of chapter 1 compute, with no program in sight. -/
import Derived.Lib.ItoaMem
import Derived.Lib.ParseIntB
import Derived.Lib.AtoiAll
import Derived.Lib.Strings
import Derived.WalkKit
import Derived.WalkSpells
import Derived.Test.YtbpmpdadppamgaaGreatDoorProg
import Derived.Deep.QuietTactic
import Derived.BigQuiet
import Derived.OwnWalk
set_option maxRecDepth 100000
set_option maxHeartbeats 4000000
namespace Go.Proofs.YtbpmpdadppamgaaGreatDoor
theorem J{p:Prop}(h:p:=by omega):p:=h
theorem O{p:Prop}(h:p:=by decide):p:=h
theorem I{p:Prop}(h:p:=by simp):p:=h
theorem Z:True:=⟨⟩
abbrev lw:=List UInt8
theorem WF:∀ {p:Prop} [Decidable p],¬p→decide p=false:=@decide_eq_false
theorem WP:∀ {p:Prop},p→Go.RowKit.Hid p:=@Lib.hid
theorem UV.{u}:∀ {α:Type u}{i:Nat}{a:α}{l:List α},l[i]?=some a↔∃ h,l[i]=a:=@List.getElem?_eq_some_iff
theorem Pi:∀ {p:Prop} [Decidable p],p→decide p=true:=@decide_eq_true
theorem PP:∀ (n:Nat),n≤n:=@Nat.le_refl
theorem NE.{u}:∀ {α:Type u}{a:α}{l:List α},a∈a::l:=@List.mem_cons_self
theorem IR.{u}:∀ {α:Type u} [BEq α] [LawfulBEq α] {a b:α},(a == b)=false↔a ≠ b:=@beq_eq_false_iff_ne
theorem EQ.{u}:∀ {c:Prop}{_:Decidable c},¬c→∀ {α:Sort u}{t e:α},(if c then t else e)=e:=@if_neg
theorem Cc.{u,v}:∀ {α:Type u}{β:Type v}{q:List α} (f:α→β),(List.map f q).length=q.length:=@List.length_map
theorem Ce:∀ (a b:Bool),((a && b)=true)=(a=true∧b=true):=@Bool.and_eq_true
theorem Cf.{u}:∀ {α:Type u}{a b:α},a∈[b]↔a=b:=@List.mem_singleton
theorem Cg.{u}:∀ {α:Type u} (y:α) {a:α}{l:List α},a∈l→a∈y::l:=@List.mem_cons_of_mem
theorem Ch.{u}:∀ {c:Prop}{_:Decidable c},c→∀ {α:Sort u}{t e:α},(if c then t else e)=t:=@if_pos
theorem Ci:∀ (n:Nat),0≤n:=@Nat.zero_le
theorem AC.{u}:∀ {α:Type u}{l:List α}{i:Nat}{a:α},l.getD i a=l[i]?.getD a:=@List.getD_eq_getElem?_getD
theorem yM.{u}:∀ {α:Type u}{a:α}{q:List α},(a::q).length=q.length+1:=@List.length_cons
theorem ww.{u}:∀ {α:Type u}{l:List α}{i:Nat} (h:i < l.length),l[i]?=some l[i]:=@List.getElem?_eq_getElem
theorem ut.{u}:∀ {α:Type u}{i:Nat}{l:List α},(List.drop i l).length=l.length - i:=@List.length_drop
theorem rE:∀ {p:Prop} [Decidable p],(decide p=true)=p:=@decide_eq_true_eq
theorem q8.{u}:∀ {α:Type u}{l:List α}{i:Nat}{a:α},l[i]?=some a→a∈l:=@List.mem_of_getElem?
theorem q9.{u}:∀ {α:Type u}{l:List α},l.length=0→l=[]:=@List.eq_nil_of_length_eq_zero
theorem pu:∀ {n m k:Nat},n≤m→m≤k→n≤k:=@Nat.le_trans
theorem lc:∀ {α β:Type} (P:Go.Program) (w:Go.World) (x:Go.Sem α) (f:α→Go.Sem β),Go.Sem.run P (x >>= f) w=(Go.Sem.run P x w).andThen fun a w' => Go.Sem.run P (f a) w':=@Sem.run_bind
theorem lm.{u}:∀ {α:Type u}{q bs:List α},(q ++ bs).length=q.length+bs.length:=@List.length_append
theorem kw:∀ {n m k:Nat},n < m→m≤k→n < k:=@Nat.lt_of_lt_of_le
theorem d9:∀ {α:Type} (P:Go.Program) (w:Go.World) (a:α),Go.Sem.run P (pure a) w=Go.Result.ok a w:=@Sem.run_pure
theorem bi.{u,v}:∀ {α:Type u}{β:Type v}{f:α→β}{l:List α}{i:Nat},(List.map f l)[i]?=Option.map f l[i]?:=@List.getElem?_map
theorem bv:∀ {p:Prop} [Decidable p],decide p=true→p:=@of_decide_eq_true
theorem Za0.{u}:∀ {α:Type u}{i j:Nat}{l:List α},List.drop i (List.drop j l)=List.drop (j+i) l:=@List.drop_drop
theorem Za1.{u}:∀ {α:Type u}{l:List α}{i:Nat},(List.drop i l).head?=l[i]?:=@List.head?_drop
theorem Za2.{u}:∀ {α:Type u}{i:Nat}{l:List α},l.length≤i→List.take i l=l:=@List.take_of_length_le
theorem Za3.{u}:∀ {α:Type u}{b:α}{l:List α}{a:α},a∈b::l↔a=b∨a∈l:=@List.mem_cons
theorem Za4.{u}:∀ {α:Type u}{l:List α}{i:Nat},l.length≤i→l[i]?=none:=@List.getElem?_eq_none
theorem Za5:∀ (n m:Nat),n < m∨n ≥ m:=@Nat.lt_or_ge
theorem Za6:∀ (a:Option Go.Addr) (len cap:Nat) (a_1:Option Go.Addr) (len_1 cap_1:Nat),(Go.Value.slice a len cap=Go.Value.slice a_1 len_1 cap_1)=(a=a_1∧len=len_1∧cap=cap_1):=@Value.slice.injEq
theorem Za8:∀ {b:Bool},b=false↔b ≠ true:=@Bool.eq_false_iff
theorem Zaa:∀ (n:Nat),n=0∨n > 0:=@Nat.eq_zero_or_pos
theorem Zab:∀ {p q:Prop}{_:Decidable p}{_:Decidable q},decide p=decide q↔(p↔q):=@decide_eq_decide
theorem Zac:∀ {P:Go.Program}{t:Go.TypeId}{d:Go.TypeDesc},P.underlying t=some d→∀ (w:Go.World),Go.Sem.run P (Go.underlying t) w=Go.Result.ok d w:=@run_underlying
theorem Zad:∀ (s:ByteArray),s.size=s.data.toList.length:=@Lib.size_eq
theorem Zae:∀ {n m:Nat},n.beq m=true→n=m:=@Nat.eq_of_beq_eq_true
theorem Zaf.{u}:∀ {α:Type u} (q bs cs:List α),q ++ bs ++ cs=q ++ (bs ++ cs):=@List.append_assoc
theorem Zag.{u}:∀ {α:Type u}{p:α→Bool}{l:List α},l.all p=true↔∀ (x:α),x∈l→p x=true:=@List.all_eq_true
theorem Zah.{u}:∀ {α:Type u}{i:Nat}{l:List α},l.length≤i→List.drop i l=[]:=@List.drop_of_length_le
theorem Zaj.{u}:∀ {α:Type u}{l:List α}{n:Nat} (h:n < l.length),l[n]∈l:=@List.getElem_mem
theorem Zak.{u}:∀ {α:Type u}{a:α},[a].length=1:=@List.length_singleton
theorem Zal.{u}:∀ {α:Type u}{i:Nat}{l:List α},(List.take i l).length=min i l.length:=@List.length_take
theorem Zam.{u,v}:∀ {α:Type u}{β:Type v}{f:α→β}{l₁ l₂:List α},List.map f (l₁ ++ l₂)=List.map f l₁ ++ List.map f l₂:=@List.map_append
theorem Zan.{u}:∀ {α:Type u}{a:α}{q:List α} (bs:List α),a∈q→a∈q ++ bs:=@List.mem_append_left
theorem Zao.{u}:∀ {α:Type u}{val val_1:α},some val=some val_1→val=val_1:=@Option.some.inj
theorem Zap:∀ {n m:Nat},n.ble m=true→n≤m:=@Nat.le_of_ble_eq_true
theorem Zaq.{u,v}:∀ {α:Type u}{β:Type v}{f:α→β}{a:α}{l:List α},List.map f (a::l)=f a::List.map f l:=@List.map_cons
theorem Zar:∀ {n:Nat},n > 0→∀ {i j:Nat},i≤j→n ^ i≤n ^ j:=@Nat.pow_le_pow_right
theorem Zas:∀ {n m:Nat} (k:Nat),n≤m→n * k≤m * k:=@Nat.mul_le_mul_right
theorem Zat.{u}:∀ {α:Type u}{a:α},¬a∈[]:=@List.not_mem_nil
theorem Zau:∀ (n:Nat),0+n=n:=@Nat.zero_add
theorem Zav.{u}:∀ {α:Sort u}{_:Decidable False} (t e:α),(if False then t else e)=e:=@if_false
theorem Zaw.{u,v}:∀ {α:Type u}{β:Type v}{b:β}{f:α→β}{l:List α},b∈List.map f l↔∃ a,a∈l∧f a=b:=@List.mem_map
theorem Zax.{u}:∀ {α:Type u}{i:Nat}{xs:Array α},xs.size≤i→xs[i]?=none:=@Array.getElem?_eq_none
theorem Zay.{u}:∀ {α:Type u} (a:α) (q:List α) (h:0 < (a::q).length),(a::q)[0]=a:=@List.getElem_cons_zero
theorem Zaz.{u,v}:∀ {α:Type u}{β:Type v} (fst:α) (snd:β) (fst_1:α) (snd_1:β),((fst,snd)=(fst_1,snd_1))=(fst=fst_1∧snd=snd_1):=@Prod.mk.injEq
theorem ZaA.{u}:∀ {α:Type u}{a:α}{s t:List α},a∈s ++ t↔a∈s∨a∈t:=@List.mem_append
theorem ZaB.{u}:∀ {α:Type u} (q:List α),q ++ []=q:=@List.append_nil
theorem ZaC.{u}:∀ {α:Type u}{i:Nat}{l:List α} (h:i < l.length),List.drop i l=l[i]::List.drop (i+1) l:=@List.drop_eq_getElem_cons
theorem ZaD.{u}:∀ {α:Type u}{l₁ l₂:List α}{i:Nat},i < l₁.length→(l₁ ++ l₂)[i]?=l₁[i]?:=@List.getElem?_append_left
theorem ZaE.{u}:∀ {α:Type u}{b:α} (q:List α) {bs:List α},b∈bs→b∈q ++ bs:=@List.mem_append_right
theorem ZaF:∀ {p:Prop} [Decidable p],decide p=false→¬p:=@of_decide_eq_false
theorem ZaG.{u}:∀ {α:Sort u}{_:Decidable True} (t e:α),(if True then t else e)=t:=@if_true
theorem ZaH.{u,v}:∀ {α:Type u}{b:α}{α_1:Type v}{x:Option α_1}{f:α_1→α},Option.map f x=some b↔∃ a,x=some a∧f a=b:=@Option.map_eq_some_iff
theorem ZaI.{u}:∀ {α:Type u}{l₁ l₂:List α}{i:Nat},l₁.length≤i→(l₁ ++ l₂)[i]?=l₂[i - l₁.length]?:=@List.getElem?_append_right
theorem ZaJ.{u}:∀ {α:Sort u}{a b:α},a ≠ b→b ≠ a:=@Ne.symm
theorem ZaK.{u}:∀ {α:Type u}{xs:Array α}{i:Nat}{d:α},xs.getD i d=xs[i]?.getD d:=@Array.getD_eq_getD_getElem?
theorem ZaL:(false=true)=False:=@Bool.false_eq_true
theorem ZaM:∀ (n m:Nat),n ^ m.succ=n ^ m * n:=@Nat.pow_succ
theorem ZaN:∀ (n m k:Nat),n * (m+k)=n * m+n * k:=@Nat.mul_add
theorem ZaO:∀ (s:ByteArray),s.toList=s.data.toList:=@Lib.toList_data
theorem ZaP.{u}:∀ {α:Type u}{a b:α},(some a).getD b=a:=@Option.getD_some
theorem ZaW:∀ (n m:Nat),n * m=m * n:=@Nat.mul_comm
theorem ZaZ.{u}:∀ {α:Type u}{l:List α},List.drop 0 l=l:=@List.drop_zero
theorem Zb1:∀ (n m:Nat),n+m - m=n:=@Nat.add_sub_cancel
theorem Zb4:∀ (p:Prop),(p∨False)=p:=@or_false
theorem Zb5:∀ (n:Nat),n - n=0:=@Nat.sub_self
theorem Zb8:∀ (a b:Int),a * b=b * a:=@Int.mul_comm
end Go.Proofs.YtbpmpdadppamgaaGreatDoor
namespace Go.Proofs.YtbpmpdadppamgaaGreatDoor.j6
open Tryz
open Go Go.Lib
def y8(B:Nat):List Nat→Nat
 |[]=>0
 |x::r=>x+B * y8 B r
def nD(B:Nat):Nat→Nat→List Nat
 |0,_=>[]
 |f+1,n=>if n=0 then [] else n % B::nD B f (n / B)
def limbs(B n:Nat):List Nat:=nD B n n
def Small(B:Nat)(l:List Nat):Prop:=∀x∈l,x < B
def U3(l:List Nat):List Nat:=(l.reverse.dropWhile (· == 0)).reverse
theorem Pt(B:Nat)(hB:2≤B):∀(f g n:Nat),n≤f→n≤g→nD B f n=nD B g n
 |0,0,_,_,_=>rfl
 |0,g+1,n,h,_=>by
              have:n=0:=J;subst this;simp[nD]
 |f+1,0,n,_,h=>by
              have:n=0:=J;subst this;simp[nD]
 |f+1,g+1,n,h1,h2=>by
  by_cases hn:n=0
  ·subst hn;simp[nD]
  ·have hd:n / B < n:=Nat.div_lt_self J J;simp only[nD,hn,Zav];rw[Pt B hB f g (n / B) J J]
theorem rJ(B:Nat):limbs B 0=[]:=rfl
theorem uX{B n:Nat}(hB:2≤B)(hn:n≠0):limbs B n=n % B::limbs B (n / B):=by
 have hd:n / B < n:=Nat.div_lt_self J J;obtain⟨m,rfl⟩:∃m,n=m+1:=⟨n - 1,J⟩;unfold limbs;rw[nD,EQ hn,Pt B hB m ((m+1) / B) _ J (PP _)]
theorem H8{B:Nat}(hB:2≤B)(n:Nat):y8 B (limbs B n)=n:=by
 induction n using Nat.strongRecOn with
 |_ n ih =>
  by_cases hn:n=0
  ·subst hn;rfl
  ·rw[uX hB hn,y8,ih (n / B) (Nat.div_lt_self J J)];exact Nat.mod_add_div n B
theorem N7{B:Nat}(hB:2≤B)(n:Nat):Small B (limbs B n):=by
 induction n using Nat.strongRecOn with
 |_ n ih =>
  by_cases hn:n=0
  ·subst hn;intro x hx;cases hx
  ·rw[uX hB hn];intro x hx;rcases Za3.1 hx with rfl | hx
   ·exact Nat.mod_lt _ J
   ·exact ih (n / B) (Nat.div_lt_self J J) x hx
theorem mX{B n:Nat}(hB:2≤B):limbs B n=[]↔n=0:=by
 constructor
 ·intro h;rw[←H8 hB n,h];rfl
 ·rintro rfl;rfl
theorem a07{B:Nat}(hB:2≤B)(n:Nat):∀h:limbs B n≠[],(limbs B n).getLast h≠0:=by
 induction n using Nat.strongRecOn with
 |_ n ih =>
  intro h;have hn:n≠0:=fun e=>h (by subst e;rfl)
  have e:=uX hB hn;by_cases hq:n / B=0
  ·have:limbs B n=[n % B]:=by rw[e,hq];rfl
   simp only[this,List.getLast_singleton];have:=Nat.mod_add_div n B;rw[hq]at this;omega
  ·have hne:limbs B (n / B)≠[]:=fun h'=>hq ((mX hB).1 h')
   have:=ih (n / B) (Nat.div_lt_self J J) hne;have key:∀(l:List Nat) (h:l≠[]),l=n % B::limbs B (n / B)→l.getLast h≠0:=by
    rintro _ h rfl;rw[List.getLast_cons hne];exact this
   exact key _ h e
theorem xP(B:Nat)(l r:List Nat):y8 B (l++r)=y8 B l+B ^ l.length * y8 B r:=by
 induction l with
 |nil=>simp[y8]
 |cons x l ih =>
  simp only[List.cons_append,y8,ih,yM,ZaM];rw[ZaN,ZaW (B ^ l.length) B,Nat.mul_assoc];omega
theorem jG{B:Nat}(hB:1≤B):∀{l:List Nat},Small B l→y8 B l < B ^ l.length
 |[],_=>by simp[y8]
 |x::r,h=>by
  have h1:x < B:=h x I;have h2:=jG hB (l:=r) (fun y hy=>h y (by simp[hy]));simp only[y8,yM,ZaM];have:B * (y8 B r+1)≤B * B ^ r.length:=Nat.mul_le_mul_left B h2;rw[ZaN]at this;rw[ZaW (B ^ r.length) B];omega
theorem Small.cons{B x:Nat}{l:List Nat}(h:x < B)(hl:Small B l):Small B (x::l):=by
 intro y hy;rcases Za3.1 hy with rfl | hy
 ·exact h
 ·exact hl y hy
theorem Small.append{B:Nat}{l r:List Nat}(hl:Small B l)(hr:Small B r):Small B (l++r):=by
 intro y hy;rcases ZaA.1 hy with hy | hy
 ·exact hl y hy
 ·exact hr y hy
theorem Small.nil{B:Nat}:Small B []:=fun _ h=>by cases h
theorem Small.take{B:Nat}{l:List Nat}(h:Small B l)(k:Nat):Small B (l.take k):=fun x hx=>h x (List.mem_of_mem_take hx)
theorem Small.drop{B:Nat}{l:List Nat}(h:Small B l)(k:Nat):Small B (l.drop k):=fun x hx=>h x (List.mem_of_mem_drop hx)
theorem Small.getD{B:Nat}{l:List Nat}(hB:1≤B)(h:Small B l)(k:Nat):l.getD k 0 < B:=by
 by_cases hk:k < l.length
 ·rw[AC,ww hk];exact h _ (Zaj hk)
 ·rw[AC,Za4 J];simp;omega
theorem Hu{B:Nat}(hB:2≤B):∀(l:List Nat),Small B l→(∀h:l≠[],l.getLast h≠0)→l=limbs B (y8 B l)
 |[],_,_=>rfl
 |x::r,hs,hl=>by
  have hx:x < B:=hs x I;have hr:Small B r:=fun y hy=>hs y (by simp[hy])
  have hrl:∀h:r≠[],r.getLast h≠0:=fun h=>by
   have:=hl I
   rwa [List.getLast_cons h]at this
  have ih:=Hu hB r hr hrl;have hv:x+B * y8 B r≠0:=by
   by_cases hn:r=[]
   ·subst hn;have:=hl I;simp only[List.getLast_singleton]at this;omega
   ·have h0:y8 B r≠0:=fun e=>hn (by rw[ih,e];rfl)
    have:0 < B * y8 B r:=Nat.mul_pos J J;omega
  simp only[y8];rw[uX hB hv,Nat.add_mul_mod_self_left,Nat.mod_eq_of_lt hx,Nat.add_mul_div_left _ _ J,Nat.div_eq_of_lt hx,Zau,←ih]
theorem Hf(l:List Nat):U3 (l++[0])=U3 l:=by simp[U3]
theorem Ij{x:Nat}(hx:x≠0)(l:List Nat):U3 (l++[x])=l++[x]:=by
 simp[U3,hx]
theorem a0W(B:Nat)(l:List Nat):y8 B (l++[0])=y8 B l:=by simp[xP,y8]
theorem a1E{B:Nat}(hB:2≤B)(l:List Nat)(hs:Small B l):U3 l=limbs B (y8 B l):=by
 induction hk:l.length generalizing l with
 |zero =>
      obtain rfl:l=[]:=q9 hk;rfl
 |succ k ih =>
  obtain⟨r,x,rfl⟩:∃r x,l=r++[x]:=⟨l.dropLast,l.getLast (by intro e;subst e;simp at hk),(List.dropLast_concat_getLast _).symm⟩;by_cases hx:x=0
  ·subst hx;rw[Hf,a0W,ih r (fun y hy=>hs y (by simp[hy])) (by simpa using hk)]
  ·rw[Ij hx];exact Hu hB _ hs (fun h=>by simpa using hx)
theorem xM{B n k:Nat}(hB:2≤B)(h:n < B ^ k):(limbs B n).length≤k:=by
 induction k generalizing n with
 |zero=>simp at h;subst h;simp[rJ]
 |succ k ih =>
  by_cases hn:n=0
  ·subst hn;simp[rJ]
  ·rw[uX hB hn,yM];have:n / B < B ^ k:=Nat.div_lt_of_lt_mul (by rw[ZaM,ZaW]at h;exact h);have:=ih this;omega
def aU(c:UInt8):Bool:=decide (48≤c.toNat) && decide (c.toNat≤57)
def Q4(l:lw):Bool:=l.all aU
def O6(l:lw):Nat:=l.foldl (fun a c=>a * 10+(c.toNat - 48)) 0
theorem a2d(l:lw):∀a:Nat,l.foldl (fun a c=>a * 10+(c.toNat - 48)) a=a * 10 ^ l.length+O6 l:=by
 induction l with
 |nil=>intro a;simp[O6]
 |cons c l ih =>
  intro a;simp only[List.foldl_cons,O6,yM];rw[ih (a * 10+(c.toNat - 48)),ih (0 * 10+(c.toNat - 48)),ZaM,Nat.add_mul,Nat.mul_assoc,ZaW 10];simp only[Nat.zero_mul,Zau];omega
theorem mY(l r:lw):O6 (l++r)=O6 l * 10 ^ r.length+O6 r:=by
 unfold O6;rw[List.foldl_append,a2d];rfl
theorem QY:O6 []=0:=rfl
theorem pQ(c:UInt8):O6 [c]=c.toNat - 48:=by simp[O6]
theorem CV{α:Type}{motive:List α→Prop}(nil:motive [])(snoc:∀l c,motive l→motive (l++[c])):∀l,motive l:=by
 intro l;rw[←List.reverse_reverse l]
 induction l.reverse with
 |nil=>exact nil
 |cons c r ih=>rw[List.reverse_cons];exact snoc _ _ ih
theorem yN(l:lw)(h:Q4 l=true):O6 l < 10 ^ l.length:=by
 induction l using CV with
 |nil=>simp[O6]
 |snoc l c ih =>
  have hc:aU c=true:=by simp[Q4]at h;exact h.2
  have hl:Q4 l=true:=by simp[Q4]at h ⊢;exact h.1
  have:=ih hl;rw[mY,pQ,lm,Zak,ZaM];simp[aU]at hc;omega
theorem xN{u:Nat}(h:u < 10):decDigits u=[UInt8.ofNat (48+u)]:=by rw[decDigits,dif_pos h]
theorem xO{u:Nat}(h:¬u < 10):decDigits u=decDigits (u / 10)++[UInt8.ofNat (48+u % 10)]:=by rw[decDigits,dif_neg h]
theorem ofNat_toNat{d:Nat}(h:d < 10):(UInt8.ofNat (48+d)).toNat=48+d:=by
 rw[UInt8.toNat_ofNat'];omega
theorem Ql{d:Nat}(h:d < 10):aU (UInt8.ofNat (48+d))=true:=by
 simp only[aU,ofNat_toNat h,Ce,rE];omega
theorem rF(u:Nat):Q4 (decDigits u)=true:=by
 induction u using Nat.strongRecOn with
 |_ u ih =>
  by_cases h:u < 10
  ·rw[xN h,Q4,List.all_cons,Ql h];rfl
  ·rw[xO h];have:=ih (u / 10) J;have h2:=Ql (d:=u % 10) J;simp only[Q4,List.all_append,Ce]at this ⊢
   exact⟨this,by rw[List.all_cons,h2];rfl⟩
theorem uR(u:Nat):O6 (decDigits u)=u:=by
 induction u using Nat.strongRecOn with
 |_ u ih =>
  by_cases h:u < 10
  ·rw[xN h,pQ,ofNat_toNat h];omega
  ·rw[xO h,mY,ih (u / 10) J,pQ,ofNat_toNat J];simp only[Zak,Nat.pow_one];omega
theorem uS{u:Nat}(hu:u≠0):∃c r,decDigits u=c::r∧c.toNat≠48:=by
 induction u using Nat.strongRecOn with
 |_ u ih =>
  by_cases h:u < 10
  ·exact⟨_,_,xN h,by rw[ofNat_toNat h];omega⟩
  ·obtain⟨c,r,e,hc⟩:=ih (u / 10) J J;exact⟨c,r++[UInt8.ofNat (48+u % 10)],by rw[xO h,e];rfl,hc⟩
theorem Qm{l:lw}{c:UInt8}:Q4 (l++[c])=true↔Q4 l=true∧aU c=true:=by
 simp[Q4,List.all_append]
theorem Ia{l r:lw}:Q4 (l++r)=true↔Q4 l=true∧Q4 r=true:=by
 simp[Q4,List.all_append]
theorem Pv{c:UInt8}(h:aU c=true):c=UInt8.ofNat (48+(c.toNat - 48)):=by
 simp only[aU,Ce,rE]at h;rw[Nat.add_sub_cancel' h.1,UInt8.ofNat_toNat]
theorem Cn(l:lw):Q4 l=true→(∃c r,l=c::r∧c.toNat≠48)→decDigits (O6 l)=l∧O6 l≠0:=by
 induction l using CV with
 |nil=>rintro _ ⟨c,r,h,_⟩;cases h
 |snoc l d ih =>
  intro hd hh;obtain⟨hl,hc⟩:=Qm.1 hd;have hcc:=hc;simp only[aU,Ce,rE]at hcc;by_cases hn:l=[]
  ·subst hn;obtain⟨c,r,h,h48⟩:=hh;simp only[List.nil_append,List.cons.injEq]at h;obtain⟨rfl,rfl⟩:=h;simp only[List.nil_append,pQ];refine⟨?_,J⟩;rw[xN J,←Pv hc]
  ·obtain⟨c,r,h,h48⟩:=hh;have hl':∃c r,l=c::r∧c.toNat≠48:=by
    cases l with
    |nil=>exact absurd rfl hn
    |cons x t =>
           simp only[List.cons_append,List.cons.injEq]at h;exact⟨x,t,rfl,by rw[h.1];exact h48⟩
   obtain⟨e,hz⟩:=ih hl hl';rw[mY,pQ,Zak,Nat.pow_one];refine⟨?_,J⟩;rw[xO J];have h1:(O6 l * 10+(d.toNat - 48)) / 10=O6 l:=J;have h2:(O6 l * 10+(d.toNat - 48)) % 10=d.toNat - 48:=J;rw[h1,h2,e,←Pv hc]
def mag:lw→lw
 |[]=>[]
 |c::r=>if c=45 then r else c::r
def neg:lw→Bool
 |[]=>false
 |c::_=>c == 45
def O5(s:lw):Bool:=s == [48] || (match mag s with | []=>false | c::r=>c != 48 && Q4 (c::r))
def x9(s:lw):Int:=if O5 s then (if neg s then -(O6 (mag s):Int) else O6 (mag s)) else 0
theorem PH(r:lw):neg (45::r)=true:=by simp[neg]
theorem rM(r:lw):mag (45::r)=r:=by simp[mag]
theorem uY{s:lw}(h:neg s=false):mag s=s:=by
 cases s with
 |nil=>rfl
 |cons c r=>simp[neg]at h;simp[mag,h]
theorem Ct{s:lw}(h:neg s=true):s=45::mag s:=by
 cases s with
 |nil=>simp[neg]at h
 |cons c r=>simp[neg]at h;subst h;simp[mag]
theorem mZ{s:lw}(h0:s≠[48]):O5 s=true↔(Q4 (mag s)=true∧∃c r,mag s=c::r∧c.toNat≠48):=by
 have hb:(s == [48])=false:=by simpa using h0
 unfold O5;rw[hb,Bool.false_or];cases hm:mag s with
 |nil=>simp
 |cons c r =>
  simp only[Ce,bne_iff_ne,ne_eq,List.cons.injEq];constructor
  ·rintro⟨h1,h2⟩;refine⟨h2,c,r,⟨rfl,rfl⟩,fun e=>h1 ?_⟩;exact UInt8.toNat_inj.1 (by simpa using e)
  ·rintro⟨h2,c',r',⟨rfl,rfl⟩,h1⟩;exact⟨fun e=>h1 (by subst e;rfl),h2⟩
theorem gW:itoa 0=[48]:=by decide +kernel
theorem nu{u:Nat}:itoa (u:Int)=decDigits u:=by simp[itoa]
theorem xY{u:Nat}(h:u≠0):itoa (-(u:Int))=45::decDigits u:=by
 rw[itoa,Ch J];simp
theorem xZ{c:UInt8}{r:lw}(h:Q4 (c::r)=true):c≠45:=by
 rintro rfl;simp[Q4,aU]at h
theorem Qn:x9 [48]=0:=O
theorem a2H{s:lw}(h:O5 s=true):itoa (x9 s)=s:=by
 by_cases h0:s=[48]
 ·subst h0;rw[Qn,gW]
 ·obtain⟨hd,hh⟩:=(mZ h0).1 h;obtain⟨e,hz⟩:=Cn _ hd hh;unfold x9;rw[Ch h];cases hn:neg s with
  |true=>rw[Ch rfl,xY hz,e];exact (Ct hn).symm
  |false=>rw[EQ I,nu,e,uY hn]
theorem Ik(n:Int):O5 (itoa n)=true:=by
 by_cases hz:n=0
 ·subst hz;rw[gW];rfl
 ·by_cases hn:n < 0
  ·obtain⟨u,rfl⟩:∃u:Nat,n=-(u:Int):=⟨n.natAbs,J⟩;have hu:u≠0:=J;obtain⟨c,r,e,hc⟩:=uS hu;rw[xY hu];refine (mZ (by intro h;simp at h)).2 ?_;rw[rM];exact⟨rF u,c,r,e,hc⟩
  ·obtain⟨u,rfl⟩:∃u:Nat,n=(u:Int):=⟨n.toNat,J⟩;have hu:u≠0:=J;obtain⟨c,r,e,hc⟩:=uS hu;have hd:=rF u;rw[nu];have hm:mag (decDigits u)=decDigits u:=by
    rw[e]at hd ⊢
    simp[mag,xZ hd]
   refine (mZ ?_).2 ?_
   ·intro h;rw[e]at h;simp only[List.cons.injEq]at h;exact hc (by rw[h.1];rfl)
   ·rw[hm];exact⟨hd,c,r,e,hc⟩
theorem M7(n:Int):x9 (itoa n)=n:=by
 unfold x9;rw[Ch (Ik n)];by_cases hz:n=0
 ·subst hz;rw[gW];rfl
 ·by_cases hn:n < 0
  ·obtain⟨u,rfl⟩:∃u:Nat,n=-(u:Int):=⟨n.natAbs,J⟩;have hu:u≠0:=J;rw[xY hu,PH,rM,uR];rfl
  ·obtain⟨u,rfl⟩:∃u:Nat,n=(u:Int):=⟨n.toNat,J⟩;have hu:u≠0:=J;obtain⟨c,r,e,hc⟩:=uS hu;have hd:=rF u;rw[nu];have eU:neg (decDigits u)=false:=by
    rw[e]at hd ⊢
    simp[neg,xZ hd]
   rw[eU,uY eU,uR];rfl
theorem yu{a b:Int}(h:itoa a=itoa b):a=b:=by rw[←M7 a,h,M7]
theorem uT(B:Nat)(l:List Nat)(i:Nat):y8 B (l.take (i+1))=y8 B (l.take i)+B ^ i * l.getD i 0:=by
 by_cases h:i < l.length
 ·rw[List.take_succ_eq_append_getElem h,xP,Zal,Nat.min_eq_left J,AC,ww h];simp[y8]
 ·rw[Za2 J,Za2 J,AC,Za4 J];simp
theorem yc(B:Nat)(l:List Nat)(x:Nat):y8 B (l++[x])=y8 B l+B ^ l.length * x:=by
 rw[xP];simp[y8]
theorem pK(B:Nat)(l:List Nat)(i:Nat)(h:i < l.length):y8 B (l.drop i)=l.getD i 0+B * y8 B (l.drop (i+1)):=by
 rw[ZaC h,y8,AC,ww h];rfl
theorem IV(B:Nat):∀(l:List Nat) (k v:Nat),k < l.length→y8 B (l.set k v)+B ^ k * l.getD k 0=y8 B l+B ^ k * v
 |[],_,_,h=>by simp at h
 |x::r,0,v,_=>by simp[y8];omega
 |x::r,k+1,v,h=>by
  have ih:=IV B r k v (by simpa using h);simp only[List.set_cons_succ,y8,List.getD_cons_succ,ZaM];have e:B * y8 B (r.set k v)+B * (B ^ k * r.getD k 0)=B * y8 B r+B * (B ^ k * v):=by rw[←ZaN,ih,ZaN]
  rw[ZaW (B ^ k) B,Nat.mul_assoc,Nat.mul_assoc];omega
theorem Small.set{B:Nat}{l:List Nat}{k v:Nat}(h:Small B l)(hv:v < B):Small B (l.set k v):=by
 intro x hx;rcases List.mem_or_eq_of_mem_set hx with hx | rfl
 ·exact h x hx
 ·exact hv
theorem pI{B:Nat}{a b o:List Nat}{i c n:Nat}(ho:o.length=i)
  (h:y8 B o+B ^ i * c=y8 B (a.take i)+y8 B (b.take i)) (hn:n=a.getD i 0+c+b.getD i 0) :
  y8 B (o++[n % B])+B ^ (i+1) * (n / B)=y8 B (a.take (i+1))+y8 B (b.take (i+1)):=by
 rw[uT,uT,yc,ho,ZaM,Nat.mul_assoc,Nat.add_assoc,←ZaN,Nat.mod_add_div,hn];have:B ^ i * (a.getD i 0+c+b.getD i 0)=B ^ i * a.getD i 0+B ^ i * c+B ^ i * b.getD i 0:=by rw[ZaN,ZaN]
 omega
theorem Ib{B:Nat}{a b o:List Nat}{i c d n:Nat}(ho:o.length=i)
  (h:y8 B (a.take i)+B ^ i * c=y8 B o+y8 B (b.take i)) (hn:a.getD i 0+B * d=n+c+b.getD i 0) :
  y8 B (a.take (i+1))+B ^ (i+1) * d=y8 B (o++[n])+y8 B (b.take (i+1)):=by
 rw[uT,uT,yc,ho,ZaM,Nat.mul_assoc];have:B ^ i * (a.getD i 0+B * d)=B ^ i * (n+c+b.getD i 0):=by rw[hn]
 rw[ZaN,ZaN,ZaN]at this;omega
theorem Pw{B:Nat}{o o' b:List Nat}{x i j c n s:Nat}(hk:i+j < o.length)
  (h:y8 B o+B ^ (i+j) * c=s+B ^ i * (x * y8 B (b.take j))) (hn:n=o.getD (i+j) 0+x * b.getD j 0+c) (ho:o'=o.set (i+j) (n % B)) :
  y8 B o'+B ^ (i+(j+1)) * (n / B)=s+B ^ i * (x * y8 B (b.take (j+1))):=by
 have h1:=IV B o (i+j) (n % B) hk;have h2:B ^ (i+(j+1))=B ^ (i+j) * B:=by rw[←Nat.add_assoc,ZaM]
 have h3:B ^ (i+j) * (n % B)+B ^ (i+j) * B * (n / B)=B ^ (i+j) * n:=by rw[Nat.mul_assoc,←ZaN,Nat.mod_add_div]
 have h4:B ^ (i+j) * n=B ^ (i+j) * o.getD (i+j) 0+B ^ (i+j) * (x * b.getD j 0)+B ^ (i+j) * c:=by rw[hn,ZaN,ZaN]
 have h5:B ^ i * (x * (y8 B (b.take j)+B ^ j * b.getD j 0))=B ^ i * (x * y8 B (b.take j))+B ^ (i+j) * (x * b.getD j 0):=by
  rw[Nat.pow_add];grind
 rw[ho,h2,uT,h5];omega
theorem PI{B o x y c:Nat}(hB:2≤B)(ho:o < B)(hx:x < B)(hy:y < B)(hc:c < B):o+x * y+c < B * B:=by
 obtain⟨b,rfl⟩:∃b,B=b+1:=⟨B - 1,J⟩;have h:x * y≤b * b:=Nat.mul_le_mul J J;have:(b+1) * (b+1)=b * b+2 * b+1:=by grind
 omega
theorem Qo{B:Nat}{o b:List Nat}{x i c s:Nat}(hk:i+b.length < o.length)(hz:o.getD (i+b.length) 0=0)
  (h:y8 B o+B ^ (i+b.length) * c=s+B ^ i * (x * y8 B (b.take b.length))) :
  y8 B (o.set (i+b.length) c)=s+B ^ i * (x * y8 B b):=by
 have h1:=IV B o (i+b.length) c hk;rw[hz]at h1;rw[List.take_length]at h;omega
theorem Px{B:Nat}{a b:List Nat}{i s:Nat}(hs:s=y8 B (a.take i) * y8 B b) :
  s+B ^ i * (a.getD i 0 * y8 B b)=y8 B (a.take (i+1)) * y8 B b:=by
 rw[uT,hs];grind
theorem Qp{B b r q A x:Nat}(h:A=q * b+r) :
  x+B * A=((x+B * r) / b+B * q) * b+(x+B * r) % b:=by
 have:=Nat.div_add_mod (x+B * r) b;subst h
 grind
theorem Qq{B b r x:Nat}(hx:x < B)(hr:r < b):(x+B * r) / b < B:=by
 apply Nat.div_lt_of_lt_mul;have:B * (r+1)≤B * b:=Nat.mul_le_mul_left B hr;rw[ZaW b B];rw[ZaN]at this;omega
theorem aS{B a b:Nat}(hB:2≤B)(h:b≤a):(limbs B b).length≤(limbs B a).length:=by
 apply xM hB;have:=jG (B:=B) J (N7 hB a);rw[H8 hB]at this;omega
theorem Cj{B a b:Nat}(hB:2≤B)(h:(limbs B a).length < (limbs B b).length):a < b:=by
 have h1:=aS (B:=B) (a:=a) (b:=b) hB;rcases Za5 a b with h2 | h2
 ·exact h2
 ·have:=h1 h2;omega
theorem Co{B:Nat}{a b:List Nat}{i:Nat}(ha:Small B a)(hB:2≤B)(hla:i < a.length)(hl:a.length=b.length)
  (he:a.drop (i+1)=b.drop (i+1)) (hlt:a.getD i 0 < b.getD i 0):y8 B a < y8 B b:=by
 have e1:y8 B a=y8 B (a.take i)+B ^ i * y8 B (a.drop i):=by
  have:=xP B (a.take i) (a.drop i)
  rwa [List.take_append_drop,Zal,Nat.min_eq_left J]at this
 have e2:y8 B b=y8 B (b.take i)+B ^ i * y8 B (b.drop i):=by
  have:=xP B (b.take i) (b.drop i)
  rwa [List.take_append_drop,Zal,Nat.min_eq_left J]at this
 rw[e1,e2,pK B a i hla,pK B b i J,he];have h1:=jG (B:=B) J (ha.take i);rw[Zal,Nat.min_eq_left J]at h1;have h2:B ^ i * (a.getD i 0+1+B * y8 B (b.drop (i+1)))≤B ^ i * (b.getD i 0+B * y8 B (b.drop (i+1))):=Nat.mul_le_mul_left _ J;rw[ZaN,ZaN]at h2;rw[ZaN];omega
def qp(b:Nat):lw:=List.replicate (9 - (decDigits b).length) 48++decDigits b
theorem a0X(k:Nat):O6 (List.replicate k 48)=0:=by
 induction k with
 |zero=>rfl
 |succ k ih =>
  rw[List.replicate_succ',mY,ih,pQ];simp
theorem a0Y(k:Nat):Q4 (List.replicate k 48)=true:=by
 simp[Q4,aU]
theorem a0P{k u:Nat}(hk:1≤k)(h:u < 10 ^ k):nDigits u≤k:=by
 induction u using Nat.strongRecOn generalizing k with
 |_ u ih =>
  by_cases h10:u < 10
  ·rw[nDigits_small h10];exact hk
  ·rw[nDigits_big h10];obtain⟨m,rfl⟩:∃m,k=m+1:=⟨k - 1,J⟩;rw[ZaM]at h;by_cases hm:m=0
   ·subst hm;simp at h;omega
   ·have:=ih (u / 10) J (k:=m) J J;omega
theorem pF{k u:Nat}(hk:1≤k)(h:u < 10 ^ k):(decDigits u).length≤k:=by
 rw[decDigits_length];exact a0P hk h
theorem a1F{b:Nat}(h:b < 1000000000):(qp b).length=9:=by
 have:=pF (k:=9) (u:=b) J (by simpa using h);simp[qp];omega
theorem a2I(b:Nat):O6 (qp b)=b:=by
 rw[qp,mY,a0X,uR];simp
theorem a2J(b:Nat):Q4 (qp b)=true:=Ia.2 ⟨a0Y _,rF b⟩
theorem a08{a b:Nat}(ha:a≠0)(hb:b < 1000000000):decDigits (b+1000000000 * a)=decDigits a++qp b:=by
 obtain⟨c,r,e,hc⟩:=uS ha;have h:=(Cn (decDigits a++qp b) (Ia.2 ⟨rF a,a2J b⟩) ⟨c,r++qp b,by rw[e];rfl,hc⟩).1;rw[mY,uR,a2I,a1F hb]at h;rw[←h];congr 1;omega
def fP(l:lw):List Nat:=l.reverse.map fun c=>c.toNat - 48
theorem a1j(l:lw):y8 10 (fP l)=O6 l:=by
 induction l using CV with
 |nil=>rfl
 |snoc l c ih =>
  rw[mY,pQ,←ih];simp only[fP,List.reverse_append,List.reverse_singleton,List.singleton_append,Zaq,y8,Zak,Nat.pow_one];omega
theorem a09{l:lw}(h:Q4 l=true):Small 10 (fP l):=by
 intro x hx;simp only[fP,Zaw,List.mem_reverse]at hx;obtain⟨c,hc,rfl⟩:=hx;have:=Zag.1 h c hc;simp only[aU,Ce,rE]at this;omega
theorem OW{l:lw}(h:Q4 l=true)(hh:∃c r,l=c::r∧c.toNat≠48):fP l=limbs 10 (O6 l):=by
 rw[←a1j l];refine Hu J _ (a09 h) fun hne=>?_
 obtain⟨c,r,rfl,hc⟩:=hh;have hd:=Zag.1 h c I;simp only[aU,Ce,rE]at hd;simp[fP];omega
theorem a0O{n:Nat}(hn:n≠0):(limbs 10 n).reverse.map (fun d=>UInt8.ofNat (48+d))=decDigits n:=by
 induction n using Nat.strongRecOn with
 |_ n ih =>
  rw[uX J hn,List.reverse_cons,Zam];by_cases h:n < 10
  ·rw[xN h,Nat.div_eq_of_lt h,rJ,Nat.mod_eq_of_lt h];rfl
  ·rw[xO h,ih (n / 10) J J];rfl
theorem a1k{B:Nat}{D d e:lw}{x:List Nat}(h:O6 D=y8 B x+B ^ x.length * O6 (d++e))(he:10 ^ e.length=B∨d=[]) :
  O6 D=y8 B (x++[O6 e])+B ^ (x.length+1) * O6 d:=by
 rw[yc,h,mY,ZaM];rcases he with he | rfl
 ·rw[he,ZaN,ZaW (O6 d) B,←Nat.mul_assoc];omega
 ·simp[QY]
theorem jA(s:lw):(mag s).length≤s.length:=by
 cases s with
 |nil=>simp[mag]
 |cons c r=>simp only[mag];split <;> simp
theorem Hg:∀(l:lw) (M acc:Nat),Q4 l=true→acc * 10 ^ l.length+O6 l≤M→M < 18446744073709551616→parseUintM M acc l=.ok (acc * 10 ^ l.length+O6 l)
 |[],M,acc,_,_,_=>by simp[parseUintM,O6]
 |c::r,M,acc,h,hM,hlt=>by
  have hc:aU c=true:=by simp[Q4]at h;exact h.1
  have hr:Q4 r=true:=by simp[Q4]at h ⊢;exact h.2
  simp only[aU,Ce,rE]at hc;have e:O6 (c::r)=(c.toNat - 48) * 10 ^ r.length+O6 r:=by
   have:=mY [c] r
   rwa [pQ]at this
  have e2:acc * 10 ^ (c::r).length+O6 (c::r)=(acc * 10+(c.toNat - 48)) * 10 ^ r.length+O6 r:=by
   rw[e,yM,ZaM];grind
  have hp:1≤10 ^ r.length:=Nat.one_le_pow _ _ J;have hle:acc * 10+(c.toNat - 48)≤M:=by
   have:(acc * 10+(c.toNat - 48)) * 1≤(acc * 10+(c.toNat - 48)) * 10 ^ r.length:=Nat.mul_le_mul_left _ hp;omega
  rw[parseUintM,Ch hc,EQ J,EQ J,Hg r M _ hr J hlt,e2]
theorem a1G{l:lw}(h:Q4 l=true)(h0:l≠[])(h9:l.length≤9):parseUintB 32 l=.ok (O6 l):=by
 have h1:=yN l h;have h2:10 ^ l.length≤10 ^ 9:=Zar J h9;rw[parseUintB,EQ h0,Hg l _ 0 h (by simp;omega) O];simp
theorem a0Z{s:lw}(h:O5 s=true)(h18:s.length≤18):parseIntB 64 s=.ok (x9 s):=by
 by_cases h0:s=[48]
 ·subst h0;decide
 ·obtain⟨hd,hh⟩:=(mZ h0).1 h;have hne:mag s≠[]:=by obtain⟨c,r,e,_⟩:=hh;rw[e];simp
  have hl:(mag s).length≤18:=pu (jA s) h18;have h1:=yN _ hd;have h2:10 ^ (mag s).length≤10 ^ 18:=Zar J hl;have hp:parseUintB 64 (mag s)=.ok (O6 (mag s)):=by
   rw[parseUintB,EQ hne,Hg _ _ 0 hd (by simp;omega) O];simp
  have hv:x9 s=if neg s then -(O6 (mag s):Int) else O6 (mag s):=by unfold x9;rw[Ch h]
  cases s with
  |nil=>simp[mag]at hne
  |cons c r =>
   have e45:(c.toNat=45)↔c=45:=⟨fun e=>UInt8.toNat_inj.1 (by simpa using e),fun e=>by subst e;rfl⟩;by_cases hc:c=45
   ·subst hc;rw[rM]at hp h1 h2;rw[hv];simp only[parseIntB,PH,rM];rw[Ch (Or.inr O),hp];simp only[ZaG];rw[EQ (by intro h;exact h.1 O),EQ (by intro h;have:=h.2;omega),Ch O]
   ·have eU:neg (c::r)=false:=by simp[neg,hc]
    have hm:=uY eU;rw[hm]at hp h1 h2 hd;have b9h:c.toNat≠43:=by
     intro e;have:=Zag.1 hd c I;simp[aU,e]at this
    have Ye:c.toNat≠45:=fun e=>hc (e45.1 e)
    rw[hv,eU,hm];simp only[parseIntB];rw[EQ J,hp];simp only[ZaL,Zav];rw[EQ (by intro h;have:=h.2;omega),EQ (by intro h;exact Ye h.1),EQ Ye]
end Go.Proofs.YtbpmpdadppamgaaGreatDoor.j6
namespace Go.Proofs.YtbpmpdadppamgaaGreatDoor
open Tryz
open Go.RowKit
structure Sl (w:World) (k:IntKind) (A:Option Addr) (n c:Nat) (l:List Nat):Prop where
 len:l.length=n
 cap:n≤c
 cells:0 < n→∃b o,A=some ⟨b,o,none⟩∧b < w.heap.size∧∀i,i < n→w.cell? ⟨b,o+i,none⟩=some (.int k (l.getD i 0:Nat))
section
variable {w w':World} {k:IntKind} {A:Option Addr} {n c:Nat} {l:List Nat}
theorem Sl.nil(w:World)(k:IntKind)(A:Option Addr)(c:Nat):Sl w k A 0 c []:=⟨rfl,Ci _,fun h=>absurd h J⟩
theorem Sl.below(h:Sl w k A n c l)(hb:Below w.heap.size w w'):Sl w' k A n c l :=
 ⟨h.len,h.cap,fun hn=>by
  obtain⟨b,o,e,hlt,hc⟩:=h.cells hn;exact⟨b,o,e,kw hlt hb.size,fun i hi=>(hb.cell (p:=⟨b,o+i,none⟩) hlt).trans (hc i hi)⟩⟩
theorem Sl.take(h:Sl w k A n c l){m:Nat}(hm:m≤n):Sl w k A m c (l.take m) :=
 ⟨by rw[Zal,h.len];omega,pu hm h.cap,fun h0=>by
  obtain⟨b,o,e,hlt,hc⟩:=h.cells J;refine⟨b,o,e,hlt,fun i hi=>?_⟩;rw[hc i J,AC,AC,List.getElem?_take_of_lt hi]⟩
theorem Sl.drew(h:Sl w k A n c l)(m:Nat):Sl (w.drewN m) k A n c l:=⟨h.len,h.cap,h.cells⟩
end
theorem below_drewN{B:Nat}{a w:World}(h:Below B a w)(n:Nat):Below B a (w.drewN n):=⟨h.os,h.tape,h.output,h.size,h.block⟩
theorem a3G(w:World)(a b:Nat):∃k,(w.drewN a).drewN b=w.drewN k:=⟨a+b,by rw[World.drewN_drewN]⟩
theorem IW(w:World)(a b c:Nat):∃k,((w.drewN a).drewN b).drewN c=w.drewN k:=⟨a+b+c,by rw[World.drewN_drewN,World.drewN_drewN,Nat.add_assoc]⟩
def dV(k:IntKind)(l:List Nat)(w:World)(e:Ending)(w':World):Prop:=∃A n c,e=.returned (.slice A n c)∧Sl w' k A n c l∧Below w.heap.size w w'∧∀b o,A=some ⟨b,o,none⟩→w.heap.size≤b
theorem PK(l:List Nat):l.take (j6.U3 l).length=j6.U3 l:=by
 induction l using j6.CV with
 |nil=>rfl
 |snoc l c ih =>
  by_cases hc:c=0
  ·subst hc;rw[j6.Hf,List.take_append_of_le_length,ih];have:=congrArg List.length ih;rw[Zal]at this;omega
  ·rw[j6.Ij hc,List.take_length]
theorem uP(l:List Nat):(j6.U3 l).length≤l.length:=by
 have:=congrArg List.length (PK l);rw[Zal]at this;omega
theorem PL{l:List Nat}{m:Nat}(h0:0 < m)(hm:m≤l.length)(hz:l.getD (m - 1) 0=0):j6.U3 (l.take (m - 1))=j6.U3 (l.take m):=by
 obtain⟨k,rfl⟩:∃k,m=k+1:=⟨m - 1,J⟩;rw[Zb1]at hz ⊢
 rw[List.take_succ_eq_append_getElem J];rw[AC,ww J]at hz;simp only[ZaP]at hz;rw[hz,j6.Hf]
theorem PM{l:List Nat}{m:Nat}(h0:0 < m)(hm:m≤l.length)(hz:l.getD (m - 1) 0≠0):j6.U3 (l.take m)=l.take m:=by
 obtain⟨k,rfl⟩:∃k,m=k+1:=⟨m - 1,J⟩;rw[Zb1]at hz;rw[List.take_succ_eq_append_getElem J];rw[AC,ww J]at hz;exact j6.Ij hz _
def sliceLen:Value→Nat
 |.slice _ m _=>m
 |_=>0
theorem pR(A:Option Addr)(n c:Nat)(l:List Nat)(w:World)(h:Sl w .u32 A n c l)(hn:n≤1000000000) :
  Calls prog 278 #[.slice A n c] w fun e w'=>e=.returned (.slice A (j6.U3 l).length c)∧w=w':=by
 have hlen:=h.len;have hcap:=h.cap
 go_enter func278,ntmps278
 go_wp2
 go_loop [0] (fun v=>∃m:Nat,v=.slice A m c∧m≤n∧j6.U3 (l.take m)=j6.U3 l) (fun v=>sliceLen v)
 case atStart=>exact⟨n,rfl,PP _,by rw[Za2 J]⟩
 case round =>
  obtain⟨m,rfl,hm,ht⟩:=hrel;have HT:=WP ht;clear ht;by_cases h0:0 < m
  ·obtain⟨b,o,rfl,hb,hc⟩:=h.cells J;have hcm:=hc (m - 1) J;clear hc;go_wp2
   ·have hz:l.getD (m - 1) 0=0:=by simpa using ‹((l[m - 1]?.getD 0:Nat) == (0:Int))=true›
    exact⟨⟨m - 1,rfl,J,by rw[PL h0 J hz];exact HT.out⟩,by simp only[sliceLen];omega⟩
   ·have hz:l.getD (m - 1) 0≠0:=by simpa using ‹((l[m - 1]?.getD 0:Nat) == (0:Int))=false›
    go_ret;refine⟨?_,rfl⟩;have e:(j6.U3 l).length=m:=by
     rw[←HT.out,PM h0 J hz,Zal];omega
    rw[e];rfl
  ·go_wp2;go_ret;refine⟨?_,rfl⟩;have e:(j6.U3 l).length=m:=by
    rw[←HT.out,show m=0 by omega];rfl
   rw[e];rfl
theorem Sl.trimmed{w:World}{k:IntKind}{A:Option Addr}{n c:Nat}{l:List Nat}(h:Sl w k A n c l){B:Nat}(hB:2≤B)(hs:j6.Small B l) :
  Sl w k A (j6.U3 l).length c (j6.limbs B (j6.y8 B l)):=by
 have h1:=h.take (m:=(j6.U3 l).length) (by rw[←h.len];exact uP l);rw[PK]at h1;rw[←j6.a1E hB l hs];exact h1
def dJ(a b:Nat):Int:=if a < b then -1 else if b < a then 1 else 0
theorem lK{a b:Nat}(h:a < b):dJ a b=-1:=by simp[dJ,h]
theorem lL{a b:Nat}(h:b < a):dJ a b=1:=by simp[dJ,h];omega
theorem qa(a:Nat):dJ a a=0:=by simp[dJ]
theorem drop_pred{x y:List Nat}{k:Nat}(h0:0 < k)(hk:k≤x.length)(hl:x.length=y.length)(hd:x.drop k=y.drop k)(he:x.getD (k - 1) 0=y.getD (k - 1) 0) :
  x.drop (k - 1)=y.drop (k - 1):=by
 obtain⟨m,rfl⟩:∃m,k=m+1:=⟨k - 1,J⟩;rw[Zb1]at he ⊢
 rw[ZaC (l:=x) (i:=m) J,ZaC (l:=y) (i:=m) J,hd];rw[AC,AC,ww J,ww J]at he;simp only[ZaP]at he;rw[he]
def qD(a b:Nat)(w:World)(e:Ending)(w':World):Prop:=e=.returned (.int .i64 (dJ a b))∧∃q,w'=w.drewN q
theorem a1l(B:Nat)(hB:2≤B)(A A':Option Addr)(n c c':Nat)(x y:List Nat)(w:World)(hx:Sl w .u32 A n c x)(hy:Sl w .u32 A' n c' y)(hn:n≤1000000000)
  (hsx:j6.Small B x) (hsy:j6.Small B y) :
  Calls prog 275 #[.slice A n c,.slice A' n c'] w (qD (j6.y8 B x) (j6.y8 B y) w):=by
 have hlx:=hx.len;have iD:=hy.len;have HX:=WP hlx;have HY:=WP iD;clear hlx iD
 go_enter func275,ntmps275
 go_wp2
 go_loopw [5] (fun i wr=>∃k q:Nat,k≤n∧i=.int .i64 ((k:Int) - 1)∧Hid (x.drop k=y.drop k)∧wr=w.drewN q) (fun i _=>(intOf i+1).toNat)
 case atStart=>exact⟨n,0,PP _,rfl,(by rw[Zah (by rw[HX.out];exact PP _),Zah (by rw[HY.out];exact PP _)]:x.drop n=y.drop n),rfl⟩
 case round =>
  obtain⟨k,q,hk,rfl,HD,rfl⟩:=hrel;by_cases h0:0 < k
  ·obtain⟨b,o,rfl,hb,hc⟩:=hx.cells J;obtain⟨b',o',rfl,hb',hc'⟩:=hy.cells J;have hcm:=hc (k - 1) J;have hcm':=hc' (k - 1) J;clear hc hc' hb hb';have hi1:(0:Int)≤(k:Int) - 1:=J;have hi2:(k:Int) - 1 < n:=J;have hi3:((k:Int) - 1).toNat=k - 1:=J;generalize hu:x.getD (k - 1) 0=u at hcm;generalize hv:y.getD (k - 1) 0=v at hcm';have HU:=WP hu;have HV:=WP hv;clear hu hv;rcases Nat.lt_trichotomy u v with hlt | heq | hgt
   ·have e1:((u:Int) != v)=true:=by rw[bne_iff_ne];omega
    have e2:decide ((u:Int) < v)=true:=by simp;omega
    go_wp2
    go_quiet (fail)
    go_wp2
    go_quiet (fail)
    go_wp2;go_ret;refine⟨?_,IW _ _ _ _⟩;rw[lK (j6.Co (i:=k - 1) hsx hB (by rw[HX.out];omega) (by rw[HX.out,HY.out]) (by rw[Nat.sub_add_cancel h0];exact HD.out) (by rw[HU.out,HV.out];exact hlt))];rfl
   ·have e1:((u:Int) != v)=false:=by rw[bne_eq_false_iff_eq];omega
    go_wp2
    go_quiet (fail)
    go_wp2
    go_roundw
    case rel=>exact⟨k - 1,_,J,by go_num,drop_pred h0 (by rw[HX.out];exact hk) (by rw[HX.out,HY.out]) HD.out (by rw[HU.out,HV.out,heq]),rfl⟩
    case measure=>simp only[intOf];omega
   ·have e1:((u:Int) != v)=true:=by rw[bne_iff_ne];omega
    have e2:decide ((u:Int) < v)=false:=by simp;omega
    go_wp2
    go_quiet (fail)
    go_wp2
    go_quiet (fail)
    go_wp2;go_ret;refine⟨?_,IW _ _ _ _⟩;rw[lL (j6.Co (i:=k - 1) hsy hB (by rw[HY.out];omega) (by rw[HX.out,HY.out]) (by rw[Nat.sub_add_cancel h0];exact HD.out.symm) (by rw[HU.out,HV.out];exact hgt))];rfl
  ·have hk0:k=0:=J;subst hk0;go_wp2;go_ret;refine⟨?_,_,rfl⟩;have e:x=y:=by simpa using HD.out
   rw[e,qa];rfl
theorem uV(B:Nat)(hB:2≤B)(A A':Option Addr)(n n' c c' a b:Nat)(w:World)(hx:Sl w .u32 A n c (j6.limbs B a))(hy:Sl w .u32 A' n' c' (j6.limbs B b))(hn:n≤1000000000)(hn':n'≤1000000000) :
  Calls prog 275 #[.slice A n c,.slice A' n' c'] w (qD a b w):=by
 rcases Nat.lt_trichotomy n n' with hlt | heq | hgt
 ·have e1:((n:Int) != n')=true:=by rw[bne_iff_ne];omega
  have hv:a < b:=j6.Cj hB (by rw[hx.len,hy.len];exact hlt);have HV:=WP (lK hv);clear hv hx hy
  go_enter func275,ntmps275
  go_wp2;go_ret;refine⟨?_,0,rfl⟩;rw[HV.out];rfl
 ·subst heq;have:=a1l B hB A A' n c c' _ _ w hx hy hn (j6.N7 hB a) (j6.N7 hB b)
  rwa [j6.H8 hB,j6.H8 hB]at this
 ·have e1:((n:Int) != n')=true:=by rw[bne_iff_ne];omega
  have e2:decide (n < n')=false:=by simp;omega
  have hv:b < a:=j6.Cj hB (by rw[hx.len,hy.len];exact hgt);have HV:=WP (lL hv);clear hv hx hy
  go_enter func275,ntmps275
  go_wp2;go_ret;refine⟨?_,0,rfl⟩;rw[HV.out];rfl
structure Own (w:World) (base:Nat) (E:TypeId) (k:IntKind) (A:Option Addr) (n c:Nat) (l:List Nat):Prop where
 own:w.ownsRow base E 1 (.slice A n c) n (l.map fun x=>Value.int k (x:Nat))
section
variable {w w':World} {base:Nat} {E:TypeId} {k:IntKind} {A:Option Addr} {n c:Nat} {l:List Nat}
theorem Own.len(h:Own w base E k A n c l):l.length=n:=by have:=h.own.1;simpa using this
theorem Own.nil(w:World)(base:Nat)(E:TypeId)(k:IntKind):Own w base E k none 0 0 []:=⟨World.ownsRow_nil w base E 1⟩
theorem Own.sl(h:Own w base E k A n c l):Sl w k A n c l:=by
 have hlen:=h.len;rcases h.own.2 with⟨hv,hn⟩ | ⟨g,cap,cur,hv,hbg,hg,hnc,hcm,hcs,ht⟩
 ·refine⟨hlen,J,fun h0=>J⟩
 ·simp only[Za6]at hv;obtain⟨rfl,_,rfl⟩:=hv;refine⟨hlen,hnc,fun _=>⟨g,0,rfl,?_,fun i hi=>?_⟩⟩
  ·rcases Za5 g w.heap.size with hlt | hge
   ·exact hlt
   ·rw[Zax hge]at hg;cases hg
  ·have e:cur[i]?=some (Value.int k (l.getD i 0:Nat)):=by
    have h1:(cur.toList.take (n * 1))[i]?=(l.map fun x=>Value.int k (x:Nat))[i]?:=by rw[ht]
    rw[List.getElem?_take_of_lt J,bi,ww (l:=l) J]at h1;rw[AC,ww J];simpa using h1
   rw[Zau];simp[World.cell?,hg,e]
theorem Own.at_(h:Own w base E k A n c l)(hn:0 < n):∃g,A=some ⟨g,0,none⟩∧base≤g∧g < w.heap.size∧(∀i,w.frozen? ⟨g,i,none⟩=false)∧∀i,i < n→w.cell? ⟨g,i,none⟩=some (.int k (l.getD i 0:Nat)):=by
 obtain⟨b,o,e,hb,hc⟩:=h.sl.cells hn;rcases h.own.2 with⟨hv,hn'⟩ | ⟨g,cap,cur,hv,hbg,hg,_⟩
 ·omega
 ·simp only[Za6]at hv;obtain⟨rfl,_,rfl⟩:=hv;injection e with e
  injection e with e1 e2
  subst e1 e2;exact⟨g,rfl,hbg,hb,fun i=>by simp[World.frozen?,hg],fun i hi=>by have:=hc i hi;rwa [Zau]at this⟩
theorem Own.keep(h:Own w base E k A n c l)(hk:∀g,A=some ⟨g,0,none⟩→w'.heap[g]?=w.heap[g]?):Own w' base E k A n c l:=by
 refine⟨h.own.1,?_⟩;rcases h.own.2 with hv | ⟨g,cap,cur,hv,hbg,hg,hr⟩
 ·exact .inl hv
 ·refine .inr ⟨g,cap,cur,hv,hbg,?_,hr⟩;simp only[Za6]at hv;rw[hk g hv.1];exact hg
theorem Own.lt(h:Own w base E k A n c l){g:Nat}(e:A=some ⟨g,0,none⟩):base≤g∧g < w.heap.size:=by
 rcases h.own.2 with⟨hv,_⟩ | ⟨g',cap,cur,hv,hbg,hg,_⟩
 ·simp only[Za6]at hv;rw[e]at hv;cases hv.1
 ·simp only[Za6]at hv;obtain⟨rfl,_,rfl⟩:=hv;injection e with e
  injection e with e1
  subst e1;refine⟨hbg,?_⟩;rcases Za5 g' w.heap.size with hlt | hge
  ·exact hlt
  ·rw[Zax hge]at hg;cases hg
theorem Own.below(h:Own w base E k A n c l)(hb:Below w.heap.size w w'):Own w' base E k A n c l :=
 h.keep fun g e=>hb.block g (h.lt e).2
theorem Own.alloc(h:Own w base E k A n c l)(o:Obj):Own (w.alloc o) base E k A n c l :=
 h.keep fun g e=>Below.heap_alloc w o g (h.lt e).2
theorem Own.drewN(h:Own w base E k A n c l)(m:Nat):Own (w.drewN m) base E k A n c l:=h.keep fun _ _=>rfl
theorem Own.set{g i y:Nat}(h:Own w base E k (some ⟨g,0,none⟩) n c l):Own (w.setCell ⟨g,i,none⟩ (.int k (y:Nat))) base E k (some ⟨g,0,none⟩) n c (l.set i y):=by
 have hlen:=h.len;refine⟨by simp[hlen],?_⟩;rcases h.own.2 with⟨hv,_⟩ | ⟨g',cap,cur,hv,hbg,hg,hnc,hcm,hcs,ht⟩
 ·simp only[Za6]at hv;cases hv.1
 ·simp only[Za6]at hv;obtain⟨e,_,rfl⟩:=hv;injection e with e
  injection e with e1
  subst e1;refine .inr ⟨g,c,cur.setIfInBounds i (.int k (y:Nat)),rfl,hbg,?_,hnc,hcm,by simpa using hcs,?_⟩
  ·simp[World.setCell,Array.getElem?_modify,hg]
  ·rw[Array.toList_setIfInBounds,List.take_set,ht,List.map_set]
end
theorem Own.cellAt{w:World}{base:Nat}{E:TypeId}{k:IntKind}{g n c i:Nat}{l:List Nat}(h:Own w base E k (some ⟨g,0,none⟩) n c l)(hi:i < n) :
  w.cell? ⟨g,i,none⟩=some (.int k (l.getD i 0:Nat))∧w.frozen? ⟨g,i,none⟩=false∧base≤g∧g < w.heap.size:=by
 obtain⟨g',e,h1,h2,h3,h4⟩:=h.at_ J;injection e with e
 injection e with e1
 subst e1;exact⟨h4 i hi,h3 i,h1,h2⟩
theorem Own.setInt{w:World}{base:Nat}{E:TypeId}{k:IntKind}{g n c i y:Nat}{l l':List Nat}{d:Int}(h:Own w base E k (some ⟨g,0,none⟩) n c l)(hd:d=(y:Int))(hl:l.set i y=l') :
  Own (w.setCell ⟨g,i,none⟩ (.int k d)) base E k (some ⟨g,0,none⟩) n c l':=by
 subst hd hl;exact h.set
theorem Own.fresh{w:World}{base:Nat}{E:TypeId}{k:IntKind}{A:Option Addr}{n c:Nat}{l:List Nat}(h:Own w base E k A n c l):∀b o,A=some ⟨b,o,none⟩→base≤b:=by
 rintro b o rfl;rcases h.own.2 with⟨hv,_⟩ | ⟨g,cap,cur,hv,hbg,_⟩
 ·simp only[Za6]at hv;cases hv.1
 ·simp only[Za6]at hv;obtain⟨e,_⟩:=hv;injection e with e
  injection e with e1
  subst e1;exact hbg
theorem Cq(o:List Nat)(n k y:Nat)(hk:k < n)(ho:o.length=k):(o++List.replicate (n - k) 0).set k y=(o++[y])++List.replicate (n - (k+1)) 0:=by
 subst ho;rw[List.set_append_right _ _ (PP _),Zb5,show n - o.length=(n - (o.length+1))+1 by omega,List.replicate_succ]
 simp
theorem dD{P:Program}{w0 W:World}{ops:Array Oper}{rest:List Oper}{o:Oper}{a:Act}{Q:Exit→Act→World→Prop}(hgd:o.guard=none)(s x:Operand)(t:TypeId)
  (ho:o.op=.call { callee:=.builtin .append,args:=#[s,x],argTypes:=#[t,t] })
  (E:TypeId) (k:IntKind) (bytes:Nat) (ht:P.underlying t=some (.slice E)) (hinfo:(P.info? E).map (fun i=>(i.zero,i.size,i.bytes))=some (some (.int k 0),1,bytes)) (hbytes:bytes≤8)
  (A:Option Addr) (n c:Nat) (l:List Nat) (hs:a.eval s=.slice A n c) (hown:Own W w0.heap.size E k A n c l)
  (d:Int) (y:Nat) (hd:d=(y:Int)) (hx:a.eval x=.slice (some ⟨W.heap.size,0,none⟩) 1 1) (hn:n≤1000000000000) (hB:Below w0.heap.size w0 W)
  (h:∀A' c' w',Own w' w0.heap.size E k A' (n+1) c' (l++[y])→Below w0.heap.size w0 w'→(∀g,g < W.heap.size→A≠some ⟨g,0,none⟩→w'.heap[g]?=W.heap[g]?)→W.heap.size≤w'.heap.size→(A'=A∨A'=some ⟨W.heap.size+1,0,none⟩) →
   wpList P ops Q rest (a.put o.dst (.slice A' (n+1) c')) w') :
  wpList P ops Q (o::rest) a (W.alloc (.cells #[.int k d] E)):=by
 subst hd;obtain⟨i0,hi0,hz0,hz1,hz2⟩:=info_parts hinfo;refine wpList_append_own_at (P:=P) _ hgd s x t ho w0.heap.size E i0 (.int k 0) 1 bytes ht hi0 hz0 hz1 hz2 rfl J _ n _ hs (hown.alloc _).own ⟨W.heap.size,0,none⟩ 1 1 [.int k (y:Int)] hx rfl
  (cell_one_new _ _ _) (by simp[Value.oneCell']) (by unfold maxLen;omega) (by
   have:(n+1) * bytes≤1000000000001 * 8:=Nat.mul_le_mul J hbytes;omega) (by have:=hB.size;simp;omega) ?_
 intro v' w' hown' hg _ hat;have hlt:∀g,A=some ⟨g,0,none⟩→w0.heap.size≤g:=fun g e=>(hown.lt e).1
 have hown2:w'.ownsRow w0.heap.size E 1 v' (n+1) ((l++[y]).map fun x=>Value.int k (x:Nat)):=by simpa using hown'
 obtain⟨A',c',rfl⟩:∃A' c',v'=.slice A' (n+1) c':=by
  rcases hown'.2 with⟨_,h0⟩ | ⟨g,cap,cur,rfl,_⟩
  ·omega
  ·exact⟨_,_,rfl⟩
 have hAn:A=none∨∃g,A=some ⟨g,0,none⟩:=by
  rcases hown.own.2 with⟨hv,_⟩ | ⟨g,cap,cur,hv,_⟩
  ·simp only[Za6]at hv;exact .inl hv.1
  ·simp only[Za6]at hv;exact .inr ⟨g,hv.1⟩
 have hblk:∀g,g < W.heap.size→A≠some ⟨g,0,none⟩→w'.heap[g]?=W.heap[g]?:=fun g hgl hne =>
  (hg.block g (by simp;omega) (fun e=>by
   rcases hAn with rfl | ⟨g',rfl⟩
   ·simp[Value.ownBlock]at e
   ·simp[Value.ownBlock]at e;subst e;exact hne rfl)).trans (Below.heap_alloc W _ g hgl)
 have hsz:W.heap.size≤w'.heap.size:=by have:=hg.size;simp at this;omega
 refine h A' c' w' ⟨hown2⟩ ⟨hg.os.trans hB.os,hg.tape.trans hB.tape,hg.output.trans hB.output,pu hB.size hsz,fun i hi=>?_⟩ hblk hsz ?_
 ·exact (hblk i (kw hi hB.size) (fun e=>by have:=hlt i e;omega)).trans (hB.block i hi)
 ·rcases hown'.2 with⟨_,h0⟩ | ⟨g,cap,cur,hv,_⟩
  ·omega
  ·simp only[Za6]at hv;obtain⟨rfl,_,rfl⟩:=hv;rcases hat with e | e
   ·rcases hAn with rfl | ⟨g',rfl⟩
    ·simp[Value.ownBlock]at e
    ·simp[Value.ownBlock]at e;subst e;exact .inl rfl
   ·simp[Value.ownBlock]at e;subst e;exact .inr rfl
theorem a3H(k:IntKind)(n:Nat):(madeCells (Value.int k 0).cells (n * 1)).toList=(List.replicate n 0).map fun x=>Value.int k (x:Nat):=by
 simp only[madeCells,Value.cells,Nat.mul_one];apply List.ext_getElem
 ·simp
 ·intro i h1 h2;simp[Nat.mod_one]
theorem yf{P:Program}{w0 W:World}{ops:Array Oper}{rest:List Oper}{o:Oper}{a:Act}{Q:Exit→Act→World→Prop}(hgd:o.guard=none)(s x:Operand)(t:TypeId)(ho:o.op=Op.makeSlice t s x)
  (E:TypeId) (k:IntKind) (bytes:Nat) (ht:P.underlying t=some (.slice E)) (hinfo:(P.info? E).map (fun i=>(i.zero,i.size,i.bytes))=some (some (.int k 0),1,bytes)) (hbytes:bytes≤8)
  (kl kc:IntKind) (L C:Int) (n:Nat) (hs:a.eval s=.int kl L) (hx:a.eval x=.int kc C) (hL:L=(n:Int)) (hC:C=(n:Int)) (hn:n≤1000000000000) (hB:Below w0.heap.size w0 W)
  (h:∀w',Own w' w0.heap.size E k (some ⟨W.heap.size,0,none⟩) n n (List.replicate n 0)→Below w0.heap.size w0 w'→Below W.heap.size W w'→W.heap.size < w'.heap.size→wpList P ops Q rest (a.put o.dst (.slice (some ⟨W.heap.size,0,none⟩) n n)) w') :
  wpList P ops Q (o::rest) a W:=by
 obtain⟨i0,hi0,hz0,hz1,hz2⟩:=info_parts hinfo;refine wpList_make_full (P:=P) W hgd s x t ho w0.heap.size E i0 (.int k 0) 1 ht hi0 hz0 hz1 kl kc L C n hs hx hL hC (by
  rw[hz2];have:bytes * n≤8 * 1000000000000:=Nat.mul_le_mul hbytes hn;omega) (by unfold maxLen;omega) hB.size ?_
 intro w' hown hg;rw[a3H]at hown;have hb:Below W.heap.size W w':=⟨hg.os,hg.tape,hg.output,hg.size,fun i hi=>hg.block i hi I⟩;have hown':Own w' w0.heap.size E k (some ⟨W.heap.size,0,none⟩) n n (List.replicate n 0):=⟨hown⟩;exact h w' hown' (hB.trans (hb.mono hB.size)) hb (hown'.lt rfl).2
theorem PN{P:Program}{w0 W:World}{ops:Array Oper}{rest:List Oper}{o:Oper}{a:Act}{Q:Exit→Act→World→Prop}(hgd:o.guard=none)(s x:Operand)(t:TypeId)(ho:o.op=Op.makeSlice t s x)
  (E:TypeId) (k:IntKind) (bytes:Nat) (ht:P.underlying t=some (.slice E)) (hinfo:(P.info? E).map (fun i=>(i.zero,i.size,i.bytes))=some (some (.int k 0),1,bytes)) (hbytes:bytes≤8)
  (kl kc:IntKind) (C:Int) (n:Nat) (hs:a.eval s=.int kl 0) (hx:a.eval x=.int kc C) (hC:C=(n:Int)) (hn:n≤1000000000000) (hB:Below w0.heap.size w0 W)
  (h:∀w',Own w' w0.heap.size E k (some ⟨W.heap.size,0,none⟩) 0 n []→Below w0.heap.size w0 w'→Below W.heap.size W w'→W.heap.size < w'.heap.size→wpList P ops Q rest (a.put o.dst (.slice (some ⟨W.heap.size,0,none⟩) 0 n)) w') :
  wpList P ops Q (o::rest) a W:=by
 obtain⟨i0,hi0,hz0,hz1,hz2⟩:=info_parts hinfo;refine wpList_make_own (P:=P) W hgd s x t ho w0.heap.size E i0 (.int k 0) 1 ht hi0 hz0 hz1 kl kc C n hs hx hC (by
  rw[hz2];have:bytes * n≤8 * 1000000000000:=Nat.mul_le_mul hbytes hn;omega) (by unfold maxLen;omega) hB.size ?_
 intro w' hown hg;have hb:Below W.heap.size W w':=⟨hg.os,hg.tape,hg.output,hg.size,fun i hi=>hg.block i hi I⟩;have hown':Own w' w0.heap.size E k (some ⟨W.heap.size,0,none⟩) 0 n []:=⟨hown⟩;exact h w' hown' (hB.trans (hb.mono hB.size)) hb (hown'.lt rfl).2
theorem iQ:(prog.info? 267).map (fun i=>(i.zero,i.size,i.bytes))=some (some (.int .u32 0),1,4):=by kernel_rfl
theorem getD_lt{B:Nat}{l:List Nat}(hs:j6.Small B l)(hB:1≤B)(k:Nat):l.getD k 0 < B:=hs.getD hB k
theorem a6A(A A':Option Addr)(n n' c c':Nat)(x y:List Nat)(w:World)(hx:Sl w .u32 A n c x)(hy:Sl w .u32 A' n' c' y)(hn:n≤100000000)(hn':n'≤100000000)
  (hsx:j6.Small 1000000000 x) (hsy:j6.Small 1000000000 y) (hlt:¬n < n') :
  Calls prog 265 #[.slice A n c,.slice A' n' c'] w (dV .u32 (j6.limbs 1000000000 (j6.y8 1000000000 x+j6.y8 1000000000 y)) w):=by
 go_enter func265,ntmps265
 go_wp2_with (at_make;refine PN (w0:=w) rfl _ _ _ rfl 267 .u32 4 Tryz.underlying276 iQ J _ _ _ (n+1) rfl rfl J J (Below.refl _ _) ?_;intro w1 hown1 hb1 _ _)
 go_loopw [5,6,22] (fun out cr ix wr=>∃(k:Nat) (A2:Option Addr) (c2:Nat) (o:List Nat) (cy:Nat),k≤n∧ix=.int .i64 k∧out=.slice A2 k c2∧cr=.int .u32 cy∧cy≤1∧Own wr w.heap.size 267 .u32 A2 k c2 o∧j6.Small 1000000000 o∧Hid (j6.y8 1000000000 o+1000000000 ^ k * cy=j6.y8 1000000000 (x.take k)+j6.y8 1000000000 (y.take k))∧Below w.heap.size w wr) (fun _ _ ix _=>n - (intOf ix).toNat)
 case atStart=>exact⟨0,_,_,[],0,Ci _,rfl,rfl,rfl,J,hown1,j6.Small.nil,(by simp[j6.y8]:j6.y8 1000000000 []+1000000000 ^ 0 * 0=j6.y8 1000000000 (x.take 0)+j6.y8 1000000000 (y.take 0)),hb1⟩
 case round =>
  obtain⟨k,A2,c2,o,cy,hk,rfl,rfl,rfl,hcy,hown,hso,HV,hb⟩:=hrel;have HO:=WP hown.len;by_cases hkn:k < n
  ·obtain⟨b,off,rfl,_,hcx⟩:=(hx.below hb).cells J;have aC:=hcx k hkn;clear hcx;have hu:=getD_lt (l:=x) hsx J k;by_cases iE:k < n'
   ·obtain⟨b',off',rfl,_,bX⟩:=(hy.below hb).cells J;have hcv:=bX k iE;clear bX;have hv:=getD_lt (l:=y) hsy J k;have HR:=WP (j6.pI (a:=x) (b:=y) HO.out HV.out rfl);generalize x.getD k 0=u at aC hu HR;generalize y.getD k 0=v at hcv hv HR
    go_wp2_with (at_builtin;refine dD (w0:=w) rfl _ _ _ rfl 267 .u32 4 Tryz.underlying276 iQ J _ _ _ o rfl hown _ ((u+cy+v) % 1000000000) J rfl J hb ?_;intro A3 c3 w2 hown2 hb2 _ _ _)
    go_roundw
    case rel=>exact⟨k+1,A3,c3,o++[(u+cy+v) % 1000000000],(u+cy+v) / 1000000000,J,by go_num,rfl,by go_num,J,hown2,hso.append (j6.Small.cons J j6.Small.nil),HR.out,hb2⟩
    case measure=>simp only[intOf];omega
   ·have hv:y.getD k 0=0:=by
     have:=hy.len;rw[AC,Za4 J];rfl
    have HR:=WP (j6.pI (a:=x) (b:=y) (n:=x.getD k 0+cy) HO.out HV.out J);clear hv;generalize x.getD k 0=u at aC hu HR
    go_wp2_with (at_builtin;refine dD (w0:=w) rfl _ _ _ rfl 267 .u32 4 Tryz.underlying276 iQ J _ _ _ o rfl hown _ ((u+cy) % 1000000000) J rfl J hb ?_;intro A3 c3 w2 hown2 hb2 _ _ _)
    go_roundw
    case rel=>exact⟨k+1,A3,c3,o++[(u+cy) % 1000000000],(u+cy) / 1000000000,J,by go_num,rfl,by go_num,J,hown2,hso.append (j6.Small.cons J j6.Small.nil),HR.out,hb2⟩
    case measure=>simp only[intOf];omega
  ·have hkk:k=n:=J;subst hkk;have HF:Hid (j6.y8 1000000000 (o++[cy])=j6.y8 1000000000 x+j6.y8 1000000000 y):=by
    have h:=HV.out;rw[Za2 (by rw[hx.len];omega),Za2 (by rw[hy.len];omega)]at h;rw[j6.yc,HO.out];show _=_;omega
   go_wp2_with (at_builtin;refine dD (w0:=w) rfl _ _ _ rfl 267 .u32 4 Tryz.underlying276 iQ J _ _ _ o rfl hown _ cy rfl rfl J hb ?_;intro A3 c3 w2 hown2 hb2 _ _ _)
   refine (pR _ _ _ _ _ hown2.sl J).mono ?_;rintro e w' ⟨rfl,rfl⟩;go_wp2;go_ret;refine⟨_,_,_,rfl,?_,hb2,hown2.fresh⟩;have:=hown2.sl.trimmed (B:=1000000000) J (hso.append (j6.Small.cons J j6.Small.nil));rw[HF.out]at this;exact this
theorem a6B(A A':Option Addr)(n n' c c':Nat)(x y:List Nat)(w:World)(hx:Sl w .u32 A n c x)(hy:Sl w .u32 A' n' c' y)(hn:n≤100000000)(hn':n'≤100000000)
  (hsx:j6.Small 1000000000 x) (hsy:j6.Small 1000000000 y) (hlt:n < n') :
  Calls prog 265 #[.slice A n c,.slice A' n' c'] w (dV .u32 (j6.limbs 1000000000 (j6.y8 1000000000 x+j6.y8 1000000000 y)) w):=by
 go_enter func265,ntmps265
 go_wp2_with (at_make;refine PN (w0:=w) rfl _ _ _ rfl 267 .u32 4 Tryz.underlying276 iQ J _ _ _ (n'+1) rfl rfl J J (Below.refl _ _) ?_;intro w1 hown1 hb1 _ _)
 go_loopw [5,6,22] (fun out cr ix wr=>∃(k:Nat) (A2:Option Addr) (c2:Nat) (o:List Nat) (cy:Nat),k≤n'∧ix=.int .i64 k∧out=.slice A2 k c2∧cr=.int .u32 cy∧cy≤1∧Own wr w.heap.size 267 .u32 A2 k c2 o∧j6.Small 1000000000 o∧Hid (j6.y8 1000000000 o+1000000000 ^ k * cy=j6.y8 1000000000 (y.take k)+j6.y8 1000000000 (x.take k))∧Below w.heap.size w wr) (fun _ _ ix _=>n' - (intOf ix).toNat)
 case atStart=>exact⟨0,_,_,[],0,Ci _,rfl,rfl,rfl,J,hown1,j6.Small.nil,(by simp[j6.y8]:j6.y8 1000000000 []+1000000000 ^ 0 * 0=j6.y8 1000000000 (y.take 0)+j6.y8 1000000000 (x.take 0)),hb1⟩
 case round =>
  obtain⟨k,A2,c2,o,cy,hk,rfl,rfl,rfl,hcy,hown,hso,HV,hb⟩:=hrel;have HO:=WP hown.len;by_cases hkn:k < n'
  ·obtain⟨b,off,rfl,_,hcx⟩:=(hy.below hb).cells J;have aC:=hcx k hkn;clear hcx;have hu:=getD_lt (l:=y) hsy J k;by_cases iE:k < n
   ·obtain⟨b',off',rfl,_,bX⟩:=(hx.below hb).cells J;have hcv:=bX k iE;clear bX;have hv:=getD_lt (l:=x) hsx J k;have HR:=WP (j6.pI (a:=y) (b:=x) HO.out HV.out rfl);generalize y.getD k 0=u at aC hu HR;generalize x.getD k 0=v at hcv hv HR
    go_wp2_with (at_builtin;refine dD (w0:=w) rfl _ _ _ rfl 267 .u32 4 Tryz.underlying276 iQ J _ _ _ o rfl hown _ ((u+cy+v) % 1000000000) J rfl J hb ?_;intro A3 c3 w2 hown2 hb2 _ _ _)
    go_roundw
    case rel=>exact⟨k+1,A3,c3,o++[(u+cy+v) % 1000000000],(u+cy+v) / 1000000000,J,by go_num,rfl,by go_num,J,hown2,hso.append (j6.Small.cons J j6.Small.nil),HR.out,hb2⟩
    case measure=>simp only[intOf];omega
   ·have hv:x.getD k 0=0:=by
     have:=hx.len;rw[AC,Za4 J];rfl
    have HR:=WP (j6.pI (a:=y) (b:=x) (n:=y.getD k 0+cy) HO.out HV.out J);clear hv;generalize y.getD k 0=u at aC hu HR
    go_wp2_with (at_builtin;refine dD (w0:=w) rfl _ _ _ rfl 267 .u32 4 Tryz.underlying276 iQ J _ _ _ o rfl hown _ ((u+cy) % 1000000000) J rfl J hb ?_;intro A3 c3 w2 hown2 hb2 _ _ _)
    go_roundw
    case rel=>exact⟨k+1,A3,c3,o++[(u+cy) % 1000000000],(u+cy) / 1000000000,J,by go_num,rfl,by go_num,J,hown2,hso.append (j6.Small.cons J j6.Small.nil),HR.out,hb2⟩
    case measure=>simp only[intOf];omega
  ·have hkk:k=n':=J;subst hkk;have HF:Hid (j6.y8 1000000000 (o++[cy])=j6.y8 1000000000 x+j6.y8 1000000000 y):=by
    have h:=HV.out;rw[Za2 (by rw[hy.len];omega),Za2 (by rw[hx.len];omega)]at h;rw[j6.yc,HO.out];show _=_;omega
   go_wp2_with (at_builtin;refine dD (w0:=w) rfl _ _ _ rfl 267 .u32 4 Tryz.underlying276 iQ J _ _ _ o rfl hown _ cy rfl rfl J hb ?_;intro A3 c3 w2 hown2 hb2 _ _ _)
   refine (pR _ _ _ _ _ hown2.sl J).mono ?_;rintro e w' ⟨rfl,rfl⟩;go_wp2;go_ret;refine⟨_,_,_,rfl,?_,hb2,hown2.fresh⟩;have:=hown2.sl.trimmed (B:=1000000000) J (hso.append (j6.Small.cons J j6.Small.nil));rw[HF.out]at this;exact this
theorem QZ(A A':Option Addr)(n n' c c':Nat)(x y:List Nat)(w:World)(hx:Sl w .u32 A n c x)(hy:Sl w .u32 A' n' c' y)(hn:n≤100000000)(hn':n'≤100000000)
  (hsx:j6.Small 1000000000 x) (hsy:j6.Small 1000000000 y) :
  Calls prog 265 #[.slice A n c,.slice A' n' c'] w (dV .u32 (j6.limbs 1000000000 (j6.y8 1000000000 x+j6.y8 1000000000 y)) w):=by
 by_cases h:n < n'
 ·exact a6B A A' n n' c c' x y w hx hy hn hn' hsx hsy h
 ·exact a6A A A' n n' c c' x y w hx hy hn hn' hsx hsy h
theorem CJ(A A':Option Addr)(n n' c c':Nat)(x y:List Nat)(w:World)(hx:Sl w .u32 A n c x)(hy:Sl w .u32 A' n' c' y)(hn:n≤100000000)(hnn:n'≤n)
  (hsx:j6.Small 1000000000 x) (hsy:j6.Small 1000000000 y) (hle:j6.y8 1000000000 y≤j6.y8 1000000000 x) :
  Calls prog 266 #[.slice A n c,.slice A' n' c'] w (dV .u32 (j6.limbs 1000000000 (j6.y8 1000000000 x - j6.y8 1000000000 y)) w):=by
 go_enter func266,ntmps266
 go_wp2_with (at_make;refine yf (w0:=w) rfl _ _ _ rfl 267 .u32 4 Tryz.underlying276 iQ J _ _ _ _ n rfl rfl J J J (Below.refl _ _) ?_;intro w1 hown1 hb1 _ _)
 go_loopw [6,14] (fun br ix wr=>∃(k:Nat) (o:List Nat) (bw:Nat),k≤n∧ix=.int .i64 k∧br=.int .i64 bw∧bw≤1∧Own wr w.heap.size 267 .u32 (some ⟨w.heap.size,0,none⟩) n n (o++List.replicate (n - k) 0)∧Hid (o.length=k)∧j6.Small 1000000000 o∧Hid (j6.y8 1000000000 (x.take k)+1000000000 ^ k * bw=j6.y8 1000000000 o+j6.y8 1000000000 (y.take k))∧Below w.heap.size w wr) (fun _ ix _=>n - (intOf ix).toNat)
 case atStart=>exact⟨0,[],0,Ci _,rfl,rfl,J,hown1,(rfl:([]:List Nat).length=0),j6.Small.nil,(by simp[j6.y8]:j6.y8 1000000000 (x.take 0)+1000000000 ^ 0 * 0=j6.y8 1000000000 []+j6.y8 1000000000 (y.take 0)),hb1⟩
 case round =>
  obtain⟨k,o,bw,hk,rfl,rfl,hbw,hown,HO,hso,HV,hb⟩:=hrel;by_cases hkn:k < n
  ·obtain⟨b,off,rfl,_,hcx⟩:=(hx.below hb).cells J;have aC:=hcx k hkn;clear hcx;have hu:=getD_lt (l:=x) hsx J k;obtain⟨hco,hfo,_,hgl⟩:=hown.cellAt hkn;generalize (o++List.replicate (n - k) 0).getD k 0=z at hco;by_cases iE:k < n'
   ·obtain⟨b',off',rfl,_,bX⟩:=(hy.below hb).cells J;have hcv:=bX k iE;clear bX;have hv:=getD_lt (l:=y) hsy J k;have HR:=fun d t=>WP (j6.Ib (B:=1000000000) (a:=x) (b:=y) (d:=d) (n:=t) HO.out HV.out)
    generalize x.getD k 0=u at aC hu HR;generalize y.getD k 0=v at hcv hv HR;by_cases hneg:(u:Int) - bw - v < 0
    ·have HR1:=WP ((HR 1 (u+1000000000 - bw - v)).out J);clear HR;go_wp2
     go_roundw
     case rel=>exact⟨k+1,o++[u+1000000000 - bw - v],1,J,by go_num,rfl,J,hown.setInt J (Cq o n k _ hkn HO.out),(by rw[lm,HO.out];rfl:(o++[u+1000000000 - bw - v]).length=k+1),hso.append (j6.Small.cons J j6.Small.nil),HR1.out,hb.setCell (p:=⟨w.heap.size,k,none⟩) (PP _) _⟩
     case measure=>simp only[intOf];omega
    ·have HR1:=WP ((HR 0 (u - bw - v)).out J);clear HR;go_wp2
     go_roundw
     case rel=>exact⟨k+1,o++[u - bw - v],0,J,by go_num,rfl,J,hown.setInt J (Cq o n k _ hkn HO.out),(by rw[lm,HO.out];rfl:(o++[u - bw - v]).length=k+1),hso.append (j6.Small.cons J j6.Small.nil),HR1.out,hb.setCell (p:=⟨w.heap.size,k,none⟩) (PP _) _⟩
     case measure=>simp only[intOf];omega
   ·have hv:y.getD k 0=0:=by
     have:=hy.len;rw[AC,Za4 J];rfl
    have HR:=fun d t=>WP (j6.Ib (B:=1000000000) (a:=x) (b:=y) (d:=d) (n:=t) HO.out HV.out)
    rw[hv]at HR;clear hv;generalize x.getD k 0=u at aC hu HR;by_cases hneg:(u:Int) - bw < 0
    ·have HR1:=WP ((HR 1 (u+1000000000 - bw)).out J);clear HR;go_wp2
     go_roundw
     case rel=>exact⟨k+1,o++[u+1000000000 - bw],1,J,by go_num,rfl,J,hown.setInt J (Cq o n k _ hkn HO.out),(by rw[lm,HO.out];rfl:(o++[u+1000000000 - bw]).length=k+1),hso.append (j6.Small.cons J j6.Small.nil),HR1.out,hb.setCell (p:=⟨w.heap.size,k,none⟩) (PP _) _⟩
     case measure=>simp only[intOf];omega
    ·have HR1:=WP ((HR 0 (u - bw)).out J);clear HR;go_wp2
     go_roundw
     case rel=>exact⟨k+1,o++[u - bw],0,J,by go_num,rfl,J,hown.setInt J (Cq o n k _ hkn HO.out),(by rw[lm,HO.out];rfl:(o++[u - bw]).length=k+1),hso.append (j6.Small.cons J j6.Small.nil),HR1.out,hb.setCell (p:=⟨w.heap.size,k,none⟩) (PP _) _⟩
     case measure=>simp only[intOf];omega
  ·have hkk:k=n:=J;subst hkk;have hfin:j6.y8 1000000000 o=j6.y8 1000000000 x - j6.y8 1000000000 y:=by
    have h:=HV.out;rw[Za2 (by rw[hx.len];omega),Za2 (by rw[hy.len];omega)]at h;have hlt:=j6.jG (B:=1000000000) J hso;rw[HO.out]at hlt;rcases Zaa bw with e | e
    ·subst e;omega
    ·obtain rfl:bw=1:=J;omega
   have HF:=WP hfin;clear hfin;have hsl:=hown.sl;rw[Zb5]at hsl;simp only[List.replicate_zero,ZaB]at hsl
   go_wp2_with fail
   refine (pR _ _ _ _ _ hsl J).mono ?_;rintro e w' ⟨rfl,rfl⟩;go_wp2;go_ret;refine⟨_,_,_,rfl,?_,hb,hown.fresh⟩;have:=hsl.trimmed (B:=1000000000) J hso;rw[HF.out]at this;exact this
theorem getD_set_ne(l:List Nat)(i j v:Nat)(h:i≠j):(l.set i v).getD j 0=l.getD j 0:=by
 rw[AC,AC,List.getElem?_set_ne h]
theorem Hl(n j:Nat):(List.replicate n 0).getD j 0=0:=by
 rw[AC,List.getElem?_replicate];split <;> rfl
theorem OU(B n:Nat):j6.y8 B (List.replicate n 0)=0:=by
 induction n with
 |zero=>rfl
 |succ n ih=>rw[List.replicate_succ,j6.y8,ih];simp
theorem Ck(B n:Nat)(hB:1≤B):j6.Small B (List.replicate n 0):=by
 intro x hx;rw[(List.mem_replicate.1 hx).2];omega
theorem a2K{u v:Nat}(hu:u < 1000000000)(hv:v < 1000000000):(0:Int)≤(u:Int) * v∧(u:Int) * v≤999999998000000001:=by
 have h:u * v≤999999999 * 999999999:=Nat.mul_le_mul J J;have e:((u * v:Nat):Int)=(u:Int) * v:=by rw[Int.natCast_mul]
 omega
theorem a3I{z u v c:Nat}:((z:Int)+(u:Int) * v+c) % 1000000000=(((z+u * v+c) % 1000000000:Nat):Int):=by
 rw[Int.natCast_emod,Int.natCast_add,Int.natCast_add,Int.natCast_mul];rfl
theorem a3J{z u v c:Nat}:((z:Int)+(u:Int) * v+c) / 1000000000=(((z+u * v+c) / 1000000000:Nat):Int):=by
 rw[Int.natCast_ediv,Int.natCast_add,Int.natCast_add,Int.natCast_mul];rfl
theorem Iz(A A':Option Addr)(n n' c c':Nat)(x y:List Nat)(w:World)(hx:Sl w .u32 A n c x)(hy:Sl w .u32 A' n' c' y)(hn:n≤100000000)(hn':n'≤100000000)
  (hsx:j6.Small 1000000000 x) (hsy:j6.Small 1000000000 y) :
  Calls prog 258 #[.slice A n c,.slice A' n' c'] w (dV .u32 (j6.limbs 1000000000 (j6.y8 1000000000 x * j6.y8 1000000000 y)) w):=by
 go_enter func258,ntmps258
 go_wp2_with (at_make;refine yf (w0:=w) rfl _ _ _ rfl 267 .u32 4 Tryz.underlying276 iQ J _ _ _ _ (n+n') rfl rfl J J J (Below.refl _ _) ?_;intro w1 hown1 hb1 _ _)
 go_loopw [20] (fun ix wr=>∃(k:Nat) (L:List Nat),k≤n∧ix=.int .i64 k∧Own wr w.heap.size 267 .u32 (some ⟨w.heap.size,0,none⟩) (n+n') (n+n') L∧j6.Small 1000000000 L∧Hid (j6.y8 1000000000 L=j6.y8 1000000000 (x.take k) * j6.y8 1000000000 y)∧Hid (∀j,k+n'≤j→L.getD j 0=0)∧Below w.heap.size w wr) (fun ix _=>n - (intOf ix).toNat)
 case atStart=>exact⟨0,_,Ci _,rfl,hown1,Ck _ _ J,(by rw[OU,List.take_zero];simp[j6.y8]:j6.y8 1000000000 (List.replicate (n+n') 0)=j6.y8 1000000000 (x.take 0) * j6.y8 1000000000 y),(fun j _=>Hl _ j:∀j,0+n'≤j→(List.replicate (n+n') 0).getD j 0=0),hb1⟩
 case round =>
  obtain⟨k,L,hk,rfl,hown,hsL,HV,HZ,hb⟩:=hrel;obtain⟨wo,rfl⟩:∃wo:World,wo=wr:=⟨_,rfl⟩;by_cases hkn:k < n
  ·obtain⟨b,off,rfl,_,hcx⟩:=(hx.below hb).cells J;have aC:=hcx k hkn;clear hcx;have hu:=getD_lt (l:=x) hsx J k;have HT:=WP (j6.Px (B:=1000000000) (a:=x) (b:=y) (i:=k) HV.out);generalize x.getD k 0=u at aC hu HT;go_wp2
   go_loopw [8,27] (fun cr jx wr=>∃(m cy:Nat) (M:List Nat),m≤n'∧jx=.int .i64 m∧cr=.int .u64 cy∧cy < 1000000000∧Own wr w.heap.size 267 .u32 (some ⟨w.heap.size,0,none⟩) (n+n') (n+n') M∧j6.Small 1000000000 M∧Hid (j6.y8 1000000000 M+1000000000 ^ (k+m) * cy=j6.y8 1000000000 L+1000000000 ^ k * (u * j6.y8 1000000000 (y.take m)))∧Hid (∀j,k+n'≤j→M.getD j 0=0)∧Below w.heap.size w wr) (fun _ jx _=>n' - (intOf jx).toNat)
   case atStart=>exact⟨0,0,L,Ci _,rfl,rfl,J,hown,hsL,(by simp[j6.y8]:j6.y8 1000000000 L+1000000000 ^ (k+0) * 0=j6.y8 1000000000 L+1000000000 ^ k * (u * j6.y8 1000000000 (y.take 0))),HZ,hb⟩
   case round =>
    obtain⟨m,cy,M,hm,rfl,rfl,hcy,iZ,qE,HM,oo,oq⟩:=hrel;by_cases Ng:m < n'
    ·obtain⟨b',off',rfl,_,bX⟩:=(hy.below oq).cells J;have hcv:=bX m Ng;clear bX;have hv:=getD_lt (l:=y) hsy J m;have hlM:=iZ.len;obtain⟨hco,hfo,_,hgl⟩:=iZ.cellAt (i:=k+m) J;have hz:=getD_lt (l:=M) qE J (k+m);have HR:=WP (j6.Pw (B:=1000000000) (o:=M) (b:=y) (x:=u) (i:=k) (j:=m) J HM.out rfl rfl);clear hlM;generalize M.getD (k+m) 0=z at hco hz HR;generalize y.getD m 0=v at hcv hv HR;obtain⟨hp1,hp2⟩:=a2K hu hv;have hfit:=j6.PI (B:=1000000000) J hz hu hv hcy;go_wp2
     go_roundw
     case rel =>
      refine⟨m+1,(z+u * v+cy) / 1000000000,M.set (k+m) ((z+u * v+cy) % 1000000000),J,by go_num,?_,J,iZ.setInt ?_ rfl,qE.set J,HR.out,(fun j hj=>by rw[getD_set_ne _ _ _ _ J];exact oo.out j hj:∀j,k+n'≤j→(M.set (k+m) ((z+u * v+cy) % 1000000000)).getD j 0=0),oq.setCell (p:=⟨w.heap.size,k+m,none⟩) (PP _) _⟩
      ·rw[a3J]
      ·rw[a3I]
     case measure=>simp only[intOf];omega
    ·have hmm:m=n':=J;subst hmm;obtain⟨hco,hfo,_,hgl⟩:=iZ.cellAt (i:=k+m) J;have HR:Hid (j6.y8 1000000000 (M.set (k+m) cy)=j6.y8 1000000000 (x.take (k+1)) * j6.y8 1000000000 y):=by
      have iD:=hy.len;subst iD;exact (j6.Qo (by rw[iZ.len];omega) (oo.out _ (PP _)) HM.out).trans HT.out
     generalize M.getD (k+m) 0=z at hco;go_wp2
     go_roundw
     case rel=>exact⟨k+1,M.set (k+m) cy,J,by go_num,iZ.setInt J rfl,qE.set hcy,HR.out,(fun j hj=>by rw[getD_set_ne _ _ _ _ J];exact oo.out j J:∀j,k+1+m≤j→(M.set (k+m) cy).getD j 0=0),oq.setCell (p:=⟨w.heap.size,k+m,none⟩) (PP _) _⟩
     case measure=>simp only[intOf];omega
  ·have hkk:k=n:=J;subst hkk;have hsl:=hown.sl
   go_wp2_with fail
   refine (pR _ _ _ _ _ hsl J).mono ?_;rintro e w' ⟨rfl,rfl⟩;go_wp2;go_ret;refine⟨_,_,_,rfl,?_,hb,hown.fresh⟩;have:=hsl.trimmed (B:=1000000000) J hsL;rw[HV.out,Za2 (by rw[hx.len];omega)]at this;exact this
end Go.Proofs.YtbpmpdadppamgaaGreatDoor
