/- Plain arithmetic of decimals and limbs: what the Go texts of chapter 1 compute, with no program in sight. -/
import Derived.Lib.ItoaMem
import Derived.Lib.ParseIntB
import Derived.Lib.AtoiAll
import Derived.Lib.Strings
import Derived.WalkKit
import Derived.WalkSpells
import Derived.Test.YtdkehabacmlegaaGreatDoorProg
import Derived.Deep.QuietTactic
import Derived.BigQuiet
import Derived.OwnWalk
set_option maxRecDepth 100000
set_option maxHeartbeats 4000000
namespace Go.Proofs.YtdkehabacmlegaaGreatDoor
theorem J{p:Prop}(h:p:=by omega):p:=h
theorem O{p:Prop}(h:p:=by decide):p:=h
theorem I{p:Prop}(h:p:=by simp):p:=h
theorem Z:True:=⟨⟩
abbrev bi:=List UInt8
end Go.Proofs.YtdkehabacmlegaaGreatDoor
namespace Go.Proofs.YtdkehabacmlegaaGreatDoor.j4
open Tryz
open Go Go.Lib
def u7(B:Nat):List Nat→Nat
 |[]=>0
 |x::r=>x+B * u7 B r
def lC(B:Nat):Nat→Nat→List Nat
 |0,_=>[]
 |f+1,n=>if n=0 then [] else n % B::lC B f (n / B)
def limbs(B n:Nat):List Nat:=lC B n n
def Small(B:Nat)(l:List Nat):Prop:=∀x∈l,x < B
def R3(l:List Nat):List Nat:=(l.reverse.dropWhile (· == 0)).reverse
theorem Lv(B:Nat)(hB:2≤B):∀(f g n:Nat),n≤f→n≤g→lC B f n=lC B g n
 |0,0,_,_,_=>rfl
 |0,g+1,n,h,_=>by
              have:n=0:=J;subst this;simp[lC]
 |f+1,0,n,_,h=>by
              have:n=0:=J;subst this;simp[lC]
 |f+1,g+1,n,h1,h2=>by
  by_cases hn:n=0
  ·subst hn;simp[lC]
  ·have hd:n / B < n:=Nat.div_lt_self J J;simp only[lC,hn,if_false];rw[Lv B hB f g (n / B) J J]
theorem pM(B:Nat):limbs B 0=[]:=rfl
theorem rZ{B n:Nat}(hB:2≤B)(hn:n≠0):limbs B n=n % B::limbs B (n / B):=by
 have hd:n / B < n:=Nat.div_lt_self J J;obtain⟨m,rfl⟩:∃m,n=m+1:=⟨n - 1,J⟩;unfold limbs;rw[lC,if_neg hn,Lv B hB m ((m+1) / B) _ J (Nat.le_refl _)]
theorem G7{B:Nat}(hB:2≤B)(n:Nat):u7 B (limbs B n)=n:=by
 induction n using Nat.strongRecOn with
 |_ n ih =>
  by_cases hn:n=0
  ·subst hn;rfl
  ·rw[rZ hB hn,u7,ih (n / B) (Nat.div_lt_self J J)];exact Nat.mod_add_div n B
theorem K7{B:Nat}(hB:2≤B)(n:Nat):Small B (limbs B n):=by
 induction n using Nat.strongRecOn with
 |_ n ih =>
  by_cases hn:n=0
  ·subst hn;intro x hx;cases hx
  ·rw[rZ hB hn];intro x hx;rcases List.mem_cons.1 hx with rfl | hx
   ·exact Nat.mod_lt _ J
   ·exact ih (n / B) (Nat.div_lt_self J J) x hx
theorem kW{B n:Nat}(hB:2≤B):limbs B n=[]↔n=0:=by
 constructor
 ·intro h;rw[←G7 hB n,h];rfl
 ·rintro rfl;rfl
theorem Xi{B:Nat}(hB:2≤B)(n:Nat):∀h:limbs B n≠[],(limbs B n).getLast h≠0:=by
 induction n using Nat.strongRecOn with
 |_ n ih =>
  intro h;have hn:n≠0:=fun e=>h (by subst e;rfl)
  have e:=rZ hB hn;by_cases hq:n / B=0
  ·have:limbs B n=[n % B]:=by rw[e,hq];rfl
   simp only[this,List.getLast_singleton];have:=Nat.mod_add_div n B;rw[hq]at this;omega
  ·have hne:limbs B (n / B)≠[]:=fun h'=>hq ((kW hB).1 h')
   have:=ih (n / B) (Nat.div_lt_self J J) hne;have key:∀(l:List Nat) (h:l≠[]),l=n % B::limbs B (n / B)→l.getLast h≠0:=by
    rintro _ h rfl;rw[List.getLast_cons hne];exact this
   exact key _ h e
theorem vC(B:Nat)(l r:List Nat):u7 B (l++r)=u7 B l+B ^ l.length * u7 B r:=by
 induction l with
 |nil=>simp[u7]
 |cons x l ih =>
  simp only[List.cons_append,u7,ih,List.length_cons,Nat.pow_succ];rw[Nat.mul_add,Nat.mul_comm (B ^ l.length) B,Nat.mul_assoc];omega
theorem iK{B:Nat}(hB:1≤B):∀{l:List Nat},Small B l→u7 B l < B ^ l.length
 |[],_=>by simp[u7]
 |x::r,h=>by
  have h1:x < B:=h x I;have h2:=iK hB (l:=r) (fun y hy=>h y (by simp[hy]));simp only[u7,List.length_cons,Nat.pow_succ];have:B * (u7 B r+1)≤B * B ^ r.length:=Nat.mul_le_mul_left B h2;rw[Nat.mul_add]at this;rw[Nat.mul_comm (B ^ r.length) B];omega
theorem Small.cons{B x:Nat}{l:List Nat}(h:x < B)(hl:Small B l):Small B (x::l):=by
 intro y hy;rcases List.mem_cons.1 hy with rfl | hy
 ·exact h
 ·exact hl y hy
theorem Small.append{B:Nat}{l r:List Nat}(hl:Small B l)(hr:Small B r):Small B (l++r):=by
 intro y hy;rcases List.mem_append.1 hy with hy | hy
 ·exact hl y hy
 ·exact hr y hy
theorem Small.nil{B:Nat}:Small B []:=fun _ h=>by cases h
theorem Small.take{B:Nat}{l:List Nat}(h:Small B l)(k:Nat):Small B (l.take k):=fun x hx=>h x (List.mem_of_mem_take hx)
theorem Small.drop{B:Nat}{l:List Nat}(h:Small B l)(k:Nat):Small B (l.drop k):=fun x hx=>h x (List.mem_of_mem_drop hx)
theorem Small.getD{B:Nat}{l:List Nat}(hB:1≤B)(h:Small B l)(k:Nat):l.getD k 0 < B:=by
 by_cases hk:k < l.length
 ·rw[List.getD_eq_getElem?_getD,List.getElem?_eq_getElem hk];exact h _ (List.getElem_mem hk)
 ·rw[List.getD_eq_getElem?_getD,List.getElem?_eq_none J];simp;omega
theorem Ej{B:Nat}(hB:2≤B):∀(l:List Nat),Small B l→(∀h:l≠[],l.getLast h≠0)→l=limbs B (u7 B l)
 |[],_,_=>rfl
 |x::r,hs,hl=>by
  have hx:x < B:=hs x I;have hr:Small B r:=fun y hy=>hs y (by simp[hy])
  have hrl:∀h:r≠[],r.getLast h≠0:=fun h=>by
   have:=hl I
   rwa [List.getLast_cons h]at this
  have ih:=Ej hB r hr hrl;have hv:x+B * u7 B r≠0:=by
   by_cases hn:r=[]
   ·subst hn;have:=hl I;simp only[List.getLast_singleton]at this;omega
   ·have h0:u7 B r≠0:=fun e=>hn (by rw[ih,e];rfl)
    have:0 < B * u7 B r:=Nat.mul_pos J J;omega
  simp only[u7];rw[rZ hB hv,Nat.add_mul_mod_self_left,Nat.mod_eq_of_lt hx,Nat.add_mul_div_left _ _ J,Nat.div_eq_of_lt hx,Nat.zero_add,←ih]
theorem Eb(l:List Nat):R3 (l++[0])=R3 l:=by simp[R3]
theorem Ex{x:Nat}(hx:x≠0)(l:List Nat):R3 (l++[x])=l++[x]:=by
 simp[R3,hx]
theorem WZ(B:Nat)(l:List Nat):u7 B (l++[0])=u7 B l:=by simp[vC,u7]
theorem XQ{B:Nat}(hB:2≤B)(l:List Nat)(hs:Small B l):R3 l=limbs B (u7 B l):=by
 induction hk:l.length generalizing l with
 |zero =>
      obtain rfl:l=[]:=List.eq_nil_of_length_eq_zero hk;rfl
 |succ k ih =>
  obtain⟨r,x,rfl⟩:∃r x,l=r++[x]:=⟨l.dropLast,l.getLast (by intro e;subst e;simp at hk),(List.dropLast_concat_getLast _).symm⟩;by_cases hx:x=0
  ·subst hx;rw[Eb,WZ,ih r (fun y hy=>hs y (by simp[hy])) (by simpa using hk)]
  ·rw[Ex hx];exact Ej hB _ hs (fun h=>by simpa using hx)
theorem vw{B n k:Nat}(hB:2≤B)(h:n < B ^ k):(limbs B n).length≤k:=by
 induction k generalizing n with
 |zero=>simp at h;subst h;simp[pM]
 |succ k ih =>
  by_cases hn:n=0
  ·subst hn;simp[pM]
  ·rw[rZ hB hn,List.length_cons];have:n / B < B ^ k:=Nat.div_lt_of_lt_mul (by rw[Nat.pow_succ,Nat.mul_comm]at h;exact h);have:=ih this;omega
def aD(c:UInt8):Bool:=decide (48≤c.toNat) && decide (c.toNat≤57)
def O4(l:bi):Bool:=l.all aD
def M6(l:bi):Nat:=l.foldl (fun a c=>a * 10+(c.toNat - 48)) 0
theorem Yw(l:bi):∀a:Nat,l.foldl (fun a c=>a * 10+(c.toNat - 48)) a=a * 10 ^ l.length+M6 l:=by
 induction l with
 |nil=>intro a;simp[M6]
 |cons c l ih =>
  intro a;simp only[List.foldl_cons,M6,List.length_cons];rw[ih (a * 10+(c.toNat - 48)),ih (0 * 10+(c.toNat - 48)),Nat.pow_succ,Nat.add_mul,Nat.mul_assoc,Nat.mul_comm 10];simp only[Nat.zero_mul,Nat.zero_add];omega
theorem kX(l r:bi):M6 (l++r)=M6 l * 10 ^ r.length+M6 r:=by
 unfold M6;rw[List.foldl_append,Yw];rfl
theorem Nu:M6 []=0:=rfl
theorem nH(c:UInt8):M6 [c]=c.toNat - 48:=by simp[M6]
theorem Am{α:Type}{motive:List α→Prop}(nil:motive [])(snoc:∀l c,motive l→motive (l++[c])):∀l,motive l:=by
 intro l;rw[←List.reverse_reverse l]
 induction l.reverse with
 |nil=>exact nil
 |cons c r ih=>rw[List.reverse_cons];exact snoc _ _ ih
theorem wF(l:bi)(h:O4 l=true):M6 l < 10 ^ l.length:=by
 induction l using Am with
 |nil=>simp[M6]
 |snoc l c ih =>
  have hc:aD c=true:=by simp[O4]at h;exact h.2
  have hl:O4 l=true:=by simp[O4]at h ⊢;exact h.1
  have:=ih hl;rw[kX,nH,List.length_append,List.length_singleton,Nat.pow_succ];simp[aD]at hc;omega
theorem vz{u:Nat}(h:u < 10):decDigits u=[UInt8.ofNat (48+u)]:=by rw[decDigits,dif_pos h]
theorem vB{u:Nat}(h:¬u < 10):decDigits u=decDigits (u / 10)++[UInt8.ofNat (48+u % 10)]:=by rw[decDigits,dif_neg h]
theorem ofNat_toNat{d:Nat}(h:d < 10):(UInt8.ofNat (48+d)).toNat=48+d:=by
 rw[UInt8.toNat_ofNat'];omega
theorem MC{d:Nat}(h:d < 10):aD (UInt8.ofNat (48+d))=true:=by
 simp only[aD,ofNat_toNat h,Bool.and_eq_true,decide_eq_true_eq];omega
theorem pI(u:Nat):O4 (decDigits u)=true:=by
 induction u using Nat.strongRecOn with
 |_ u ih =>
  by_cases h:u < 10
  ·rw[vz h,O4,List.all_cons,MC h];rfl
  ·rw[vB h];have:=ih (u / 10) J;have h2:=MC (d:=u % 10) J;simp only[O4,List.all_append,Bool.and_eq_true]at this ⊢
   exact⟨this,by rw[List.all_cons,h2];rfl⟩
theorem rR(u:Nat):M6 (decDigits u)=u:=by
 induction u using Nat.strongRecOn with
 |_ u ih =>
  by_cases h:u < 10
  ·rw[vz h,nH,ofNat_toNat h];omega
  ·rw[vB h,kX,ih (u / 10) J,nH,ofNat_toNat J];simp only[List.length_singleton,Nat.pow_one];omega
theorem rU{u:Nat}(hu:u≠0):∃c r,decDigits u=c::r∧c.toNat≠48:=by
 induction u using Nat.strongRecOn with
 |_ u ih =>
  by_cases h:u < 10
  ·exact⟨_,_,vz h,by rw[ofNat_toNat h];omega⟩
  ·obtain⟨c,r,e,hc⟩:=ih (u / 10) J J;exact⟨c,r++[UInt8.ofNat (48+u % 10)],by rw[vB h,e];rfl,hc⟩
theorem ME{l:bi}{c:UInt8}:O4 (l++[c])=true↔O4 l=true∧aD c=true:=by
 simp[O4,List.all_append]
theorem Ep{l r:bi}:O4 (l++r)=true↔O4 l=true∧O4 r=true:=by
 simp[O4,List.all_append]
theorem Lx{c:UInt8}(h:aD c=true):c=UInt8.ofNat (48+(c.toNat - 48)):=by
 simp only[aD,Bool.and_eq_true,decide_eq_true_eq]at h;rw[Nat.add_sub_cancel' h.1,UInt8.ofNat_toNat]
theorem zP(l:bi):O4 l=true→(∃c r,l=c::r∧c.toNat≠48)→decDigits (M6 l)=l∧M6 l≠0:=by
 induction l using Am with
 |nil=>rintro _ ⟨c,r,h,_⟩;cases h
 |snoc l d ih =>
  intro hd hh;obtain⟨hl,hc⟩:=ME.1 hd;have hcc:=hc;simp only[aD,Bool.and_eq_true,decide_eq_true_eq]at hcc;by_cases hn:l=[]
  ·subst hn;obtain⟨c,r,h,h48⟩:=hh;simp only[List.nil_append,List.cons.injEq]at h;obtain⟨rfl,rfl⟩:=h;simp only[List.nil_append,nH];refine⟨?_,J⟩;rw[vz J,←Lx hc]
  ·obtain⟨c,r,h,h48⟩:=hh;have hl':∃c r,l=c::r∧c.toNat≠48:=by
    cases l with
    |nil=>exact absurd rfl hn
    |cons x t =>
           simp only[List.cons_append,List.cons.injEq]at h;exact⟨x,t,rfl,by rw[h.1];exact h48⟩
   obtain⟨e,hz⟩:=ih hl hl';rw[kX,nH,List.length_singleton,Nat.pow_one];refine⟨?_,J⟩;rw[vB J];have h1:(M6 l * 10+(d.toNat - 48)) / 10=M6 l:=J;have h2:(M6 l * 10+(d.toNat - 48)) % 10=d.toNat - 48:=J;rw[h1,h2,e,←Lx hc]
def mag:bi→bi
 |[]=>[]
 |c::r=>if c=45 then r else c::r
def neg:bi→Bool
 |[]=>false
 |c::_=>c == 45
def M4(s:bi):Bool:=s == [48] || (match mag s with | []=>false | c::r=>c != 48 && O4 (c::r))
def r9(s:bi):Int:=if M4 s then (if neg s then -(M6 (mag s):Int) else M6 (mag s)) else 0
theorem LJ(r:bi):neg (45::r)=true:=by simp[neg]
theorem pO(r:bi):mag (45::r)=r:=by simp[mag]
theorem si{s:bi}(h:neg s=false):mag s=s:=by
 cases s with
 |nil=>rfl
 |cons c r=>simp[neg]at h;simp[mag,h]
theorem zV{s:bi}(h:neg s=true):s=45::mag s:=by
 cases s with
 |nil=>simp[neg]at h
 |cons c r=>simp[neg]at h;subst h;simp[mag]
theorem kZ{s:bi}(h0:s≠[48]):M4 s=true↔(O4 (mag s)=true∧∃c r,mag s=c::r∧c.toNat≠48):=by
 have hb:(s == [48])=false:=by simpa using h0
 unfold M4;rw[hb,Bool.false_or];cases hm:mag s with
 |nil=>simp
 |cons c r =>
  simp only[Bool.and_eq_true,bne_iff_ne,ne_eq,List.cons.injEq];constructor
  ·rintro⟨h1,h2⟩;refine⟨h2,c,r,⟨rfl,rfl⟩,fun e=>h1 ?_⟩;exact UInt8.toNat_inj.1 (by simpa using e)
  ·rintro⟨h2,c',r',⟨rfl,rfl⟩,h1⟩;exact⟨fun e=>h1 (by subst e;rfl),h2⟩
theorem fI:itoa 0=[48]:=by decide +kernel
theorem lh{u:Nat}:itoa (u:Int)=decDigits u:=by simp[itoa]
theorem vK{u:Nat}(h:u≠0):itoa (-(u:Int))=45::decDigits u:=by
 rw[itoa,if_pos J];simp
theorem vL{c:UInt8}{r:bi}(h:O4 (c::r)=true):c≠45:=by
 rintro rfl;simp[O4,aD]at h
theorem MF:r9 [48]=0:=O
theorem Za{s:bi}(h:M4 s=true):itoa (r9 s)=s:=by
 by_cases h0:s=[48]
 ·subst h0;rw[MF,fI]
 ·obtain⟨hd,hh⟩:=(kZ h0).1 h;obtain⟨e,hz⟩:=zP _ hd hh;unfold r9;rw[if_pos h];cases hn:neg s with
  |true=>rw[if_pos rfl,vK hz,e];exact (zV hn).symm
  |false=>rw[if_neg I,lh,e,si hn]
theorem Ey(n:Int):M4 (itoa n)=true:=by
 by_cases hz:n=0
 ·subst hz;rw[fI];rfl
 ·by_cases hn:n < 0
  ·obtain⟨u,rfl⟩:∃u:Nat,n=-(u:Int):=⟨n.natAbs,J⟩;have hu:u≠0:=J;obtain⟨c,r,e,hc⟩:=rU hu;rw[vK hu];refine (kZ (by intro h;simp at h)).2 ?_;rw[pO];exact⟨pI u,c,r,e,hc⟩
  ·obtain⟨u,rfl⟩:∃u:Nat,n=(u:Int):=⟨n.toNat,J⟩;have hu:u≠0:=J;obtain⟨c,r,e,hc⟩:=rU hu;have hd:=pI u;rw[lh];have hm:mag (decDigits u)=decDigits u:=by
    rw[e]at hd ⊢
    simp[mag,vL hd]
   refine (kZ ?_).2 ?_
   ·intro h;rw[e]at h;simp only[List.cons.injEq]at h;exact hc (by rw[h.1];rfl)
   ·rw[hm];exact⟨hd,c,r,e,hc⟩
theorem K5(n:Int):r9 (itoa n)=n:=by
 unfold r9;rw[if_pos (Ey n)];by_cases hz:n=0
 ·subst hz;rw[fI];rfl
 ·by_cases hn:n < 0
  ·obtain⟨u,rfl⟩:∃u:Nat,n=-(u:Int):=⟨n.natAbs,J⟩;have hu:u≠0:=J;rw[vK hu,LJ,pO,rR];rfl
  ·obtain⟨u,rfl⟩:∃u:Nat,n=(u:Int):=⟨n.toNat,J⟩;have hu:u≠0:=J;obtain⟨c,r,e,hc⟩:=rU hu;have hd:=pI u;rw[lh];have dI:neg (decDigits u)=false:=by
    rw[e]at hd ⊢
    simp[neg,vL hd]
   rw[dI,si dI,rR];rfl
theorem vU{a b:Int}(h:itoa a=itoa b):a=b:=by rw[←K5 a,h,K5]
theorem rV(B:Nat)(l:List Nat)(i:Nat):u7 B (l.take (i+1))=u7 B (l.take i)+B ^ i * l.getD i 0:=by
 by_cases h:i < l.length
 ·rw[List.take_succ_eq_append_getElem h,vC,List.length_take,Nat.min_eq_left J,List.getD_eq_getElem?_getD,List.getElem?_eq_getElem h];simp[u7]
 ·rw[List.take_of_length_le J,List.take_of_length_le J,List.getD_eq_getElem?_getD,List.getElem?_eq_none J];simp
theorem vM(B:Nat)(l:List Nat)(x:Nat):u7 B (l++[x])=u7 B l+B ^ l.length * x:=by
 rw[vC];simp[u7]
theorem nD(B:Nat)(l:List Nat)(i:Nat)(h:i < l.length):u7 B (l.drop i)=l.getD i 0+B * u7 B (l.drop (i+1)):=by
 rw[List.drop_eq_getElem_cons h,u7,List.getD_eq_getElem?_getD,List.getElem?_eq_getElem h];rfl
theorem Fa(B:Nat):∀(l:List Nat) (k v:Nat),k < l.length→u7 B (l.set k v)+B ^ k * l.getD k 0=u7 B l+B ^ k * v
 |[],_,_,h=>by simp at h
 |x::r,0,v,_=>by simp[u7];omega
 |x::r,k+1,v,h=>by
  have ih:=Fa B r k v (by simpa using h);simp only[List.set_cons_succ,u7,List.getD_cons_succ,Nat.pow_succ];have e:B * u7 B (r.set k v)+B * (B ^ k * r.getD k 0)=B * u7 B r+B * (B ^ k * v):=by rw[←Nat.mul_add,ih,Nat.mul_add]
  rw[Nat.mul_comm (B ^ k) B,Nat.mul_assoc,Nat.mul_assoc];omega
theorem Small.set{B:Nat}{l:List Nat}{k v:Nat}(h:Small B l)(hv:v < B):Small B (l.set k v):=by
 intro x hx;rcases List.mem_or_eq_of_mem_set hx with hx | rfl
 ·exact h x hx
 ·exact hv
theorem nA{B:Nat}{a b o:List Nat}{i c n:Nat}(ho:o.length=i)
  (h:u7 B o+B ^ i * c=u7 B (a.take i)+u7 B (b.take i)) (hn:n=a.getD i 0+c+b.getD i 0) :
  u7 B (o++[n % B])+B ^ (i+1) * (n / B)=u7 B (a.take (i+1))+u7 B (b.take (i+1)):=by
 rw[rV,rV,vM,ho,Nat.pow_succ,Nat.mul_assoc,Nat.add_assoc,←Nat.mul_add,Nat.mod_add_div,hn];have:B ^ i * (a.getD i 0+c+b.getD i 0)=B ^ i * a.getD i 0+B ^ i * c+B ^ i * b.getD i 0:=by rw[Nat.mul_add,Nat.mul_add]
 omega
theorem Er{B:Nat}{a b o:List Nat}{i c d n:Nat}(ho:o.length=i)
  (h:u7 B (a.take i)+B ^ i * c=u7 B o+u7 B (b.take i)) (hn:a.getD i 0+B * d=n+c+b.getD i 0) :
  u7 B (a.take (i+1))+B ^ (i+1) * d=u7 B (o++[n])+u7 B (b.take (i+1)):=by
 rw[rV,rV,vM,ho,Nat.pow_succ,Nat.mul_assoc];have:B ^ i * (a.getD i 0+B * d)=B ^ i * (n+c+b.getD i 0):=by rw[hn]
 rw[Nat.mul_add,Nat.mul_add,Nat.mul_add]at this;omega
theorem LB{B:Nat}{o o' b:List Nat}{x i j c n s:Nat}(hk:i+j < o.length)
  (h:u7 B o+B ^ (i+j) * c=s+B ^ i * (x * u7 B (b.take j))) (hn:n=o.getD (i+j) 0+x * b.getD j 0+c) (ho:o'=o.set (i+j) (n % B)) :
  u7 B o'+B ^ (i+(j+1)) * (n / B)=s+B ^ i * (x * u7 B (b.take (j+1))):=by
 have h1:=Fa B o (i+j) (n % B) hk;have h2:B ^ (i+(j+1))=B ^ (i+j) * B:=by rw[←Nat.add_assoc,Nat.pow_succ]
 have h3:B ^ (i+j) * (n % B)+B ^ (i+j) * B * (n / B)=B ^ (i+j) * n:=by rw[Nat.mul_assoc,←Nat.mul_add,Nat.mod_add_div]
 have h4:B ^ (i+j) * n=B ^ (i+j) * o.getD (i+j) 0+B ^ (i+j) * (x * b.getD j 0)+B ^ (i+j) * c:=by rw[hn,Nat.mul_add,Nat.mul_add]
 have h5:B ^ i * (x * (u7 B (b.take j)+B ^ j * b.getD j 0))=B ^ i * (x * u7 B (b.take j))+B ^ (i+j) * (x * b.getD j 0):=by
  rw[Nat.pow_add];grind
 rw[ho,h2,rV,h5];omega
theorem LK{B o x y c:Nat}(hB:2≤B)(ho:o < B)(hx:x < B)(hy:y < B)(hc:c < B):o+x * y+c < B * B:=by
 obtain⟨b,rfl⟩:∃b,B=b+1:=⟨B - 1,J⟩;have h:x * y≤b * b:=Nat.mul_le_mul J J;have:(b+1) * (b+1)=b * b+2 * b+1:=by grind
 omega
theorem MG{B:Nat}{o b:List Nat}{x i c s:Nat}(hk:i+b.length < o.length)(hz:o.getD (i+b.length) 0=0)
  (h:u7 B o+B ^ (i+b.length) * c=s+B ^ i * (x * u7 B (b.take b.length))) :
  u7 B (o.set (i+b.length) c)=s+B ^ i * (x * u7 B b):=by
 have h1:=Fa B o (i+b.length) c hk;rw[hz]at h1;rw[List.take_length]at h;omega
theorem LC{B:Nat}{a b:List Nat}{i s:Nat}(hs:s=u7 B (a.take i) * u7 B b) :
  s+B ^ i * (a.getD i 0 * u7 B b)=u7 B (a.take (i+1)) * u7 B b:=by
 rw[rV,hs];grind
theorem MH{B b r q A x:Nat}(h:A=q * b+r) :
  x+B * A=((x+B * r) / b+B * q) * b+(x+B * r) % b:=by
 have:=Nat.div_add_mod (x+B * r) b;subst h
 grind
theorem MI{B b r x:Nat}(hx:x < B)(hr:r < b):(x+B * r) / b < B:=by
 apply Nat.div_lt_of_lt_mul;have:B * (r+1)≤B * b:=Nat.mul_le_mul_left B hr;rw[Nat.mul_comm b B];rw[Nat.mul_add]at this;omega
theorem aA{B a b:Nat}(hB:2≤B)(h:b≤a):(limbs B b).length≤(limbs B a).length:=by
 apply vw hB;have:=iK (B:=B) J (K7 hB a);rw[G7 hB]at this;omega
theorem zL{B a b:Nat}(hB:2≤B)(h:(limbs B a).length < (limbs B b).length):a < b:=by
 have h1:=aA (B:=B) (a:=a) (b:=b) hB;rcases Nat.lt_or_ge a b with h2 | h2
 ·exact h2
 ·have:=h1 h2;omega
theorem zQ{B:Nat}{a b:List Nat}{i:Nat}(ha:Small B a)(hB:2≤B)(hla:i < a.length)(hl:a.length=b.length)
  (he:a.drop (i+1)=b.drop (i+1)) (hlt:a.getD i 0 < b.getD i 0):u7 B a < u7 B b:=by
 have e1:u7 B a=u7 B (a.take i)+B ^ i * u7 B (a.drop i):=by
  have:=vC B (a.take i) (a.drop i)
  rwa [List.take_append_drop,List.length_take,Nat.min_eq_left J]at this
 have e2:u7 B b=u7 B (b.take i)+B ^ i * u7 B (b.drop i):=by
  have:=vC B (b.take i) (b.drop i)
  rwa [List.take_append_drop,List.length_take,Nat.min_eq_left J]at this
 rw[e1,e2,nD B a i hla,nD B b i J,he];have h1:=iK (B:=B) J (ha.take i);rw[List.length_take,Nat.min_eq_left J]at h1;have h2:B ^ i * (a.getD i 0+1+B * u7 B (b.drop (i+1)))≤B ^ i * (b.getD i 0+B * u7 B (b.drop (i+1))):=Nat.mul_le_mul_left _ J;rw[Nat.mul_add,Nat.mul_add]at h2;rw[Nat.mul_add];omega
def nZ(b:Nat):bi:=List.replicate (9 - (decDigits b).length) 48++decDigits b
theorem Xa(k:Nat):M6 (List.replicate k 48)=0:=by
 induction k with
 |zero=>rfl
 |succ k ih =>
  rw[List.replicate_succ',kX,ih,nH];simp
theorem Xb(k:Nat):O4 (List.replicate k 48)=true:=by
 simp[O4,aD]
theorem WS{k u:Nat}(hk:1≤k)(h:u < 10 ^ k):nDigits u≤k:=by
 induction u using Nat.strongRecOn generalizing k with
 |_ u ih =>
  by_cases h10:u < 10
  ·rw[nDigits_small h10];exact hk
  ·rw[nDigits_big h10];obtain⟨m,rfl⟩:∃m,k=m+1:=⟨k - 1,J⟩;rw[Nat.pow_succ]at h;by_cases hm:m=0
   ·subst hm;simp at h;omega
   ·have:=ih (u / 10) J (k:=m) J J;omega
theorem ny{k u:Nat}(hk:1≤k)(h:u < 10 ^ k):(decDigits u).length≤k:=by
 rw[decDigits_length];exact WS hk h
theorem XR{b:Nat}(h:b < 1000000000):(nZ b).length=9:=by
 have:=ny (k:=9) (u:=b) J (by simpa using h);simp[nZ];omega
theorem Zb(b:Nat):M6 (nZ b)=b:=by
 rw[nZ,kX,Xa,rR];simp
theorem Zc(b:Nat):O4 (nZ b)=true:=Ep.2 ⟨Xb _,pI b⟩
theorem Xj{a b:Nat}(ha:a≠0)(hb:b < 1000000000):decDigits (b+1000000000 * a)=decDigits a++nZ b:=by
 obtain⟨c,r,e,hc⟩:=rU ha;have h:=(zP (decDigits a++nZ b) (Ep.2 ⟨pI a,Zc b⟩) ⟨c,r++nZ b,by rw[e];rfl,hc⟩).1;rw[kX,rR,Zb,XR hb]at h;rw[←h];congr 1;omega
def eu(l:bi):List Nat:=l.reverse.map fun c=>c.toNat - 48
theorem Xv(l:bi):u7 10 (eu l)=M6 l:=by
 induction l using Am with
 |nil=>rfl
 |snoc l c ih =>
  rw[kX,nH,←ih];simp only[eu,List.reverse_append,List.reverse_singleton,List.singleton_append,List.map_cons,u7,List.length_singleton,Nat.pow_one];omega
theorem Xk{l:bi}(h:O4 l=true):Small 10 (eu l):=by
 intro x hx;simp only[eu,List.mem_map,List.mem_reverse]at hx;obtain⟨c,hc,rfl⟩:=hx;have:=List.all_eq_true.1 h c hc;simp only[aD,Bool.and_eq_true,decide_eq_true_eq]at this;omega
theorem KZ{l:bi}(h:O4 l=true)(hh:∃c r,l=c::r∧c.toNat≠48):eu l=limbs 10 (M6 l):=by
 rw[←Xv l];refine Ej J _ (Xk h) fun hne=>?_
 obtain⟨c,r,rfl,hc⟩:=hh;have hd:=List.all_eq_true.1 h c I;simp only[aD,Bool.and_eq_true,decide_eq_true_eq]at hd;simp[eu];omega
theorem WR{n:Nat}(hn:n≠0):(limbs 10 n).reverse.map (fun d=>UInt8.ofNat (48+d))=decDigits n:=by
 induction n using Nat.strongRecOn with
 |_ n ih =>
  rw[rZ J hn,List.reverse_cons,List.map_append];by_cases h:n < 10
  ·rw[vz h,Nat.div_eq_of_lt h,pM,Nat.mod_eq_of_lt h];rfl
  ·rw[vB h,ih (n / 10) J J];rfl
theorem Xw{B:Nat}{D d e:bi}{x:List Nat}(h:M6 D=u7 B x+B ^ x.length * M6 (d++e))(he:10 ^ e.length=B∨d=[]) :
  M6 D=u7 B (x++[M6 e])+B ^ (x.length+1) * M6 d:=by
 rw[vM,h,kX,Nat.pow_succ];rcases he with he | rfl
 ·rw[he,Nat.mul_add,Nat.mul_comm (M6 d) B,←Nat.mul_assoc];omega
 ·simp[Nu]
theorem iF(s:bi):(mag s).length≤s.length:=by
 cases s with
 |nil=>simp[mag]
 |cons c r=>simp only[mag];split <;> simp
theorem Ec:∀(l:bi) (M acc:Nat),O4 l=true→acc * 10 ^ l.length+M6 l≤M→M < 18446744073709551616→parseUintM M acc l=.ok (acc * 10 ^ l.length+M6 l)
 |[],M,acc,_,_,_=>by simp[parseUintM,M6]
 |c::r,M,acc,h,hM,hlt=>by
  have hc:aD c=true:=by simp[O4]at h;exact h.1
  have hr:O4 r=true:=by simp[O4]at h ⊢;exact h.2
  simp only[aD,Bool.and_eq_true,decide_eq_true_eq]at hc;have e:M6 (c::r)=(c.toNat - 48) * 10 ^ r.length+M6 r:=by
   have:=kX [c] r
   rwa [nH]at this
  have e2:acc * 10 ^ (c::r).length+M6 (c::r)=(acc * 10+(c.toNat - 48)) * 10 ^ r.length+M6 r:=by
   rw[e,List.length_cons,Nat.pow_succ];grind
  have hp:1≤10 ^ r.length:=Nat.one_le_pow _ _ J;have hle:acc * 10+(c.toNat - 48)≤M:=by
   have:(acc * 10+(c.toNat - 48)) * 1≤(acc * 10+(c.toNat - 48)) * 10 ^ r.length:=Nat.mul_le_mul_left _ hp;omega
  rw[parseUintM,if_pos hc,if_neg J,if_neg J,Ec r M _ hr J hlt,e2]
theorem XT{l:bi}(h:O4 l=true)(h0:l≠[])(h9:l.length≤9):parseUintB 32 l=.ok (M6 l):=by
 have h1:=wF l h;have h2:10 ^ l.length≤10 ^ 9:=Nat.pow_le_pow_right J h9;rw[parseUintB,if_neg h0,Ec l _ 0 h (by simp;omega) O];simp
theorem Xc{s:bi}(h:M4 s=true)(h18:s.length≤18):parseIntB 64 s=.ok (r9 s):=by
 by_cases h0:s=[48]
 ·subst h0;decide
 ·obtain⟨hd,hh⟩:=(kZ h0).1 h;have hne:mag s≠[]:=by obtain⟨c,r,e,_⟩:=hh;rw[e];simp
  have hl:(mag s).length≤18:=Nat.le_trans (iF s) h18;have h1:=wF _ hd;have h2:10 ^ (mag s).length≤10 ^ 18:=Nat.pow_le_pow_right J hl;have hp:parseUintB 64 (mag s)=.ok (M6 (mag s)):=by
   rw[parseUintB,if_neg hne,Ec _ _ 0 hd (by simp;omega) O];simp
  have hv:r9 s=if neg s then -(M6 (mag s):Int) else M6 (mag s):=by unfold r9;rw[if_pos h]
  cases s with
  |nil=>simp[mag]at hne
  |cons c r =>
   have e45:(c.toNat=45)↔c=45:=⟨fun e=>UInt8.toNat_inj.1 (by simpa using e),fun e=>by subst e;rfl⟩;by_cases hc:c=45
   ·subst hc;rw[pO]at hp h1 h2;rw[hv];simp only[parseIntB,LJ,pO];rw[if_pos (Or.inr O),hp];simp only[if_true];rw[if_neg (by intro h;exact h.1 O),if_neg (by intro h;have:=h.2;omega),if_pos O]
   ·have dI:neg (c::r)=false:=by simp[neg,hc]
    have hm:=si dI;rw[hm]at hp h1 h2 hd;have b4v:c.toNat≠43:=by
     intro e;have:=List.all_eq_true.1 hd c I;simp[aD,e]at this
    have Ua:c.toNat≠45:=fun e=>hc (e45.1 e)
    rw[hv,dI,hm];simp only[parseIntB];rw[if_neg J,hp];simp only[Bool.false_eq_true,if_false];rw[if_neg (by intro h;have:=h.2;omega),if_neg (by intro h;exact Ua h.1),if_neg Ua]
end Go.Proofs.YtdkehabacmlegaaGreatDoor.j4
namespace Go.Proofs.YtdkehabacmlegaaGreatDoor
open Tryz
open Go.RowKit
structure Sl (w:World) (k:IntKind) (A:Option Addr) (n c:Nat) (l:List Nat):Prop where
 len:l.length=n
 cap:n≤c
 cells:0 < n→∃b o,A=some ⟨b,o,none⟩∧b < w.heap.size∧∀i,i < n→w.cell? ⟨b,o+i,none⟩=some (.int k (l.getD i 0:Nat))
section
variable {w w':World} {k:IntKind} {A:Option Addr} {n c:Nat} {l:List Nat}
theorem Sl.nil(w:World)(k:IntKind)(A:Option Addr)(c:Nat):Sl w k A 0 c []:=⟨rfl,Nat.zero_le _,fun h=>absurd h J⟩
theorem Sl.below(h:Sl w k A n c l)(hb:Below w.heap.size w w'):Sl w' k A n c l :=
 ⟨h.len,h.cap,fun hn=>by
  obtain⟨b,o,e,hlt,hc⟩:=h.cells hn;exact⟨b,o,e,Nat.lt_of_lt_of_le hlt hb.size,fun i hi=>(hb.cell (p:=⟨b,o+i,none⟩) hlt).trans (hc i hi)⟩⟩
theorem Sl.take(h:Sl w k A n c l){m:Nat}(hm:m≤n):Sl w k A m c (l.take m) :=
 ⟨by rw[List.length_take,h.len];omega,Nat.le_trans hm h.cap,fun h0=>by
  obtain⟨b,o,e,hlt,hc⟩:=h.cells J;refine⟨b,o,e,hlt,fun i hi=>?_⟩;rw[hc i J,List.getD_eq_getElem?_getD,List.getD_eq_getElem?_getD,List.getElem?_take_of_lt hi]⟩
theorem Sl.drew(h:Sl w k A n c l)(m:Nat):Sl (w.drewN m) k A n c l:=⟨h.len,h.cap,h.cells⟩
end
theorem below_drewN{B:Nat}{a w:World}(h:Below B a w)(n:Nat):Below B a (w.drewN n):=⟨h.os,h.tape,h.output,h.size,h.block⟩
theorem a0c(w:World)(a b:Nat):∃k,(w.drewN a).drewN b=w.drewN k:=⟨a+b,by rw[World.drewN_drewN]⟩
theorem Fb(w:World)(a b c:Nat):∃k,((w.drewN a).drewN b).drewN c=w.drewN k:=⟨a+b+c,by rw[World.drewN_drewN,World.drewN_drewN,Nat.add_assoc]⟩
def df(k:IntKind)(l:List Nat)(w:World)(e:Ending)(w':World):Prop:=∃A n c,e=.returned (.slice A n c)∧Sl w' k A n c l∧Below w.heap.size w w'∧∀b o,A=some ⟨b,o,none⟩→w.heap.size≤b
theorem LM(l:List Nat):l.take (j4.R3 l).length=j4.R3 l:=by
 induction l using j4.Am with
 |nil=>rfl
 |snoc l c ih =>
  by_cases hc:c=0
  ·subst hc;rw[j4.Eb,List.take_append_of_le_length,ih];have:=congrArg List.length ih;rw[List.length_take]at this;omega
  ·rw[j4.Ex hc,List.take_length]
theorem rP(l:List Nat):(j4.R3 l).length≤l.length:=by
 have:=congrArg List.length (LM l);rw[List.length_take]at this;omega
theorem LP{l:List Nat}{m:Nat}(h0:0 < m)(hm:m≤l.length)(hz:l.getD (m - 1) 0=0):j4.R3 (l.take (m - 1))=j4.R3 (l.take m):=by
 obtain⟨k,rfl⟩:∃k,m=k+1:=⟨m - 1,J⟩;rw[Nat.add_sub_cancel]at hz ⊢
 rw[List.take_succ_eq_append_getElem J];rw[List.getD_eq_getElem?_getD,List.getElem?_eq_getElem J]at hz;simp only[Option.getD_some]at hz;rw[hz,j4.Eb]
theorem LQ{l:List Nat}{m:Nat}(h0:0 < m)(hm:m≤l.length)(hz:l.getD (m - 1) 0≠0):j4.R3 (l.take m)=l.take m:=by
 obtain⟨k,rfl⟩:∃k,m=k+1:=⟨m - 1,J⟩;rw[Nat.add_sub_cancel]at hz;rw[List.take_succ_eq_append_getElem J];rw[List.getD_eq_getElem?_getD,List.getElem?_eq_getElem J]at hz;exact j4.Ex hz _
def sliceLen:Value→Nat
 |.slice _ m _=>m
 |_=>0
theorem nI(A:Option Addr)(n c:Nat)(l:List Nat)(w:World)(h:Sl w .u32 A n c l)(hn:n≤1000000000) :
  Calls prog 279 #[.slice A n c] w fun e w'=>e=.returned (.slice A (j4.R3 l).length c)∧w=w':=by
 have hlen:=h.len;have hcap:=h.cap
 go_enter func279,ntmps279
 go_wp2
 go_loop [0] (fun v=>∃m:Nat,v=.slice A m c∧m≤n∧j4.R3 (l.take m)=j4.R3 l) (fun v=>sliceLen v)
 case atStart=>exact⟨n,rfl,Nat.le_refl _,by rw[List.take_of_length_le J]⟩
 case round =>
  obtain⟨m,rfl,hm,ht⟩:=hrel;have HT:=Lib.hid ht;clear ht;by_cases h0:0 < m
  ·obtain⟨b,o,rfl,hb,hc⟩:=h.cells J;have hcm:=hc (m - 1) J;clear hc;go_wp2
   ·have hz:l.getD (m - 1) 0=0:=by simpa using ‹((l[m - 1]?.getD 0:Nat) == (0:Int))=true›
    exact⟨⟨m - 1,rfl,J,by rw[LP h0 J hz];exact HT.out⟩,by simp only[sliceLen];omega⟩
   ·have hz:l.getD (m - 1) 0≠0:=by simpa using ‹((l[m - 1]?.getD 0:Nat) == (0:Int))=false›
    go_ret;refine⟨?_,rfl⟩;have e:(j4.R3 l).length=m:=by
     rw[←HT.out,LQ h0 J hz,List.length_take];omega
    rw[e];rfl
  ·go_wp2;go_ret;refine⟨?_,rfl⟩;have e:(j4.R3 l).length=m:=by
    rw[←HT.out,show m=0 by omega];rfl
   rw[e];rfl
theorem Sl.trimmed{w:World}{k:IntKind}{A:Option Addr}{n c:Nat}{l:List Nat}(h:Sl w k A n c l){B:Nat}(hB:2≤B)(hs:j4.Small B l) :
  Sl w k A (j4.R3 l).length c (j4.limbs B (j4.u7 B l)):=by
 have h1:=h.take (m:=(j4.R3 l).length) (by rw[←h.len];exact rP l);rw[LM]at h1;rw[←j4.XQ hB l hs];exact h1
def cu(a b:Nat):Int:=if a < b then -1 else if b < a then 1 else 0
theorem jT{a b:Nat}(h:a < b):cu a b=-1:=by simp[cu,h]
theorem jU{a b:Nat}(h:b < a):cu a b=1:=by simp[cu,h];omega
theorem nO(a:Nat):cu a a=0:=by simp[cu]
theorem drop_pred{x y:List Nat}{k:Nat}(h0:0 < k)(hk:k≤x.length)(hl:x.length=y.length)(hd:x.drop k=y.drop k)(he:x.getD (k - 1) 0=y.getD (k - 1) 0) :
  x.drop (k - 1)=y.drop (k - 1):=by
 obtain⟨m,rfl⟩:∃m,k=m+1:=⟨k - 1,J⟩;rw[Nat.add_sub_cancel]at he ⊢
 rw[List.drop_eq_getElem_cons (l:=x) (i:=m) J,List.drop_eq_getElem_cons (l:=y) (i:=m) J,hd];rw[List.getD_eq_getElem?_getD,List.getD_eq_getElem?_getD,List.getElem?_eq_getElem J,List.getElem?_eq_getElem J]at he;simp only[Option.getD_some]at he;rw[he]
def oC(a b:Nat)(w:World)(e:Ending)(w':World):Prop:=e=.returned (.int .i64 (cu a b))∧∃q,w'=w.drewN q
theorem Xx(B:Nat)(hB:2≤B)(A A':Option Addr)(n c c':Nat)(x y:List Nat)(w:World)(hx:Sl w .u32 A n c x)(hy:Sl w .u32 A' n c' y)(hn:n≤1000000000)
  (hsx:j4.Small B x) (hsy:j4.Small B y) :
  Calls prog 276 #[.slice A n c,.slice A' n c'] w (oC (j4.u7 B x) (j4.u7 B y) w):=by
 have hlx:=hx.len;have gq:=hy.len;have HX:=Lib.hid hlx;have HY:=Lib.hid gq;clear hlx gq
 go_enter func276,ntmps276
 go_wp2
 go_loopw [5] (fun i wr=>∃k q:Nat,k≤n∧i=.int .i64 ((k:Int) - 1)∧Hid (x.drop k=y.drop k)∧wr=w.drewN q) (fun i _=>(intOf i+1).toNat)
 case atStart=>exact⟨n,0,Nat.le_refl _,rfl,(by rw[List.drop_of_length_le (by rw[HX.out];exact Nat.le_refl _),List.drop_of_length_le (by rw[HY.out];exact Nat.le_refl _)]:x.drop n=y.drop n),rfl⟩
 case round =>
  obtain⟨k,q,hk,rfl,HD,rfl⟩:=hrel;by_cases h0:0 < k
  ·obtain⟨b,o,rfl,hb,hc⟩:=hx.cells J;obtain⟨b',o',rfl,hb',hc'⟩:=hy.cells J;have hcm:=hc (k - 1) J;have hcm':=hc' (k - 1) J;clear hc hc' hb hb';have hi1:(0:Int)≤(k:Int) - 1:=J;have hi2:(k:Int) - 1 < n:=J;have hi3:((k:Int) - 1).toNat=k - 1:=J;generalize hu:x.getD (k - 1) 0=u at hcm;generalize hv:y.getD (k - 1) 0=v at hcm';have HU:=Lib.hid hu;have HV:=Lib.hid hv;clear hu hv;rcases Nat.lt_trichotomy u v with hlt | heq | hgt
   ·have e1:((u:Int) != v)=true:=by rw[bne_iff_ne];omega
    have e2:decide ((u:Int) < v)=true:=by simp;omega
    go_wp2
    go_quiet (fail)
    go_wp2
    go_quiet (fail)
    go_wp2;go_ret;refine⟨?_,Fb _ _ _ _⟩;rw[jT (j4.zQ (i:=k - 1) hsx hB (by rw[HX.out];omega) (by rw[HX.out,HY.out]) (by rw[Nat.sub_add_cancel h0];exact HD.out) (by rw[HU.out,HV.out];exact hlt))];rfl
   ·have e1:((u:Int) != v)=false:=by rw[bne_eq_false_iff_eq];omega
    go_wp2
    go_quiet (fail)
    go_wp2
    go_roundw
    case rel=>exact⟨k - 1,_,J,by go_num,drop_pred h0 (by rw[HX.out];exact hk) (by rw[HX.out,HY.out]) HD.out (by rw[HU.out,HV.out,heq]),rfl⟩
    case measure=>simp only[intOf];omega
   ·have e1:((u:Int) != v)=true:=by rw[bne_iff_ne];omega
    have e2:decide ((u:Int) < v)=false:=by simp;omega
    go_wp2
    go_quiet (fail)
    go_wp2
    go_quiet (fail)
    go_wp2;go_ret;refine⟨?_,Fb _ _ _ _⟩;rw[jU (j4.zQ (i:=k - 1) hsy hB (by rw[HY.out];omega) (by rw[HX.out,HY.out]) (by rw[Nat.sub_add_cancel h0];exact HD.out.symm) (by rw[HU.out,HV.out];exact hgt))];rfl
  ·have hk0:k=0:=J;subst hk0;go_wp2;go_ret;refine⟨?_,_,rfl⟩;have e:x=y:=by simpa using HD.out
   rw[e,nO];rfl
theorem rX(B:Nat)(hB:2≤B)(A A':Option Addr)(n n' c c' a b:Nat)(w:World)(hx:Sl w .u32 A n c (j4.limbs B a))(hy:Sl w .u32 A' n' c' (j4.limbs B b))(hn:n≤1000000000)(hn':n'≤1000000000) :
  Calls prog 276 #[.slice A n c,.slice A' n' c'] w (oC a b w):=by
 rcases Nat.lt_trichotomy n n' with hlt | heq | hgt
 ·have e1:((n:Int) != n')=true:=by rw[bne_iff_ne];omega
  have hv:a < b:=j4.zL hB (by rw[hx.len,hy.len];exact hlt);have HV:=Lib.hid (jT hv);clear hv hx hy
  go_enter func276,ntmps276
  go_wp2;go_ret;refine⟨?_,0,rfl⟩;rw[HV.out];rfl
 ·subst heq;have:=Xx B hB A A' n c c' _ _ w hx hy hn (j4.K7 hB a) (j4.K7 hB b)
  rwa [j4.G7 hB,j4.G7 hB]at this
 ·have e1:((n:Int) != n')=true:=by rw[bne_iff_ne];omega
  have e2:decide (n < n')=false:=by simp;omega
  have hv:b < a:=j4.zL hB (by rw[hx.len,hy.len];exact hgt);have HV:=Lib.hid (jU hv);clear hv hx hy
  go_enter func276,ntmps276
  go_wp2;go_ret;refine⟨?_,0,rfl⟩;rw[HV.out];rfl
structure Own (w:World) (base:Nat) (E:TypeId) (k:IntKind) (A:Option Addr) (n c:Nat) (l:List Nat):Prop where
 own:w.ownsRow base E 1 (.slice A n c) n (l.map fun x=>Value.int k (x:Nat))
section
variable {w w':World} {base:Nat} {E:TypeId} {k:IntKind} {A:Option Addr} {n c:Nat} {l:List Nat}
theorem Own.len(h:Own w base E k A n c l):l.length=n:=by have:=h.own.1;simpa using this
theorem Own.nil(w:World)(base:Nat)(E:TypeId)(k:IntKind):Own w base E k none 0 0 []:=⟨World.ownsRow_nil w base E 1⟩
theorem Own.sl(h:Own w base E k A n c l):Sl w k A n c l:=by
 have hlen:=h.len;rcases h.own.2 with⟨hv,hn⟩ | ⟨g,cap,cur,hv,hbg,hg,hnc,hcm,hcs,ht⟩
 ·refine⟨hlen,J,fun h0=>J⟩
 ·simp only[Value.slice.injEq]at hv;obtain⟨rfl,_,rfl⟩:=hv;refine⟨hlen,hnc,fun _=>⟨g,0,rfl,?_,fun i hi=>?_⟩⟩
  ·rcases Nat.lt_or_ge g w.heap.size with hlt | hge
   ·exact hlt
   ·rw[Array.getElem?_eq_none hge]at hg;cases hg
  ·have e:cur[i]?=some (Value.int k (l.getD i 0:Nat)):=by
    have h1:(cur.toList.take (n * 1))[i]?=(l.map fun x=>Value.int k (x:Nat))[i]?:=by rw[ht]
    rw[List.getElem?_take_of_lt J,List.getElem?_map,List.getElem?_eq_getElem (l:=l) J]at h1;rw[List.getD_eq_getElem?_getD,List.getElem?_eq_getElem J];simpa using h1
   rw[Nat.zero_add];simp[World.cell?,hg,e]
theorem Own.at_(h:Own w base E k A n c l)(hn:0 < n):∃g,A=some ⟨g,0,none⟩∧base≤g∧g < w.heap.size∧(∀i,w.frozen? ⟨g,i,none⟩=false)∧∀i,i < n→w.cell? ⟨g,i,none⟩=some (.int k (l.getD i 0:Nat)):=by
 obtain⟨b,o,e,hb,hc⟩:=h.sl.cells hn;rcases h.own.2 with⟨hv,hn'⟩ | ⟨g,cap,cur,hv,hbg,hg,_⟩
 ·omega
 ·simp only[Value.slice.injEq]at hv;obtain⟨rfl,_,rfl⟩:=hv;injection e with e
  injection e with e1 e2
  subst e1 e2;exact⟨g,rfl,hbg,hb,fun i=>by simp[World.frozen?,hg],fun i hi=>by have:=hc i hi;rwa [Nat.zero_add]at this⟩
theorem Own.keep(h:Own w base E k A n c l)(hk:∀g,A=some ⟨g,0,none⟩→w'.heap[g]?=w.heap[g]?):Own w' base E k A n c l:=by
 refine⟨h.own.1,?_⟩;rcases h.own.2 with hv | ⟨g,cap,cur,hv,hbg,hg,hr⟩
 ·exact .inl hv
 ·refine .inr ⟨g,cap,cur,hv,hbg,?_,hr⟩;simp only[Value.slice.injEq]at hv;rw[hk g hv.1];exact hg
theorem Own.lt(h:Own w base E k A n c l){g:Nat}(e:A=some ⟨g,0,none⟩):base≤g∧g < w.heap.size:=by
 rcases h.own.2 with⟨hv,_⟩ | ⟨g',cap,cur,hv,hbg,hg,_⟩
 ·simp only[Value.slice.injEq]at hv;rw[e]at hv;cases hv.1
 ·simp only[Value.slice.injEq]at hv;obtain⟨rfl,_,rfl⟩:=hv;injection e with e
  injection e with e1
  subst e1;refine⟨hbg,?_⟩;rcases Nat.lt_or_ge g' w.heap.size with hlt | hge
  ·exact hlt
  ·rw[Array.getElem?_eq_none hge]at hg;cases hg
theorem Own.below(h:Own w base E k A n c l)(hb:Below w.heap.size w w'):Own w' base E k A n c l :=
 h.keep fun g e=>hb.block g (h.lt e).2
theorem Own.alloc(h:Own w base E k A n c l)(o:Obj):Own (w.alloc o) base E k A n c l :=
 h.keep fun g e=>Below.heap_alloc w o g (h.lt e).2
theorem Own.drewN(h:Own w base E k A n c l)(m:Nat):Own (w.drewN m) base E k A n c l:=h.keep fun _ _=>rfl
theorem Own.set{g i y:Nat}(h:Own w base E k (some ⟨g,0,none⟩) n c l):Own (w.setCell ⟨g,i,none⟩ (.int k (y:Nat))) base E k (some ⟨g,0,none⟩) n c (l.set i y):=by
 have hlen:=h.len;refine⟨by simp[hlen],?_⟩;rcases h.own.2 with⟨hv,_⟩ | ⟨g',cap,cur,hv,hbg,hg,hnc,hcm,hcs,ht⟩
 ·simp only[Value.slice.injEq]at hv;cases hv.1
 ·simp only[Value.slice.injEq]at hv;obtain⟨e,_,rfl⟩:=hv;injection e with e
  injection e with e1
  subst e1;refine .inr ⟨g,c,cur.setIfInBounds i (.int k (y:Nat)),rfl,hbg,?_,hnc,hcm,by simpa using hcs,?_⟩
  ·simp[World.setCell,Array.getElem?_modify,hg]
  ·rw[Array.toList_setIfInBounds,List.take_set,ht,List.map_set]
end
theorem Own.cellAt{w:World}{base:Nat}{E:TypeId}{k:IntKind}{g n c i:Nat}{l:List Nat}(h:Own w base E k (some ⟨g,0,none⟩) n c l)(hi:i < n) :
  w.cell? ⟨g,i,none⟩=some (.int k (l.getD i 0:Nat))∧w.frozen? ⟨g,i,none⟩=false∧base≤g∧g < w.heap.size:=by
 obtain⟨g',e,h1,h2,h3,h4⟩:=h.at_ J;injection e with e
 injection e with e1
 subst e1;exact⟨h4 i hi,h3 i,h1,h2⟩
theorem Own.setInt{w:World}{base:Nat}{E:TypeId}{k:IntKind}{g n c i y:Nat}{l l':List Nat}{d:Int}(h:Own w base E k (some ⟨g,0,none⟩) n c l)(hd:d=(y:Int))(hl:l.set i y=l') :
  Own (w.setCell ⟨g,i,none⟩ (.int k d)) base E k (some ⟨g,0,none⟩) n c l':=by
 subst hd hl;exact h.set
theorem Own.fresh{w:World}{base:Nat}{E:TypeId}{k:IntKind}{A:Option Addr}{n c:Nat}{l:List Nat}(h:Own w base E k A n c l):∀b o,A=some ⟨b,o,none⟩→base≤b:=by
 rintro b o rfl;rcases h.own.2 with⟨hv,_⟩ | ⟨g,cap,cur,hv,hbg,_⟩
 ·simp only[Value.slice.injEq]at hv;cases hv.1
 ·simp only[Value.slice.injEq]at hv;obtain⟨e,_⟩:=hv;injection e with e
  injection e with e1
  subst e1;exact hbg
theorem zR(o:List Nat)(n k y:Nat)(hk:k < n)(ho:o.length=k):(o++List.replicate (n - k) 0).set k y=(o++[y])++List.replicate (n - (k+1)) 0:=by
 subst ho;rw[List.set_append_right _ _ (Nat.le_refl _),Nat.sub_self,show n - o.length=(n - (o.length+1))+1 by omega,List.replicate_succ]
 simp
theorem bV{P:Program}{w0 W:World}{ops:Array Oper}{rest:List Oper}{o:Oper}{a:Act}{Q:Exit→Act→World→Prop}(hgd:o.guard=none)(s x:Operand)(t:TypeId)
  (ho:o.op=.call { callee:=.builtin .append,args:=#[s,x],argTypes:=#[t,t] })
  (E:TypeId) (k:IntKind) (bytes:Nat) (ht:P.underlying t=some (.slice E)) (hinfo:(P.info? E).map (fun i=>(i.zero,i.size,i.bytes))=some (some (.int k 0),1,bytes)) (hbytes:bytes≤8)
  (A:Option Addr) (n c:Nat) (l:List Nat) (hs:a.eval s=.slice A n c) (hown:Own W w0.heap.size E k A n c l)
  (d:Int) (y:Nat) (hd:d=(y:Int)) (hx:a.eval x=.slice (some ⟨W.heap.size,0,none⟩) 1 1) (hn:n≤1000000000000) (hB:Below w0.heap.size w0 W)
  (h:∀A' c' w',Own w' w0.heap.size E k A' (n+1) c' (l++[y])→Below w0.heap.size w0 w'→(∀g,g < W.heap.size→A≠some ⟨g,0,none⟩→w'.heap[g]?=W.heap[g]?)→W.heap.size≤w'.heap.size→(A'=A∨A'=some ⟨W.heap.size+1,0,none⟩) →
   wpList P ops Q rest (a.put o.dst (.slice A' (n+1) c')) w') :
  wpList P ops Q (o::rest) a (W.alloc (.cells #[.int k d] E)):=by
 subst hd;obtain⟨i0,hi0,hz0,hz1,hz2⟩:=info_parts hinfo;refine wpList_append_own_at (P:=P) _ hgd s x t ho w0.heap.size E i0 (.int k 0) 1 bytes ht hi0 hz0 hz1 hz2 rfl J _ n _ hs (hown.alloc _).own ⟨W.heap.size,0,none⟩ 1 1 [.int k (y:Int)] hx rfl
  (cell_one_new _ _ _) (by simp[Value.oneCell']) (by unfold maxLen;omega) (by
   have:(n+1) * bytes≤1000000000001 * 8:=Nat.mul_le_mul J hbytes;omega) (by have:=hB.size;simp;omega) ?_
 intro v' w' hown' hg _ hat;have hlt:∀g,A=some ⟨g,0,none⟩→w0.heap.size≤g:=fun g e=>(hown.lt e).1
 have hown2:w'.ownsRow w0.heap.size E 1 v' (n+1) ((l++[y]).map fun x=>Value.int k (x:Nat)):=by simpa using hown'
 obtain⟨A',c',rfl⟩:∃A' c',v'=.slice A' (n+1) c':=by
  rcases hown'.2 with⟨_,h0⟩ | ⟨g,cap,cur,rfl,_⟩
  ·omega
  ·exact⟨_,_,rfl⟩
 have hAn:A=none∨∃g,A=some ⟨g,0,none⟩:=by
  rcases hown.own.2 with⟨hv,_⟩ | ⟨g,cap,cur,hv,_⟩
  ·simp only[Value.slice.injEq]at hv;exact .inl hv.1
  ·simp only[Value.slice.injEq]at hv;exact .inr ⟨g,hv.1⟩
 have hblk:∀g,g < W.heap.size→A≠some ⟨g,0,none⟩→w'.heap[g]?=W.heap[g]?:=fun g hgl hne =>
  (hg.block g (by simp;omega) (fun e=>by
   rcases hAn with rfl | ⟨g',rfl⟩
   ·simp[Value.ownBlock]at e
   ·simp[Value.ownBlock]at e;subst e;exact hne rfl)).trans (Below.heap_alloc W _ g hgl)
 have hsz:W.heap.size≤w'.heap.size:=by have:=hg.size;simp at this;omega
 refine h A' c' w' ⟨hown2⟩ ⟨hg.os.trans hB.os,hg.tape.trans hB.tape,hg.output.trans hB.output,Nat.le_trans hB.size hsz,fun i hi=>?_⟩ hblk hsz ?_
 ·exact (hblk i (Nat.lt_of_lt_of_le hi hB.size) (fun e=>by have:=hlt i e;omega)).trans (hB.block i hi)
 ·rcases hown'.2 with⟨_,h0⟩ | ⟨g,cap,cur,hv,_⟩
  ·omega
  ·simp only[Value.slice.injEq]at hv;obtain⟨rfl,_,rfl⟩:=hv;rcases hat with e | e
   ·rcases hAn with rfl | ⟨g',rfl⟩
    ·simp[Value.ownBlock]at e
    ·simp[Value.ownBlock]at e;subst e;exact .inl rfl
   ·simp[Value.ownBlock]at e;subst e;exact .inr rfl
theorem a0d(k:IntKind)(n:Nat):(madeCells (Value.int k 0).cells (n * 1)).toList=(List.replicate n 0).map fun x=>Value.int k (x:Nat):=by
 simp only[madeCells,Value.cells,Nat.mul_one];apply List.ext_getElem
 ·simp
 ·intro i h1 h2;simp[Nat.mod_one]
theorem vN{P:Program}{w0 W:World}{ops:Array Oper}{rest:List Oper}{o:Oper}{a:Act}{Q:Exit→Act→World→Prop}(hgd:o.guard=none)(s x:Operand)(t:TypeId)(ho:o.op=Op.makeSlice t s x)
  (E:TypeId) (k:IntKind) (bytes:Nat) (ht:P.underlying t=some (.slice E)) (hinfo:(P.info? E).map (fun i=>(i.zero,i.size,i.bytes))=some (some (.int k 0),1,bytes)) (hbytes:bytes≤8)
  (kl kc:IntKind) (L C:Int) (n:Nat) (hs:a.eval s=.int kl L) (hx:a.eval x=.int kc C) (hL:L=(n:Int)) (hC:C=(n:Int)) (hn:n≤1000000000000) (hB:Below w0.heap.size w0 W)
  (h:∀w',Own w' w0.heap.size E k (some ⟨W.heap.size,0,none⟩) n n (List.replicate n 0)→Below w0.heap.size w0 w'→Below W.heap.size W w'→W.heap.size < w'.heap.size→wpList P ops Q rest (a.put o.dst (.slice (some ⟨W.heap.size,0,none⟩) n n)) w') :
  wpList P ops Q (o::rest) a W:=by
 obtain⟨i0,hi0,hz0,hz1,hz2⟩:=info_parts hinfo;refine wpList_make_full (P:=P) W hgd s x t ho w0.heap.size E i0 (.int k 0) 1 ht hi0 hz0 hz1 kl kc L C n hs hx hL hC (by
  rw[hz2];have:bytes * n≤8 * 1000000000000:=Nat.mul_le_mul hbytes hn;omega) (by unfold maxLen;omega) hB.size ?_
 intro w' hown hg;rw[a0d]at hown;have hb:Below W.heap.size W w':=⟨hg.os,hg.tape,hg.output,hg.size,fun i hi=>hg.block i hi I⟩;have hown':Own w' w0.heap.size E k (some ⟨W.heap.size,0,none⟩) n n (List.replicate n 0):=⟨hown⟩;exact h w' hown' (hB.trans (hb.mono hB.size)) hb (hown'.lt rfl).2
theorem LU{P:Program}{w0 W:World}{ops:Array Oper}{rest:List Oper}{o:Oper}{a:Act}{Q:Exit→Act→World→Prop}(hgd:o.guard=none)(s x:Operand)(t:TypeId)(ho:o.op=Op.makeSlice t s x)
  (E:TypeId) (k:IntKind) (bytes:Nat) (ht:P.underlying t=some (.slice E)) (hinfo:(P.info? E).map (fun i=>(i.zero,i.size,i.bytes))=some (some (.int k 0),1,bytes)) (hbytes:bytes≤8)
  (kl kc:IntKind) (C:Int) (n:Nat) (hs:a.eval s=.int kl 0) (hx:a.eval x=.int kc C) (hC:C=(n:Int)) (hn:n≤1000000000000) (hB:Below w0.heap.size w0 W)
  (h:∀w',Own w' w0.heap.size E k (some ⟨W.heap.size,0,none⟩) 0 n []→Below w0.heap.size w0 w'→Below W.heap.size W w'→W.heap.size < w'.heap.size→wpList P ops Q rest (a.put o.dst (.slice (some ⟨W.heap.size,0,none⟩) 0 n)) w') :
  wpList P ops Q (o::rest) a W:=by
 obtain⟨i0,hi0,hz0,hz1,hz2⟩:=info_parts hinfo;refine wpList_make_own (P:=P) W hgd s x t ho w0.heap.size E i0 (.int k 0) 1 ht hi0 hz0 hz1 kl kc C n hs hx hC (by
  rw[hz2];have:bytes * n≤8 * 1000000000000:=Nat.mul_le_mul hbytes hn;omega) (by unfold maxLen;omega) hB.size ?_
 intro w' hown hg;have hb:Below W.heap.size W w':=⟨hg.os,hg.tape,hg.output,hg.size,fun i hi=>hg.block i hi I⟩;have hown':Own w' w0.heap.size E k (some ⟨W.heap.size,0,none⟩) 0 n []:=⟨hown⟩;exact h w' hown' (hB.trans (hb.mono hB.size)) hb (hown'.lt rfl).2
theorem gH:(prog.info? 268).map (fun i=>(i.zero,i.size,i.bytes))=some (some (.int .u32 0),1,4):=by kernel_rfl
theorem getD_lt{B:Nat}{l:List Nat}(hs:j4.Small B l)(hB:1≤B)(k:Nat):l.getD k 0 < B:=hs.getD hB k
theorem a2C(A A':Option Addr)(n n' c c':Nat)(x y:List Nat)(w:World)(hx:Sl w .u32 A n c x)(hy:Sl w .u32 A' n' c' y)(hn:n≤100000000)(hn':n'≤100000000)
  (hsx:j4.Small 1000000000 x) (hsy:j4.Small 1000000000 y) (hlt:¬n < n') :
  Calls prog 266 #[.slice A n c,.slice A' n' c'] w (df .u32 (j4.limbs 1000000000 (j4.u7 1000000000 x+j4.u7 1000000000 y)) w):=by
 go_enter func266,ntmps266
 go_wp2_with (at_make;refine LU (w0:=w) rfl _ _ _ rfl 268 .u32 4 Tryz.underlying277 gH J _ _ _ (n+1) rfl rfl J J (Below.refl _ _) ?_;intro w1 hown1 hb1 _ _)
 go_loopw [5,6,22] (fun out cr ix wr=>∃(k:Nat) (A2:Option Addr) (c2:Nat) (o:List Nat) (cy:Nat),k≤n∧ix=.int .i64 k∧out=.slice A2 k c2∧cr=.int .u32 cy∧cy≤1∧Own wr w.heap.size 268 .u32 A2 k c2 o∧j4.Small 1000000000 o∧Hid (j4.u7 1000000000 o+1000000000 ^ k * cy=j4.u7 1000000000 (x.take k)+j4.u7 1000000000 (y.take k))∧Below w.heap.size w wr) (fun _ _ ix _=>n - (intOf ix).toNat)
 case atStart=>exact⟨0,_,_,[],0,Nat.zero_le _,rfl,rfl,rfl,J,hown1,j4.Small.nil,(by simp[j4.u7]:j4.u7 1000000000 []+1000000000 ^ 0 * 0=j4.u7 1000000000 (x.take 0)+j4.u7 1000000000 (y.take 0)),hb1⟩
 case round =>
  obtain⟨k,A2,c2,o,cy,hk,rfl,rfl,rfl,hcy,hown,hso,HV,hb⟩:=hrel;have HO:=Lib.hid hown.len;by_cases hkn:k < n
  ·obtain⟨b,off,rfl,_,hcx⟩:=(hx.below hb).cells J;have Z5:=hcx k hkn;clear hcx;have hu:=getD_lt (l:=x) hsx J k;by_cases gu:k < n'
   ·obtain⟨b',off',rfl,_,bA⟩:=(hy.below hb).cells J;have hcv:=bA k gu;clear bA;have hv:=getD_lt (l:=y) hsy J k;have HR:=Lib.hid (j4.nA (a:=x) (b:=y) HO.out HV.out rfl);generalize x.getD k 0=u at Z5 hu HR;generalize y.getD k 0=v at hcv hv HR
    go_wp2_with (at_builtin;refine bV (w0:=w) rfl _ _ _ rfl 268 .u32 4 Tryz.underlying277 gH J _ _ _ o rfl hown _ ((u+cy+v) % 1000000000) J rfl J hb ?_;intro A3 c3 w2 hown2 hb2 _ _ _)
    go_roundw
    case rel=>exact⟨k+1,A3,c3,o++[(u+cy+v) % 1000000000],(u+cy+v) / 1000000000,J,by go_num,rfl,by go_num,J,hown2,hso.append (j4.Small.cons J j4.Small.nil),HR.out,hb2⟩
    case measure=>simp only[intOf];omega
   ·have hv:y.getD k 0=0:=by
     have:=hy.len;rw[List.getD_eq_getElem?_getD,List.getElem?_eq_none J];rfl
    have HR:=Lib.hid (j4.nA (a:=x) (b:=y) (n:=x.getD k 0+cy) HO.out HV.out J);clear hv;generalize x.getD k 0=u at Z5 hu HR
    go_wp2_with (at_builtin;refine bV (w0:=w) rfl _ _ _ rfl 268 .u32 4 Tryz.underlying277 gH J _ _ _ o rfl hown _ ((u+cy) % 1000000000) J rfl J hb ?_;intro A3 c3 w2 hown2 hb2 _ _ _)
    go_roundw
    case rel=>exact⟨k+1,A3,c3,o++[(u+cy) % 1000000000],(u+cy) / 1000000000,J,by go_num,rfl,by go_num,J,hown2,hso.append (j4.Small.cons J j4.Small.nil),HR.out,hb2⟩
    case measure=>simp only[intOf];omega
  ·have hkk:k=n:=J;subst hkk;have HF:Hid (j4.u7 1000000000 (o++[cy])=j4.u7 1000000000 x+j4.u7 1000000000 y):=by
    have h:=HV.out;rw[List.take_of_length_le (by rw[hx.len];omega),List.take_of_length_le (by rw[hy.len];omega)]at h;rw[j4.vM,HO.out];show _=_;omega
   go_wp2_with (at_builtin;refine bV (w0:=w) rfl _ _ _ rfl 268 .u32 4 Tryz.underlying277 gH J _ _ _ o rfl hown _ cy rfl rfl J hb ?_;intro A3 c3 w2 hown2 hb2 _ _ _)
   refine (nI _ _ _ _ _ hown2.sl J).mono ?_;rintro e w' ⟨rfl,rfl⟩;go_wp2;go_ret;refine⟨_,_,_,rfl,?_,hb2,hown2.fresh⟩;have:=hown2.sl.trimmed (B:=1000000000) J (hso.append (j4.Small.cons J j4.Small.nil));rw[HF.out]at this;exact this
theorem a2D(A A':Option Addr)(n n' c c':Nat)(x y:List Nat)(w:World)(hx:Sl w .u32 A n c x)(hy:Sl w .u32 A' n' c' y)(hn:n≤100000000)(hn':n'≤100000000)
  (hsx:j4.Small 1000000000 x) (hsy:j4.Small 1000000000 y) (hlt:n < n') :
  Calls prog 266 #[.slice A n c,.slice A' n' c'] w (df .u32 (j4.limbs 1000000000 (j4.u7 1000000000 x+j4.u7 1000000000 y)) w):=by
 go_enter func266,ntmps266
 go_wp2_with (at_make;refine LU (w0:=w) rfl _ _ _ rfl 268 .u32 4 Tryz.underlying277 gH J _ _ _ (n'+1) rfl rfl J J (Below.refl _ _) ?_;intro w1 hown1 hb1 _ _)
 go_loopw [5,6,22] (fun out cr ix wr=>∃(k:Nat) (A2:Option Addr) (c2:Nat) (o:List Nat) (cy:Nat),k≤n'∧ix=.int .i64 k∧out=.slice A2 k c2∧cr=.int .u32 cy∧cy≤1∧Own wr w.heap.size 268 .u32 A2 k c2 o∧j4.Small 1000000000 o∧Hid (j4.u7 1000000000 o+1000000000 ^ k * cy=j4.u7 1000000000 (y.take k)+j4.u7 1000000000 (x.take k))∧Below w.heap.size w wr) (fun _ _ ix _=>n' - (intOf ix).toNat)
 case atStart=>exact⟨0,_,_,[],0,Nat.zero_le _,rfl,rfl,rfl,J,hown1,j4.Small.nil,(by simp[j4.u7]:j4.u7 1000000000 []+1000000000 ^ 0 * 0=j4.u7 1000000000 (y.take 0)+j4.u7 1000000000 (x.take 0)),hb1⟩
 case round =>
  obtain⟨k,A2,c2,o,cy,hk,rfl,rfl,rfl,hcy,hown,hso,HV,hb⟩:=hrel;have HO:=Lib.hid hown.len;by_cases hkn:k < n'
  ·obtain⟨b,off,rfl,_,hcx⟩:=(hy.below hb).cells J;have Z5:=hcx k hkn;clear hcx;have hu:=getD_lt (l:=y) hsy J k;by_cases gu:k < n
   ·obtain⟨b',off',rfl,_,bA⟩:=(hx.below hb).cells J;have hcv:=bA k gu;clear bA;have hv:=getD_lt (l:=x) hsx J k;have HR:=Lib.hid (j4.nA (a:=y) (b:=x) HO.out HV.out rfl);generalize y.getD k 0=u at Z5 hu HR;generalize x.getD k 0=v at hcv hv HR
    go_wp2_with (at_builtin;refine bV (w0:=w) rfl _ _ _ rfl 268 .u32 4 Tryz.underlying277 gH J _ _ _ o rfl hown _ ((u+cy+v) % 1000000000) J rfl J hb ?_;intro A3 c3 w2 hown2 hb2 _ _ _)
    go_roundw
    case rel=>exact⟨k+1,A3,c3,o++[(u+cy+v) % 1000000000],(u+cy+v) / 1000000000,J,by go_num,rfl,by go_num,J,hown2,hso.append (j4.Small.cons J j4.Small.nil),HR.out,hb2⟩
    case measure=>simp only[intOf];omega
   ·have hv:x.getD k 0=0:=by
     have:=hx.len;rw[List.getD_eq_getElem?_getD,List.getElem?_eq_none J];rfl
    have HR:=Lib.hid (j4.nA (a:=y) (b:=x) (n:=y.getD k 0+cy) HO.out HV.out J);clear hv;generalize y.getD k 0=u at Z5 hu HR
    go_wp2_with (at_builtin;refine bV (w0:=w) rfl _ _ _ rfl 268 .u32 4 Tryz.underlying277 gH J _ _ _ o rfl hown _ ((u+cy) % 1000000000) J rfl J hb ?_;intro A3 c3 w2 hown2 hb2 _ _ _)
    go_roundw
    case rel=>exact⟨k+1,A3,c3,o++[(u+cy) % 1000000000],(u+cy) / 1000000000,J,by go_num,rfl,by go_num,J,hown2,hso.append (j4.Small.cons J j4.Small.nil),HR.out,hb2⟩
    case measure=>simp only[intOf];omega
  ·have hkk:k=n':=J;subst hkk;have HF:Hid (j4.u7 1000000000 (o++[cy])=j4.u7 1000000000 x+j4.u7 1000000000 y):=by
    have h:=HV.out;rw[List.take_of_length_le (by rw[hy.len];omega),List.take_of_length_le (by rw[hx.len];omega)]at h;rw[j4.vM,HO.out];show _=_;omega
   go_wp2_with (at_builtin;refine bV (w0:=w) rfl _ _ _ rfl 268 .u32 4 Tryz.underlying277 gH J _ _ _ o rfl hown _ cy rfl rfl J hb ?_;intro A3 c3 w2 hown2 hb2 _ _ _)
   refine (nI _ _ _ _ _ hown2.sl J).mono ?_;rintro e w' ⟨rfl,rfl⟩;go_wp2;go_ret;refine⟨_,_,_,rfl,?_,hb2,hown2.fresh⟩;have:=hown2.sl.trimmed (B:=1000000000) J (hso.append (j4.Small.cons J j4.Small.nil));rw[HF.out]at this;exact this
theorem Nv(A A':Option Addr)(n n' c c':Nat)(x y:List Nat)(w:World)(hx:Sl w .u32 A n c x)(hy:Sl w .u32 A' n' c' y)(hn:n≤100000000)(hn':n'≤100000000)
  (hsx:j4.Small 1000000000 x) (hsy:j4.Small 1000000000 y) :
  Calls prog 266 #[.slice A n c,.slice A' n' c'] w (df .u32 (j4.limbs 1000000000 (j4.u7 1000000000 x+j4.u7 1000000000 y)) w):=by
 by_cases h:n < n'
 ·exact a2D A A' n n' c c' x y w hx hy hn hn' hsx hsy h
 ·exact a2C A A' n n' c c' x y w hx hy hn hn' hsx hsy h
theorem Af(A A':Option Addr)(n n' c c':Nat)(x y:List Nat)(w:World)(hx:Sl w .u32 A n c x)(hy:Sl w .u32 A' n' c' y)(hn:n≤100000000)(hnn:n'≤n)
  (hsx:j4.Small 1000000000 x) (hsy:j4.Small 1000000000 y) (hle:j4.u7 1000000000 y≤j4.u7 1000000000 x) :
  Calls prog 267 #[.slice A n c,.slice A' n' c'] w (df .u32 (j4.limbs 1000000000 (j4.u7 1000000000 x - j4.u7 1000000000 y)) w):=by
 go_enter func267,ntmps267
 go_wp2_with (at_make;refine vN (w0:=w) rfl _ _ _ rfl 268 .u32 4 Tryz.underlying277 gH J _ _ _ _ n rfl rfl J J J (Below.refl _ _) ?_;intro w1 hown1 hb1 _ _)
 go_loopw [6,14] (fun br ix wr=>∃(k:Nat) (o:List Nat) (bw:Nat),k≤n∧ix=.int .i64 k∧br=.int .i64 bw∧bw≤1∧Own wr w.heap.size 268 .u32 (some ⟨w.heap.size,0,none⟩) n n (o++List.replicate (n - k) 0)∧Hid (o.length=k)∧j4.Small 1000000000 o∧Hid (j4.u7 1000000000 (x.take k)+1000000000 ^ k * bw=j4.u7 1000000000 o+j4.u7 1000000000 (y.take k))∧Below w.heap.size w wr) (fun _ ix _=>n - (intOf ix).toNat)
 case atStart=>exact⟨0,[],0,Nat.zero_le _,rfl,rfl,J,hown1,(rfl:([]:List Nat).length=0),j4.Small.nil,(by simp[j4.u7]:j4.u7 1000000000 (x.take 0)+1000000000 ^ 0 * 0=j4.u7 1000000000 []+j4.u7 1000000000 (y.take 0)),hb1⟩
 case round =>
  obtain⟨k,o,bw,hk,rfl,rfl,hbw,hown,HO,hso,HV,hb⟩:=hrel;by_cases hkn:k < n
  ·obtain⟨b,off,rfl,_,hcx⟩:=(hx.below hb).cells J;have Z5:=hcx k hkn;clear hcx;have hu:=getD_lt (l:=x) hsx J k;obtain⟨hco,hfo,_,hgl⟩:=hown.cellAt hkn;generalize (o++List.replicate (n - k) 0).getD k 0=z at hco;by_cases gu:k < n'
   ·obtain⟨b',off',rfl,_,bA⟩:=(hy.below hb).cells J;have hcv:=bA k gu;clear bA;have hv:=getD_lt (l:=y) hsy J k;have HR:=fun d t=>Lib.hid (j4.Er (B:=1000000000) (a:=x) (b:=y) (d:=d) (n:=t) HO.out HV.out)
    generalize x.getD k 0=u at Z5 hu HR;generalize y.getD k 0=v at hcv hv HR;by_cases hneg:(u:Int) - bw - v < 0
    ·have HR1:=Lib.hid ((HR 1 (u+1000000000 - bw - v)).out J);clear HR;go_wp2
     go_roundw
     case rel=>exact⟨k+1,o++[u+1000000000 - bw - v],1,J,by go_num,rfl,J,hown.setInt J (zR o n k _ hkn HO.out),(by rw[List.length_append,HO.out];rfl:(o++[u+1000000000 - bw - v]).length=k+1),hso.append (j4.Small.cons J j4.Small.nil),HR1.out,hb.setCell (p:=⟨w.heap.size,k,none⟩) (Nat.le_refl _) _⟩
     case measure=>simp only[intOf];omega
    ·have HR1:=Lib.hid ((HR 0 (u - bw - v)).out J);clear HR;go_wp2
     go_roundw
     case rel=>exact⟨k+1,o++[u - bw - v],0,J,by go_num,rfl,J,hown.setInt J (zR o n k _ hkn HO.out),(by rw[List.length_append,HO.out];rfl:(o++[u - bw - v]).length=k+1),hso.append (j4.Small.cons J j4.Small.nil),HR1.out,hb.setCell (p:=⟨w.heap.size,k,none⟩) (Nat.le_refl _) _⟩
     case measure=>simp only[intOf];omega
   ·have hv:y.getD k 0=0:=by
     have:=hy.len;rw[List.getD_eq_getElem?_getD,List.getElem?_eq_none J];rfl
    have HR:=fun d t=>Lib.hid (j4.Er (B:=1000000000) (a:=x) (b:=y) (d:=d) (n:=t) HO.out HV.out)
    rw[hv]at HR;clear hv;generalize x.getD k 0=u at Z5 hu HR;by_cases hneg:(u:Int) - bw < 0
    ·have HR1:=Lib.hid ((HR 1 (u+1000000000 - bw)).out J);clear HR;go_wp2
     go_roundw
     case rel=>exact⟨k+1,o++[u+1000000000 - bw],1,J,by go_num,rfl,J,hown.setInt J (zR o n k _ hkn HO.out),(by rw[List.length_append,HO.out];rfl:(o++[u+1000000000 - bw]).length=k+1),hso.append (j4.Small.cons J j4.Small.nil),HR1.out,hb.setCell (p:=⟨w.heap.size,k,none⟩) (Nat.le_refl _) _⟩
     case measure=>simp only[intOf];omega
    ·have HR1:=Lib.hid ((HR 0 (u - bw)).out J);clear HR;go_wp2
     go_roundw
     case rel=>exact⟨k+1,o++[u - bw],0,J,by go_num,rfl,J,hown.setInt J (zR o n k _ hkn HO.out),(by rw[List.length_append,HO.out];rfl:(o++[u - bw]).length=k+1),hso.append (j4.Small.cons J j4.Small.nil),HR1.out,hb.setCell (p:=⟨w.heap.size,k,none⟩) (Nat.le_refl _) _⟩
     case measure=>simp only[intOf];omega
  ·have hkk:k=n:=J;subst hkk;have hfin:j4.u7 1000000000 o=j4.u7 1000000000 x - j4.u7 1000000000 y:=by
    have h:=HV.out;rw[List.take_of_length_le (by rw[hx.len];omega),List.take_of_length_le (by rw[hy.len];omega)]at h;have hlt:=j4.iK (B:=1000000000) J hso;rw[HO.out]at hlt;rcases Nat.eq_zero_or_pos bw with e | e
    ·subst e;omega
    ·obtain rfl:bw=1:=J;omega
   have HF:=Lib.hid hfin;clear hfin;have hsl:=hown.sl;rw[Nat.sub_self]at hsl;simp only[List.replicate_zero,List.append_nil]at hsl
   go_wp2_with fail
   refine (nI _ _ _ _ _ hsl J).mono ?_;rintro e w' ⟨rfl,rfl⟩;go_wp2;go_ret;refine⟨_,_,_,rfl,?_,hb,hown.fresh⟩;have:=hsl.trimmed (B:=1000000000) J hso;rw[HF.out]at this;exact this
theorem getD_set_ne(l:List Nat)(i j v:Nat)(h:i≠j):(l.set i v).getD j 0=l.getD j 0:=by
 rw[List.getD_eq_getElem?_getD,List.getD_eq_getElem?_getD,List.getElem?_set_ne h]
theorem Ed(n j:Nat):(List.replicate n 0).getD j 0=0:=by
 rw[List.getD_eq_getElem?_getD,List.getElem?_replicate];split <;> rfl
theorem KX(B n:Nat):j4.u7 B (List.replicate n 0)=0:=by
 induction n with
 |zero=>rfl
 |succ n ih=>rw[List.replicate_succ,j4.u7,ih];simp
theorem zM(B n:Nat)(hB:1≤B):j4.Small B (List.replicate n 0):=by
 intro x hx;rw[(List.mem_replicate.1 hx).2];omega
theorem Zd{u v:Nat}(hu:u < 1000000000)(hv:v < 1000000000):(0:Int)≤(u:Int) * v∧(u:Int) * v≤999999998000000001:=by
 have h:u * v≤999999999 * 999999999:=Nat.mul_le_mul J J;have e:((u * v:Nat):Int)=(u:Int) * v:=by rw[Int.natCast_mul]
 omega
theorem a0e{z u v c:Nat}:((z:Int)+(u:Int) * v+c) % 1000000000=(((z+u * v+c) % 1000000000:Nat):Int):=by
 rw[Int.natCast_emod,Int.natCast_add,Int.natCast_add,Int.natCast_mul];rfl
theorem a0f{z u v c:Nat}:((z:Int)+(u:Int) * v+c) / 1000000000=(((z+u * v+c) / 1000000000:Nat):Int):=by
 rw[Int.natCast_ediv,Int.natCast_add,Int.natCast_add,Int.natCast_mul];rfl
theorem EH(A A':Option Addr)(n n' c c':Nat)(x y:List Nat)(w:World)(hx:Sl w .u32 A n c x)(hy:Sl w .u32 A' n' c' y)(hn:n≤100000000)(hn':n'≤100000000)
  (hsx:j4.Small 1000000000 x) (hsy:j4.Small 1000000000 y) :
  Calls prog 259 #[.slice A n c,.slice A' n' c'] w (df .u32 (j4.limbs 1000000000 (j4.u7 1000000000 x * j4.u7 1000000000 y)) w):=by
 go_enter func259,ntmps259
 go_wp2_with (at_make;refine vN (w0:=w) rfl _ _ _ rfl 268 .u32 4 Tryz.underlying277 gH J _ _ _ _ (n+n') rfl rfl J J J (Below.refl _ _) ?_;intro w1 hown1 hb1 _ _)
 go_loopw [20] (fun ix wr=>∃(k:Nat) (L:List Nat),k≤n∧ix=.int .i64 k∧Own wr w.heap.size 268 .u32 (some ⟨w.heap.size,0,none⟩) (n+n') (n+n') L∧j4.Small 1000000000 L∧Hid (j4.u7 1000000000 L=j4.u7 1000000000 (x.take k) * j4.u7 1000000000 y)∧Hid (∀j,k+n'≤j→L.getD j 0=0)∧Below w.heap.size w wr) (fun ix _=>n - (intOf ix).toNat)
 case atStart=>exact⟨0,_,Nat.zero_le _,rfl,hown1,zM _ _ J,(by rw[KX,List.take_zero];simp[j4.u7]:j4.u7 1000000000 (List.replicate (n+n') 0)=j4.u7 1000000000 (x.take 0) * j4.u7 1000000000 y),(fun j _=>Ed _ j:∀j,0+n'≤j→(List.replicate (n+n') 0).getD j 0=0),hb1⟩
 case round =>
  obtain⟨k,L,hk,rfl,hown,hsL,HV,HZ,hb⟩:=hrel;obtain⟨wo,rfl⟩:∃wo:World,wo=wr:=⟨_,rfl⟩;by_cases hkn:k < n
  ·obtain⟨b,off,rfl,_,hcx⟩:=(hx.below hb).cells J;have Z5:=hcx k hkn;clear hcx;have hu:=getD_lt (l:=x) hsx J k;have HT:=Lib.hid (j4.LC (B:=1000000000) (a:=x) (b:=y) (i:=k) HV.out);generalize x.getD k 0=u at Z5 hu HT;go_wp2
   go_loopw [8,27] (fun cr jx wr=>∃(m cy:Nat) (M:List Nat),m≤n'∧jx=.int .i64 m∧cr=.int .u64 cy∧cy < 1000000000∧Own wr w.heap.size 268 .u32 (some ⟨w.heap.size,0,none⟩) (n+n') (n+n') M∧j4.Small 1000000000 M∧Hid (j4.u7 1000000000 M+1000000000 ^ (k+m) * cy=j4.u7 1000000000 L+1000000000 ^ k * (u * j4.u7 1000000000 (y.take m)))∧Hid (∀j,k+n'≤j→M.getD j 0=0)∧Below w.heap.size w wr) (fun _ jx _=>n' - (intOf jx).toNat)
   case atStart=>exact⟨0,0,L,Nat.zero_le _,rfl,rfl,J,hown,hsL,(by simp[j4.u7]:j4.u7 1000000000 L+1000000000 ^ (k+0) * 0=j4.u7 1000000000 L+1000000000 ^ k * (u * j4.u7 1000000000 (y.take 0))),HZ,hb⟩
   case round =>
    obtain⟨m,cy,M,hm,rfl,rfl,hcy,gN,oD,HM,ma,mf⟩:=hrel;by_cases Jw:m < n'
    ·obtain⟨b',off',rfl,_,bA⟩:=(hy.below mf).cells J;have hcv:=bA m Jw;clear bA;have hv:=getD_lt (l:=y) hsy J m;have hlM:=gN.len;obtain⟨hco,hfo,_,hgl⟩:=gN.cellAt (i:=k+m) J;have hz:=getD_lt (l:=M) oD J (k+m);have HR:=Lib.hid (j4.LB (B:=1000000000) (o:=M) (b:=y) (x:=u) (i:=k) (j:=m) J HM.out rfl rfl);clear hlM;generalize M.getD (k+m) 0=z at hco hz HR;generalize y.getD m 0=v at hcv hv HR;obtain⟨hp1,hp2⟩:=Zd hu hv;have hfit:=j4.LK (B:=1000000000) J hz hu hv hcy;go_wp2
     go_roundw
     case rel =>
      refine⟨m+1,(z+u * v+cy) / 1000000000,M.set (k+m) ((z+u * v+cy) % 1000000000),J,by go_num,?_,J,gN.setInt ?_ rfl,oD.set J,HR.out,(fun j hj=>by rw[getD_set_ne _ _ _ _ J];exact ma.out j hj:∀j,k+n'≤j→(M.set (k+m) ((z+u * v+cy) % 1000000000)).getD j 0=0),mf.setCell (p:=⟨w.heap.size,k+m,none⟩) (Nat.le_refl _) _⟩
      ·rw[a0f]
      ·rw[a0e]
     case measure=>simp only[intOf];omega
    ·have hmm:m=n':=J;subst hmm;obtain⟨hco,hfo,_,hgl⟩:=gN.cellAt (i:=k+m) J;have HR:Hid (j4.u7 1000000000 (M.set (k+m) cy)=j4.u7 1000000000 (x.take (k+1)) * j4.u7 1000000000 y):=by
      have gq:=hy.len;subst gq;exact (j4.MG (by rw[gN.len];omega) (ma.out _ (Nat.le_refl _)) HM.out).trans HT.out
     generalize M.getD (k+m) 0=z at hco;go_wp2
     go_roundw
     case rel=>exact⟨k+1,M.set (k+m) cy,J,by go_num,gN.setInt J rfl,oD.set hcy,HR.out,(fun j hj=>by rw[getD_set_ne _ _ _ _ J];exact ma.out j J:∀j,k+1+m≤j→(M.set (k+m) cy).getD j 0=0),mf.setCell (p:=⟨w.heap.size,k+m,none⟩) (Nat.le_refl _) _⟩
     case measure=>simp only[intOf];omega
  ·have hkk:k=n:=J;subst hkk;have hsl:=hown.sl
   go_wp2_with fail
   refine (nI _ _ _ _ _ hsl J).mono ?_;rintro e w' ⟨rfl,rfl⟩;go_wp2;go_ret;refine⟨_,_,_,rfl,?_,hb,hown.fresh⟩;have:=hsl.trimmed (B:=1000000000) J hsL;rw[HV.out,List.take_of_length_le (by rw[hx.len];omega)]at this;exact this
end Go.Proofs.YtdkehabacmlegaaGreatDoor
