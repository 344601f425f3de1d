/- Plain arithmetic of decimals and limbs: what the Go texts of chapter 1 compute, with no program in sight. -/
import Derived.Lib.ItoaMem
import Derived.Lib.ParseIntB
import Derived.Lib.AtoiAll
import Derived.Lib.Strings
import Derived.WalkKit
import Derived.WalkSpells
import Derived.Test.YthhknjlmjefklaaGreatDoorProg
import Derived.Deep.QuietTactic
import Derived.BigQuiet
import Derived.OwnWalk
import Derived.Test.YthhknjlmjefklaaGreatDoorShelf
import Derived.Lib.AppendStr
import Derived.Lib.Builder
import Derived.Lib.UnsafeStr
import Derived.Laws.Externs
import Derived.Deep.Draws
import Derived.WalkLawsBesides
import Derived.Lib.AtoiErrMem
import Derived.Lib.AppendIntMem
import Derived.Lib.Hide
import Derived.Maps.AppendAt
import Derived.Laws.MakeOwn
import Derived.Deep.Slices
import Derived.OpenShut
import Derived.Deep.RegionHeld3
import Derived.Deep.RegionLaw
import Derived.Deep.DeepCutAuto
namespace Go.Proofs.YthhknjlmjefklaaGreatDoor.Dec
open Go Go.Lib
def lval (B:Nat):List Nat→Nat
 | []=>0
 | x::r=>x+B * lval B r
def limbsF (B:Nat):Nat→Nat→List Nat
 | 0,_=>[]
 | f+1,n=>if n=0 then [] else n % B::limbsF B f (n / B)
def limbs (B n:Nat):List Nat:=limbsF B n n
def Small (B:Nat) (l:List Nat):Prop:=∀ x∈l,x < B
def trimZ (l:List Nat):List Nat:=(l.reverse.dropWhile (· == 0)).reverse
theorem limbsF_fuel (B : Nat) (hB : 2 ≤ B) : ∀ (f g n : Nat), n ≤ f → n ≤ g → limbsF B f n = limbsF B g n
  | 0, 0, _, _, _ => rfl
  | 0, g + 1, n, h, _ => by have : n = 0 := by omega
                            subst this; simp [limbsF]
  | f + 1, 0, n, _, h => by have : n = 0 := by omega
                            subst this; simp [limbsF]
  | f + 1, g + 1, n, h1, h2 => by
    by_cases hn : n = 0
    · subst hn; simp [limbsF]
    · have hd : n / B < n := Nat.div_lt_self (by omega) (by omega)
      simp only [limbsF, hn, if_false]
      rw [limbsF_fuel B hB f g (n / B) (by omega) (by omega)]
theorem limbs_zero (B:Nat):limbs B 0=[]:=rfl
theorem limbs_step {B n:Nat} (hB:2≤B) (hn:n≠0):limbs B n=n % B::limbs B (n / B):=by
 have hd:n / B < n:=Nat.div_lt_self (by omega) (by omega)
 obtain ⟨m,rfl⟩:∃ m,n=m+1:=⟨n - 1,by omega⟩
 unfold limbs
 rw [limbsF,if_neg hn,limbsF_fuel B hB m ((m+1) / B) _ (by omega) (Nat.le_refl _)]
theorem lval_limbs {B:Nat} (hB:2≤B) (n:Nat):lval B (limbs B n)=n:=by
 induction n using Nat.strongRecOn with
 | _ n ih =>
  by_cases hn:n=0
  ·subst hn;rfl
  ·rw [limbs_step hB hn,lval,ih (n / B) (Nat.div_lt_self (by omega) (by omega))]
   exact Nat.mod_add_div n B
theorem limbs_small {B:Nat} (hB:2≤B) (n:Nat):Small B (limbs B n):=by
 induction n using Nat.strongRecOn with
 | _ n ih =>
  by_cases hn:n=0
  ·subst hn;intro x hx;cases hx
  ·rw [limbs_step hB hn]
   intro x hx
   rcases List.mem_cons.1 hx with rfl | hx
   ·exact Nat.mod_lt _ (by omega)
   ·exact ih (n / B) (Nat.div_lt_self (by omega) (by omega)) x hx
theorem limbs_eq_nil {B n:Nat} (hB:2≤B):limbs B n=[]↔n=0:=by
 constructor
 ·intro h;rw [← lval_limbs hB n,h];rfl
 ·rintro rfl;rfl
theorem lval_append (B:Nat) (l r:List Nat):lval B (l++r)=lval B l+B ^ l.length * lval B r:=by
 induction l with
 | nil=>simp [lval]
 | cons x l ih =>
  simp only [List.cons_append,lval,ih,List.length_cons,Nat.pow_succ]
  rw [Nat.mul_add,Nat.mul_comm (B ^ l.length) B,Nat.mul_assoc]
  omega
theorem lval_lt {B:Nat} (hB:1≤B):∀ {l:List Nat},Small B l→lval B l < B ^ l.length
 | [],_=>by simp [lval]
 | x::r,h=>by
  have h1:x < B:=h x (by simp)
  have h2:=lval_lt hB (l:=r) (fun y hy=>h y (by simp [hy]))
  simp only [lval,List.length_cons,Nat.pow_succ]
  have:B * (lval B r+1)≤B * B ^ r.length:=Nat.mul_le_mul_left B h2
  rw [Nat.mul_add] at this
  rw [Nat.mul_comm (B ^ r.length) B]
  omega
theorem Small.cons {B x:Nat} {l:List Nat} (h:x < B) (hl:Small B l):Small B (x::l):=by
 intro y hy
 rcases List.mem_cons.1 hy with rfl | hy
 ·exact h
 ·exact hl y hy
theorem Small.append {B:Nat} {l r:List Nat} (hl:Small B l) (hr:Small B r):Small B (l++r):=by
 intro y hy
 rcases List.mem_append.1 hy with hy | hy
 ·exact hl y hy
 ·exact hr y hy
theorem Small.nil {B:Nat}:Small B []:=fun _ h=>by cases h
theorem Small.take {B:Nat} {l:List Nat} (h:Small B l) (k:Nat):Small B (l.take k):=fun x hx=>h x (List.mem_of_mem_take hx)
theorem Small.drop {B:Nat} {l:List Nat} (h:Small B l) (k:Nat):Small B (l.drop k):=fun x hx=>h x (List.mem_of_mem_drop hx)
theorem Small.getD {B:Nat} {l:List Nat} (hB:1≤B) (h:Small B l) (k:Nat):l.getD k 0 < B:=by
 by_cases hk:k < l.length
 ·rw [List.getD_eq_getElem?_getD,List.getElem?_eq_getElem hk];exact h _ (List.getElem_mem hk)
 ·rw [List.getD_eq_getElem?_getD,List.getElem?_eq_none (by omega)];simp;omega
theorem limbs_unique {B:Nat} (hB:2≤B):∀ (l:List Nat),Small B l→(∀ h:l≠[],l.getLast h≠0)→l=limbs B (lval B l)
 | [],_,_=>rfl
 | x::r,hs,hl=>by
  have hx:x < B:=hs x (by simp)
  have hr:Small B r:=fun y hy=>hs y (by simp [hy])
  have hrl:∀ h:r≠[],r.getLast h≠0:=fun h=>by
   have:=hl (by simp)
   rwa [List.getLast_cons h] at this
  have ih:=limbs_unique hB r hr hrl
  have hv:x+B * lval B r≠0:=by
   by_cases hn:r=[]
   ·subst hn
    have:=hl (by simp)
    simp only [List.getLast_singleton] at this
    omega
   ·have h0:lval B r≠0:=fun e=>hn (by rw [ih,e];rfl)
    have:0 < B * lval B r:=Nat.mul_pos (by omega) (by omega)
    omega
  simp only [lval]
  rw [limbs_step hB hv,Nat.add_mul_mod_self_left,Nat.mod_eq_of_lt hx,Nat.add_mul_div_left _ _ (by omega),Nat.div_eq_of_lt hx,Nat.zero_add,← ih]
theorem trimZ_snoc_zero (l:List Nat):trimZ (l++[0])=trimZ l:=by simp [trimZ]
theorem trimZ_snoc {x:Nat} (hx:x≠0) (l:List Nat):trimZ (l++[x])=l++[x]:=by
 simp [trimZ,hx]
theorem lval_zero_snoc (B:Nat) (l:List Nat):lval B (l++[0])=lval B l:=by simp [lval_append,lval]
theorem trimZ_limbs {B : Nat} (hB : 2 ≤ B) (l : List Nat) (hs : Small B l) : trimZ l = limbs B (lval B l) := by
  induction hk : l.length generalizing l with
  | zero => obtain rfl : l = [] := List.eq_nil_of_length_eq_zero hk
            rfl
  | succ k ih =>
    obtain ⟨r, x, rfl⟩ : ∃ r x, l = r ++ [x] := ⟨l.dropLast, l.getLast (by intro e; subst e; simp at hk), (List.dropLast_concat_getLast _).symm⟩
    by_cases hx : x = 0
    · subst hx
      rw [trimZ_snoc_zero, lval_zero_snoc, ih r (fun y hy => hs y (by simp [hy])) (by simpa using hk)]
    · rw [trimZ_snoc hx]
      exact limbs_unique hB _ hs (fun h => by simpa using hx)
theorem limbs_lt_length {B n k:Nat} (hB:2≤B) (h:n < B ^ k):(limbs B n).length≤k:=by
 induction k generalizing n with
 | zero=>simp at h;subst h;simp [limbs_zero]
 | succ k ih =>
  by_cases hn:n=0
  ·subst hn;simp [limbs_zero]
  ·rw [limbs_step hB hn,List.length_cons]
   have:n / B < B ^ k:=Nat.div_lt_of_lt_mul (by rw [Nat.pow_succ,Nat.mul_comm] at h;exact h)
   have:=ih this
   omega
def dig (c:UInt8):Bool:=decide (48≤c.toNat) && decide (c.toNat≤57)
def digs (l:List UInt8):Bool:=l.all dig
def nval (l:List UInt8):Nat:=l.foldl (fun a c=>a * 10+(c.toNat - 48)) 0
theorem foldl_nval (l:List UInt8):∀ a:Nat,l.foldl (fun a c=>a * 10+(c.toNat - 48)) a=a * 10 ^ l.length+nval l:=by
 induction l with
 | nil=>intro a;simp [nval]
 | cons c l ih =>
  intro a
  simp only [List.foldl_cons,nval,List.length_cons]
  rw [ih (a * 10+(c.toNat - 48)),ih (0 * 10+(c.toNat - 48)),Nat.pow_succ,Nat.add_mul,Nat.mul_assoc,Nat.mul_comm 10]
  simp only [Nat.zero_mul,Nat.zero_add]
  omega
theorem nval_append (l r:List UInt8):nval (l++r)=nval l * 10 ^ r.length+nval r:=by
 unfold nval
 rw [List.foldl_append,foldl_nval]
 rfl
theorem nval_one (c:UInt8):nval [c]=c.toNat - 48:=by simp [nval]
theorem snoc_ind {α:Type} {motive:List α→Prop} (nil:motive []) (snoc:∀ l c,motive l→motive (l++[c])):∀ l,motive l:=by
 intro l
 rw [← List.reverse_reverse l]
 induction l.reverse with
 | nil=>exact nil
 | cons c r ih=>rw [List.reverse_cons];exact snoc _ _ ih
theorem nval_lt (l:List UInt8) (h:digs l=true):nval l < 10 ^ l.length:=by
 induction l using snoc_ind with
 | nil=>simp [nval]
 | snoc l c ih =>
  have hc:dig c=true:=by simp [digs] at h;exact h.2
  have hl:digs l=true:=by simp [digs] at h ⊢;exact h.1
  have:=ih hl
  rw [nval_append,nval_one,List.length_append,List.length_singleton,Nat.pow_succ]
  simp [dig] at hc
  omega
theorem decDigits_small {u:Nat} (h:u < 10):decDigits u=[UInt8.ofNat (48+u)]:=by rw [decDigits,dif_pos h]
theorem decDigits_big {u:Nat} (h:¬ u < 10):decDigits u=decDigits (u / 10)++[UInt8.ofNat (48+u % 10)]:=by rw [decDigits,dif_neg h]
theorem ofNat_toNat {d:Nat} (h:d < 10):(UInt8.ofNat (48+d)).toNat=48+d:=by
 rw [UInt8.toNat_ofNat']
 omega
theorem dig_ofNat {d:Nat} (h:d < 10):dig (UInt8.ofNat (48+d))=true:=by
 simp only [dig,ofNat_toNat h,Bool.and_eq_true,decide_eq_true_eq]
 omega
theorem digs_decDigits (u:Nat):digs (decDigits u)=true:=by
 induction u using Nat.strongRecOn with
 | _ u ih =>
  by_cases h:u < 10
  ·rw [decDigits_small h,digs,List.all_cons,dig_ofNat h];rfl
  ·rw [decDigits_big h]
   have:=ih (u / 10) (by omega)
   have h2:=dig_ofNat (d:=u % 10) (by omega)
   simp only [digs,List.all_append,Bool.and_eq_true] at this ⊢
   exact ⟨this,by rw [List.all_cons,h2];rfl⟩
theorem nval_decDigits (u:Nat):nval (decDigits u)=u:=by
 induction u using Nat.strongRecOn with
 | _ u ih =>
  by_cases h:u < 10
  ·rw [decDigits_small h,nval_one,ofNat_toNat h];omega
  ·rw [decDigits_big h,nval_append,ih (u / 10) (by omega),nval_one,ofNat_toNat (by omega)]
   simp only [List.length_singleton,Nat.pow_one]
   omega
theorem decDigits_head {u:Nat} (hu:u≠0):∃ c r,decDigits u=c::r∧c.toNat≠48:=by
 induction u using Nat.strongRecOn with
 | _ u ih =>
  by_cases h:u < 10
  ·exact ⟨_,_,decDigits_small h,by rw [ofNat_toNat h];omega⟩
  ·obtain ⟨c,r,e,hc⟩:=ih (u / 10) (by omega) (by omega)
   exact ⟨c,r++[UInt8.ofNat (48+u % 10)],by rw [decDigits_big h,e];rfl,hc⟩
theorem digs_snoc {l:List UInt8} {c:UInt8}:digs (l++[c])=true↔digs l=true∧dig c=true:=by
 simp [digs,List.all_append]
theorem byte_of_dig {c:UInt8} (h:dig c=true):c=UInt8.ofNat (48+(c.toNat - 48)):=by
 simp only [dig,Bool.and_eq_true,decide_eq_true_eq] at h
 rw [Nat.add_sub_cancel' h.1,UInt8.ofNat_toNat]
theorem decDigits_nval (l : List UInt8) : digs l = true → (∃ c r, l = c :: r ∧ c.toNat ≠ 48) → decDigits (nval l) = l ∧ nval l ≠ 0 := by
  induction l using snoc_ind with
  | nil => rintro _ ⟨c, r, h, _⟩; cases h
  | snoc l d ih =>
    intro hd hh
    obtain ⟨hl, hc⟩ := digs_snoc.1 hd
    have hcc := hc
    simp only [dig, Bool.and_eq_true, decide_eq_true_eq] at hcc
    by_cases hn : l = []
    · subst hn
      obtain ⟨c, r, h, h48⟩ := hh
      simp only [List.nil_append, List.cons.injEq] at h
      obtain ⟨rfl, rfl⟩ := h
      simp only [List.nil_append, nval_one]
      refine ⟨?_, by omega⟩
      rw [decDigits_small (by omega), ← byte_of_dig hc]
    · obtain ⟨c, r, h, h48⟩ := hh
      have hl' : ∃ c r, l = c :: r ∧ c.toNat ≠ 48 := by
        cases l with
        | nil => exact absurd rfl hn
        | cons x t => simp only [List.cons_append, List.cons.injEq] at h
                      exact ⟨x, t, rfl, by rw [h.1]; exact h48⟩
      obtain ⟨e, hz⟩ := ih hl hl'
      rw [nval_append, nval_one, List.length_singleton, Nat.pow_one]
      refine ⟨?_, by omega⟩
      rw [decDigits_big (by omega)]
      have h1 : (nval l * 10 + (d.toNat - 48)) / 10 = nval l := by omega
      have h2 : (nval l * 10 + (d.toNat - 48)) % 10 = d.toNat - 48 := by omega
      rw [h1, h2, e, ← byte_of_dig hc]
def mag:List UInt8→List UInt8
 | []=>[]
 | c::r=>if c=45 then r else c::r
def neg:List UInt8→Bool
 | []=>false
 | c::_=>c == 45
def isDec (s:List UInt8):Bool:=s == [48] || (match mag s with | []=>false | c::r=>c != 48 && digs (c::r))
def dval (s:List UInt8):Int:=if isDec s then (if neg s then -(nval (mag s):Int) else nval (mag s)) else 0
theorem neg_cons45 (r:List UInt8):neg (45::r)=true:=by simp [neg]
theorem mag_cons45 (r:List UInt8):mag (45::r)=r:=by simp [mag]
theorem mag_of_not {s:List UInt8} (h:neg s=false):mag s=s:=by
 cases s with
 | nil=>rfl
 | cons c r=>simp [neg] at h;simp [mag,h]
theorem cons_of_neg {s:List UInt8} (h:neg s=true):s=45::mag s:=by
 cases s with
 | nil=>simp [neg] at h
 | cons c r=>simp [neg] at h;subst h;simp [mag]
theorem isDec_iff {s:List UInt8} (h0:s≠[48]):isDec s=true↔(digs (mag s)=true∧∃ c r,mag s=c::r∧c.toNat≠48):=by
 have hb:(s == [48])=false:=by simpa using h0
 unfold isDec
 rw [hb,Bool.false_or]
 cases hm:mag s with
 | nil=>simp
 | cons c r =>
  simp only [Bool.and_eq_true,bne_iff_ne,ne_eq,List.cons.injEq]
  constructor
  ·rintro ⟨h1,h2⟩
   refine ⟨h2,c,r,⟨rfl,rfl⟩,fun e=>h1 ?_⟩
   exact UInt8.toNat_inj.1 (by simpa using e)
  ·rintro ⟨h2,c',r',⟨rfl,rfl⟩,h1⟩
   exact ⟨fun e=>h1 (by subst e;rfl),h2⟩
theorem itoa_zero:itoa 0=[48]:=by decide +kernel
theorem itoa_pos {u:Nat}:itoa (u:Int)=decDigits u:=by simp [itoa]
theorem itoa_neg' {u:Nat} (h:u≠0):itoa (-(u:Int))=45::decDigits u:=by
 rw [itoa,if_pos (by omega)]
 simp
theorem head_ne45 {c:UInt8} {r:List UInt8} (h:digs (c::r)=true):c≠45:=by
 rintro rfl
 simp [digs,dig] at h
theorem dval_zero:dval [48]=0:=by decide
theorem itoa_dval {s:List UInt8} (h:isDec s=true):itoa (dval s)=s:=by
 by_cases h0:s=[48]
 ·subst h0;rw [dval_zero,itoa_zero]
 ·obtain ⟨hd,hh⟩:=(isDec_iff h0).1 h
  obtain ⟨e,hz⟩:=decDigits_nval _ hd hh
  unfold dval
  rw [if_pos h]
  cases hn:neg s with
  | true=>rw [if_pos rfl,itoa_neg' hz,e];exact (cons_of_neg hn).symm
  | false=>rw [if_neg (by simp),itoa_pos,e,mag_of_not hn]
theorem isDec_itoa (n:Int):isDec (itoa n)=true:=by
 by_cases hz:n=0
 ·subst hz;rw [itoa_zero];rfl
 ·by_cases hn:n < 0
  ·obtain ⟨u,rfl⟩:∃ u:Nat,n=-(u:Int):=⟨n.natAbs,by omega⟩
   have hu:u≠0:=by omega
   obtain ⟨c,r,e,hc⟩:=decDigits_head hu
   rw [itoa_neg' hu]
   refine (isDec_iff (by intro h;simp at h)).2 ?_
   rw [mag_cons45]
   exact ⟨digs_decDigits u,c,r,e,hc⟩
  ·obtain ⟨u,rfl⟩:∃ u:Nat,n=(u:Int):=⟨n.toNat,by omega⟩
   have hu:u≠0:=by omega
   obtain ⟨c,r,e,hc⟩:=decDigits_head hu
   have hd:=digs_decDigits u
   rw [itoa_pos]
   have hm:mag (decDigits u)=decDigits u:=by
    rw [e] at hd ⊢
    simp [mag,head_ne45 hd]
   refine (isDec_iff ?_).2 ?_
   ·intro h;rw [e] at h;simp only [List.cons.injEq] at h;exact hc (by rw [h.1];rfl)
   ·rw [hm];exact ⟨hd,c,r,e,hc⟩
theorem dval_itoa (n:Int):dval (itoa n)=n:=by
 unfold dval
 rw [if_pos (isDec_itoa n)]
 by_cases hz:n=0
 ·subst hz;rw [itoa_zero];rfl
 ·by_cases hn:n < 0
  ·obtain ⟨u,rfl⟩:∃ u:Nat,n=-(u:Int):=⟨n.natAbs,by omega⟩
   have hu:u≠0:=by omega
   rw [itoa_neg' hu,neg_cons45,mag_cons45,nval_decDigits]
   rfl
  ·obtain ⟨u,rfl⟩:∃ u:Nat,n=(u:Int):=⟨n.toNat,by omega⟩
   have hu:u≠0:=by omega
   obtain ⟨c,r,e,hc⟩:=decDigits_head hu
   have hd:=digs_decDigits u
   rw [itoa_pos]
   have hng:neg (decDigits u)=false:=by
    rw [e] at hd ⊢
    simp [neg,head_ne45 hd]
   rw [hng,mag_of_not hng,nval_decDigits]
   rfl
theorem itoa_inj {a b:Int} (h:itoa a=itoa b):a=b:=by rw [← dval_itoa a,h,dval_itoa]
end Go.Proofs.YthhknjlmjefklaaGreatDoor.Dec
namespace Go.Proofs.YthhknjlmjefklaaGreatDoor.Dec
open Go Go.Lib
theorem lval_take_succ (B:Nat) (l:List Nat) (i:Nat):lval B (l.take (i+1))=lval B (l.take i)+B ^ i * l.getD i 0:=by
 by_cases h:i < l.length
 ·rw [List.take_succ_eq_append_getElem h,lval_append,List.length_take,Nat.min_eq_left (by omega),List.getD_eq_getElem?_getD,List.getElem?_eq_getElem h]
  simp [lval]
 ·rw [List.take_of_length_le (by omega),List.take_of_length_le (by omega),List.getD_eq_getElem?_getD,List.getElem?_eq_none (by omega)]
  simp
theorem lval_snoc (B:Nat) (l:List Nat) (x:Nat):lval B (l++[x])=lval B l+B ^ l.length * x:=by
 rw [lval_append];simp [lval]
theorem lval_drop (B:Nat) (l:List Nat) (i:Nat) (h:i < l.length):lval B (l.drop i)=l.getD i 0+B * lval B (l.drop (i+1)):=by
 rw [List.drop_eq_getElem_cons h,lval,List.getD_eq_getElem?_getD,List.getElem?_eq_getElem h];rfl
theorem lval_set (B:Nat):∀ (l:List Nat) (k v:Nat),k < l.length→lval B (l.set k v)+B ^ k * l.getD k 0=lval B l+B ^ k * v
 | [],_,_,h=>by simp at h
 | x::r,0,v,_=>by simp [lval];omega
 | x::r,k+1,v,h=>by
  have ih:=lval_set B r k v (by simpa using h)
  simp only [List.set_cons_succ,lval,List.getD_cons_succ,Nat.pow_succ]
  have e:B * lval B (r.set k v)+B * (B ^ k * r.getD k 0)=B * lval B r+B * (B ^ k * v):=by rw [← Nat.mul_add,ih,Nat.mul_add]
  rw [Nat.mul_comm (B ^ k) B,Nat.mul_assoc,Nat.mul_assoc]
  omega
theorem Small.set {B:Nat} {l:List Nat} {k v:Nat} (h:Small B l) (hv:v < B):Small B (l.set k v):=by
 intro x hx
 rcases List.mem_or_eq_of_mem_set hx with hx | rfl
 ·exact h x hx
 ·exact hv
theorem plus_round {B:Nat} {a b o:List Nat} {i c n:Nat} (ho:o.length=i)
  (h:lval B o+B ^ i * c=lval B (a.take i)+lval B (b.take i)) (hn:n=a.getD i 0+c+b.getD i 0) :
  lval B (o++[n % B])+B ^ (i+1) * (n / B)=lval B (a.take (i+1))+lval B (b.take (i+1)):=by
 rw [lval_take_succ,lval_take_succ,lval_snoc,ho,Nat.pow_succ,Nat.mul_assoc,Nat.add_assoc,← Nat.mul_add,Nat.mod_add_div,hn]
 have:B ^ i * (a.getD i 0+c+b.getD i 0)=B ^ i * a.getD i 0+B ^ i * c+B ^ i * b.getD i 0:=by rw [Nat.mul_add,Nat.mul_add]
 omega
theorem minus_round {B:Nat} {a b o:List Nat} {i c d n:Nat} (ho:o.length=i)
  (h:lval B (a.take i)+B ^ i * c=lval B o+lval B (b.take i)) (hn:a.getD i 0+B * d=n+c+b.getD i 0) :
  lval B (a.take (i+1))+B ^ (i+1) * d=lval B (o++[n])+lval B (b.take (i+1)):=by
 rw [lval_take_succ,lval_take_succ,lval_snoc,ho,Nat.pow_succ,Nat.mul_assoc]
 have:B ^ i * (a.getD i 0+B * d)=B ^ i * (n+c+b.getD i 0):=by rw [hn]
 rw [Nat.mul_add,Nat.mul_add,Nat.mul_add] at this
 omega
theorem times_round {B:Nat} {o o' b:List Nat} {x i j c n s:Nat} (hk:i+j < o.length)
  (h:lval B o+B ^ (i+j) * c=s+B ^ i * (x * lval B (b.take j))) (hn:n=o.getD (i+j) 0+x * b.getD j 0+c) (ho:o'=o.set (i+j) (n % B)) :
  lval B o'+B ^ (i+(j+1)) * (n / B)=s+B ^ i * (x * lval B (b.take (j+1))):=by
 have h1:=lval_set B o (i+j) (n % B) hk
 have h2:B ^ (i+(j+1))=B ^ (i+j) * B:=by rw [← Nat.add_assoc,Nat.pow_succ]
 have h3:B ^ (i+j) * (n % B)+B ^ (i+j) * B * (n / B)=B ^ (i+j) * n:=by rw [Nat.mul_assoc,← Nat.mul_add,Nat.mod_add_div]
 have h4:B ^ (i+j) * n=B ^ (i+j) * o.getD (i+j) 0+B ^ (i+j) * (x * b.getD j 0)+B ^ (i+j) * c:=by rw [hn,Nat.mul_add,Nat.mul_add]
 have h5:B ^ i * (x * (lval B (b.take j)+B ^ j * b.getD j 0))=B ^ i * (x * lval B (b.take j))+B ^ (i+j) * (x * b.getD j 0):=by
  rw [Nat.pow_add];grind
 rw [ho,h2,lval_take_succ,h5]
 omega
theorem times_fits {B o x y c:Nat} (hB:2≤B) (ho:o < B) (hx:x < B) (hy:y < B) (hc:c < B):o+x * y+c < B * B:=by
 obtain ⟨b,rfl⟩:∃ b,B=b+1:=⟨B - 1,by omega⟩
 have h:x * y≤b * b:=Nat.mul_le_mul (by omega) (by omega)
 have:(b+1) * (b+1)=b * b+2 * b+1:=by grind
 omega
theorem times_row {B:Nat} {o b:List Nat} {x i c s:Nat} (hk:i+b.length < o.length) (hz:o.getD (i+b.length) 0=0)
  (h:lval B o+B ^ (i+b.length) * c=s+B ^ i * (x * lval B (b.take b.length))) :
  lval B (o.set (i+b.length) c)=s+B ^ i * (x * lval B b):=by
 have h1:=lval_set B o (i+b.length) c hk
 rw [hz] at h1
 rw [List.take_length] at h
 omega
theorem times_outer {B:Nat} {a b:List Nat} {i s:Nat} (hs:s=lval B (a.take i) * lval B b) :
  s+B ^ i * (a.getD i 0 * lval B b)=lval B (a.take (i+1)) * lval B b:=by
 rw [lval_take_succ,hs];grind
theorem div_round {B b r q A x:Nat} (h:A=q * b+r) :
  x+B * A=((x+B * r) / b+B * q) * b+(x+B * r) % b:=by
 have:=Nat.div_add_mod (x+B * r) b
 subst h
 grind
theorem div_digit {B b r x:Nat} (hx:x < B) (hr:r < b):(x+B * r) / b < B:=by
 apply Nat.div_lt_of_lt_mul
 have:B * (r+1)≤B * b:=Nat.mul_le_mul_left B hr
 rw [Nat.mul_comm b B]
 rw [Nat.mul_add] at this
 omega
theorem limbs_length_mono {B a b:Nat} (hB:2≤B) (h:b≤a):(limbs B b).length≤(limbs B a).length:=by
 apply limbs_lt_length hB
 have:=lval_lt (B:=B) (by omega) (limbs_small hB a)
 rw [lval_limbs hB] at this
 omega
theorem lt_of_length_lt {B a b:Nat} (hB:2≤B) (h:(limbs B a).length < (limbs B b).length):a < b:=by
 have h1:=limbs_length_mono (B:=B) (a:=a) (b:=b) hB
 rcases Nat.lt_or_ge a b with h2 | h2
 ·exact h2
 ·have:=h1 h2;omega
theorem lval_lt_of_top {B:Nat} {a b:List Nat} {i:Nat} (ha:Small B a) (hB:2≤B) (hla:i < a.length) (hl:a.length=b.length)
  (he:a.drop (i+1)=b.drop (i+1)) (hlt:a.getD i 0 < b.getD i 0):lval B a < lval B b:=by
 have e1:lval B a=lval B (a.take i)+B ^ i * lval B (a.drop i):=by
  have:=lval_append B (a.take i) (a.drop i)
  rwa [List.take_append_drop,List.length_take,Nat.min_eq_left (by omega)] at this
 have e2:lval B b=lval B (b.take i)+B ^ i * lval B (b.drop i):=by
  have:=lval_append B (b.take i) (b.drop i)
  rwa [List.take_append_drop,List.length_take,Nat.min_eq_left (by omega)] at this
 rw [e1,e2,lval_drop B a i hla,lval_drop B b i (by omega),he]
 have h1:=lval_lt (B:=B) (by omega) (ha.take i)
 rw [List.length_take,Nat.min_eq_left (by omega)] at h1
 have h2:B ^ i * (a.getD i 0+1+B * lval B (b.drop (i+1)))≤B ^ i * (b.getD i 0+B * lval B (b.drop (i+1))):=Nat.mul_le_mul_left _ (by omega)
 rw [Nat.mul_add,Nat.mul_add] at h2
 rw [Nat.mul_add]
 omega
theorem nDigits_le_of_lt {k u:Nat} (hk:1≤k) (h:u < 10 ^ k):nDigits u≤k:=by
 induction u using Nat.strongRecOn generalizing k with
 | _ u ih =>
  by_cases h10:u < 10
  ·rw [nDigits_small h10];exact hk
  ·rw [nDigits_big h10]
   obtain ⟨m,rfl⟩:∃ m,k=m+1:=⟨k - 1,by omega⟩
   rw [Nat.pow_succ] at h
   by_cases hm:m=0
   ·subst hm;simp at h;omega
   ·have:=ih (u / 10) (by omega) (k:=m) (by omega) (by omega)
    omega
theorem decDigits_length_le {k u:Nat} (hk:1≤k) (h:u < 10 ^ k):(decDigits u).length≤k:=by
 rw [decDigits_length];exact nDigits_le_of_lt hk h
def revDigs (l:List UInt8):List Nat:=l.reverse.map fun c=>c.toNat - 48
theorem lval_revDigs (l:List UInt8):lval 10 (revDigs l)=nval l:=by
 induction l using snoc_ind with
 | nil=>rfl
 | snoc l c ih =>
  rw [nval_append,nval_one,← ih]
  simp only [revDigs,List.reverse_append,List.reverse_singleton,List.singleton_append,List.map_cons,lval,List.length_singleton,Nat.pow_one]
  omega
theorem small_revDigs {l:List UInt8} (h:digs l=true):Small 10 (revDigs l):=by
 intro x hx
 simp only [revDigs,List.mem_map,List.mem_reverse] at hx
 obtain ⟨c,hc,rfl⟩:=hx
 have:=List.all_eq_true.1 h c hc
 simp only [dig,Bool.and_eq_true,decide_eq_true_eq] at this
 omega
theorem revDigs_limbs {l:List UInt8} (h:digs l=true) (hh:∃ c r,l=c::r∧c.toNat≠48):revDigs l=limbs 10 (nval l):=by
 rw [← lval_revDigs l]
 refine limbs_unique (by omega) _ (small_revDigs h) fun hne=>?_
 obtain ⟨c,r,rfl,hc⟩:=hh
 have hd:=List.all_eq_true.1 h c (by simp)
 simp only [dig,Bool.and_eq_true,decide_eq_true_eq] at hd
 simp [revDigs]
 omega
theorem limbs10_decDigits {n:Nat} (hn:n≠0):(limbs 10 n).reverse.map (fun d=>UInt8.ofNat (48+d))=decDigits n:=by
 induction n using Nat.strongRecOn with
 | _ n ih =>
  rw [limbs_step (by omega) hn,List.reverse_cons,List.map_append]
  by_cases h:n < 10
  ·rw [decDigits_small h,Nat.div_eq_of_lt h,limbs_zero,Nat.mod_eq_of_lt h];rfl
  ·rw [decDigits_big h,ih (n / 10) (by omega) (by omega)];rfl
theorem mag_length_le (s:List UInt8):(mag s).length≤s.length:=by
 cases s with
 | nil=>simp [mag]
 | cons c r=>simp only [mag];split <;> simp
end Go.Proofs.YthhknjlmjefklaaGreatDoor.Dec
namespace Go.Proofs.YthhknjlmjefklaaGreatDoor
open Go.RowKit
structure Sl (w:World) (k:IntKind) (A:Option Addr) (n c:Nat) (l:List Nat):Prop where
 len:l.length=n
 cap:n≤c
 cells:0 < n→∃ b o,A=some ⟨b,o,none⟩∧b < w.heap.size∧∀ i,i < n→w.cell? ⟨b,o+i,none⟩=some (.int k (l.getD i 0:Nat))
section
variable {w w':World} {k:IntKind} {A:Option Addr} {n c:Nat} {l:List Nat}
theorem Sl.nil (w:World) (k:IntKind) (A:Option Addr) (c:Nat):Sl w k A 0 c []:=⟨rfl,Nat.zero_le _,fun h=>absurd h (by omega)⟩
theorem Sl.below (h:Sl w k A n c l) (hb:Below w.heap.size w w'):Sl w' k A n c l :=
 ⟨h.len,h.cap,fun hn=>by
  obtain ⟨b,o,e,hlt,hc⟩:=h.cells hn
  exact ⟨b,o,e,Nat.lt_of_lt_of_le hlt hb.size,fun i hi=>(hb.cell (p:=⟨b,o+i,none⟩) hlt).trans (hc i hi)⟩⟩
theorem Sl.take (h:Sl w k A n c l) {m:Nat} (hm:m≤n):Sl w k A m c (l.take m) :=
 ⟨by rw [List.length_take,h.len];omega,Nat.le_trans hm h.cap,fun h0=>by
  obtain ⟨b,o,e,hlt,hc⟩:=h.cells (by omega)
  refine ⟨b,o,e,hlt,fun i hi=>?_⟩
  rw [hc i (by omega),List.getD_eq_getElem?_getD,List.getD_eq_getElem?_getD,List.getElem?_take_of_lt hi]⟩
theorem Sl.drew (h:Sl w k A n c l) (m:Nat):Sl (w.drewN m) k A n c l:=⟨h.len,h.cap,h.cells⟩
end
theorem below_drewN {B:Nat} {a w:World} (h:Below B a w) (n:Nat):Below B a (w.drewN n):=⟨h.os,h.tape,h.output,h.size,h.block⟩
theorem ex_drew2 (w:World) (a b:Nat):∃ k,(w.drewN a).drewN b=w.drewN k:=⟨a+b,by rw [World.drewN_drewN]⟩
theorem ex_drew3 (w:World) (a b c:Nat):∃ k,((w.drewN a).drewN b).drewN c=w.drewN k:=⟨a+b+c,by rw [World.drewN_drewN,World.drewN_drewN,Nat.add_assoc]⟩
def RetSl (k:IntKind) (l:List Nat) (w:World) (e:Ending) (w':World):Prop:=∃ A n c,e=.returned (.slice A n c)∧Sl w' k A n c l∧Below w.heap.size w w'∧∀ b o,A=some ⟨b,o,none⟩→w.heap.size≤b
end Go.Proofs.YthhknjlmjefklaaGreatDoor
namespace Go.Proofs.YthhknjlmjefklaaGreatDoor
open Go.RowKit
theorem trimZ_take (l:List Nat):l.take (Dec.trimZ l).length=Dec.trimZ l:=by
 induction l using Dec.snoc_ind with
 | nil=>rfl
 | snoc l c ih =>
  by_cases hc:c=0
  ·subst hc
   rw [Dec.trimZ_snoc_zero,List.take_append_of_le_length,ih]
   have:=congrArg List.length ih
   rw [List.length_take] at this
   omega
  ·rw [Dec.trimZ_snoc hc,List.take_length]
theorem trimZ_length_le (l:List Nat):(Dec.trimZ l).length≤l.length:=by
 have:=congrArg List.length (trimZ_take l)
 rw [List.length_take] at this
 omega
theorem trimZ_step {l:List Nat} {m:Nat} (h0:0 < m) (hm:m≤l.length) (hz:l.getD (m - 1) 0=0):Dec.trimZ (l.take (m - 1))=Dec.trimZ (l.take m):=by
 obtain ⟨k,rfl⟩:∃ k,m=k+1:=⟨m - 1,by omega⟩
 rw [Nat.add_sub_cancel] at hz ⊢
 rw [List.take_succ_eq_append_getElem (by omega)]
 rw [List.getD_eq_getElem?_getD,List.getElem?_eq_getElem (by omega)] at hz
 simp only [Option.getD_some] at hz
 rw [hz,Dec.trimZ_snoc_zero]
theorem trimZ_stop {l:List Nat} {m:Nat} (h0:0 < m) (hm:m≤l.length) (hz:l.getD (m - 1) 0≠0):Dec.trimZ (l.take m)=l.take m:=by
 obtain ⟨k,rfl⟩:∃ k,m=k+1:=⟨m - 1,by omega⟩
 rw [Nat.add_sub_cancel] at hz
 rw [List.take_succ_eq_append_getElem (by omega)]
 rw [List.getD_eq_getElem?_getD,List.getElem?_eq_getElem (by omega)] at hz
 exact Dec.trimZ_snoc hz _
theorem Sl.trimmed {w:World} {k:IntKind} {A:Option Addr} {n c:Nat} {l:List Nat} (h:Sl w k A n c l) {B:Nat} (hB:2≤B) (hs:Dec.Small B l) :
  Sl w k A (Dec.trimZ l).length c (Dec.limbs B (Dec.lval B l)):=by
 have h1:=h.take (m:=(Dec.trimZ l).length) (by rw [← h.len];exact trimZ_length_le l)
 rw [trimZ_take] at h1
 rw [← Dec.trimZ_limbs hB l hs]
 exact h1
end Go.Proofs.YthhknjlmjefklaaGreatDoor
namespace Go.Proofs.YthhknjlmjefklaaGreatDoor
open Go.RowKit
def ordI (a b:Nat):Int:=if a < b then -1 else if b < a then 1 else 0
theorem ordI_lt {a b:Nat} (h:a < b):ordI a b=-1:=by simp [ordI,h]
theorem ordI_gt {a b:Nat} (h:b < a):ordI a b=1:=by simp [ordI,h];omega
theorem ordI_eq (a:Nat):ordI a a=0:=by simp [ordI]
theorem drop_pred {x y:List Nat} {k:Nat} (h0:0 < k) (hk:k≤x.length) (hl:x.length=y.length) (hd:x.drop k=y.drop k) (he:x.getD (k - 1) 0=y.getD (k - 1) 0) :
  x.drop (k - 1)=y.drop (k - 1):=by
 obtain ⟨m,rfl⟩:∃ m,k=m+1:=⟨k - 1,by omega⟩
 rw [Nat.add_sub_cancel] at he ⊢
 rw [List.drop_eq_getElem_cons (l:=x) (i:=m) (by omega),List.drop_eq_getElem_cons (l:=y) (i:=m) (by omega),hd]
 rw [List.getD_eq_getElem?_getD,List.getD_eq_getElem?_getD,List.getElem?_eq_getElem (by omega),List.getElem?_eq_getElem (by omega)] at he
 simp only [Option.getD_some] at he
 rw [he]
def Cmp (a b:Nat) (w:World) (e:Ending) (w':World):Prop:=e=.returned (.int .i64 (ordI a b))∧∃ q,w'=w.drewN q
end Go.Proofs.YthhknjlmjefklaaGreatDoor
namespace Go.Proofs.YthhknjlmjefklaaGreatDoor
open Go.RowKit
structure Own (w:World) (base:Nat) (E:TypeId) (k:IntKind) (A:Option Addr) (n c:Nat) (l:List Nat):Prop where
 own:w.ownsRow base E 1 (.slice A n c) n (l.map fun x=>Value.int k (x:Nat))
section
variable {w w':World} {base:Nat} {E:TypeId} {k:IntKind} {A:Option Addr} {n c:Nat} {l:List Nat}
theorem Own.len (h:Own w base E k A n c l):l.length=n:=by have:=h.own.1;simpa using this
theorem Own.nil (w:World) (base:Nat) (E:TypeId) (k:IntKind):Own w base E k none 0 0 []:=⟨World.ownsRow_nil w base E 1⟩
theorem Own.sl (h:Own w base E k A n c l):Sl w k A n c l:=by
 have hlen:=h.len
 rcases h.own.2 with ⟨hv,hn⟩ | ⟨g,cap,cur,hv,hbg,hg,hnc,hcm,hcs,ht⟩
 ·refine ⟨hlen,by omega,fun h0=>by omega⟩
 ·simp only [Value.slice.injEq] at hv
  obtain ⟨rfl,_,rfl⟩:=hv
  refine ⟨hlen,hnc,fun _=>⟨g,0,rfl,?_,fun i hi=>?_⟩⟩
  ·rcases Nat.lt_or_ge g w.heap.size with hlt | hge
   ·exact hlt
   ·rw [Array.getElem?_eq_none hge] at hg;cases hg
  ·have e:cur[i]?=some (Value.int k (l.getD i 0:Nat)):=by
    have h1:(cur.toList.take (n * 1))[i]?=(l.map fun x=>Value.int k (x:Nat))[i]?:=by rw [ht]
    rw [List.getElem?_take_of_lt (by omega),List.getElem?_map,List.getElem?_eq_getElem (l:=l) (by omega)] at h1
    rw [List.getD_eq_getElem?_getD,List.getElem?_eq_getElem (by omega)]
    simpa using h1
   rw [Nat.zero_add]
   simp [World.cell?,hg,e]
theorem Own.at_ (h:Own w base E k A n c l) (hn:0 < n):∃ g,A=some ⟨g,0,none⟩∧base≤g∧g < w.heap.size∧(∀ i,w.frozen? ⟨g,i,none⟩=false)∧∀ i,i < n→w.cell? ⟨g,i,none⟩=some (.int k (l.getD i 0:Nat)):=by
 obtain ⟨b,o,e,hb,hc⟩:=h.sl.cells hn
 rcases h.own.2 with ⟨hv,hn'⟩ | ⟨g,cap,cur,hv,hbg,hg,_⟩
 ·omega
 ·simp only [Value.slice.injEq] at hv
  obtain ⟨rfl,_,rfl⟩:=hv
  injection e with e
  injection e with e1 e2
  subst e1 e2
  exact ⟨g,rfl,hbg,hb,fun i=>by simp [World.frozen?,hg],fun i hi=>by have:=hc i hi;rwa [Nat.zero_add] at this⟩
theorem Own.keep (h:Own w base E k A n c l) (hk:∀ g,A=some ⟨g,0,none⟩→w'.heap[g]?=w.heap[g]?):Own w' base E k A n c l:=by
 refine ⟨h.own.1,?_⟩
 rcases h.own.2 with hv | ⟨g,cap,cur,hv,hbg,hg,hr⟩
 ·exact .inl hv
 ·refine .inr ⟨g,cap,cur,hv,hbg,?_,hr⟩
  simp only [Value.slice.injEq] at hv
  rw [hk g hv.1];exact hg
theorem Own.lt (h:Own w base E k A n c l) {g:Nat} (e:A=some ⟨g,0,none⟩):base≤g∧g < w.heap.size:=by
 rcases h.own.2 with ⟨hv,_⟩ | ⟨g',cap,cur,hv,hbg,hg,_⟩
 ·simp only [Value.slice.injEq] at hv;rw [e] at hv;cases hv.1
 ·simp only [Value.slice.injEq] at hv
  obtain ⟨rfl,_,rfl⟩:=hv
  injection e with e
  injection e with e1
  subst e1
  refine ⟨hbg,?_⟩
  rcases Nat.lt_or_ge g' w.heap.size with hlt | hge
  ·exact hlt
  ·rw [Array.getElem?_eq_none hge] at hg;cases hg
theorem Own.below (h:Own w base E k A n c l) (hb:Below w.heap.size w w'):Own w' base E k A n c l :=
 h.keep fun g e=>hb.block g (h.lt e).2
theorem Own.alloc (h:Own w base E k A n c l) (o:Obj):Own (w.alloc o) base E k A n c l :=
 h.keep fun g e=>Below.heap_alloc w o g (h.lt e).2
theorem Own.drewN (h:Own w base E k A n c l) (m:Nat):Own (w.drewN m) base E k A n c l:=h.keep fun _ _=>rfl
theorem Own.set {g i y:Nat} (h:Own w base E k (some ⟨g,0,none⟩) n c l):Own (w.setCell ⟨g,i,none⟩ (.int k (y:Nat))) base E k (some ⟨g,0,none⟩) n c (l.set i y):=by
 have hlen:=h.len
 refine ⟨by simp [hlen],?_⟩
 rcases h.own.2 with ⟨hv,_⟩ | ⟨g',cap,cur,hv,hbg,hg,hnc,hcm,hcs,ht⟩
 ·simp only [Value.slice.injEq] at hv;cases hv.1
 ·simp only [Value.slice.injEq] at hv
  obtain ⟨e,_,rfl⟩:=hv
  injection e with e
  injection e with e1
  subst e1
  refine .inr ⟨g,c,cur.setIfInBounds i (.int k (y:Nat)),rfl,hbg,?_,hnc,hcm,by simpa using hcs,?_⟩
  ·simp [World.setCell,Array.getElem?_modify,hg]
  ·rw [Array.toList_setIfInBounds,List.take_set,ht,List.map_set]
end
theorem Own.cellAt {w:World} {base:Nat} {E:TypeId} {k:IntKind} {g n c i:Nat} {l:List Nat} (h:Own w base E k (some ⟨g,0,none⟩) n c l) (hi:i < n) :
  w.cell? ⟨g,i,none⟩=some (.int k (l.getD i 0:Nat))∧w.frozen? ⟨g,i,none⟩=false∧base≤g∧g < w.heap.size:=by
 obtain ⟨g',e,h1,h2,h3,h4⟩:=h.at_ (by omega)
 injection e with e
 injection e with e1
 subst e1
 exact ⟨h4 i hi,h3 i,h1,h2⟩
theorem Own.setInt {w:World} {base:Nat} {E:TypeId} {k:IntKind} {g n c i y:Nat} {l l':List Nat} {d:Int} (h:Own w base E k (some ⟨g,0,none⟩) n c l) (hd:d=(y:Int)) (hl:l.set i y=l') :
  Own (w.setCell ⟨g,i,none⟩ (.int k d)) base E k (some ⟨g,0,none⟩) n c l':=by
 subst hd hl
 exact h.set
theorem Own.fresh {w:World} {base:Nat} {E:TypeId} {k:IntKind} {A:Option Addr} {n c:Nat} {l:List Nat} (h:Own w base E k A n c l):∀ b o,A=some ⟨b,o,none⟩→base≤b:=by
 rintro b o rfl
 rcases h.own.2 with ⟨hv,_⟩ | ⟨g,cap,cur,hv,hbg,_⟩
 ·simp only [Value.slice.injEq] at hv;cases hv.1
 ·simp only [Value.slice.injEq] at hv
  obtain ⟨e,_⟩:=hv
  injection e with e
  injection e with e1
  subst e1
  exact hbg
theorem wpList_app {P:Program} {w0 W:World} {ops:Array Oper} {rest:List Oper} {o:Oper} {a:Act} {Q:Exit→Act→World→Prop} (hgd:o.guard=none) (s x:Operand) (t:TypeId)
  (ho:o.op=.call { callee:=.builtin .append,args:=#[s,x],argTypes:=#[t,t] })
  (E:TypeId) (k:IntKind) (bytes:Nat) (ht:P.underlying t=some (.slice E)) (hinfo:(P.info? E).map (fun i=>(i.zero,i.size,i.bytes))=some (some (.int k 0),1,bytes)) (hbytes:bytes≤8)
  (A:Option Addr) (n c:Nat) (l:List Nat) (hs:a.eval s=.slice A n c) (hown:Own W w0.heap.size E k A n c l)
  (d:Int) (y:Nat) (hd:d=(y:Int)) (hx:a.eval x=.slice (some ⟨W.heap.size,0,none⟩) 1 1) (hn:n≤1000000000000) (hB:Below w0.heap.size w0 W)
  (h:∀ A' c' w',Own w' w0.heap.size E k A' (n+1) c' (l++[y])→Below w0.heap.size w0 w'→(∀ g,g < W.heap.size→A≠some ⟨g,0,none⟩→w'.heap[g]?=W.heap[g]?)→W.heap.size≤w'.heap.size→(A'=A∨A'=some ⟨W.heap.size+1,0,none⟩) →
   wpList P ops Q rest (a.put o.dst (.slice A' (n+1) c')) w') :
  wpList P ops Q (o::rest) a (W.alloc (.cells #[.int k d] E)):=by
 subst hd
 obtain ⟨i0,hi0,hz0,hz1,hz2⟩:=info_parts hinfo
 refine wpList_append_own_at (P:=P) _ hgd s x t ho w0.heap.size E i0 (.int k 0) 1 bytes ht hi0 hz0 hz1 hz2 rfl (by omega) _ n _ hs (hown.alloc _).own ⟨W.heap.size,0,none⟩ 1 1 [.int k (y:Int)] hx rfl
  (cell_one_new _ _ _) (by simp [Value.oneCell']) (by unfold maxLen;omega) (by
   have:(n+1) * bytes≤1000000000001 * 8:=Nat.mul_le_mul (by omega) hbytes
   omega) (by have:=hB.size;simp;omega) ?_
 intro v' w' hown' hg _ hat
 have hlt:∀ g,A=some ⟨g,0,none⟩→w0.heap.size≤g:=fun g e=>(hown.lt e).1
 have hown2:w'.ownsRow w0.heap.size E 1 v' (n+1) ((l++[y]).map fun x=>Value.int k (x:Nat)):=by simpa using hown'
 obtain ⟨A',c',rfl⟩:∃ A' c',v'=.slice A' (n+1) c':=by
  rcases hown'.2 with ⟨_,h0⟩ | ⟨g,cap,cur,rfl,_⟩
  ·omega
  ·exact ⟨_,_,rfl⟩
 have hAn:A=none∨∃ g,A=some ⟨g,0,none⟩:=by
  rcases hown.own.2 with ⟨hv,_⟩ | ⟨g,cap,cur,hv,_⟩
  ·simp only [Value.slice.injEq] at hv;exact .inl hv.1
  ·simp only [Value.slice.injEq] at hv;exact .inr ⟨g,hv.1⟩
 have hblk:∀ g,g < W.heap.size→A≠some ⟨g,0,none⟩→w'.heap[g]?=W.heap[g]?:=fun g hgl hne =>
  (hg.block g (by simp;omega) (fun e=>by
   rcases hAn with rfl | ⟨g',rfl⟩
   ·simp [Value.ownBlock] at e
   ·simp [Value.ownBlock] at e;subst e;exact hne rfl)).trans (Below.heap_alloc W _ g hgl)
 have hsz:W.heap.size≤w'.heap.size:=by have:=hg.size;simp at this;omega
 refine h A' c' w' ⟨hown2⟩ ⟨hg.os.trans hB.os,hg.tape.trans hB.tape,hg.output.trans hB.output,Nat.le_trans hB.size hsz,fun i hi=>?_⟩ hblk hsz ?_
 ·exact (hblk i (Nat.lt_of_lt_of_le hi hB.size) (fun e=>by have:=hlt i e;omega)).trans (hB.block i hi)
 ·rcases hown'.2 with ⟨_,h0⟩ | ⟨g,cap,cur,hv,_⟩
  ·omega
  ·simp only [Value.slice.injEq] at hv
   obtain ⟨rfl,_,rfl⟩:=hv
   rcases hat with e | e
   ·rcases hAn with rfl | ⟨g',rfl⟩
    ·simp [Value.ownBlock] at e
    ·simp [Value.ownBlock] at e;subst e;exact .inl rfl
   ·simp [Value.ownBlock] at e;subst e;exact .inr rfl
theorem made_nat (k:IntKind) (n:Nat):(madeCells (Value.int k 0).cells (n * 1)).toList=(List.replicate n 0).map fun x=>Value.int k (x:Nat):=by
 simp only [madeCells,Value.cells,Nat.mul_one]
 apply List.ext_getElem
 ·simp
 ·intro i h1 h2
  simp [Nat.mod_one]
theorem wpList_mk {P:Program} {w0 W:World} {ops:Array Oper} {rest:List Oper} {o:Oper} {a:Act} {Q:Exit→Act→World→Prop} (hgd:o.guard=none) (s x:Operand) (t:TypeId) (ho:o.op=Op.makeSlice t s x)
  (E:TypeId) (k:IntKind) (bytes:Nat) (ht:P.underlying t=some (.slice E)) (hinfo:(P.info? E).map (fun i=>(i.zero,i.size,i.bytes))=some (some (.int k 0),1,bytes)) (hbytes:bytes≤8)
  (kl kc:IntKind) (L C:Int) (n:Nat) (hs:a.eval s=.int kl L) (hx:a.eval x=.int kc C) (hL:L=(n:Int)) (hC:C=(n:Int)) (hn:n≤1000000000000) (hB:Below w0.heap.size w0 W)
  (h:∀ w',Own w' w0.heap.size E k (some ⟨W.heap.size,0,none⟩) n n (List.replicate n 0)→Below w0.heap.size w0 w'→Below W.heap.size W w'→W.heap.size < w'.heap.size→wpList P ops Q rest (a.put o.dst (.slice (some ⟨W.heap.size,0,none⟩) n n)) w') :
  wpList P ops Q (o::rest) a W:=by
 obtain ⟨i0,hi0,hz0,hz1,hz2⟩:=info_parts hinfo
 refine wpList_make_full (P:=P) W hgd s x t ho w0.heap.size E i0 (.int k 0) 1 ht hi0 hz0 hz1 kl kc L C n hs hx hL hC (by
  rw [hz2]
  have:bytes * n≤8 * 1000000000000:=Nat.mul_le_mul hbytes hn
  omega) (by unfold maxLen;omega) hB.size ?_
 intro w' hown hg
 rw [made_nat] at hown
 have hb:Below W.heap.size W w':=⟨hg.os,hg.tape,hg.output,hg.size,fun i hi=>hg.block i hi (by simp)⟩
 have hown':Own w' w0.heap.size E k (some ⟨W.heap.size,0,none⟩) n n (List.replicate n 0):=⟨hown⟩
 exact h w' hown' (hB.trans (hb.mono hB.size)) hb (hown'.lt rfl).2
end Go.Proofs.YthhknjlmjefklaaGreatDoor
namespace Go.Proofs.YthhknjlmjefklaaGreatDoor
open Go.RowKit
theorem getD_lt {B:Nat} {l:List Nat} (hs:Dec.Small B l) (hB:1≤B) (k:Nat):l.getD k 0 < B:=hs.getD hB k
end Go.Proofs.YthhknjlmjefklaaGreatDoor
namespace Go.Proofs.YthhknjlmjefklaaGreatDoor
open Go.RowKit
end Go.Proofs.YthhknjlmjefklaaGreatDoor
namespace Go.Proofs.YthhknjlmjefklaaGreatDoor
open Go.RowKit
theorem getD_set_ne (l:List Nat) (i j v:Nat) (h:i≠j):(l.set i v).getD j 0=l.getD j 0:=by
 rw [List.getD_eq_getElem?_getD,List.getD_eq_getElem?_getD,List.getElem?_set_ne h]
theorem getD_replicate (n j:Nat):(List.replicate n 0).getD j 0=0:=by
 rw [List.getD_eq_getElem?_getD,List.getElem?_replicate];split <;> rfl
theorem lval_replicate (B n:Nat):Dec.lval B (List.replicate n 0)=0:=by
 induction n with
 | zero=>rfl
 | succ n ih=>rw [List.replicate_succ,Dec.lval,ih];simp
theorem small_replicate (B n:Nat) (hB:1≤B):Dec.Small B (List.replicate n 0):=by
 intro x hx
 rw [(List.mem_replicate.1 hx).2];omega
end Go.Proofs.YthhknjlmjefklaaGreatDoor
namespace Go.Proofs.YthhknjlmjefklaaGreatDoor
open Go.RowKit
theorem infoByte:(Tryz.prog.info? 5).map (fun i=>(i.zero,i.size,i.bytes))=some (some (.int .u8 0),1,1):=by kernel_rfl
end Go.Proofs.YthhknjlmjefklaaGreatDoor
namespace Go.Proofs.YthhknjlmjefklaaGreatDoor
open Go.RowKit
def BlkIs (w:World) (g:Nat) (t:TypeId) (cs:Array Value):Prop:=w.heap[g]?=some (.cells cs t (0,0))
theorem BlkIs.lt {w:World} {g:Nat} {t:TypeId} {cs:Array Value} (h:BlkIs w g t cs):g < w.heap.size:=by
 rcases Nat.lt_or_ge g w.heap.size with hlt | hge
 ·exact hlt
 ·unfold BlkIs at h;rw [Array.getElem?_eq_none hge] at h;cases h
theorem BlkIs.cell {w:World} {g:Nat} {t:TypeId} {cs:Array Value} (h:BlkIs w g t cs) (i:Nat):w.cell? ⟨g,i,none⟩=cs[i]?:=by
 unfold BlkIs at h;simp [World.cell?,h]
theorem BlkIs.frozen {w:World} {g:Nat} {t:TypeId} {cs:Array Value} (h:BlkIs w g t cs) (i:Nat):w.frozen? ⟨g,i,none⟩=false:=by
 unfold BlkIs at h;simp [World.frozen?,h]
theorem BlkIs.keep {w w':World} {g:Nat} {t:TypeId} {cs:Array Value} (h:BlkIs w g t cs) (e:w'.heap[g]?=w.heap[g]?):BlkIs w' g t cs:=e.trans h
theorem BlkIs.alloc {w:World} {g:Nat} {t:TypeId} {cs:Array Value} (h:BlkIs w g t cs) (o:Obj):BlkIs (w.alloc o) g t cs:=h.keep (Below.heap_alloc w o g h.lt)
theorem BlkIs.new (w:World) (t:TypeId) (cs:Array Value):BlkIs (w.alloc (.cells cs t)) w.heap.size t cs:=heap_alloc_new w _
theorem BlkIs.set_ {w:World} {g:Nat} {t:TypeId} {cs:Array Value} (h:BlkIs w g t cs) (i:Nat) (u:Value):BlkIs (w.setCell ⟨g,i,none⟩ u) g t (cs.setIfInBounds i u):=by
 unfold BlkIs at h ⊢;simp [World.setCell,Array.getElem?_modify,h]
theorem BlkIs.far {w:World} {g:Nat} {t:TypeId} {cs:Array Value} (h:BlkIs w g t cs) {p:Addr} (hp:g≠p.block) (u:Value):BlkIs (w.setCell p u) g t cs:=h.keep (Below.heap_setCell w p u g hp)
theorem BlkIs.below {w w':World} {g:Nat} {t:TypeId} {cs:Array Value} (h:BlkIs w g t cs) (hb:Below w.heap.size w w'):BlkIs w' g t cs:=h.keep (hb.block g h.lt)
theorem BlkIs.drew {w:World} {g:Nat} {t:TypeId} {cs:Array Value} (h:BlkIs w g t cs):BlkIs w.drew g t cs:=h
theorem BlkIs.new1 (w:World) (o:Obj) (t:TypeId) (cs:Array Value):BlkIs ((w.alloc o).alloc (.cells cs t)) (w.heap.size+1) t cs:=by
 have:=BlkIs.new (w.alloc o) t cs
 simpa using this
theorem box (w:World) (o:Obj):Below w.heap.size w (w.alloc o):=(Below.refl _ _).alloc (Nat.le_refl _) _
theorem via {w w1:World} {o:Obj} (h:Below (w.alloc o).heap.size (w.alloc o) w1):Below w.heap.size w w1:=(box w o).trans (h.mono (box w o).size)
theorem then_ {a w w1:World} (h0:Below a.heap.size a w) (h:Below w.heap.size w w1):Below a.heap.size a w1:=h0.trans (h.mono h0.size)
theorem box2 {a w:World} (h0:Below a.heap.size a w) (o:Obj):Below a.heap.size a (w.alloc o):=h0.alloc h0.size o
theorem set2 {a w:World} (h0:Below a.heap.size a w) {g i:Nat} (hg:a.heap.size≤g) (u:Value):Below a.heap.size a (w.setCell ⟨g,i,none⟩ u):=h0.setCell (p:=⟨g,i,none⟩) hg u
theorem BlkIs.via {w w1:World} {t:TypeId} {cs:Array Value} (h:Below (w.alloc (.cells cs t)).heap.size (w.alloc (.cells cs t)) w1):BlkIs w1 w.heap.size t cs:=(BlkIs.new w t cs).below h
theorem BlkIs.seven {w:World} {g:Nat} {t:TypeId} {c0 c1 c2 c3 c4 c5 c6:Value} (h:BlkIs w g t #[c0,c1,c2,c3,c4,c5,c6]) :
  w.cell? ⟨g,0,none⟩=some c0∧w.cell? ⟨g,1,none⟩=some c1∧w.cell? ⟨g,2,none⟩=some c2∧w.cell? ⟨g,3,none⟩=some c3∧w.cell? ⟨g,4,none⟩=some c4∧w.cell? ⟨g,5,none⟩=some c5∧w.cell? ⟨g,6,none⟩=some c6∧g < w.heap.size :=
 ⟨h.cell 0,h.cell 1,h.cell 2,h.cell 3,h.cell 4,h.cell 5,h.cell 6,h.lt⟩
end Go.Proofs.YthhknjlmjefklaaGreatDoor
namespace Go.Proofs.YthhknjlmjefklaaGreatDoor
open Go.RowKit
theorem isDec_head48 {l r:List UInt8} {c:UInt8} (h:Dec.mag l=c::r) (hc:c.toNat=48):Dec.isDec l=(l == [48]):=by
 have e:c=48:=UInt8.toNat_inj.1 (by simpa using hc)
 unfold Dec.isDec;rw [h,e];simp
theorem isDec_head {l r:List UInt8} {c:UInt8} (h:Dec.mag l=c::r) (hc:c.toNat≠48):Dec.isDec l=Dec.digs (Dec.mag l):=by
 have h0:l≠[48]:=by
  rintro rfl
  have e:Dec.mag [48]=[48]:=by decide
  rw [e] at h
  injection h with h _
  exact hc (by rw [← h];rfl)
 rw [Bool.eq_iff_iff,Dec.isDec_iff h0]
 exact ⟨fun ⟨a,_⟩=>a,fun a=>⟨a,c,r,h,hc⟩⟩
theorem byte_at {D:ByteArray} {l:List UInt8} (h:D.data.toList=l) (k:Nat) (hk:k < D.size):∃ hl:k < l.length,D[k]=l[k]:=by
 subst h
 exact ⟨by rw [← Lib.size_eq];exact hk,rfl⟩
theorem digs_take_succ {l:List UInt8} {k:Nat} (hk:k < l.length) (h:Dec.digs (l.take k)=true) (h1:48≤l[k].toNat) (h2:l[k].toNat≤57):Dec.digs (l.take (k+1))=true:=by
 rw [List.take_succ_eq_append_getElem hk]
 exact Dec.digs_snoc.2 ⟨h,by simp [Dec.dig,h1,h2]⟩
theorem digs_not {l:List UInt8} {k:Nat} (hk:k < l.length) (h:l[k].toNat < 48∨57 < l[k].toNat):Dec.digs l=false:=by
 cases hd:Dec.digs l with
 | false=>rfl
 | true =>
  have:=List.all_eq_true.1 hd _ (List.getElem_mem hk)
  simp only [Dec.dig,Bool.and_eq_true,decide_eq_true_eq] at this
  omega
end Go.Proofs.YthhknjlmjefklaaGreatDoor
namespace Go.Proofs.YthhknjlmjefklaaGreatDoor
open Go.RowKit
def norm (l:List UInt8):List UInt8:=if Dec.isDec l then l else [48]
theorem norm_dec (l:List UInt8):Dec.isDec (norm l)=true:=by
 unfold norm;split
 ·assumption
 ·rfl
theorem norm_eq (l:List UInt8):norm l=Lib.itoa (Dec.dval l):=by
 unfold norm
 split
 ·exact (Dec.itoa_dval ‹_›).symm
 ·rename_i h
  unfold Dec.dval;rw [if_neg h,Dec.itoa_zero]
theorem norm_length (l:List UInt8):(norm l).length≤l.length+1:=by
 unfold norm;split <;> simp
theorem dval_norm (l:List UInt8):Dec.dval (norm l)=Dec.dval l:=by rw [norm_eq,Dec.dval_itoa]
theorem mag_norm (l:List UInt8):Dec.digs (Dec.mag (norm l))=true∧Dec.mag (norm l)≠[]∧Dec.nval (Dec.mag (norm l))=(Dec.dval l).natAbs∧(decide ((Dec.mag (norm l)).length < (norm l).length))=decide (Dec.dval l < 0):=by
 have hd:=norm_dec l
 have hv:=dval_norm l
 generalize norm l=s at *
 by_cases h0:s=[48]
 ·subst h0
  rw [← hv];decide
 ·obtain ⟨h1,h2⟩:=(Dec.isDec_iff h0).1 hd
  have hz:=(Dec.decDigits_nval _ h1 h2).2
  obtain ⟨c,r,e,_⟩:=h2
  refine ⟨h1,by rw [e];simp,?_,?_⟩
  ·rw [← hv];unfold Dec.dval;rw [if_pos hd]
   split <;> omega
  ·rw [← hv];unfold Dec.dval;rw [if_pos hd]
   cases hn:Dec.neg s with
   | true =>
    have:=congrArg List.length (Dec.cons_of_neg hn)
    rw [List.length_cons] at this
    rw [if_pos rfl,decide_eq_true (by omega),decide_eq_true (by omega)]
   | false =>
    rw [Dec.mag_of_not hn,if_neg (by simp),decide_eq_false (by omega),decide_eq_false (by omega)]
end Go.Proofs.YthhknjlmjefklaaGreatDoor
namespace Go.Proofs.YthhknjlmjefklaaGreatDoor
open Go.RowKit
def Tab (w:World):Prop:=Lib.TabIs Tryz.prog w "internal/strconv.uint64pow10" .u64 Lib.pow10Tab
theorem Tab.below {w w':World} (h:Tab w) (hb:Below w.heap.size w w'):Tab w':=Lib.tabBelow_of_tabIs h w' hb
theorem itoa_any (n:Int) (w:World) (ht:Tab w) (h0:-9223372036854775808≤n) (h1:n≤9223372036854775807) :
  Calls Tryz.prog 73 #[.int .i64 n] w fun e w'=>e=.returned (.string ⟨(Lib.itoa n).toArray⟩)∧Below w.heap.size w w':=by
 refine (Tryz.strconv_Itoa n h0 h1 w ht).mono ?_
 rintro e w' ⟨rfl,k,os,rfl⟩
 exact ⟨rfl,Lib.below_grow _ _ (Nat.le_refl _) _ _⟩
end Go.Proofs.YthhknjlmjefklaaGreatDoor
namespace Go.Proofs.YthhknjlmjefklaaGreatDoor
open Go.RowKit
abbrev str (l:List UInt8):Value:=.string ⟨l.toArray⟩
def RetPureV (v:Value) (w:World) (e:Ending) (w':World):Prop:=e=.returned v∧w=w'
def RetBel (v:Value) (w:World) (e:Ending) (w':World):Prop:=e=.returned v∧Below w.heap.size w w'
inductive Dt where
 | val (v:Value)
 | row (l:List (List Dt))
inductive Rd (ok:Nat→Prop) (w:World):Value→Dt→Prop
 | val (v:Value):Rd ok w v (.val v)
 | nil (A:Option Addr) (c:Nat):Rd ok w (.slice A 0 c) (.row [])
 | row (b o n c k:Nat) (l:List (List Dt)) (f:Nat→Nat→Value) (hn:l.length=n) (h0:0 < n) (hc:n≤c) (hb:b < w.heap.size) (hok:ok b)
   (hk:∀ i (h:i < l.length),(l[i]).length=k)
   (hf:∀ i j (h:i < l.length),j < (l[i]).length→w.cell? ⟨b,o+i * k+j,none⟩=some (f i j))
   (hr:∀ i j (h:i < l.length) (h':j < (l[i]).length),Rd ok w (f i j) ((l[i])[j])):Rd ok w (.slice (some ⟨b,o,none⟩) n c) (.row l)
section
variable {ok ok':Nat→Prop} {w w':World} {v:Value} {d:Dt}
theorem Rd.keep (h:Rd ok w v d) (hs:w.heap.size≤w'.heap.size) (hk:∀ b,ok b→b < w.heap.size→w'.heap[b]?=w.heap[b]?):Rd ok w' v d:=by
 induction h with
 | val v=>exact .val v
 | nil A c=>exact .nil A c
 | row b o n c k l f hn h0 hc hb hok hk' hf _ ih =>
  exact .row b o n c k l f hn h0 hc (Nat.lt_of_lt_of_le hb hs) hok hk' (fun i j h h'=>(World.cell?_of_block (w:=w) (hk b hok hb)).trans (hf i j h h')) ih
theorem Rd.mono (h:Rd ok w v d) (hk:∀ b,ok b→b < w.heap.size→ok' b):Rd ok' w v d:=by
 induction h with
 | val v=>exact .val v
 | nil A c=>exact .nil A c
 | row b o n c k l f hn h0 hc hb hok hk' hf _ ih=>exact .row b o n c k l f hn h0 hc hb (hk b hok hb) hk' hf ih
theorem Rd.under (h:Rd ok w v d) (hb:Below w.heap.size w w'):Rd ok w' v d:=h.keep hb.size fun b _ hlt=>hb.block b hlt
theorem Rd.drew (h:Rd ok w v d):Rd ok w.drew v d:=h.keep (Nat.le_refl _) fun _ _ _=>rfl
theorem Rd.far {p:Addr} (h:Rd ok w v d) (hp:∀ b,ok b→b≠p.block) (u:Value):Rd ok (w.setCell p u) v d :=
 h.keep (by simp [World.setCell]) fun b hok _=>Below.heap_setCell w p u b (hp b hok)
theorem Rd.val_eq {u:Value} (h:Rd ok w v (.val u)):v=u:=by cases h;rfl
theorem Rd.lt (h:Rd ok w v d):Rd (fun b=>ok b∧b < w.heap.size) w v d:=h.mono fun _ h hb=>⟨h,hb⟩
theorem Rd.slice {l:List (List Dt)} (h:Rd ok w v (.row l)):∃ A n c,v=.slice A n c∧l.length=n∧n≤c:=by
 cases h with
 | nil A c=>exact ⟨A,0,c,rfl,rfl,Nat.zero_le _⟩
 | row b o n c k l f hn h0 hc=>exact ⟨_,n,c,rfl,hn,hc⟩
theorem Rd.len {A:Option Addr} {n c:Nat} {l:List (List Dt)} (h:Rd ok w (.slice A n c) (.row l)):l.length=n:=by
 cases h with
 | nil=>rfl
 | row _ _ _ _ _ _ _ hn=>exact hn
theorem Rd.cap {A:Option Addr} {n c:Nat} {l:List (List Dt)} (h:Rd ok w (.slice A n c) (.row l)):n≤c:=by
 cases h with
 | nil=>exact Nat.zero_le _
 | row _ _ _ _ _ _ _ _ _ hc=>exact hc
theorem Rd.cells {A:Option Addr} {n c:Nat} {l:List (List Dt)} (h:Rd ok w (.slice A n c) (.row l)) (h0:0 < n) :
  ∃ b o k,A=some ⟨b,o,none⟩∧b < w.heap.size∧ok b∧(∀ i (h:i < l.length),(l[i]).length=k) ∧
   ∀ i j (h:i < l.length) (h':j < (l[i]).length),∃ u,w.cell? ⟨b,o+i * k+j,none⟩=some u∧Rd ok w u ((l[i])[j]):=by
 cases h with
 | nil=>omega
 | row b o n c k l f hn _ hc hb hok hk hf hr=>exact ⟨b,o,k,rfl,hb,hok,hk,fun i j h h'=>⟨f i j,hf i j h h',hr i j h h'⟩⟩
theorem Rd.mk {b o n c k:Nat} {l:List (List Dt)} (hn:l.length=n) (hc:n≤c) (hb:b < w.heap.size) (hok:ok b) (hk:∀ i (h:i < l.length),(l[i]).length=k)
  (hf:∀ i j (h:i < l.length) (h':j < (l[i]).length),∃ u,w.cell? ⟨b,o+i * k+j,none⟩=some u∧Rd ok w u ((l[i])[j])):Rd ok w (.slice (some ⟨b,o,none⟩) n c) (.row l):=by
 rcases Nat.eq_zero_or_pos n with e | e
 ·subst e
  obtain rfl:l=[]:=List.eq_nil_of_length_eq_zero hn
  exact .nil _ _
 ·let f:Nat→Nat→Value:=fun i j=>(w.cell? ⟨b,o+i * k+j,none⟩).getD (.int .i64 0)
  refine .row b o n c k l f hn e hc hb hok hk (fun i j h h'=>?_) (fun i j h h'=>?_)
  ·obtain ⟨u,h1,_⟩:=hf i j h h'
   simp only [f,h1,Option.getD_some]
  ·obtain ⟨u,h1,h2⟩:=hf i j h h'
   simp only [f,h1,Option.getD_some]
   exact h2
theorem Rd.take {A:Option Addr} {n c m:Nat} {l:List (List Dt)} (h:Rd ok w (.slice A n c) (.row l)) (hm:m≤n):Rd ok w (.slice A m c) (.row (l.take m)):=by
 have hl:=h.len
 rcases Nat.eq_zero_or_pos m with e | e
 ·subst e;exact .nil _ _
 ·obtain ⟨b,o,k,rfl,hb,hok,hk,hf⟩:=h.cells (by omega)
  refine Rd.mk (k:=k) (by rw [List.length_take];omega) (by have:=h.cap;omega) hb hok (fun i hi=>?_) (fun i j hi hj=>?_)
  ·rw [List.getElem_take];exact hk i _
  ·simp only [List.getElem_take] at hj ⊢
   exact hf i j (by rw [List.length_take] at hi;omega) hj
end
end Go.Proofs.YthhknjlmjefklaaGreatDoor
namespace Go.Proofs.YthhknjlmjefklaaGreatDoor
open Go.RowKit
def Dt.one:Dt→Bool
 | .val v=>v.oneCell'
 | .row _=>true
theorem Rd.one {ok:Nat→Prop} {w:World} {v:Value} {d:Dt} (h:Rd ok w v d) (hd:d.one=true):v.oneCell'=true:=by
 cases h with
 | val v=>exact hd
 | nil=>rfl
 | row=>rfl
structure OwnD (ok:Nat→Prop) (w:World) (base:Nat) (E:TypeId) (k:Nat) (A:Option Addr) (n c:Nat) (l:List (List Dt)):Prop where
 len:l.length=n
 own:∃ xs,w.ownsRow base E k (.slice A n c) n xs∧∀ i (hi:i < l.length),(l[i]).length=k∧∀ j (hj:j < (l[i]).length),∃ u,xs[i * k+j]?=some u∧Rd (fun b=>ok b∧A≠some ⟨b,0,none⟩) w u (l[i])[j]
section
variable {ok ok':Nat→Prop} {w w':World} {base:Nat} {E:TypeId} {k:Nat} {A:Option Addr} {n c:Nat} {l:List (List Dt)}
theorem OwnD.nil (ok:Nat→Prop) (w:World) (base:Nat) (E:TypeId) (k:Nat):OwnD ok w base E k none 0 0 []:=⟨rfl,[],World.ownsRow_nil w base E k,fun i hi=>absurd hi (by simp)⟩
theorem OwnD.made (ok:Nat→Prop) (w:World) (base:Nat) (E:TypeId) (k cap:Nat) (cur:Array Value) (hb:base≤w.heap.size) (hm:cap≤maxLen) (hs:cur.size=cap * k):OwnD ok (w.alloc (.cells cur E)) base E k (some ⟨w.heap.size,0,none⟩) 0 cap [] :=
 ⟨rfl,[],World.ownsRow_made w cur cap hb hm hs,fun i hi=>absurd hi (by simp)⟩
theorem OwnD.addr (h:OwnD ok w base E k A n c l):A=none∨∃ g,A=some ⟨g,0,none⟩∧base≤g∧g < w.heap.size:=by
 obtain ⟨xs,⟨_,ho⟩,_⟩:=h.own
 rcases ho with ⟨hv,_⟩ | ⟨g,cap,cur,hv,hbg,hg,_⟩
 ·simp only [Value.slice.injEq] at hv;exact .inl hv.1
 ·simp only [Value.slice.injEq] at hv
  refine .inr ⟨g,hv.1,hbg,?_⟩
  rcases Nat.lt_or_ge g w.heap.size with hlt | hge
  ·exact hlt
  ·rw [Array.getElem?_eq_none hge] at hg;cases hg
theorem OwnD.rd (h:OwnD ok w base E k A n c l):Rd (fun b=>ok b∨base≤b) w (.slice A n c) (.row l):=by
 obtain ⟨xs,⟨hx,ho⟩,he⟩:=h.own
 have hlen:=h.len
 rcases Nat.eq_zero_or_pos n with h0 | h0
 ·subst h0
  obtain rfl:l=[]:=List.eq_nil_of_length_eq_zero hlen
  exact .nil _ _
 ·rcases ho with ⟨_,h1⟩ | ⟨g,cap,cur,hv,hbg,hg,hnc,hcm,hcs,ht⟩
  ·omega
  ·simp only [Value.slice.injEq] at hv
   obtain ⟨rfl,_,rfl⟩:=hv
   refine Rd.mk (k:=k) hlen hnc ?_ (.inr hbg) (fun i hi=>(he i hi).1) (fun i j hi hj=>?_)
   ·rcases Nat.lt_or_ge g w.heap.size with hlt | hge
    ·exact hlt
    ·rw [Array.getElem?_eq_none hge] at hg;cases hg
   ·obtain ⟨u,h1,h2⟩:=(he i hi).2 j hj
    refine ⟨u,?_,h2.mono fun b hb _=>.inl hb.1⟩
    have hj':j < k:=by rw [← (he i hi).1];exact hj
    have hlt:i * k+j < n * k:=by
     have:(i+1) * k≤n * k:=Nat.mul_le_mul_right k (by omega)
     rw [Nat.add_mul] at this;omega
    have e:cur[i * k+j]?=some u:=by
     rw [← h1,← ht,List.getElem?_take_of_lt hlt];simp
    simp [World.cell?,hg,Nat.zero_add,e]
theorem OwnD.keep (h:OwnD ok w base E k A n c l) (hs:w.heap.size≤w'.heap.size) (hb:∀ g,g < w.heap.size→(ok g∨A=some ⟨g,0,none⟩)→w'.heap[g]?=w.heap[g]?):OwnD ok w' base E k A n c l:=by
 obtain ⟨xs,⟨hx,ho⟩,he⟩:=h.own
 refine ⟨h.len,xs,⟨hx,?_⟩,fun i hi=>⟨(he i hi).1,fun j hj=>?_⟩⟩
 ·rcases ho with hv | ⟨g,cap,cur,hv,hbg,hg,hr⟩
  ·exact .inl hv
  ·refine .inr ⟨g,cap,cur,hv,hbg,?_,hr⟩
   simp only [Value.slice.injEq] at hv
   rw [hb g ?_ (.inr hv.1)];exact hg
   rcases Nat.lt_or_ge g w.heap.size with hlt | hge
   ·exact hlt
   ·rw [Array.getElem?_eq_none hge] at hg;cases hg
 ·obtain ⟨u,h1,h2⟩:=(he i hi).2 j hj
  exact ⟨u,h1,h2.keep hs fun b hb' hlt=>hb b hlt (.inl hb'.1)⟩
theorem OwnD.mono (h:OwnD ok w base E k A n c l) (hk:∀ b,ok b→b < w.heap.size→ok' b):OwnD ok' w base E k A n c l:=by
 obtain ⟨xs,ho,he⟩:=h.own
 exact ⟨h.len,xs,ho,fun i hi=>⟨(he i hi).1,fun j hj=>by
  obtain ⟨u,h1,h2⟩:=(he i hi).2 j hj
  exact ⟨u,h1,h2.mono fun b hb hlt=>⟨hk b hb.1 hlt,hb.2⟩⟩⟩⟩
end
section
variable {P:Program} {w:World}
theorem run_appD (ok:Nat→Prop) (base:Nat) (t ty E:TypeId) (z:Value) (k bytes:Nat) (ht:P.underlying t=some (.slice E)) (hinfo:(P.info? E).map (fun i=>(i.zero,i.size,i.bytes))=some (some z,k,bytes)) (hz:z.cells.size=k) (hk0:0 < k)
  (A:Option Addr) (n c:Nat) (l:List (List Dt)) (hown:OwnD ok w base E k A n c l) (A':Option Addr) (m c':Nat) (l':List (List Dt)) (hm:l'.length=m)
  (hsrc:0 < m→∃ b o,A'=some ⟨b,o,none⟩∧∀ i (hi:i < l'.length),(l'[i]).length=k∧∀ j (hj:j < (l'[i]).length),∃ u,w.cell? ⟨b,o+i * k+j,none⟩=some u∧Rd (fun b=>ok b∧A≠some ⟨b,0,none⟩) w u (l'[i])[j]∧u.oneCell'=true)
  (hn:n+m≤maxLen) (hbytes:(n+m) * bytes≤140737488355328) (hbase:base≤w.heap.size) :
  ∃ A2 c2 w2,(Builtin.append_ #[t,t] ty #[.slice A n c,.slice A' m c']).run P w=.ok (.slice A2 (n+m) c2) w2∧OwnD ok w2 base E k A2 (n+m) c2 (l++l') ∧
   (∀ g,g < w.heap.size→A≠some ⟨g,0,none⟩→w2.heap[g]?=w.heap[g]?)∧w.heap.size≤w2.heap.size∧w2.os=w.os∧w2.tape=w.tape∧w2.output=w.output∧(A2=A∨A2=some ⟨w.heap.size,0,none⟩):=by
 obtain ⟨i0,hi0,hz0,hz1,hz2⟩:=info_parts hinfo
 rcases Nat.eq_zero_or_pos m with h0 | h0
 ·subst h0
  obtain rfl:l'=[]:=List.eq_nil_of_length_eq_zero hm
  refine ⟨A,c,w,?_,by simpa using hown,fun _ _ _=>rfl,Nat.le_refl _,rfl,rfl,rfl,.inl rfl⟩
  obtain ⟨xs,⟨_,ho⟩,_⟩:=hown.own
  rcases ho with ⟨hv,h0⟩ | ⟨g,cap,cur,hv,_,_,hnc,_⟩
  ·simp only [Value.slice.injEq] at hv
   obtain ⟨rfl,rfl,rfl⟩:=hv
   rcases A' with _ | ad <;> simp [Builtin.append_,run_underlying ht,sizeOf,typeInfo,hi0,Builtin.lenOf,Builtin.firstCells,loadCells,loadCellsFrom]
  ·simp only [Value.slice.injEq] at hv
   obtain ⟨rfl,_,rfl⟩:=hv
   rcases A' with _ | ad <;> simp [Builtin.append_,run_underlying ht,sizeOf,typeInfo,hi0,Builtin.lenOf,Builtin.firstCells,hnc,storeCells,loadCells,loadCellsFrom]
 ·obtain ⟨b,o,rfl,hel⟩:=hsrc h0
  obtain ⟨xs,ho,he⟩:=hown.own
  have hdiv:∀ q,q < m * k→q / k < m∧q % k < k:=fun q hq=>⟨Nat.div_lt_of_lt_mul (by rwa [Nat.mul_comm] at hq),Nat.mod_lt _ hk0⟩
  have hqr:∀ q,q / k * k+q % k=q:=fun q=>by rw [Nat.mul_comm];exact Nat.div_add_mod q k
  let news:List Value:=(List.range (m * k)).map fun q=>(w.cell? ⟨b,o+q,none⟩).getD (.int .i64 0)
  have hnl:news.length=m * k:=by simp [news]
  have hnew:∀ i (hi:i < l'.length) j (hj:j < (l'[i]).length),∃ u,news[i * k+j]?=some u∧w.cell? ⟨b,o+(i * k+j),none⟩=some u∧Rd (fun b=>ok b∧A≠some ⟨b,0,none⟩) w u (l'[i])[j]∧u.oneCell'=true:=by
   intro i hi j hj
   obtain ⟨hk,hj2⟩:=hel i hi
   obtain ⟨u,h1,h2,h3⟩:=hj2 j hj
   have hlt:i * k+j < m * k:=by
    have:(i+1) * k≤m * k:=Nat.mul_le_mul_right k (by omega)
    rw [Nat.add_mul] at this;omega
   refine ⟨u,?_,by rw [← Nat.add_assoc];exact h1,h2,h3⟩
   simp only [news]
   rw [List.getElem?_map,List.getElem?_range hlt,Option.map_some,← Nat.add_assoc,h1,Option.getD_some]
  have hall:∀ q u,news[q]?=some u→w.cell? ⟨b,o+q,none⟩=some u∧u.oneCell'=true:=by
   intro q u hq
   have hlt:q < m * k:=by rw [← hnl];exact (List.getElem?_eq_some_iff.1 hq).1
   obtain ⟨h1,h2⟩:=hdiv q hlt
   obtain ⟨hk,_⟩:=hel (q / k) (by omega)
   obtain ⟨u',e1,e2,_,e3⟩:=hnew (q / k) (by omega) (q % k) (by omega)
   rw [hqr] at e1 e2
   rw [hq] at e1
   injection e1 with e1
   subst e1
   exact ⟨e2,e3⟩
  have hadd:∀ q,(⟨b,o,none⟩:Addr).add q=⟨b,o+q,none⟩:=fun q=>by
   unfold Addr.add
   split
   ·subst q;rfl
   ·rfl
  obtain ⟨v',w2,hrun,h2,h3,h4,h5⟩:=run_append_own_at (P:=P) w base t ty E i0 z k bytes ht hi0 hz0 hz1 hz2 hz hk0 _ n xs ho ⟨b,o,none⟩ m c' news hnl (fun q u hq=>by rw [hadd];exact (hall q u hq).1) (by
   intro u hu
   obtain ⟨q,hq⟩:=List.getElem?_of_mem hu
   exact (hall q u hq).2) hn hbytes hbase
  obtain ⟨A2,c2,rfl,hA2⟩:∃ A2 c2,v'=.slice A2 (n+m) c2∧∃ g,A2=some ⟨g,0,none⟩:=by
   rcases h2.2 with ⟨_,h0⟩ | ⟨g,cap,cur,rfl,_⟩
   ·omega
   ·exact ⟨_,_,rfl,g,rfl⟩
  obtain ⟨g2,rfl⟩:=hA2
  have hAg:∀ g,A=some ⟨g,0,none⟩↔(Value.slice A n c).ownBlock=some g:=by
   intro g
   rcases hown.addr with rfl | ⟨g',rfl,_⟩
   ·simp [Value.ownBlock]
   ·simp [Value.ownBlock]
  have hblk:∀ g,g < w.heap.size→A≠some ⟨g,0,none⟩→w2.heap[g]?=w.heap[g]?:=fun g hg hne=>h3.block g hg fun e=>hne ((hAg g).2 e.symm)
  have hA2':(some ⟨g2,0,none⟩:Option Addr)=A∨g2=w.heap.size:=by
   rcases h5 with e | e
   ·left;exact ((hAg g2).2 (by rw [← e];rfl)).symm
   ·right;simpa [Value.ownBlock] using e
  have hcarry:∀ u d,Rd (fun b=>ok b∧A≠some ⟨b,0,none⟩) w u d→Rd (fun b=>ok b∧(some ⟨g2,0,none⟩:Option Addr)≠some ⟨b,0,none⟩) w2 u d:=by
   intro u d hr
   refine (hr.lt.mono (ok':=fun b=>(ok b∧A≠some ⟨b,0,none⟩)∧b < w.heap.size) fun _ h _=>h).keep h3.size (fun b hb _=>hblk b hb.2 hb.1.2) |>.mono ?_
   intro b hb _
   refine ⟨hb.1.1,?_⟩
   rcases hA2' with e | e
   ·rw [e];exact hb.1.2
   ·intro e2
    injection e2 with e2
    injection e2 with e2
    have:=hb.2
    omega
  refine ⟨_,c2,w2,hrun,⟨by rw [List.length_append,hown.len,hm],xs++news,h2,fun i hi=>?_⟩,hblk,h3.size,h3.os,h3.tape,h3.output,?_⟩
  ·have hxl:xs.length=n * k:=ho.1
   rw [List.length_append] at hi
   by_cases hin:i < l.length
   ·have hil:i < n:=by rw [← hown.len];exact hin
    have e:(l++l')[i]'(by rw [List.length_append];omega)=l[i]:=List.getElem_append_left hin
    simp only [e]
    refine ⟨(he i hin).1,fun j hj=>?_⟩
    obtain ⟨u,h6,h7⟩:=(he i hin).2 j hj
    refine ⟨u,?_,hcarry _ _ h7⟩
    rw [List.getElem?_append_left ((List.getElem?_eq_some_iff.1 h6).1)];exact h6
   ·have hil:n≤i:=by rw [← hown.len];omega
    have hil2:i - n < l'.length:=by have:=hown.len;omega
    have e:(l++l')[i]'(by rw [List.length_append];omega)=l'[i - n]:=by
     rw [List.getElem_append_right (by omega)]
     congr 1;have:=hown.len;omega
    simp only [e]
    refine ⟨(hel _ hil2).1,fun j hj=>?_⟩
    obtain ⟨u,h6,_,h7,_⟩:=hnew (i - n) hil2 j hj
    refine ⟨u,?_,hcarry _ _ h7⟩
    have ee:i * k+j=n * k+((i - n) * k+j):=by
     rw [Nat.sub_mul]
     have:n * k≤i * k:=Nat.mul_le_mul_right k hil
     omega
    rw [ee,← hxl,List.getElem?_append_right (by omega),Nat.add_sub_cancel_left]
    exact h6
  ·rcases hA2' with e | e
   ·exact .inl e
   ·right;rw [e]
theorem run_mk0D (t E:TypeId) (z:Value) (k bytes:Nat) (ht:P.underlying t=some (.slice E)) (hinfo:(P.info? E).map (fun i=>(i.zero,i.size,i.bytes))=some (some z,k,bytes))
  (kl kc:IntKind) (C:Int) (n:Nat) (hC:C=(n:Int)) (hbytes:bytes * n≤281474976710656) (hn:n≤maxLen) :
  ∃ CS:Array Value,CS.size=n * k∧∀ w:World,(Instr.makeSlice t (.int kl 0) (.int kc C)).run P w=.ok (.slice (some ⟨w.heap.size,0,none⟩) 0 n) (w.alloc (.cells CS E)):=by
 obtain ⟨i0,hi0,hz0,hz1,hz2⟩:=info_parts hinfo
 subst hC
 have h63':(n:Int)≤9223372036854775807:=by
  have h:=hn
  simp [maxLen] at h
  omega
 have hb':(i0.bytes:Int) * (n:Int)≤281474976710656:=by
  have h:((i0.bytes * n:Nat):Int)≤281474976710656:=by rw [hz2];omega
  rwa [Int.natCast_mul] at h
 have hr:=fun w:World=>run_make (P:=P) w t E i0 z ht hi0 hz0 kl kc 0 n (Int.le_refl _) (by omega) hb' h63'
 simp only [Int.toNat_zero,Int.toNat_natCast] at hr
 exact ⟨_,by rw [← hz1];exact size_madeCells _ _,hr⟩
theorem Rd.src {ok ok':Nat→Prop} {A A':Option Addr} {m c' k:Nat} {l':List (List Dt)} (h:Rd ok' w (.slice A' m c') (.row l')) (hok:∀ b,ok' b→b < w.heap.size→ok b∧A≠some ⟨b,0,none⟩) (hk:∀ x∈l',x.length=k∧∀ d∈x,d.one=true) :
  0 < m→∃ b o,A'=some ⟨b,o,none⟩∧∀ i (hi:i < l'.length),(l'[i]).length=k∧∀ j (hj:j < (l'[i]).length),∃ u,w.cell? ⟨b,o+i * k+j,none⟩=some u∧Rd (fun b=>ok b∧A≠some ⟨b,0,none⟩) w u (l'[i])[j]∧u.oneCell'=true:=by
 intro h0
 obtain ⟨b,o,k',rfl,hb,_,hk',hf⟩:=h.cells h0
 have hl:=h.len
 have e:k'=k:=by rw [← hk' 0 (by omega)];exact (hk _ (List.getElem_mem _)).1
 subst e
 refine ⟨b,o,rfl,fun i hi=>⟨hk' i hi,fun j hj=>?_⟩⟩
 obtain ⟨u,h1,h2⟩:=hf i j hi hj
 exact ⟨u,h1,h2.mono hok,h2.one ((hk _ (List.getElem_mem _)).2 _ (List.getElem_mem _))⟩
end
end Go.Proofs.YthhknjlmjefklaaGreatDoor
namespace Go.Proofs.YthhknjlmjefklaaGreatDoor
open Go.RowKit
structure Sy where
 pkg:List UInt8
 name:List UInt8
 deriving DecidableEq
end Go.Proofs.YthhknjlmjefklaaGreatDoor
namespace Go.Proofs.YthhknjlmjefklaaGreatDoor
open Go.RowKit Go.ChangeShapes Go.WideShapes Go.Deep
section
variable {H:Type} {enc:TypeId×Value→H} {P:Program} {w:World} {base:Nat} {spare:Nat→Bool} {held:Bool}
theorem str_bytes (s:ByteArray):Value.string s=str s.data.toList:=by unfold str;rfl
theorem addPlain {a:Addr} {q:Nat} {v:Value} (h:w.cell? (a.add 0)=some v):a.add q=⟨a.block,a.off+q,none⟩:=by
 have hs:a.spot=none:=by
  unfold Addr.add at h
  simp only [if_true] at h
  unfold World.cell? at h
  split at h
  ·cases hsp:a.spot with
   | none=>rfl
   | some x=>simp [hsp] at h
  ·cases h
 unfold Addr.add
 split
 ·subst q
  obtain ⟨b,o,sp⟩:=a
  simp only at hs
  subst hs
  rfl
 ·rfl
def Reads (w:World) (cs:List Value) (ds:List Dt):Prop:=cs.length=ds.length∧∀ j (hj:j < ds.length),∃ u,cs[j]?=some u∧Rd (fun _=>True) w u ds[j]
theorem read_rows {α:Type} (encA:α→List Dt) (Good:α→Prop) (k:Nat) (hk:0 < k) (hlen:∀ a,(encA a).length=k) {t e:TypeId} {fuel:Nat} {cs:List Value} {x:DataW H×List MemPlace}
  (ht:P.underlying t=some (.slice e)) (hc:P.cellsOf e=k) (h:DataW.trod enc P w base spare held fuel t cs=some x)
  (elem:∀ n,fuel=n+1→∀ cs' y,DataW.trod enc P w base spare held n e cs'=some y→∃ a,Good a∧Reads w cs' (encA a)) :
  ∃ (A:Option Addr) (n c:Nat) (l:List α),cs=[.slice A n c]∧Rd (fun _=>True) w (.slice A n c) (.row (l.map encA))∧n≤maxLen∧∀ a∈l,Good a:=by
 rcases DataW.trod_slice ht h with ⟨rfl,_⟩ | ⟨a,len,cap,elems,rest,n,hfu,rfl,_,hb,hl,hm,hel,hx,_,_⟩
 ·exact ⟨none,0,0,[],rfl,.nil _ _,Nat.zero_le _,fun s hs=>by cases hs⟩
 ·rw [hc] at hx
  have he:∀ i,i < len→∃ y:α,Good y∧∀ j (hj:j < (encA y).length),∃ u,w.cell? (a.add (i * k+j))=some u∧Rd (fun _=>True) w u (encA y)[j]:=by
   intro i hi
   have h1:=hx i hi
   rw [List.getElem?_eq_getElem (by omega)] at h1
   obtain ⟨cs',h2,h3⟩:=Option.bind_eq_some_iff.1 h1
   obtain ⟨y,hg,hr⟩:=elem n hfu cs' _ h3
   refine ⟨y,hg,fun j hj=>?_⟩
   obtain ⟨u,h4,h5⟩:=hr.2 j hj
   obtain ⟨_,hcl,hat⟩:=World.cells?_some h2
   have hjk:j < k:=by rw [← hlen y];exact hj
   have:=hat j hjk
   rw [Go.Deep.add_add] at this
   exact ⟨u,by rw [this,h4],h5⟩
  rcases Nat.eq_zero_or_pos len with e0 | e0
  ·subst e0
   exact ⟨some a,0,cap,[],rfl,.nil _ _,Nat.zero_le _,fun s hs=>by cases hs⟩
  ·obtain ⟨y0,_,_⟩:=he 0 e0
   have hch:∃ f:Nat→α,∀ i,i < len→Good (f i)∧∀ j (hj:j < (encA (f i)).length),∃ u,w.cell? (a.add (i * k+j))=some u∧Rd (fun _=>True) w u (encA (f i))[j]:=by
    refine ⟨fun i=>if h:i < len then Classical.choose (he i h) else y0,fun i hi=>?_⟩
    simp only [hi,dif_pos]
    exact Classical.choose_spec (he i hi)
   obtain ⟨f,hf⟩:=hch
   obtain ⟨u0,h00,_⟩:=(hf 0 e0).2 0 (by rw [hlen];exact hk)
   have h00':w.cell? (a.add 0)=some u0:=by simpa using h00
   have hadd:∀ q,a.add q=⟨a.block,a.off+q,none⟩:=fun q=>addPlain h00'
   have ha:a=⟨a.block,a.off,none⟩:=by
    have:=hadd 0
    simpa [Addr.add] using this
   refine ⟨some a,len,cap,(List.range len).map f,rfl,?_,Nat.le_trans hl hm,?_⟩
   ·rw [ha]
    refine Rd.mk (k:=k) (by simp) hl (World.block_lt_of_cell? _ _ h00' |> fun h=>by simpa [hadd] using h) trivial (fun i hi=>?_) (fun i j hi hj=>?_)
    ·rw [List.getElem_map];exact hlen _
    ·have hi':i < len:=by simpa using hi
     simp only [List.getElem_map,List.getElem_range] at hj ⊢
     obtain ⟨u,g0,g1⟩:=(hf i hi').2 j hj
     rw [hadd] at g0
     exact ⟨u,by rw [← g0,Nat.add_assoc],g1⟩
   ·intro s hs
    obtain ⟨i,hi,rfl⟩:=List.mem_map.1 hs
    exact (hf i (List.mem_range.1 hi)).1
end
end Go.Proofs.YthhknjlmjefklaaGreatDoor
namespace Go.Proofs.YthhknjlmjefklaaGreatDoor
open Go.RowKit Go.ChangeShapes Go.WideShapes Go.Deep
structure Raw where
 kind:Int
 n:Int
 s:List UInt8
 l:List Raw
namespace Raw
mutual
def enc:Raw→List Dt
 | ⟨k,n,s,l⟩=>[.val (.int .i64 k),.val (.int .i64 n),.val (str s),.row (encL l)]
def encL:List Raw→List (List Dt)
 | []=>[]
 | o::r=>enc o::encL r
end
mutual
def size:Raw→Nat
 | ⟨_,_,_,l⟩=>sizeL l+1
def sizeL:List Raw→Nat
 | []=>0
 | o::r=>size o+sizeL r
end
theorem encL_map (l:List Raw):encL l=l.map enc:=by
 induction l with
 | nil=>rfl
 | cons o r ih=>rw [encL,ih];rfl
theorem enc_eq (o:Raw):o.enc=[.val (.int .i64 o.kind),.val (.int .i64 o.n),.val (str o.s),.row (o.l.map enc)]:=by
 cases o;rw [enc,encL_map]
theorem enc_len (o:Raw):o.enc.length=4:=by rw [enc_eq];rfl
theorem size_pos (o:Raw):0 < o.size:=by cases o;rw [size];omega
theorem sizeL_mem {l:List Raw} {o:Raw} (h:o∈l):o.size≤sizeL l:=by
 induction l with
 | nil=>cases h
 | cons x r ih =>
  rw [sizeL]
  rcases List.mem_cons.1 h with rfl | h
  ·omega
  ·have:=ih h;omega
theorem size_l {o x:Raw} (h:x∈o.l):x.size < o.size:=by
 obtain ⟨k,n,s,l⟩:=o
 rw [size]
 have:=sizeL_mem (l:=l) h
 omega
theorem ind {motive:Raw→Prop} (step:∀ o,(∀ x∈o.l,motive x)→motive o) (o:Raw):motive o:=by
 have:∀ n (o:Raw),o.size≤n→motive o:=by
  intro n
  induction n with
  | zero=>intro o h;have:=size_pos o;omega
  | succ n ih=>intro o h;exact step o fun x hx=>ih x (by have:=size_l hx;omega)
 exact this o.size o (Nat.le_refl _)
inductive Wf:Raw→Prop
 | mk (o:Raw) (k0:-9223372036854775808≤o.kind) (k1:o.kind≤9223372036854775807) (n0:-9223372036854775808≤o.n) (n1:o.n≤9223372036854775807) (hs:o.s.length≤9223372036854775807) (hl:o.l.length≤9223372036854775807) (h:∀ x∈o.l,Wf x):Wf o
end Raw
section
variable {H:Type} {enc:TypeId×Value→H} {w:World} {base:Nat} {spare:Nat→Bool} {held:Bool}
theorem cellsRaw:Tryz.prog.cellsOf 51=4:=by kernel_rfl
theorem cellsI:Tryz.prog.cellsOf 3=1:=by kernel_rfl
theorem cellsS:Tryz.prog.cellsOf 9=1:=by kernel_rfl
theorem cellsRs:Tryz.prog.cellsOf 22=1:=by kernel_rfl
theorem bytes_le {s:ByteArray} (h:s.size≤maxLen):s.data.toList.length≤9223372036854775807:=by unfold maxLen at h;rw [← Lib.size_eq];exact h
set_option maxRecDepth 100000 in
theorem read_raw:∀ (fuel:Nat) (cs:List Value) (x:DataW H×List MemPlace),DataW.trod enc Tryz.prog w base spare held fuel 51 cs=some x→∃ r:Raw,r.Wf∧Reads w cs r.enc:=by
 intro fuel
 induction fuel using Nat.strongRecOn with
 | _ fuel ih =>
  intro cs x h
  obtain ⟨xs,n,hfu,_,hlen,hxl,hf⟩:=DataW.trod_struct Tryz.underlying51 h
  rw [cellsRaw] at hlen
  match cs,hlen with
  | [c0,c1,c2,c3],_ =>
   have f0:DataW.trod enc Tryz.prog w base spare held n 3 (List.take (Tryz.prog.cellsOf 3) (List.drop 0 [c0,c1,c2,c3]))=xs[0]?:=hf 0 _ rfl
   have f1:DataW.trod enc Tryz.prog w base spare held n 3 (List.take (Tryz.prog.cellsOf 3) (List.drop 1 [c0,c1,c2,c3]))=xs[1]?:=hf 1 _ rfl
   have f2:DataW.trod enc Tryz.prog w base spare held n 9 (List.take (Tryz.prog.cellsOf 9) (List.drop 2 [c0,c1,c2,c3]))=xs[2]?:=hf 2 _ rfl
   have f3:DataW.trod enc Tryz.prog w base spare held n 22 (List.take (Tryz.prog.cellsOf 22) (List.drop 3 [c0,c1,c2,c3]))=xs[3]?:=hf 3 _ rfl
   rw [cellsI] at f0 f1
   rw [cellsS] at f2
   rw [cellsRs] at f3
   match xs,hxl with
   | [y0,y1,y2,y3],_ =>
    replace f0:DataW.trod enc Tryz.prog w base spare held n 3 [c0]=some y0:=f0
    replace f1:DataW.trod enc Tryz.prog w base spare held n 3 [c1]=some y1:=f1
    replace f2:DataW.trod enc Tryz.prog w base spare held n 9 [c2]=some y2:=f2
    replace f3:DataW.trod enc Tryz.prog w base spare held n 22 [c3]=some y3:=f3
    obtain ⟨k,e0,_,w0⟩:=DataW.trod_int Tryz.underlying3 f0
    obtain ⟨m,e1,_,w1⟩:=DataW.trod_int Tryz.underlying3 f1
    obtain ⟨s,e2,_,w2⟩:=DataW.trod_string Tryz.underlying9 f2
    obtain ⟨A,n',c',l,e3,hr,hn,hg⟩:=read_rows Raw.enc Raw.Wf 4 (by omega) Raw.enc_len Tryz.underlying22 cellsRaw f3 (fun n'' hn'' cs' y hy=>ih n'' (by omega) cs' y hy)
    injection e0 with e0
    injection e1 with e1
    injection e2 with e2
    injection e3 with e3
    have b0:=bounds_i64 w0
    have b1:=bounds_i64 w1
    have hll:l.length=n':=by have:=hr.len;rwa [List.length_map] at this
    refine ⟨⟨k,m,s.data.toList,l⟩,.mk _ b0.1 b0.2 b1.1 b1.2 (bytes_le w2) (by show l.length≤_;rw [hll];unfold maxLen at hn;exact hn) hg,by rw [Raw.enc_len];rfl,fun j hj=>?_⟩
    simp only [Raw.enc_eq]
    rw [Raw.enc_len] at hj
    rcases j with _ | _ | _ | _ | j
    ·exact ⟨c0,rfl,by rw [e0];exact .val _⟩
    ·exact ⟨c1,rfl,by rw [e1];exact .val _⟩
    ·exact ⟨c2,rfl,by rw [e2,str_bytes];exact .val _⟩
    ·exact ⟨c3,rfl,by rw [e3];exact hr⟩
    ·omega
end
end Go.Proofs.YthhknjlmjefklaaGreatDoor
namespace Go.Proofs.YthhknjlmjefklaaGreatDoor
open Go.RowKit
theorem byteAt {D:ByteArray} {l:List UInt8} (h:D.data.toList=l) (k:Nat) (hk:k < D.size):∃ hl:k < l.length,D[k]=l[k]:=by
 subst h
 exact ⟨by rw [← Lib.size_eq];exact hk,rfl⟩
def lowC (c:UInt8):Bool:=decide (97≤c.toNat) && decide (c.toNat≤122)
def tailC (c:UInt8):Bool:=lowC c || decide (c.toNat=45) || (decide (48≤c.toNat) && decide (c.toNat≤57))
def charOk (i:Nat) (c:UInt8):Bool:=if i=0 then lowC c else tailC c
def pkgOk (l:List UInt8):Bool:=decide (1≤l.length) && decide (l.length≤40) && (List.range l.length).all fun i=>charOk i (l.getD i 0)
def nameOk (l:List UInt8):Bool:=decide (1≤l.length) && decide (l.length≤40)
def symOk (s:Sy):Bool:=pkgOk s.pkg && nameOk s.name
theorem pkgOk_bad {l:List UInt8} {k:Nat} (hk:k < l.length) (h:charOk k l[k]=false):pkgOk l=false:=by
 unfold pkgOk
 rw [Bool.and_eq_false_iff]
 right
 rw [Bool.eq_false_iff]
 intro hc
 have:=List.all_eq_true.1 hc k (List.mem_range.2 hk)
 rw [List.getD_eq_getElem?_getD,List.getElem?_eq_getElem hk] at this
 simp only [Option.getD_some] at this
 rw [h] at this;cases this
theorem pkgOk_good {l:List UInt8} (h1:1≤l.length) (h2:l.length≤40) (h:∀ i (hi:i < l.length),charOk i l[i]=true):pkgOk l=true:=by
 unfold pkgOk
 simp only [Bool.and_eq_true,decide_eq_true_eq]
 refine ⟨⟨h1,h2⟩,List.all_eq_true.2 fun i hi=>?_⟩
 have hi:=List.mem_range.1 hi
 rw [List.getD_eq_getElem?_getD,List.getElem?_eq_getElem hi]
 exact h i hi
theorem charOk_iff {i:Nat} {c:UInt8}:charOk i c=true↔((97≤c.toNat∧c.toNat≤122)∨(i≠0∧(c.toNat=45∨(48≤c.toNat∧c.toNat≤57)))):=by
 unfold charOk tailC lowC
 by_cases h:i=0 <;> simp [h]
 omega
theorem charOk_not {i:Nat} {c:UInt8}:charOk i c=false↔¬ ((97≤c.toNat∧c.toNat≤122)∨(i≠0∧(c.toNat=45∨(48≤c.toNat∧c.toNat≤57)))):=by
 rw [← charOk_iff];simp
theorem pkgOk_len {l:List UInt8} (h:l.length < 1∨40 < l.length):pkgOk l=false:=by
 unfold pkgOk
 rcases h with h | h
 ·have:decide (1≤l.length)=false:=by simpa using h
  rw [this];rfl
 ·have:decide (l.length≤40)=false:=by simpa using h
  rw [this];simp
theorem nameOk_len {l:List UInt8} (h:l.length < 1∨40 < l.length):nameOk l=false:=by
 unfold nameOk
 rcases h with h | h
 ·have:decide (1≤l.length)=false:=by simpa using h
  rw [this];rfl
 ·have:decide (l.length≤40)=false:=by simpa using h
  rw [this];simp
theorem charCases (c:Nat):(97≤c∧c≤122)∨(c=45∧c≤45)∨(48≤c∧c≤57)∨(c < 48∧c≠45)∨(57 < c∧c < 97)∨(122 < c∧c≠45):=by omega
set_option maxHeartbeats 1000000 in
theorem ref2Package_any (l:List UInt8) (w:World) (hl:l.length≤9223372036854775807) :
  Calls Tryz.prog 236 #[str l] w (RetPureV (.bool (pkgOk l)) w):=by
 obtain ⟨D,hD⟩:∃ D:ByteArray,D=⟨l.toArray⟩:=⟨_,rfl⟩
 unfold str
 rw [← hD]
 have HT:Hid (D.data.toList=l):=by rw [hD];exact (rfl:l.toArray.toList=l)
 have HSz:Hid (D.size=l.length):=by show _=_;rw [Lib.size_eq,HT.out]
 have hsz:D.size≤9223372036854775807:=by rw [HSz.out];exact hl
 clear hD hl
 by_cases h1:D.size < 1
 ·have HR:=Lib.hid (pkgOk_len (l:=l) (.inl (by rw [← HSz.out];exact h1)))
  go_enter Tryz.func236,Tryz.ntmps236
  go_wp2
  go_ret
  exact ⟨by rw [HR.out];rfl,rfl⟩
 ·by_cases h2:40 < D.size
  ·have HR:=Lib.hid (pkgOk_len (l:=l) (.inr (by rw [← HSz.out];exact h2)))
   go_enter Tryz.func236,Tryz.ntmps236
   go_wp2
   go_ret
   exact ⟨by rw [HR.out];rfl,rfl⟩
  ·have hp:0 < D.size:=by omega
   obtain ⟨hl0,e0⟩:=byteAt HT.out 0 hp
   have E0:=Lib.hid e0
   clear e0
   by_cases h3:97≤D[0].toNat∧D[0].toNat≤122
   ·obtain ⟨h3,h4⟩:=h3
    go_enter Tryz.func236,Tryz.ntmps236
    go_wp2
    go_loop [3] (fun ix=>∃ k:Nat,k≤D.size∧ix=.int .i64 k∧Hid (∀ i (hi:i < l.length),i < k→charOk i l[i]=true)) (fun ix=>D.size - (intOf ix).toNat)
    case atStart=>exact ⟨0,Nat.zero_le _,rfl,Lib.hid (fun i _ h=>absurd h (by omega))⟩
    case round =>
     obtain ⟨k,hk,rfl,HK⟩:=hrel
     by_cases hlt:k < D.size
     ·obtain ⟨hkl,ek⟩:=byteAt HT.out k hlt
      have EK:=Lib.hid ek
      have HU:Hid (charOk k l[k]=true→∀ i (hi:i < l.length),i < k+1→charOk i l[i]=true):=fun hc i hi h=>by
       rcases Nat.lt_or_ge i k with h' | h'
       ·exact HK.out i hi h'
       ·obtain rfl:i=k:=by omega
        exact hc
      have H0:Hid (k=0→97≤D[k].toNat∧D[k].toNat≤122):=fun e=>by subst e;exact ⟨h3,h4⟩
      clear ek
      rcases charCases D[k].toNat with ⟨g1,g2⟩ | ⟨g1,g2⟩ | ⟨g1,g2⟩ | ⟨g1,g2⟩ | ⟨g1,g2⟩ | ⟨g1,g2⟩
      ·go_wp2
       go_round
       case rel=>exact ⟨k+1,by omega,by go_num,Lib.hid (HU.out (charOk_iff.2 (by rw [← EK.out];omega)))⟩
       case measure=>simp only [intOf];omega
      ·have hne:((D[k].toNat:Int) != 45)=false:=by rw [bne_eq_false_iff_eq];omega
       have hk0:k≠0:=fun e=>by have:=H0.out e;omega
       go_wp2
       go_round
       case rel=>exact ⟨k+1,by omega,by go_num,Lib.hid (HU.out (charOk_iff.2 (by rw [← EK.out];omega)))⟩
       case measure=>simp only [intOf];omega
      ·have hk0:k≠0:=fun e=>by have:=H0.out e;omega
       go_wp2
       go_round
       case rel=>exact ⟨k+1,by omega,by go_num,Lib.hid (HU.out (charOk_iff.2 (by rw [← EK.out];omega)))⟩
       case measure=>simp only [intOf];omega
      all_goals
       have hne:((D[k].toNat:Int) != 45)=true:=by rw [bne_iff_ne];omega
       have HR:=Lib.hid (pkgOk_bad hkl (charOk_not.2 (by rw [← EK.out];omega)))
       go_wp2
       go_ret
       exact ⟨by rw [HR.out];rfl,rfl⟩
     ·have HR:=Lib.hid (pkgOk_good (l:=l) (by rw [← HSz.out];omega) (by rw [← HSz.out];omega) (fun i hi=>HK.out i hi (by rw [← HSz.out] at hi;omega)))
      go_wp2
      go_ret
      exact ⟨by rw [HR.out];rfl,rfl⟩
   ·have HR:=Lib.hid (pkgOk_bad hl0 (charOk_not.2 (by rw [← E0.out];omega)))
    rcases Nat.lt_or_ge D[0].toNat 97 with h5 | h5
    ·go_enter Tryz.func236,Tryz.ntmps236
     go_wp2
     go_ret
     exact ⟨by rw [HR.out];rfl,rfl⟩
    ·have h6:122 < D[0].toNat:=by omega
     go_enter Tryz.func236,Tryz.ntmps236
     go_wp2
     go_ret
     exact ⟨by rw [HR.out];rfl,rfl⟩
end Go.Proofs.YthhknjlmjefklaaGreatDoor
namespace Go.Proofs.YthhknjlmjefklaaGreatDoor
open Go.RowKit
def signOf (ng:Bool):List UInt8:=if ng then [45] else []
theorem itoa_sign (ng:Bool) {v:Nat} (hv:v≠0):Lib.itoa (if ng then -(v:Int) else v)=signOf ng++Lib.decDigits v:=by
 cases ng
 ·simp [signOf,Dec.itoa_pos]
 ·simp [signOf,Dec.itoa_neg' hv]
def numStr (ng:Bool) (v:Nat):List UInt8:=Lib.itoa (if ng then -(v:Int) else v)
def RetStr (l:List UInt8) (w:World) (e:Ending) (w':World):Prop:=e=.returned (.string ⟨l.toArray⟩)∧Below w.heap.size w w'
theorem numStr_zero (ng:Bool):numStr ng 0=[48]:=by cases ng <;> exact Dec.itoa_zero
end Go.Proofs.YthhknjlmjefklaaGreatDoor
namespace Go.Proofs.YthhknjlmjefklaaGreatDoor
open Go.RowKit
theorem Sl.one (w:World) (k:IntKind) (E:TypeId) (y:Nat):Sl (w.alloc (.cells #[.int k (y:Int)] E)) k (some ⟨w.heap.size,0,none⟩) 1 1 [y] :=
 ⟨rfl,Nat.le_refl _,fun _=>⟨w.heap.size,0,rfl,by simp,fun i hi=>by
  obtain rfl:i=0:=by omega
  exact (BlkIs.new w E #[.int k (y:Int)]).cell 0⟩⟩
theorem Sl.alloc {w:World} {k:IntKind} {A:Option Addr} {n c:Nat} {l:List Nat} (h:Sl w k A n c l) (o:Obj):Sl (w.alloc o) k A n c l:=h.below ((Below.refl _ _).alloc (Nat.le_refl _) _)
end Go.Proofs.YthhknjlmjefklaaGreatDoor
namespace Go.Proofs.YthhknjlmjefklaaGreatDoor
open Go.RowKit
section
variable {P:Program} {w:World}
theorem run_apps (base:Nat) (t ty E:TypeId) (k:IntKind) (bytes:Nat) (ht:P.underlying t=some (.slice E)) (hinfo:(P.info? E).map (fun i=>(i.zero,i.size,i.bytes))=some (some (.int k 0),1,bytes)) (hbytes:bytes≤8)
  (A:Option Addr) (n c:Nat) (l:List Nat) (hown:Own w base E k A n c l) (A':Option Addr) (m c':Nat) (l':List Nat) (hs:Sl w k A' m c' l')
  (hn:n+m≤1000000000000) (hbase:base≤w.heap.size) :
  ∃ A2 c2 w2,(Builtin.append_ #[t,t] ty #[.slice A n c,.slice A' m c']).run P w=.ok (.slice A2 (n+m) c2) w2∧Own w2 base E k A2 (n+m) c2 (l++l') ∧
   (∀ g,g < w.heap.size→A≠some ⟨g,0,none⟩→w2.heap[g]?=w.heap[g]?)∧w.heap.size≤w2.heap.size∧w2.os=w.os∧w2.tape=w.tape∧w2.output=w.output:=by
 obtain ⟨i0,hi0,hz0,hz1,hz2⟩:=info_parts hinfo
 have hAn:A=none∨∃ g,A=some ⟨g,0,none⟩:=by
  rcases hown.own.2 with ⟨hv,_⟩ | ⟨g,cap,cur,hv,_⟩
  ·simp only [Value.slice.injEq] at hv;exact .inl hv.1
  ·simp only [Value.slice.injEq] at hv;exact .inr ⟨g,hv.1⟩
 rcases A' with _ | ad
 ·have hm:m=0:=by
   rcases Nat.eq_zero_or_pos m with h0 | h0
   ·exact h0
   ·obtain ⟨b,o,e,_⟩:=hs.cells h0;cases e
  subst hm
  have hl:l'=[]:=List.eq_nil_of_length_eq_zero hs.len
  subst hl
  refine ⟨A,c,w,?_,by simpa using hown,fun _ _ _=>rfl,Nat.le_refl _,rfl,rfl,rfl⟩
  rcases hown.own.2 with ⟨hv,h0⟩ | ⟨g,cap,cur,hv,_,_,hnc,_⟩
  ·simp only [Value.slice.injEq] at hv
   obtain ⟨rfl,rfl,rfl⟩:=hv
   simp [Builtin.append_,run_underlying ht,sizeOf,typeInfo,hi0,Builtin.lenOf,Builtin.firstCells]
  ·simp only [Value.slice.injEq] at hv
   obtain ⟨rfl,_,rfl⟩:=hv
   simp [Builtin.append_,run_underlying ht,sizeOf,typeInfo,hi0,Builtin.lenOf,Builtin.firstCells,hnc,storeCells]
 ·have hcells:∀ j u,(l'.map fun x=>Value.int k (x:Nat))[j]?=some u→w.cell? (ad.add j)=some u:=by
   intro j u hu
   have hj:j < m:=by
    rw [← hs.len]
    rcases Nat.lt_or_ge j l'.length with h | h
    ·exact h
    ·rw [List.getElem?_eq_none (by simpa using h)] at hu;cases hu
   obtain ⟨b,o,e,_,hc⟩:=hs.cells (by omega)
   injection e with e
   subst e
   have e2:(⟨b,o,none⟩:Addr).add j=⟨b,o+j,none⟩:=by
    unfold Addr.add
    split
    ·subst j;rfl
    ·rfl
   rw [e2,hc j hj]
   rw [List.getElem?_map,List.getElem?_eq_getElem (by rw [hs.len];exact hj)] at hu
   rw [List.getD_eq_getElem?_getD,List.getElem?_eq_getElem (by rw [hs.len];exact hj)]
   simpa using hu
  obtain ⟨v',w',hrun,h2,h3,h4,h5⟩:=run_append_own_at (P:=P) w base t ty E i0 (.int k 0) 1 bytes ht hi0 hz0 hz1 hz2 rfl (by omega) _ n _ hown.own ad m c' (l'.map fun x=>Value.int k (x:Nat)) (by simp [hs.len]) hcells (by
   intro u hu
   obtain ⟨x,_,rfl⟩:=List.mem_map.1 hu
   rfl) (by unfold maxLen;omega) (by
   have:(n+m) * bytes≤1000000000000 * 8:=Nat.mul_le_mul hn hbytes
   omega) hbase
  obtain ⟨A2,c2,rfl⟩:∃ A2 c2,v'=.slice A2 (n+m) c2:=by
   rcases h2.2 with ⟨rfl,h0⟩ | ⟨g,cap,cur,rfl,_⟩
   ·exact ⟨none,0,by rw [h0]⟩
   ·exact ⟨_,_,rfl⟩
  refine ⟨A2,c2,w',hrun,⟨by simpa using h2⟩,fun g hg hne=>h3.block g hg (fun e=>?_),h3.size,h3.os,h3.tape,h3.output⟩
  rcases hAn with rfl | ⟨g',rfl⟩
  ·simp [Value.ownBlock] at e
  ·simp [Value.ownBlock] at e;subst e;exact hne rfl
theorem wp_apps {o:Oper} {a:Act} {K:Act→World→Prop} {Q:Exit→Act→World→Prop} (s x:Operand) (t:TypeId)
  (ho:o.op=.call { callee:=.builtin .append,args:=#[s,x],argTypes:=#[t,t] })
  (base:Nat) (E:TypeId) (k:IntKind) (bytes:Nat) (ht:P.underlying t=some (.slice E)) (hinfo:(P.info? E).map (fun i=>(i.zero,i.size,i.bytes))=some (some (.int k 0),1,bytes)) (hbytes:bytes≤8)
  (A:Option Addr) (n c:Nat) (l:List Nat) (hs:a.eval s=.slice A n c) (hown:Own w base E k A n c l) (A':Option Addr) (m c':Nat) (l':List Nat) (hx:a.eval x=.slice A' m c') (hsl:Sl w k A' m c' l')
  (hn:n+m≤1000000000000) (hbase:base≤w.heap.size)
  (h:∀ A2 c2 w2,Own w2 base E k A2 (n+m) c2 (l++l')→(∀ g,g < w.heap.size→A≠some ⟨g,0,none⟩→w2.heap[g]?=w.heap[g]?)→w.heap.size≤w2.heap.size→w2.os=w.os→w2.tape=w.tape→w2.output=w.output→K (a.put o.dst (.slice A2 (n+m) c2)) w2):o.wp P a w K Q:=by
 obtain ⟨A2,c2,w2,hrun,h2,h3,h4,h5,h6,h7⟩:=run_apps (P:=P) base t o.type E k bytes ht hinfo hbytes A n c l hown A' m c' l' hsl hn hbase
 unfold Oper.wp execOp
 simp only [ho,resolve,invoke,builtin,Sem.run_bind,Sem.run_pure,Result.andThen_ok,List.map_toArray,List.map_cons,List.map_nil,hs,hx,hrun]
 exact h A2 c2 w2 h2 h3 h4 h5 h6 h7
theorem wpList_apps {ops:Array Oper} {rest:List Oper} {o:Oper} {a:Act} {Q:Exit→Act→World→Prop} (hgd:o.guard=none) (s x:Operand) (t:TypeId)
  (ho:o.op=.call { callee:=.builtin .append,args:=#[s,x],argTypes:=#[t,t] })
  (base:Nat) (E:TypeId) (k:IntKind) (bytes:Nat) (ht:P.underlying t=some (.slice E)) (hinfo:(P.info? E).map (fun i=>(i.zero,i.size,i.bytes))=some (some (.int k 0),1,bytes)) (hbytes:bytes≤8)
  (A:Option Addr) (n c:Nat) (l:List Nat) (hs:a.eval s=.slice A n c) (hown:Own w base E k A n c l) (A':Option Addr) (m c':Nat) (l':List Nat) (hx:a.eval x=.slice A' m c') (hsl:Sl w k A' m c' l')
  (hn:n+m≤1000000000000) (hbase:base≤w.heap.size)
  (h:∀ A2 c2 w2,Own w2 base E k A2 (n+m) c2 (l++l')→(∀ g,g < w.heap.size→A≠some ⟨g,0,none⟩→w2.heap[g]?=w.heap[g]?)→w.heap.size≤w2.heap.size→w2.os=w.os→w2.tape=w.tape→w2.output=w.output→wpList P ops Q rest (a.put o.dst (.slice A2 (n+m) c2)) w2):wpList P ops Q (o::rest) a w :=
 wpList_plain hgd fun _ hK=>wp_apps s x t ho base E k bytes ht hinfo hbytes A n c l hs hown A' m c' l' hx hsl hn hbase fun A2 c2 w2 h2 h3 h4 h5 h6 h7=>hK _ _ (h A2 c2 w2 h2 h3 h4 h5 h6 h7)
end
end Go.Proofs.YthhknjlmjefklaaGreatDoor
namespace Go.Proofs.YthhknjlmjefklaaGreatDoor
open Go.RowKit
theorem Sl.far {w:World} {k:IntKind} {A:Option Addr} {n c:Nat} {l:List Nat} (h:Sl w k A n c l) {p:Addr} (hp:∀ b o,A=some ⟨b,o,none⟩→b≠p.block) (u:Value):Sl (w.setCell p u) k A n c l :=
 ⟨h.len,h.cap,fun hn=>by
  obtain ⟨b,o,e,hlt,hc⟩:=h.cells hn
  refine ⟨b,o,e,by simpa [World.setCell] using hlt,fun i hi=>?_⟩
  have hne:=hp b o e
  rw [World.cell?_setCell_other w p ⟨b,o+i,none⟩ u (fun e=>hne (by rw [e]))]
  exact hc i hi⟩
theorem set_drop (q:List Nat) (i d:Nat) (h:i < q.length):(q.set i d).drop i=d::q.drop (i+1):=by
 rw [List.drop_eq_getElem_cons (by simpa using h),List.getElem_set_self,List.drop_set_of_lt (by omega)]
end Go.Proofs.YthhknjlmjefklaaGreatDoor
namespace Go.Proofs.YthhknjlmjefklaaGreatDoor
open Go.RowKit
def cmpI (a b:Int):Int:=if a < b then -1 else if b < a then 1 else 0
theorem cmpI_lt {a b:Int} (h:a < b):cmpI a b=-1:=by simp [cmpI,h]
theorem cmpI_gt {a b:Int} (h:b < a):cmpI a b=1:=by simp [cmpI,h];omega
theorem cmpI_pos {a b:Int} (ha:¬ a < 0) (hb:¬ b < 0):ordI a.natAbs b.natAbs=cmpI a b:=by
 unfold ordI cmpI
 by_cases h1:a < b
 ·rw [if_pos (by omega),if_pos h1]
 ·rw [if_neg (by omega),if_neg h1]
  by_cases h2:b < a
  ·rw [if_pos (by omega),if_pos h2]
  ·rw [if_neg (by omega),if_neg h2]
theorem cmpI_neg {a b:Int} (ha:a < 0) (hb:b < 0):ordI b.natAbs a.natAbs=cmpI a b:=by
 unfold ordI cmpI
 by_cases h1:a < b
 ·rw [if_pos (by omega),if_pos h1]
 ·rw [if_neg (by omega),if_neg h1]
  by_cases h2:b < a
  ·rw [if_pos (by omega),if_pos h2]
  ·rw [if_neg (by omega),if_neg h2]
def RetI64 (v:Int) (w:World) (e:Ending) (w':World):Prop:=e=.returned (.int .i64 v)∧Below w.heap.size w w'
end Go.Proofs.YthhknjlmjefklaaGreatDoor
namespace Go.Proofs.YthhknjlmjefklaaGreatDoor
open Go.RowKit
theorem itoa_natNeg {v:Int} (h:v < 0):Lib.itoa v=45::Lib.decDigits v.natAbs:=by
 obtain ⟨u,rfl⟩:∃ u:Nat,v=-(u:Int):=⟨v.natAbs,by omega⟩
 rw [Dec.itoa_neg' (by omega)];simp
theorem itoa_natPos {v:Int} (h:0≤v):Lib.itoa v=Lib.decDigits v.natAbs:=by
 obtain ⟨u,rfl⟩:∃ u:Nat,v=(u:Int):=⟨v.natAbs,by omega⟩
 rw [Dec.itoa_pos];simp
theorem fromInt_any (n:Int) (w:World) (ht:Tab w) (h0:-9223372036854775808≤n) (h1:n≤9223372036854775807) :
  Calls Tryz.prog 81 #[.int .i64 n] w (RetStr (Lib.itoa n) w):=by
 have HI:=Lib.hid (itoa_any n w ht h0 h1)
 clear h0 h1
 go_enter Tryz.func81,Tryz.ntmps81
 go_wp2_with fail
 refine HI.out.mono ?_
 rintro e w' ⟨rfl,hb⟩
 go_wp2
 go_ret
 exact ⟨rfl,hb⟩
end Go.Proofs.YthhknjlmjefklaaGreatDoor
namespace Go.Proofs.YthhknjlmjefklaaGreatDoor
open Go.RowKit
theorem numStr_eq {s:Bool} {m:Nat} {v:Int} (h:(if s then -(m:Int) else m)=v):numStr s m=Lib.itoa v:=by unfold numStr;rw [h]
end Go.Proofs.YthhknjlmjefklaaGreatDoor
namespace Go.Proofs.YthhknjlmjefklaaGreatDoor
open Go.RowKit
theorem dval_lt (l:List UInt8):(Dec.dval l).natAbs < 10 ^ (l.length)∨Dec.dval l=0:=by
 unfold Dec.dval
 cases hd:Dec.isDec l with
 | false=>right;simp
 | true =>
  by_cases h0:l=[48]
  ·right;subst h0;decide
  ·left
   obtain ⟨h1,_⟩:=(Dec.isDec_iff h0).1 hd
   have h2:=Dec.nval_lt _ h1
   have h3:10 ^ (Dec.mag l).length≤10 ^ l.length:=Nat.pow_le_pow_right (by omega) (Dec.mag_length_le l)
   simp only [if_true]
   split <;> omega
theorem dval_lt18 {l:List UInt8} {k:Nat} (h:l.length≤k):(Dec.dval l).natAbs < 10 ^ k:=by
 have h3:10 ^ l.length≤10 ^ k:=Nat.pow_le_pow_right (by omega) h
 have h4:0 < 10 ^ k:=Nat.pow_pos (by omega)
 rcases dval_lt l with h1 | h1
 ·omega
 ·rw [h1];simpa using h4
theorem itoa_length_any (v:Int) {k:Nat} (hk:1≤k) (h:v.natAbs < 10 ^ k):(Lib.itoa v).length≤k+1:=by
 have h1:=Dec.decDigits_length_le hk h
 by_cases hv:v < 0
 ·rw [itoa_natNeg hv,List.length_cons];omega
 ·rw [itoa_natPos (by omega)];omega
theorem mul_sign (x y:Int):(if (decide (x < 0)) != (decide (y < 0)) then -((x.natAbs * y.natAbs:Nat):Int) else ((x.natAbs * y.natAbs:Nat):Int))=x * y:=by
 rw [← Int.natAbs_mul]
 by_cases h1:x < 0 <;> by_cases h2:y < 0
 ·have:=Int.mul_pos_of_neg_of_neg h1 h2
  simp [h1,h2];omega
 ·have:x * y≤0:=Int.mul_nonpos_of_nonpos_of_nonneg (by omega) (by omega)
  simp [h1,h2];omega
 ·have:x * y≤0:=Int.mul_nonpos_of_nonneg_of_nonpos (by omega) (by omega)
  simp [h1,h2];omega
 ·have:0≤x * y:=Int.mul_nonneg (by omega) (by omega)
  simp [h1,h2];omega
end Go.Proofs.YthhknjlmjefklaaGreatDoor
namespace Go.Proofs.YthhknjlmjefklaaGreatDoor
open Go.RowKit
end Go.Proofs.YthhknjlmjefklaaGreatDoor
