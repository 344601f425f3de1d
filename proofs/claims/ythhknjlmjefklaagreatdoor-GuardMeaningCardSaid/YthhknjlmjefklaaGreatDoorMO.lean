/- Valid trees under the primitives; Apply of both texts for any symbol and any row of valid trees. -/
import Derived.Test.YthhknjlmjefklaaGreatDoorMN
import Derived.Test.YthhknjlmjefklaaGreatDoorMM
import Derived.Test.YthhknjlmjefklaaGreatDoorMK
import Derived.Test.YthhknjlmjefklaaGreatDoorMD
import Derived.Test.YthhknjlmjefklaaGreatDoorML
namespace Go.Proofs.YthhknjlmjefklaaGreatDoor
open Go.RowKit
theorem dg_lt {n:Int} (h:n.natAbs < 10 ^ 100):dg (Lib.itoa n)≤100:=by
 have e:norm (Lib.itoa n)=Lib.itoa n:=by rw [norm_eq,Dec.dval_itoa]
 have h1:=Dec.decDigits_length_le (k:=100) (by decide) h
 show (Dec.mag (norm (Lib.itoa n))).length≤100
 rw [e]
 by_cases hv:n < 0
 ·rw [itoa_natNeg hv,Dec.mag_cons45]
  exact h1
 ·rw [itoa_natPos (by omega)]
  exact Nat.le_trans (Dec.mag_length_le _) h1
theorem lt_dg {n:Int} (h:dg (Lib.itoa n)≤100):n.natAbs < 10 ^ 100:=by
 obtain ⟨hd,_,hv,_⟩:=mag_norm (Lib.itoa n)
 rw [Dec.dval_itoa] at hv
 rw [← hv]
 exact Nat.lt_of_lt_of_le (Dec.nval_lt _ hd) (Nat.pow_le_pow_right (by decide) h)
namespace Tr
theorem good_num {q:Rat}:good (.num q)=true↔Rb 100 q:=by
 show decide (dg (Lib.itoa q.num)≤100∧dg (Lib.itoa (q.den:Int))≤100)=true↔_
 rw [decide_eq_true_eq]
 constructor
 ·intro h
  have h2:=lt_dg h.2
  rw [Int.natAbs_natCast] at h2
  exact ⟨lt_dg h.1,h2,by decide⟩
 ·intro h
  exact ⟨dg_lt h.num,dg_lt (by rw [Int.natAbs_natCast];exact h.den)⟩
theorem valid_good {t:Tr} (h:t.valid=true):t.good=true:=(valid_iff.1 h).2
theorem good_val {t:Tr} (h:t.good=true):Rb 100 t.val:=by
 cases t with
 | num q=>exact good_num.1 h
 | _=>exact Rb.zero.mono (by decide)
theorem good_tx {t:Tr} (h:t.good=true):t.tx.length≤200:=by
 cases t with
 | txt s=>exact of_decide_eq_true h
 | _=>exact Nat.zero_le _
theorem valid_num {q:Rat} (h:Rb 100 q):valid (.num q)=true:=valid_iff.2 ⟨(by decide:1≤3000),good_num.2 h⟩
theorem valid_int {n:Int} (h:n.natAbs < 10 ^ 100):valid (.num (n:Rat))=true:=valid_num (rbI (by decide) h)
theorem valid_txt {l:List UInt8} (h:l.length≤200):valid (.txt l)=true:=valid_iff.2 ⟨(by decide:1≤3000),decide_eq_true h⟩
theorem valid_sym {p s:List UInt8} (h:symOk ⟨p,s⟩=true):valid (.sym p s)=true:=valid_iff.2 ⟨(by decide:1≤3000),h⟩
theorem valid_nil:valid nilT=true:=by decide +kernel
theorem valid_t:valid (.sym lispB [116])=true:=by decide +kernel
theorem valid_tru (b:Bool):valid (truT b)=true:=by cases b;exact valid_nil;exact valid_t
theorem valid_arg {t:Tr} (h:t.valid=true):Arg t:=⟨(good_ok (valid_good h)).mono (by decide),Nat.le_trans (good_tx (valid_good h)) (by decide)⟩
theorem sym_lens {p s:List UInt8} (h:symOk ⟨p,s⟩=true):p.length≤40∧s.length≤40:=by
 have h':(pkgOk p && nameOk s)=true:=h
 simp only [pkgOk,nameOk,Bool.and_eq_true,decide_eq_true_eq] at h'
 omega
theorem ap_valid {x y z:Tr} (hx:x.valid=true) (hy:y.valid=true) (hz:z.valid=true):∀ i:Nat,i≠2→i≠10→i≠11→i≠21→(ap i x y z).valid=true
 | 0,_,_,_,_=>by
  show (if x=nilT then z else y).valid=true
  split
  ·exact hz
  ·exact hy
 | 1,_,_,_,_=>valid_tru _
 | 2,h,_,_,_=>absurd rfl h
 | 3,_,_,_,_=>by
  cases x with
  | cons a d=>exact (valid_parts hx).1
  | _=>exact valid_nil
 | 4,_,_,_,_=>by
  cases x with
  | cons a d=>exact (valid_parts hx).2
  | _=>exact valid_nil
 | 5,_,_,_,_=>valid_tru _
 | 6,_,_,_,_=>valid_tru _
 | 7,_,_,_,_=>valid_tru _
 | 8,_,_,_,_=>valid_tru _
 | 9,_,_,_,_=>valid_tru _
 | 10,_,h,_,_=>absurd rfl h
 | 11,_,_,h,_=>absurd rfl h
 | 12,_,_,_,_=>valid_num (good_val (valid_good hx)).neg
 | 13,_,_,_,_=>valid_num (good_val (valid_good hx)).inv
 | 14,_,_,_,_=>valid_tru _
 | 15,_,_,_,_=>valid_int (good_val (valid_good hx)).num
 | 16,_,_,_,_=>valid_int (by rw [Int.natAbs_natCast];exact (good_val (valid_good hx)).den)
 | 17,_,_,_,_=>valid_int (by
   have hp:(0:Int) < x.val.den:=Int.natCast_pos.2 x.val.den_pos
   unfold qd
   rw [if_neg (by omega),if_pos hp]
   exact Nat.lt_of_le_of_lt (Int.natAbs_ediv_le_natAbs _ _) (good_val (valid_good hx)).num)
 | 18,_,_,_,_=>by
  cases x with
  | sym p s=>exact valid_txt (by have h:=sym_lens (valid_good hx);show s.length≤200;omega)
  | _=>exact valid_txt (Nat.zero_le _)
 | 19,_,_,_,_=>by
  cases x with
  | sym p s=>exact valid_txt (by have h:=sym_lens (valid_good hx);show p.length≤200;omega)
  | _=>exact valid_txt (Nat.zero_le _)
 | 20,_,_,_,_=>by
  show (if x.isT && y.isT && symOk ⟨y.tx,x.tx⟩ then Tr.sym y.tx x.tx else nilT).valid=true
  split
  ·rename_i h
   rw [Bool.and_eq_true] at h
   exact valid_sym h.2
  ·exact valid_nil
 | 21,_,_,_,h=>absurd rfl h
 | 22,_,_,_,_=>valid_int (by
   have:=good_tx (valid_good hx)
   rw [Int.natAbs_natCast]
   exact Nat.lt_of_le_of_lt this (by decide))
 | 23,_,_,_,_=>by
  show (match x.ixV y with | some n=>Tr.num (((x.tx.getD n.toNat 0).toNat:Int):Rat) | none=>nilT).valid=true
  split
  ·rename_i n _
   exact valid_int (by rw [Int.natAbs_natCast];exact Nat.lt_trans (x.tx.getD n.toNat 0).toNat_lt (by decide))
  ·exact valid_nil
 | 24,_,_,_,_=>by
  show (match x.octV with | some n=>Tr.txt [UInt8.ofNat n.toNat] | none=>Tr.txt []).valid=true
  split
  ·exact valid_txt (show 1≤200 by decide)
  ·exact valid_txt (Nat.zero_le _)
 | _+25,_,_,_,_=>valid_nil
theorem apO_eq {x y z:Tr} (hx:x.valid=true) (hy:y.valid=true) (hz:z.valid=true) (i:Nat):apO i x y z=kept' (ap i x y z):=by
 unfold apO
 split
 ·rfl
 ·rename_i h
  rw [kept_t (ap_valid hx hy hz i (by omega) (by omega) (by omega) (by omega))]
abbrev apL (i:Nat) (l:List Tr):Tr:=ap i (l.getD 0 nilT) (l.getD 1 nilT) (l.getD 2 nilT)
end Tr
theorem getD_valid {l:List Tr} (h:∀ t∈l,t.valid=true) (i:Nat):(l.getD i nilT).valid=true:=by
 rw [List.getD_eq_getElem?_getD]
 rcases Nat.lt_or_ge i l.length with h1 | h1
 ·rw [List.getElem?_eq_getElem h1]
  exact h _ (List.getElem_mem h1)
 ·rw [List.getElem?_eq_none h1]
  exact Tr.valid_nil
theorem p_oAri:∀ {i:Nat} {s:List UInt8} {a:Nat},primL[i]?=some (s,a)→Puk 38 [syA lispB s] (.tup [inA (a:Int),boA true])
 | 0,_,_,h=>by cases h;exact p_oAr0
 | 1,_,_,h=>by cases h;exact p_oAr1
 | 2,_,_,h=>by cases h;exact p_oAr2
 | 3,_,_,h=>by cases h;exact p_oAr3
 | 4,_,_,h=>by cases h;exact p_oAr4
 | 5,_,_,h=>by cases h;exact p_oAr5
 | 6,_,_,h=>by cases h;exact p_oAr6
 | 7,_,_,h=>by cases h;exact p_oAr7
 | 8,_,_,h=>by cases h;exact p_oAr8
 | 9,_,_,h=>by cases h;exact p_oAr9
 | 10,_,_,h=>by cases h;exact p_oAr10
 | 11,_,_,h=>by cases h;exact p_oAr11
 | 12,_,_,h=>by cases h;exact p_oAr12
 | 13,_,_,h=>by cases h;exact p_oAr13
 | 14,_,_,h=>by cases h;exact p_oAr14
 | 15,_,_,h=>by cases h;exact p_oAr15
 | 16,_,_,h=>by cases h;exact p_oAr16
 | 17,_,_,h=>by cases h;exact p_oAr17
 | 18,_,_,h=>by cases h;exact p_oAr18
 | 19,_,_,h=>by cases h;exact p_oAr19
 | 20,_,_,h=>by cases h;exact p_oAr20
 | 21,_,_,h=>by cases h;exact p_oAr21
 | 22,_,_,h=>by cases h;exact p_oAr22
 | 23,_,_,h=>by cases h;exact p_oAr23
 | 24,_,_,h=>by cases h;exact p_oAr24
 | _+25,_,_,h=>by cases h
theorem p_rAp:∀ {i:Nat} {s:List UInt8} {a:Nat} {l:List Tr},primL[i]?=some (s,a)→(∀ t∈l,t.valid=true)→l.length=a→Puk 88 [syA lispB s,rowA l] (resT (Tr.kept' (Tr.apL i l)))
 | 0,_,_,[x,y,z],h,hl,_=>by cases h;exact p_rApp0 (Tr.valid_arg (hl x (List.mem_cons_self ..))) (Tr.valid_arg (hl y (List.mem_cons_of_mem _ (List.mem_cons_self ..)))) (Tr.valid_arg (hl z (List.mem_cons_of_mem _ (List.mem_cons_of_mem _ (List.mem_cons_self ..)))))
 | 0,_,_,[],h,_,hn=>by cases h;exact absurd hn (by simp)
 | 0,_,_,[_],h,_,hn=>by cases h;exact absurd hn (by simp)
 | 0,_,_,[_,_],h,_,hn=>by cases h;exact absurd hn (by simp)
 | 0,_,_,_::_::_::_::_,h,_,hn=>by cases h;simp at hn
 | 1,_,_,[x,y],h,hl,_=>by cases h;exact p_rApp1 (Tr.valid_arg (hl x (List.mem_cons_self ..))) (Tr.valid_arg (hl y (List.mem_cons_of_mem _ (List.mem_cons_self ..))))
 | 1,_,_,[],h,_,hn=>by cases h;exact absurd hn (by simp)
 | 1,_,_,[_],h,_,hn=>by cases h;exact absurd hn (by simp)
 | 1,_,_,_::_::_::_,h,_,hn=>by cases h;simp at hn
 | 2,_,_,[x,y],h,hl,_=>by cases h;exact p_rApp2 (Tr.valid_arg (hl x (List.mem_cons_self ..))) (Tr.valid_arg (hl y (List.mem_cons_of_mem _ (List.mem_cons_self ..))))
 | 2,_,_,[],h,_,hn=>by cases h;exact absurd hn (by simp)
 | 2,_,_,[_],h,_,hn=>by cases h;exact absurd hn (by simp)
 | 2,_,_,_::_::_::_,h,_,hn=>by cases h;simp at hn
 | 3,_,_,[x],h,hl,_=>by cases h;exact p_rApp3 (Tr.valid_arg (hl x (List.mem_cons_self ..)))
 | 3,_,_,[],h,_,hn=>by cases h;exact absurd hn (by simp)
 | 3,_,_,_::_::_,h,_,hn=>by cases h;simp at hn
 | 4,_,_,[x],h,hl,_=>by cases h;exact p_rApp4 (Tr.valid_arg (hl x (List.mem_cons_self ..)))
 | 4,_,_,[],h,_,hn=>by cases h;exact absurd hn (by simp)
 | 4,_,_,_::_::_,h,_,hn=>by cases h;simp at hn
 | 5,_,_,[x],h,hl,_=>by cases h;exact p_rApp5 (Tr.valid_arg (hl x (List.mem_cons_self ..)))
 | 5,_,_,[],h,_,hn=>by cases h;exact absurd hn (by simp)
 | 5,_,_,_::_::_,h,_,hn=>by cases h;simp at hn
 | 6,_,_,[x],h,hl,_=>by cases h;exact p_rApp6 (Tr.valid_arg (hl x (List.mem_cons_self ..)))
 | 6,_,_,[],h,_,hn=>by cases h;exact absurd hn (by simp)
 | 6,_,_,_::_::_,h,_,hn=>by cases h;simp at hn
 | 7,_,_,[x],h,hl,_=>by cases h;exact p_rApp7 (Tr.valid_arg (hl x (List.mem_cons_self ..)))
 | 7,_,_,[],h,_,hn=>by cases h;exact absurd hn (by simp)
 | 7,_,_,_::_::_,h,_,hn=>by cases h;simp at hn
 | 8,_,_,[x],h,hl,_=>by cases h;exact p_rApp8 (Tr.valid_arg (hl x (List.mem_cons_self ..)))
 | 8,_,_,[],h,_,hn=>by cases h;exact absurd hn (by simp)
 | 8,_,_,_::_::_,h,_,hn=>by cases h;simp at hn
 | 9,_,_,[x],h,hl,_=>by cases h;exact p_rApp9 (Tr.valid_arg (hl x (List.mem_cons_self ..)))
 | 9,_,_,[],h,_,hn=>by cases h;exact absurd hn (by simp)
 | 9,_,_,_::_::_,h,_,hn=>by cases h;simp at hn
 | 10,_,_,[x,y],h,hl,_=>by cases h;exact p_rApp10 (Tr.valid_arg (hl x (List.mem_cons_self ..))) (Tr.valid_arg (hl y (List.mem_cons_of_mem _ (List.mem_cons_self ..))))
 | 10,_,_,[],h,_,hn=>by cases h;exact absurd hn (by simp)
 | 10,_,_,[_],h,_,hn=>by cases h;exact absurd hn (by simp)
 | 10,_,_,_::_::_::_,h,_,hn=>by cases h;simp at hn
 | 11,_,_,[x,y],h,hl,_=>by cases h;exact p_rApp11 (Tr.valid_arg (hl x (List.mem_cons_self ..))) (Tr.valid_arg (hl y (List.mem_cons_of_mem _ (List.mem_cons_self ..))))
 | 11,_,_,[],h,_,hn=>by cases h;exact absurd hn (by simp)
 | 11,_,_,[_],h,_,hn=>by cases h;exact absurd hn (by simp)
 | 11,_,_,_::_::_::_,h,_,hn=>by cases h;simp at hn
 | 12,_,_,[x],h,hl,_=>by cases h;exact p_rApp12 (Tr.valid_arg (hl x (List.mem_cons_self ..)))
 | 12,_,_,[],h,_,hn=>by cases h;exact absurd hn (by simp)
 | 12,_,_,_::_::_,h,_,hn=>by cases h;simp at hn
 | 13,_,_,[x],h,hl,_=>by cases h;exact p_rApp13 (Tr.valid_arg (hl x (List.mem_cons_self ..)))
 | 13,_,_,[],h,_,hn=>by cases h;exact absurd hn (by simp)
 | 13,_,_,_::_::_,h,_,hn=>by cases h;simp at hn
 | 14,_,_,[x,y],h,hl,_=>by cases h;exact p_rApp14 (Tr.valid_arg (hl x (List.mem_cons_self ..))) (Tr.valid_arg (hl y (List.mem_cons_of_mem _ (List.mem_cons_self ..))))
 | 14,_,_,[],h,_,hn=>by cases h;exact absurd hn (by simp)
 | 14,_,_,[_],h,_,hn=>by cases h;exact absurd hn (by simp)
 | 14,_,_,_::_::_::_,h,_,hn=>by cases h;simp at hn
 | 15,_,_,[x],h,hl,_=>by cases h;exact p_rApp15 (Tr.valid_arg (hl x (List.mem_cons_self ..)))
 | 15,_,_,[],h,_,hn=>by cases h;exact absurd hn (by simp)
 | 15,_,_,_::_::_,h,_,hn=>by cases h;simp at hn
 | 16,_,_,[x],h,hl,_=>by cases h;exact p_rApp16 (Tr.valid_arg (hl x (List.mem_cons_self ..)))
 | 16,_,_,[],h,_,hn=>by cases h;exact absurd hn (by simp)
 | 16,_,_,_::_::_,h,_,hn=>by cases h;simp at hn
 | 17,_,_,[x],h,hl,_=>by cases h;exact p_rApp17 (Tr.valid_arg (hl x (List.mem_cons_self ..)))
 | 17,_,_,[],h,_,hn=>by cases h;exact absurd hn (by simp)
 | 17,_,_,_::_::_,h,_,hn=>by cases h;simp at hn
 | 18,_,_,[x],h,hl,_=>by cases h;exact p_rApp18 (Tr.valid_arg (hl x (List.mem_cons_self ..)))
 | 18,_,_,[],h,_,hn=>by cases h;exact absurd hn (by simp)
 | 18,_,_,_::_::_,h,_,hn=>by cases h;simp at hn
 | 19,_,_,[x],h,hl,_=>by cases h;exact p_rApp19 (Tr.valid_arg (hl x (List.mem_cons_self ..)))
 | 19,_,_,[],h,_,hn=>by cases h;exact absurd hn (by simp)
 | 19,_,_,_::_::_,h,_,hn=>by cases h;simp at hn
 | 20,_,_,[x,y],h,hl,_=>by cases h;exact p_rApp20 (Tr.valid_arg (hl x (List.mem_cons_self ..))) (Tr.valid_arg (hl y (List.mem_cons_of_mem _ (List.mem_cons_self ..))))
 | 20,_,_,[],h,_,hn=>by cases h;exact absurd hn (by simp)
 | 20,_,_,[_],h,_,hn=>by cases h;exact absurd hn (by simp)
 | 20,_,_,_::_::_::_,h,_,hn=>by cases h;simp at hn
 | 21,_,_,[x,y],h,hl,_=>by cases h;exact p_rApp21 (Tr.valid_arg (hl x (List.mem_cons_self ..))) (Tr.valid_arg (hl y (List.mem_cons_of_mem _ (List.mem_cons_self ..))))
 | 21,_,_,[],h,_,hn=>by cases h;exact absurd hn (by simp)
 | 21,_,_,[_],h,_,hn=>by cases h;exact absurd hn (by simp)
 | 21,_,_,_::_::_::_,h,_,hn=>by cases h;simp at hn
 | 22,_,_,[x],h,hl,_=>by cases h;exact p_rApp22 (Tr.valid_arg (hl x (List.mem_cons_self ..)))
 | 22,_,_,[],h,_,hn=>by cases h;exact absurd hn (by simp)
 | 22,_,_,_::_::_,h,_,hn=>by cases h;simp at hn
 | 23,_,_,[x,y],h,hl,_=>by cases h;exact p_rApp23 (Tr.valid_arg (hl x (List.mem_cons_self ..))) (Tr.valid_arg (hl y (List.mem_cons_of_mem _ (List.mem_cons_self ..))))
 | 23,_,_,[],h,_,hn=>by cases h;exact absurd hn (by simp)
 | 23,_,_,[_],h,_,hn=>by cases h;exact absurd hn (by simp)
 | 23,_,_,_::_::_::_,h,_,hn=>by cases h;simp at hn
 | 24,_,_,[x],h,hl,_=>by cases h;exact p_rApp24 (Tr.valid_arg (hl x (List.mem_cons_self ..)))
 | 24,_,_,[],h,_,hn=>by cases h;exact absurd hn (by simp)
 | 24,_,_,_::_::_,h,_,hn=>by cases h;simp at hn
 | _+25,_,_,_,h,_,_=>by cases h
end Go.Proofs.YthhknjlmjefklaaGreatDoor
namespace Go.Proofs.YthhknjlmjefklaaGreatDoor
open Go.RowKit
open Te
abbrev Bnd:=List ((List UInt8×List UInt8)×Tr)
def vlk:Bnd→List UInt8→List UInt8→Option Tr
 | [],_,_=>none
 | x::r,p,n=>if x.1.1=p∧x.1.2=n then some x.2 else vlk r p n
def bndP:List (List UInt8)→List Tr→Bnd
 | n::r,x::s=>((lispB,n),x)::bndP r s
 | _,_=>[]
def pix:List (List UInt8×Nat)→Nat→List UInt8→Option (Nat×Nat)
 | [],_,_=>none
 | x::r,i,n=>if x.1=n then some (i,x.2) else pix r (i+1) n
theorem pix_some:∀ {L:List (List UInt8×Nat)} {i j a:Nat} {n:List UInt8},pix L i n=some (j,a)→i≤j∧L[j - i]?=some (n,a)
 | [],_,_,_,_,h=>by cases h
 | x::r,i,j,a,n,h=>by
  rw [pix] at h
  split at h
  ·rename_i hx
   cases h
   rw [Nat.sub_self,← hx]
   exact ⟨Nat.le_refl _,rfl⟩
  ·obtain ⟨h1,h2⟩:=pix_some h
   refine ⟨by omega,?_⟩
   rw [show j - i=(j - (i+1))+1 by omega,List.getElem?_cons_succ]
   exact h2
theorem pix_none:∀ {L:List (List UInt8×Nat)} {i:Nat} {n:List UInt8},pix L i n=none→∀ x∈L,n≠x.1
 | [],_,_,_,x,hx=>by cases hx
 | y::r,i,n,h,x,hx=>by
  rw [pix] at h
  split at h
  ·cases h
  ·rename_i hy
   rcases List.mem_cons.1 hx with rfl | hx
   ·exact fun e=>hy e.symm
   ·exact pix_none h x hx
noncomputable def trOf (o:Ob):Tr:=open Classical in if h:∃ t:Tr,t.ob=o then h.choose else nilT
theorem trOf_ob (t:Tr):trOf t.ob=t:=by
 have h:∃ t':Tr,t'.ob=t.ob:=⟨t,rfl⟩
 unfold trOf
 rw [dif_pos h]
 exact Tr.ob_inj h.choose_spec
abbrev Evl:=Except Int Tr×Nat
def evA (g:Te→Nat→Evl):List Te→Nat→Except Int (List Tr)×Nat
 | [],l=>(.ok [],l)
 | t::r,l=>match g t l with
  | (.error e,l')=>(.error e,l')
  | (.ok x,l')=>match evA g r l' with
   | (.error e,l2)=>(.error e,l2)
   | (.ok xs,l2)=>(.ok (x::xs),l2)
def evP (i:Nat) (vs:List Tr):Except Int Tr:=match Tr.kept' (Tr.apL i vs) with
 | some x=>.ok x
 | none=>.error 2
def evC (W:List Rdr.Fnc) (e:Bnd→Te→Nat→Evl) (env:Bnd) (t:Te) (l:Nat):Evl :=
 if is t ifB 3 then
  match e env (t.arg 0) l with
  | (.error c,l')=>(.error c,l')
  | (.ok x,l')=>if x=nilT then e env (t.arg 2) l' else e env (t.arg 1) l'
 else match evA (e env) t.args l with
  | (.error c,l')=>(.error c,l')
  | (.ok vs,l')=>match pix primL 0 t.nn with
   | some (i,_)=>(evP i vs,l')
   | none=>match W.find? fun f=>f.nm == t.nn with
    | some fn=>e (bndP fn.ps vs) fn.body l'
    | none=>(.error 7,l')
noncomputable def evB (env:Bnd) (t:Te) (l:Nat) (r:Evl):Evl :=
 if t.kind=1 then (match vlk env t.np t.nn with | some x=>.ok x | none=>.error 6,l)
 else if t.kind=2 then (.ok (trOf t.val),l) else r
noncomputable def ev (W:List Rdr.Fnc):Nat→Bnd→Te→Nat→Evl
 | 0,env,t,l=>evB env t l (.error 9,l)
 | f+1,env,t,l=>evB env t l (if l=0 then (.error 9,l) else evC W (ev W f) env t (l - 1))
theorem evA_le {g:Te→Nat→Evl} (hg:∀ t l,(g t l).2≤l):∀ (s:List Te) (l:Nat),(evA g s l).2≤l
 | [],l=>Nat.le_refl _
 | t::r,l=>by
  rw [evA]
  have h:=hg t l
  split
  ·rename_i e l' hh;rw [hh] at h;exact h
  ·rename_i x l' hh
   rw [hh] at h
   have h2:=evA_le hg r l'
   split
   ·rename_i e l2 hk;rw [hk] at h2;exact Nat.le_trans h2 h
   ·rename_i xs l2 hk;rw [hk] at h2;exact Nat.le_trans h2 h
theorem evC_le {W:List Rdr.Fnc} {e:Bnd→Te→Nat→Evl} (he:∀ env t l,(e env t l).2≤l) (env:Bnd) (t:Te) (l:Nat):(evC W e env t l).2≤l:=by
 unfold evC
 split
 ·have h:=he env (t.arg 0) l
  split
  ·rename_i c l' hh;rw [hh] at h;exact h
  ·rename_i x l' hh
   rw [hh] at h
   split
   ·exact Nat.le_trans (he ..) h
   ·exact Nat.le_trans (he ..) h
 ·have h:=evA_le (he env) t.args l
  split
  ·rename_i c l' hh;rw [hh] at h;exact h
  ·rename_i vs l' hh
   rw [hh] at h
   split
   ·exact h
   ·split
    ·exact Nat.le_trans (he ..) h
    ·exact h
theorem evB_le {env:Bnd} {t:Te} {l:Nat} {r:Evl} (h:r.2≤l):(evB env t l r).2≤l:=by
 unfold evB
 split
 ·exact Nat.le_refl _
 ·split
  ·exact Nat.le_refl _
  ·exact h
theorem ev_le (W:List Rdr.Fnc):∀ (f:Nat) (env:Bnd) (t:Te) (l:Nat),(ev W f env t l).2≤l
 | 0,env,t,l=>by rw [ev];exact evB_le (Nat.le_refl _)
 | f+1,env,t,l=>by
  rw [ev]
  refine evB_le ?_
  split
  ·exact Nat.le_refl _
  ·exact Nat.le_trans (evC_le (ev_le W f) env t (l - 1)) (Nat.sub_le _ _)
def BndOK (env:Bnd):Prop:=∀ x∈env,x.2.valid=true
theorem vlk_mem:∀ {env:Bnd} {p n:List UInt8} {x:Tr},vlk env p n=some x→∃ y∈env,y.2=x
 | [],_,_,_,h=>by cases h
 | y::r,p,n,x,h=>by
  rw [vlk] at h
  split at h
  ·cases h;exact ⟨y,List.mem_cons_self ..,rfl⟩
  ·obtain ⟨z,h1,h2⟩:=vlk_mem h;exact ⟨z,List.mem_cons_of_mem _ h1,h2⟩
theorem bndP_ok:∀ (ps:List (List UInt8)) (vs:List Tr),(∀ x∈vs,x.valid=true)→BndOK (bndP ps vs)
 | [],_,_=>by rw [bndP];intro x hx;cases hx;all_goals simp
 | n::r,[],_=>by rw [bndP];intro x hx;cases hx;all_goals simp
 | n::r,x::s,h=>by
  rw [bndP]
  intro y hy
  rcases List.mem_cons.1 hy with rfl | hy
  ·exact h x (List.mem_cons_self ..)
  ·exact bndP_ok r s (fun z hz=>h z (List.mem_cons_of_mem _ hz)) y hy
theorem evP_ok {i:Nat} {vs:List Tr} {x:Tr} (h:evP i vs=.ok x):x.valid=true:=by
 unfold evP at h
 split at h
 ·rename_i y hy
  cases h
  unfold Tr.kept' at hy
  split at hy
  ·rename_i hv;cases hy;exact hv
  ·cases hy
 ·cases h
inductive Wd:Te→Prop
 | var (p n:List UInt8):Wd ⟨1,p,n,zOb,[]⟩
 | con (t:Tr) (h:t.valid=true):Wd (Te.con t.ob)
 | ap (n:List UInt8) (l:List Te) (ha:ariW worldB n=some l.length) (hl:l.length≤8) (h:∀ x∈l,Wd x):Wd (Te.ap n l)
end Go.Proofs.YthhknjlmjefklaaGreatDoor
namespace Go.Proofs.YthhknjlmjefklaaGreatDoor
open Go.RowKit
theorem symTab_ok:∀ x∈symTab,symOk ⟨x.1,x.2⟩=true:=by decide +kernel
theorem symP_ok (n:Int):symOk ⟨(symP n).1,(symP n).2⟩=true:=by
 have hlt:(n % 13).toNat < symTab.length:=by show (n % 13).toNat < 13;omega
 unfold symP
 rw [List.getD_eq_getElem?_getD,List.getElem?_eq_getElem hlt]
 exact symTab_ok _ (List.getElem_mem hlt)
theorem list_good:∀ {l:List Tr},(∀ t∈l,t.good=true)→(Tr.list l).good=true
 | [],_=>Tr.valid_good Tr.valid_nil
 | a::r,h=>by
  show (a.good && (Tr.list r).good)=true
  rw [h a (List.mem_cons_self ..),list_good fun t ht=>h t (List.mem_cons_of_mem _ ht)];rfl
theorem zeroT_good:zeroT.good=true:=Tr.good_num.2 (Rb.mono (rb_int (by decide)) (by decide))
theorem getD_good {l:List Tr} (h:∀ t∈l,t.good=true) (i:Nat):(l.getD i zeroT).good=true:=by
 rw [List.getD_eq_getElem?_getD]
 rcases Nat.lt_or_ge i l.length with h1 | h1
 ·rw [List.getElem?_eq_getElem h1];exact h _ (List.getElem_mem h1)
 ·rw [List.getElem?_eq_none h1];exact zeroT_good
theorem mkT_good (r:Raw):Fit r→(mkT r).good=true:=by
 induction r using Raw.ind with
 | step r ih =>
  intro h
  have hl:∀ t∈r.l.map mkT,t.good=true:=by
   intro t ht
   obtain ⟨x,hx,rfl⟩:=List.mem_map.1 ht
   exact ih x hx (h.kids hx)
  rw [mkT_eq]
  unfold mkK
  split
  ·exact Tr.good_num.2 ((rb_int (by omega)).mono (by decide))
  ·split
   ·exact Tr.good_num.2 ((rb_small (by omega) (by have:=h.s;omega)).mono (by decide))
   ·split
    ·exact symP_ok r.n
    ·split
     ·have:=h.s
      exact decide_eq_true (by omega:r.s.length≤200)
     ·split
      ·show (((r.l.map mkT).getD 0 zeroT).good && ((r.l.map mkT).getD 1 zeroT).good)=true
       rw [getD_good hl 0,getD_good hl 1];rfl
      ·exact list_good hl
def FitS (r:Raw):Prop:=Fit r∧r.size≤700
theorem mkT_val {r:Raw} (h:FitS r):(mkT r).valid=true:=Tr.valid_iff.2 ⟨by have:=mkT_size r;have:=h.2;omega,mkT_good r h.1⟩
theorem fewR_fitS {r:Raw} {m:Int} (h0:0≤m) (h1:m≤700) (h:fewR r m=true):FitS r:=⟨fewR_fit h0 (by omega) h,by have:=fewR_size h0 (by omega) h;omega⟩
theorem int_val {n:Int} (h:n.natAbs < 10 ^ 4):(Tr.num (n:Rat)).valid=true:=Tr.valid_iff.2 ⟨by show 1≤3000;omega,Tr.good_num.2 ((rb_int h).mono (by decide))⟩
end Go.Proofs.YthhknjlmjefklaaGreatDoor
namespace Go.Proofs.YthhknjlmjefklaaGreatDoor
open Go.RowKit
open Te
def conB (o:Ob):Bool:=decide (o=nilO) || decide (o=tO) || decide (o=(Tr.num 0).ob) || decide (o=(Tr.num 1).ob) || decide (o=(Tr.num (-1)).ob)
theorem conB_tr {o:Ob} (h:conB o=true):∃ t:Tr,t.ob=o∧t.valid=true:=by
 unfold conB at h
 simp only [Bool.or_eq_true,decide_eq_true_eq] at h
 rcases h with (((rfl | rfl) | rfl) | rfl) | rfl
 ·exact ⟨Tr.sym lispB nilB,rfl,by decide +kernel⟩
 ·exact ⟨Tr.sym lispB [116],rfl,by decide +kernel⟩
 ·exact ⟨_,rfl,int_val (n:=0) (by decide)⟩
 ·exact ⟨_,rfl,int_val (n:=1) (by decide)⟩
 ·exact ⟨_,rfl,int_val (n:=-1) (by decide)⟩
mutual
def wfBo:Te→Bool
 | ⟨k,p,n,o,l⟩=>if k=1 then decide (o=zOb) && l.isEmpty
  else if k=2 then p.isEmpty && (n.isEmpty && (l.isEmpty && conB o))
  else decide (k=3) && (decide (p=lispB) && (decide (o=zOb) && (decide (ariW worldB n=some l.length) && (decide (l.length≤8) && wfBl l))))
def wfBl:List Te→Bool
 | []=>true
 | x::r=>wfBo x && wfBl r
end
mutual
theorem wfBo_wd:∀ t:Te,wfBo t=true→Wd t
 | ⟨k,p,n,o,l⟩,h=>by
  rw [wfBo] at h
  split at h
  ·rename_i hk
   subst hk
   simp only [Bool.and_eq_true,decide_eq_true_eq,List.isEmpty_iff] at h
   obtain ⟨rfl,rfl⟩:=h
   exact .var p n
  ·split at h
   ·rename_i hk
    subst hk
    simp only [Bool.and_eq_true,List.isEmpty_iff] at h
    obtain ⟨rfl,rfl,rfl,h⟩:=h
    obtain ⟨t,rfl,hv⟩:=conB_tr h
    exact .con t hv
   ·simp only [Bool.and_eq_true,decide_eq_true_eq] at h
    obtain ⟨rfl,rfl,rfl,h1,h2,h3⟩:=h
    exact .ap n l h1 h2 (wfBl_wd l h3)
theorem wfBl_wd:∀ l:List Te,wfBl l=true→∀ x∈l,Wd x
 | [],_=>fun x hx=>by cases hx
 | y::r,h=>by
  rw [wfBl,Bool.and_eq_true] at h
  have h1:=wfBo_wd y h.1
  have h2:=wfBl_wd r h.2
  intro x hx
  rcases List.mem_cons.1 hx with e | hx
  ·rw [e];exact h1
  ·exact h2 x hx
end
theorem bodies_ok:(worldB.all fun f=>wfBo f.body && decide (f.ps.length≤8))=true:=by decide +kernel
theorem body_wd {f:Rdr.Fnc} (h:f∈worldB):Wd f.body∧f.ps.length≤8:=by
 have:=List.all_eq_true.1 bodies_ok f h
 rw [Bool.and_eq_true] at this
 exact ⟨wfBo_wd _ this.1,of_decide_eq_true this.2⟩
theorem prims_no:(primL.all fun x=>(worldB.find? fun f=>f.nm == x.1).isNone)=true:=by decide +kernel
theorem prim_no {x:List UInt8×Nat} (h:x∈primL):(worldB.find? fun f=>f.nm == x.1)=none:=by
 have:=List.all_eq_true.1 prims_no x h
 simpa using this
theorem ariB_cases {n:List UInt8} {k:Nat} (h:ariW worldB n=some k):(∃ i,primL[i]?=some (n,k)∧pix primL 0 n=some (i,k)∧(worldB.find? fun f=>f.nm == n)=none)∨(∃ f,f∈worldB∧(worldB.find? fun f=>f.nm == n)=some f∧f.ps.length=k∧pix primL 0 n=none∧∀ x∈primL,n≠x.1):=by
 cases hp:pix primL 0 n with
 | some q =>
  obtain ⟨i,a⟩:=q
  obtain ⟨_,h2⟩:=pix_some hp
  rw [Nat.sub_zero] at h2
  have hm:=List.mem_of_getElem? h2
  have hno:=prim_no hm
  have ha:ariW worldB n=some a:=by
   have hall:(primL.all fun x=>decide (ariW worldB x.1=some x.2))=true:=by decide +kernel
   exact of_decide_eq_true (List.all_eq_true.1 hall _ hm)
  rw [ha] at h
  cases h
  exact .inl ⟨i,h2,rfl,hno⟩
 | none =>
  have hne:=pix_none hp
  have hpr:Rdr.prim primL n=none:=by
   cases hq:Rdr.prim primL n with
   | none=>rfl
   | some k' =>
    exfalso
    unfold Rdr.prim at hq
    rw [Option.map_eq_some_iff] at hq
    obtain ⟨x,hx,_⟩:=hq
    have h1:=List.find?_some hx
    have h2:=List.mem_of_find?_eq_some hx
    exact hne x h2 (by simpa using h1:x.1=n).symm
  unfold ariW at h
  rw [hpr] at h
  dsimp only at h
  rw [Option.map_eq_some_iff] at h
  obtain ⟨f,hf,hk⟩:=h
  exact .inr ⟨f,List.mem_of_find?_eq_some hf,hf,hk,rfl,hne⟩
end Go.Proofs.YthhknjlmjefklaaGreatDoor
namespace Go.Proofs.YthhknjlmjefklaaGreatDoor
open Go.RowKit
open Te
abbrev namA (nl:List (List UInt8)):AV:=.dt (.row (nl.map lrow))
abbrev varA (vl:List (List UInt8)):AV:=.dt (.row (vl.map srow))
abbrev rwC (r:Raw):Option Bx:=some (.cells [inA r.kind,inA r.n,stA r.s,.dt (.row (r.l.map Raw.enc))])
abbrev zTc:Option Bx:=some (.cells [inA 0,stA [],stA [],inA 0,stA [],stA [],stA [],stA [],stA [],.nil,.nil])
abbrev bdX (r:Raw) (nm:List UInt8):List (Option Bx):=[rwC r,zTc,some (.cells [stA lispB,stA nm])]
abbrev bd0 (wr:List (List Dt)) (nl vl:List (List UInt8)) (r:Raw) (nm:List UInt8) (n:Int):AS:=⟨stt 84 [(0,.dt (.row wr)),(1,namA nl),(2,varA vl),(7,.ptr 0 0),(8,.ptr 1 0),(10,.ptr 2 0),(11,inA n),(13,.nil),(14,inA 0)],bdX r nm⟩
end Go.Proofs.YthhknjlmjefklaaGreatDoor
namespace Go.Proofs.YthhknjlmjefklaaGreatDoor
open Go.RowKit
open Te
theorem sy_no {p a n b:List UInt8} (h:¬ (p=a∧n=b)):(decide (p=a) && decide (n=b))=false:=by
 rw [← Bool.decide_and];exact decide_eq_false h
theorem sy_yes {p a n b:List UInt8} (h:p=a∧n=b):(decide (p=a) && decide (n=b))=true:=by
 rw [← Bool.decide_and];exact decide_eq_true h
namespace Te
end Te
end Go.Proofs.YthhknjlmjefklaaGreatDoor
namespace Go.Proofs.YthhknjlmjefklaaGreatDoor
open Go.RowKit
open Te
abbrev bnR (x:(List UInt8×List UInt8)×Tr):List Dt:=[.val (str x.1.1),.val (str x.1.2),.val (.int .i64 x.2.ob.kind),.val (str x.2.ob.num),.val (str x.2.ob.den),.val (str x.2.ob.sp),.val (str x.2.ob.sn),.val (str x.2.ob.text),.row (x.2.ob.pair.map Ob.enc)]
abbrev bnT (env:Bnd):List (List Dt):=env.map bnR
abbrev bnA (env:Bnd):AV:=.dt (.row (bnT env))
theorem bnT_len (env:Bnd):(bnT env).length=env.length:=by unfold bnT;rw [List.length_map]
theorem ix_bn {env:Bnd} {i:Nat} {x:(List UInt8×List UInt8)×Tr} (h:env[i]?=some x):IxAt (bnT env) (i:Int) 9 (bnR x):=⟨Int.natCast_nonneg _,by
 rw [Int.toNat_natCast,List.getElem?_map,h]
 rfl,rfl⟩
theorem lenBn (env:Bnd):Value.int .i64 (env.length:Int)=Value.int .i64 ((bnT env).length:Int):=by rw [bnT_len]
abbrev vaS (e:Bnd) (a b:List UInt8) (i:Int):AS:=⟨stt 26 [(0,bnA e),(3,.ptr 0 0),(4,.ptr 1 0),(6,inA i)],[some (.cells [stA a,stA b]),zOc]⟩
abbrev vaR (x:Tr) (a b:List UInt8):AS:=⟨stt 26 [(4,.ptr 1 0),(5,boA true)],[some (.cells [stA a,stA b]),some (.cells ((encL x.ob).map .dt))]⟩
noncomputable abbrev vaB:Code:=subC (bodyOf Tryz.f83) [1,0,1,0,0]
theorem vaB1 {e:Bnd} {a b:List UInt8} {x:(List UInt8×List UInt8)×Tr} {i:Nat} (hx:e[i]?=some x) (hl:e.length≤1000) (h:¬ (x.1.1=a∧x.1.2=b)):Tri EX vaB (vaS e a b i) .nxt (vaS e a b ((i+1:Nat):Int)) :=
 have hi:=(List.getElem?_eq_some_iff.1 hx).1
 twalk (c:=subC (bodyOf Tryz.f83) [1,0,1,0,0]) (s:=vaS e a b i) (an:=[.av (inA e.length),yT,.av (.pin ((bnR x).map .dt)),yF,.av (inA ((i+1:Nat):Int))]) (ls:=[]) (ft:=[0,3,4,6]) (nb:=2) (e:=.nxt) (s':=vaS e a b ((i+1:Nat):Int)) (ps:=[(vi (↑(List.length e)))=(vi (↑(bnT e).length)),Bn .lss 3 (.tmp 7) (.tmp 9) (vi ↑i) (vi (↑(List.length e))) bT,IxAt (bnT e) ↑i 9 ([(.val (str x.fst.fst)),(.val (str x.fst.snd)),(.val (vi x.snd.ob.kind)),(.val (str x.snd.ob.num)),(.val (str x.snd.ob.den)),(.val (str x.snd.ob.sp)),(.val (str x.snd.ob.sn)),(.val (str x.snd.ob.text)),(.row (List.map Ob.enc x.snd.ob.pair))]),Bn .eql 28 (.tmp 17) (.tmp 18) (Value.agg #[str x.fst.fst,str x.fst.snd]) (Value.agg #[str a,str b]) bF,Bn .add 3 (.tmp 11) (.const (vi 1)) (vi ↑i) (vi 1) (vi (↑(i+1)))]) (by kernel_rfl) ⟨lenBn _,bin_ilt (decide_eq_true (by omega)),ix_bn hx,bin_syeq (sy_no h),bin_iadd (by omega) (by omega) (by omega),trivial⟩
theorem vaB2 {e:Bnd} {a b:List UInt8} {x:(List UInt8×List UInt8)×Tr} {i:Nat} (hx:e[i]?=some x) (h:x.1.1=a∧x.1.2=b):Tri EX vaB (vaS e a b i) .ret (vaR x.2 a b) :=
 have hi:=(List.getElem?_eq_some_iff.1 hx).1
 twalk (c:=subC (bodyOf Tryz.f83) [1,0,1,0,0]) (s:=vaS e a b i) (an:=[.av (inA e.length),yT,.av (.pin ((bnR x).map .dt)),yT,.av (.pin ((bnR x).map .dt))]) (ls:=[]) (ft:=[4,5]) (nb:=2) (e:=.ret) (s':=vaR x.2 a b) (ps:=[(vi (↑(List.length e)))=(vi (↑(bnT e).length)),Bn .lss 3 (.tmp 7) (.tmp 9) (vi ↑i) (vi (↑(List.length e))) bT,IxAt (bnT e) ↑i 9 ([(.val (str x.fst.fst)),(.val (str x.fst.snd)),(.val (vi x.snd.ob.kind)),(.val (str x.snd.ob.num)),(.val (str x.snd.ob.den)),(.val (str x.snd.ob.sp)),(.val (str x.snd.ob.sn)),(.val (str x.snd.ob.text)),(.row (List.map Ob.enc x.snd.ob.pair))]),Bn .eql 28 (.tmp 17) (.tmp 18) (Value.agg #[str x.fst.fst,str x.fst.snd]) (Value.agg #[str a,str b]) bT,IxAt (bnT e) ↑i 9 ([(.val (str x.fst.fst)),(.val (str x.fst.snd)),(.val (vi x.snd.ob.kind)),(.val (str x.snd.ob.num)),(.val (str x.snd.ob.den)),(.val (str x.snd.ob.sp)),(.val (str x.snd.ob.sn)),(.val (str x.snd.ob.text)),(.row (List.map Ob.enc x.snd.ob.pair))])]) (by kernel_rfl) ⟨lenBn _,bin_ilt (decide_eq_true (by omega)),ix_bn hx,bin_syeq (sy_yes h),ix_bn hx,trivial⟩
theorem vaB3 {e:Bnd} {a b:List UInt8} {i:Nat} (hi:i=e.length):Tri EX vaB (vaS e a b i) (.out 0) (vaS e a b i) :=
 twalk (c:=subC (bodyOf Tryz.f83) [1,0,1,0,0]) (s:=vaS e a b i) (an:=[.av (inA e.length),yF]) (ls:=[]) (ft:=[0,3,4,6]) (nb:=2) (e:=.out 0) (s':=vaS e a b i) (ps:=[(vi (↑(List.length e)))=(vi (↑(bnT e).length)),Bn .lss 3 (.tmp 7) (.tmp 9) (vi ↑i) (vi (↑(List.length e))) bF]) (by kernel_rfl) ⟨lenBn _,bin_ilt (decide_eq_false (by omega)),trivial⟩
theorem w_va1 {e:Bnd} {a b:List UInt8} {x:Tr} (h:Tri EX (.loop vaB) (vaS e a b 0) .ret (vaR x a b)):Puk 83 [bnA e,syA a b] (.tup [trA x,boA true]) :=
 pwalk (an:=[]) (ls:=[.inv [0,3,4,6] 2 (.ret) (vaR x a b)]) (ps:=[Tri EX (.loop (subC (bodyOf Tryz.f83) [1,0,1,0,0])) (vaS e a b 0) (.ret) (vaR x a b)]) Tryz.func83 (by kernel_rfl) (by kernel_rfl) ⟨h,trivial⟩
theorem w_va0 {e:Bnd} {a b:List UInt8} {k:Int} (h:Tri EX (.loop vaB) (vaS e a b 0) (.out 0) (vaS e a b k)):Puk 83 [bnA e,syA a b] (.tup [obA zO,boA false]) :=
 pwalk (an:=[]) (ls:=[.inv [0,3,4,6] 2 (.out 0) (vaS e a b k)]) (ps:=[Tri EX (.loop (subC (bodyOf Tryz.f83) [1,0,1,0,0])) (vaS e a b 0) (.out 0) (vaS e a b k)]) Tryz.func83 (by kernel_rfl) (by kernel_rfl) ⟨h,trivial⟩
theorem va_loop {L:Bnd} {a b:List UInt8} (hl:L.length≤1000):∀ (s:Bnd) (i:Nat),L.drop i=s→i≤L.length →
  (vlk s a b=none→Lps EX vaB (vaS L a b i) (.out 0) (vaS L a b L.length))∧(∀ t,vlk s a b=some t→Lps EX vaB (vaS L a b i) .ret (vaR t a b)):=by
 intro s
 induction s with
 | nil =>
  intro i hd hi
  have e1:=congrArg List.length hd
  rw [List.length_drop,List.length_nil] at e1
  obtain rfl:i=L.length:=by omega
  exact ⟨fun _=>.stop (vaB3 rfl) (fun h=>by cases h),fun t h=>by cases h⟩
 | cons x s ih =>
  intro i hd hi
  have hx:L[i]?=some x:=by rw [← List.head?_drop,hd];rfl
  have hlt:=(List.getElem?_eq_some_iff.1 hx).1
  obtain ⟨h1,h2⟩:=ih (i+1) (by rw [← List.drop_drop,hd];rfl) hlt
  rw [vlk]
  by_cases hc:x.1.1=a∧x.1.2=b
  ·rw [if_pos hc]
   exact ⟨fun h=>(by cases h),fun t h=>by cases h;exact .stop (vaB2 hx hc) (fun h=>by cases h)⟩
  ·rw [if_neg hc]
   exact ⟨fun h=>.more (vaB1 hx hl hc) (h1 h),fun t h=>.more (vaB1 hx hl hc) (h2 t h)⟩
theorem p_rVal {e:Bnd} {a b:List UInt8} (hl:e.length≤1000):(vlk e a b=none→Puk 83 [bnA e,syA a b] (.tup [obA zO,boA false]))∧(∀ t,vlk e a b=some t→Puk 83 [bnA e,syA a b] (.tup [trA t,boA true])):=by
 obtain ⟨h1,h2⟩:=va_loop (a:=a) (b:=b) hl e 0 rfl (Nat.zero_le _)
 exact ⟨fun h=>w_va0 (h1 h).tri,fun t h=>w_va1 (h2 t h).tri⟩
theorem src_bn (x:(List UInt8×List UInt8)×Tr):SrcOK 9 [bnR x]:=by
 intro y hy
 rw [List.mem_singleton] at hy
 subst hy
 refine ⟨rfl,fun d hd=>?_⟩
 simp only [List.mem_cons,List.not_mem_nil,or_false] at hd
 rcases hd with rfl | rfl | rfl | rfl | rfl | rfl | rfl | rfl | rfl <;> rfl
abbrev biS (ps:List (List UInt8)) (vs:List Tr) (es:List (List Dt)) (i:Int):AS:=⟨stt 32 [(0,.dt (.row (ps.map lrow))),(1,rowA vs),(5,.own 0 es.length),(6,inA i)],[some (.buf 75 9 es)]⟩
abbrev bi0 (ps:List (List UInt8)) (vs:List Tr):AS:=⟨stt 32 [(0,.dt (.row (ps.map lrow))),(1,rowA vs),(5,.nil),(6,inA 0)],[]⟩
noncomputable abbrev biB:Code:=subC (bodyOf Tryz.f89) [1,1,0,1,0,0]
theorem ix_ps {ps:List (List UInt8)} {i:Nat} {n:List UInt8} (h:ps[i]?=some n):IxAt (ps.map lrow) (i:Int) 2 (lrow n):=⟨Int.natCast_nonneg _,by
 rw [Int.toNat_natCast,List.getElem?_map,h]
 rfl,rfl⟩
theorem ix_tr {vs:List Tr} {i:Nat} {x:Tr} (h:vs[i]?=some x):IxAt (vs.map fun t=>encL t.ob) (i:Int) 7 (encL x.ob):=⟨Int.natCast_nonneg _,by
 rw [Int.toNat_natCast,List.getElem?_map,h]
 rfl,rfl⟩
theorem lenPs (ps:List (List UInt8)):Value.int .i64 (ps.length:Int)=Value.int .i64 ((ps.map lrow).length:Int):=by rw [List.length_map]
theorem lenTr (vs:List Tr):Value.int .i64 (vs.length:Int)=Value.int .i64 ((vs.map fun t=>encL t.ob).length:Int):=by rw [List.length_map]
theorem fit_b {b n:Nat} (hb:b≤1000) (h:n≤1000000):FitB b n:=⟨by show n≤2 ^ 63 - 1;omega,by
 have:=Nat.mul_le_mul h hb
 omega⟩
theorem biB1 {ps:List (List UInt8)} {vs:List Tr} {es:List (List Dt)} {n:List UInt8} {x:Tr} {i:Nat} (hn:ps[i]?=some n) (hx:vs[i]?=some x) (hp:ps.length≤1000) (he:es.length≤1000):Tri EX biB (biS ps vs es i) .nxt (biS ps vs (es++[bnR ((lispB,n),x)]) ((i+1:Nat):Int)) :=
 have hi:=(List.getElem?_eq_some_iff.1 hn).1
 have hj:=(List.getElem?_eq_some_iff.1 hx).1
 twalk (c:=subC (bodyOf Tryz.f89) [1,1,0,1,0,0]) (s:=biS ps vs es i) (an:=[.av (inA ps.length),yT,.av (inA vs.length),yT,.av (.pin ((lrow n).map .dt)),.av (.pin ((encL x.ob).map .dt)),.av (.un),.av (inA ((i+1:Nat):Int))]) (ls:=[]) (ft:=[0,1,5,6]) (nb:=1) (e:=.nxt) (s':=biS ps vs (es++[bnR ((lispB,n),x)]) ((i+1:Nat):Int)) (ps:=[(vi ↑ps.length)=(vi (↑(List.map lrow ps).length)),Bn .lss 3 (.tmp 7) (.tmp 9) (vi ↑i) (vi ↑ps.length) bT,(vi ↑vs.length)=(vi (↑(List.map (fun t=>encL t.ob) vs).length)),Bn .lss 3 (.tmp 12) (.tmp 14) (vi ↑i) (vi ↑vs.length) bT,IxAt (List.map lrow ps) ↑i 2 ([(.val (str lispB)),(.val (str n))]),IxAt (List.map (fun t=>encL t.ob) vs) ↑i 7 (encL x.ob),(es.length)=(es.length),FitB 144 ((es++[[Dt.val (str lispB),Dt.val (str n),Dt.val (vi x.ob.kind),Dt.val (str x.ob.num),Dt.val (str x.ob.den),Dt.val (str x.ob.sp),Dt.val (str x.ob.sn),Dt.val (str x.ob.text),Dt.row (List.map Ob.enc x.ob.pair)]]).length),SrcOK 9 [[(.val (str lispB)),(.val (str n)),(.val (vi x.ob.kind)),(.val (str x.ob.num)),(.val (str x.ob.den)),(.val (str x.ob.sp)),(.val (str x.ob.sn)),(.val (str x.ob.text)),(.row (List.map Ob.enc x.ob.pair))]],Bn .add 3 (.tmp 17) (.const (vi 1)) (vi ↑i) (vi 1) (vi (↑(i+1)))]) (by kernel_rfl) ⟨lenPs _,bin_ilt (decide_eq_true (by omega)),lenTr _,bin_ilt (decide_eq_true (by omega)),ix_ps hn,ix_tr hx,rfl,fit_b (by omega) (by simp;omega),src_bn ((lispB,n),x),bin_iadd (by omega) (by omega) (by omega),trivial⟩
theorem biB2 {ps:List (List UInt8)} {vs:List Tr} {es:List (List Dt)} {i:Nat} (hi:i=ps.length):Tri EX biB (biS ps vs es i) (.out 0) (biS ps vs es i) :=
 twalk (c:=subC (bodyOf Tryz.f89) [1,1,0,1,0,0]) (s:=biS ps vs es i) (an:=[.av (inA ps.length),yF]) (ls:=[]) (ft:=[0,1,5,6]) (nb:=1) (e:=.out 0) (s':=biS ps vs es i) (ps:=[(vi ↑ps.length)=(vi (↑(List.map lrow ps).length)),Bn .lss 3 (.tmp 7) (.tmp 9) (vi ↑i) (vi ↑ps.length) bF]) (by kernel_rfl) ⟨lenPs _,bin_ilt (decide_eq_false (by omega)),trivial⟩
theorem w_bi {ps:List (List UInt8)} {vs:List Tr} {rs:List (List Dt)} {k:Int} (h:Tri EX (.loop biB) (bi0 ps vs) (.out 0) (biS ps vs rs k)):Puk 89 [.dt (.row (ps.map lrow)),rowA vs] (.dt (.row rs)) :=
 pwalk (an:=[]) (ls:=[.inv [0,1,5,6] 0 (.out 0) (biS ps vs rs k)]) (ps:=[Tri EX (.loop (subC (bodyOf Tryz.f89) [1,1,0,1,0,0])) (bi0 ps vs) (.out 0) (biS ps vs rs k),(rs.length)=(rs.length)]) Tryz.func89 (by kernel_rfl) (by kernel_rfl) ⟨h,rfl,trivial⟩
theorem bi_loop {P:List (List UInt8)} {V:List Tr} (hl:P.length≤500) (hv:V.length=P.length):∀ (p:List (List UInt8)) (v:List Tr) (i:Nat) (pre:Bnd),P.drop i=p→V.drop i=v→i≤P.length→pre.length=i→Lps EX biB (biS P V (bnT pre) i) (.out 0) (biS P V (bnT (pre++bndP p v)) P.length):=by
 intro p
 induction p with
 | nil =>
  intro v i pre hd hm hi hp
  have e1:=congrArg List.length hd
  rw [List.length_drop,List.length_nil] at e1
  obtain rfl:i=P.length:=by omega
  have e:bndP [] v=[]:=by cases v <;> rfl
  rw [e,List.append_nil]
  exact .stop (biB2 rfl) (fun h=>by cases h)
 | cons n p ih =>
  intro v i pre hd hm hi hp
  have hn:P[i]?=some n:=by rw [← List.head?_drop,hd];rfl
  have hlt:=(List.getElem?_eq_some_iff.1 hn).1
  cases v with
  | nil =>
   have e1:=congrArg List.length hm
   rw [List.length_drop,List.length_nil] at e1
   omega
  | cons x v =>
   have hx:V[i]?=some x:=by rw [← List.head?_drop,hm];rfl
   have hs:=biB1 (es:=bnT pre) hn hx (by omega) (by rw [bnT_len];omega)
   have e:bnT pre++[bnR ((lispB,n),x)]=bnT (pre++[((lispB,n),x)]):=by unfold bnT;rw [List.map_append];rfl
   rw [e] at hs
   have k:=ih v (i+1) (pre++[((lispB,n),x)]) (by rw [← List.drop_drop,hd];rfl) (by rw [← List.drop_drop,hm];rfl) hlt (by simp [hp])
   rw [List.append_assoc] at k
   exact .more hs k
theorem p_rBind {ps:List (List UInt8)} {vs:List Tr} (hl:ps.length≤500) (hv:vs.length=ps.length):Puk 89 [.dt (.row (ps.map lrow)),rowA vs] (bnA (bndP ps vs)) :=
 w_bi (Tri.own0 5 75 9 (by show 5 < 32;omega) rfl (bi_loop hl hv ps vs 0 [] rfl rfl (Nat.zero_le _) rfl).tri)
theorem w_nil1 {o:Ob} (h:o.kind≠2):Puk 87 [obA o] (boA false) :=
 pwalk (an:=[yF]) (ls:=[]) (ps:=[Bn .eql 3 (.tmp 4) (.const (vi 2)) (vi o.kind) (vi 2) bF]) Tryz.func87 (by kernel_rfl) (by kernel_rfl) ⟨bin_ieq (noD h),trivial⟩
theorem w_nil2 {o:Ob} (h:o.kind=2) (h2:o.sp≠lispB):Puk 87 [obA o] (boA false) :=
 pwalk (an:=[yT,yF]) (ls:=[]) (ps:=[Bn .eql 3 (.tmp 4) (.const (vi 2)) (vi o.kind) (vi 2) bT,Bn .eql 9 (.tmp 9) (.const (Value.string { data:=#[108,105,115,112]:ByteArray })) (str o.sp) (str [108,105,115,112]) bF]) Tryz.func87 (by kernel_rfl) (by kernel_rfl) ⟨bin_ieq (yesD h),bin_seq (noD h2),trivial⟩
theorem w_nil3 {o:Ob} {b:Bool} (h:o.kind=2) (h2:o.sp=lispB) (h3:decide (o.sn=nilB)=b):Puk 87 [obA o] (boA b) :=
 pwalk (an:=[yT,yT,.av (boA b)]) (ls:=[]) (ps:=[Bn .eql 3 (.tmp 4) (.const (vi 2)) (vi o.kind) (vi 2) bT,Bn .eql 9 (.tmp 9) (.const (Value.string { data:=#[108,105,115,112]:ByteArray })) (str o.sp) (str [108,105,115,112]) bT,Bn .eql 9 (.tmp 15) (.const (Value.string { data:=#[110,105,108]:ByteArray })) (str o.sn) (str [110,105,108]) (Value.bool b)]) Tryz.func87 (by kernel_rfl) (by kernel_rfl) ⟨bin_ieq (yesD h),bin_seq (yesD h2),bin_seq h3,trivial⟩
theorem p_isNil (x:Tr):Puk 87 [trA x] (boA (decide (x=nilT))):=by
 cases x with
 | num q=>rw [decide_eq_false (by intro h;cases h)];exact w_nil1 (o:=(Tr.num q).ob) (by show (1:Int)≠2;decide)
 | txt s=>rw [decide_eq_false (by intro h;cases h)];exact w_nil1 (o:=(Tr.txt s).ob) (by show (3:Int)≠2;decide)
 | cons a d=>rw [decide_eq_false (by intro h;cases h)];exact w_nil1 (o:=(Tr.cons a d).ob) (by show (4:Int)≠2;decide)
 | sym p n =>
  by_cases hp:p=lispB
  ·subst hp
   exact w_nil3 (o:=(Tr.sym lispB n).ob) rfl rfl (by
    by_cases hn:n=nilB
    ·subst hn;rw [decide_eq_true (show (Tr.sym lispB nilB).ob.sn=nilB from rfl),decide_eq_true (show Tr.sym lispB nilB=nilT from rfl)]
    ·rw [decide_eq_false (show ¬ (Tr.sym lispB n).ob.sn=nilB from hn),decide_eq_false (by intro h;cases h;exact hn rfl)])
  ·rw [decide_eq_false (by intro h;cases h;exact hp rfl)]
   exact w_nil2 (o:=(Tr.sym p n).ob) rfl hp
end Go.Proofs.YthhknjlmjefklaaGreatDoor
namespace Go.Proofs.YthhknjlmjefklaaGreatDoor
open Go.RowKit
open Te
abbrev rtF:FuncId:=49
abbrev rtX (ws:List (List Dt)) (l:Int):List (Option Bx):=[some (.cells [.dt (.row ws),inA l])]
abbrev zFr:List AV:=encZ.map .dt
abbrev zFn:AV:=.agg zFr
theorem src_tr (x:Tr):SrcOK 7 [encL x.ob]:=by
 intro y hy
 rw [List.mem_singleton] at hy
 subst hy
 refine ⟨rfl,fun d hd=>?_⟩
 simp only [List.mem_cons,List.not_mem_nil,or_false] at hd
 rcases hd with rfl | rfl | rfl | rfl | rfl | rfl | rfl <;> rfl
abbrev resE:Except Int Tr→AV
 | .ok x=>.tup [trA x,inA 0]
 | .error e=>.tup [obA zO,inA e]
theorem w_FuncNo {es:List (List Dt)} {n:List UInt8} (h:Puk 114 [.dt (.row es),syA lispB n] (.tup [inA 0,inA 0,boA false])):Puk 85 [.dt (.row es),syA lispB n] (.tup [zFn,boA false]) :=
 pwalk (an:=[.av (.tup [inA 0,inA 0,boA false])]) (ls:=[]) (ps:=[Puk 114 [(.dt (.row es)),(syA lispB n)] (.tup [(inA 0),(inA 0),(boA false)])]) Tryz.func85 (by kernel_rfl) (by kernel_rfl) ⟨h,trivial⟩
theorem p_FuncNo {n:List UInt8} (h:(worldB.find? fun f=>f.nm == n)=none):Puk 85 [.dt (.row wrows),syA lispB n] (.tup [zFn,boA false]):=by
 have hwl:=worldB_len
 exact w_FuncNo (w_plNo (pl_no (ws:=worldB) (is:=namesR) (by omega) worldB 0 rfl (Nat.zero_le _) h).tri)
theorem SOK.rv {P:Program} {G:World→Prop} {f:FuncId} {args:List AV} {xs xs':List (Option Bx)} {r r':AV} (h:SOK P G f args xs r xs') (hr:∀ M w v,RV M w r v→RV M w r' v):SOK P G f args xs r' xs' :=
 ⟨h.1,fun X M w vs hG hS ha=>(h.2 X M w vs hG hS ha).mono fun _ _ ⟨v,M',h1,h2,h3,h4,h5⟩=>⟨v,M',h1,h2,h3,h4,hr _ _ _ h5⟩⟩
abbrev zOn:AV:=.agg [inA 0,stA [],stA [],stA [],stA [],stA [],.nil]
theorem zOn_rv {M:Mm} {w:World} {v:Value} {e:Int} (h:RV M w (.tup [zOn,inA e]) v):RV M w (.tup [obA zO,inA e]) v:=by
 obtain ⟨_,rfl,u,_,rfl,⟨_,rfl,u0,_,rfl,h0,u1,_,rfl,h1,u2,_,rfl,h2,u3,_,rfl,h3,u4,_,rfl,h4,u5,_,rfl,h5,u6,_,rfl,h6,rfl⟩,ub,_,rfl,hb,rfl⟩:=h
 exact ⟨_,rfl,_,_,rfl,⟨_,rfl,_,_,rfl,h0,_,_,rfl,h1,_,_,rfl,h2,_,_,rfl,h3,_,_,rfl,h4,_,_,rfl,h5,_,_,rfl,RV.nilRow h6,rfl⟩,_,_,rfl,hb,rfl⟩
theorem w_rt1 {ws:List (List Dt)} {l:Int} {t:Te} {env:Bnd} {x:Tr} (h:t.kind=1) (hv:Puk 83 [bnA env,syA t.np t.nn] (.tup [trA x,boA true])):Suk rtF [.ptr 0 0,teA t,bnA env] (rtX ws l) (.tup [trA x,inA 0]) (rtX ws l) :=
 psw (n:=1) (ks:=[0]) (an:=[yT,.av (.tup [trA x,boA true])]) (ls:=[]) (ps:=[Bn .eql 3 (.tmp 23) (.const (vi 1)) (vi t.kind) (vi 1) bT,Puk 83 [(.dt (.row (bnT env))),(syA t.np t.nn)] (.tup [(obA x.ob),(boA true)])]) Tryz.func49 (by kernel_rfl) (by kernel_rfl) ⟨bin_ieq (yesD h),hv,trivial⟩
theorem w_rt2 {ws:List (List Dt)} {l:Int} {t:Te} {env:Bnd} (h:t.kind=1) (hv:Puk 83 [bnA env,syA t.np t.nn] (.tup [obA zO,boA false])):Suk rtF [.ptr 0 0,teA t,bnA env] (rtX ws l) (.tup [obA zO,inA 6]) (rtX ws l) :=
 .rv (psw (n:=1) (ks:=[0]) (an:=[yT,.av (.tup [obA zO,boA false])]) (ls:=[]) (ps:=[Bn .eql 3 (.tmp 23) (.const (vi 1)) (vi t.kind) (vi 1) bT,Puk 83 [(.dt (.row (bnT env))),(syA t.np t.nn)] (.tup [(obA zO),(boA false)])]) Tryz.func49 (by kernel_rfl) (by kernel_rfl) ⟨bin_ieq (yesD h),hv,trivial⟩) fun _ _ _ h=>zOn_rv h
theorem w_rt3 {ws:List (List Dt)} {l:Int} {t:Te} {env:Bnd} (h:t.kind=2):Suk rtF [.ptr 0 0,teA t,bnA env] (rtX ws l) (.tup [obA t.val,inA 0]) (rtX ws l) :=
 psw (n:=1) (ks:=[0]) (an:=[yF,yT]) (ls:=[]) (ps:=[Bn .eql 3 (.tmp 23) (.const (vi 1)) (vi t.kind) (vi 1) bF,Bn .eql 3 (.tmp 23) (.const (vi 2)) (vi t.kind) (vi 2) bT]) Tryz.func49 (by kernel_rfl) (by kernel_rfl) ⟨bin_ieq (by simp [h]),bin_ieq (by simp [h]),trivial⟩
theorem w_rt4 {ws:List (List Dt)} {l:Int} {t:Te} {env:Bnd} (h:t.kind=3) (hl:l < 1):Suk rtF [.ptr 0 0,teA t,bnA env] (rtX ws l) (.tup [obA zO,inA 9]) (rtX ws l) :=
 .rv (psw (n:=1) (ks:=[0]) (an:=[yF,yF,yT]) (ls:=[]) (ps:=[Bn .eql 3 (.tmp 23) (.const (vi 1)) (vi t.kind) (vi 1) bF,Bn .eql 3 (.tmp 23) (.const (vi 2)) (vi t.kind) (vi 2) bF,Bn .lss 3 (.tmp 44) (.const (vi 1)) (vi l) (vi 1) bT]) Tryz.func49 (by kernel_rfl) (by kernel_rfl) ⟨bin_ieq (by simp [h]),bin_ieq (by simp [h]),bin_ilt (decide_eq_true hl),trivial⟩) fun _ _ _ h=>zOn_rv h
structure RPre (ws:List (List Dt)) (t:Te) (l:Int) (b:Bool):Prop where
 k:t.kind=3
 l0:1≤l
 l1:l≤100000
 ar:Puk 84 [.dt (.row ws),syA t.np t.nn] (.tup [inA t.args.length,boA true])
 pr:Puk 10 [syA t.np t.nn] (.tup [inA t.args.length,boA true])
 fn:Puk 85 [.dt (.row ws),syA t.np t.nn] (.tup [zFn,boA false])
 is:Puk 86 [teA t,stA ifB,inA 3] (boA b)
theorem w_rt5 {ws:List (List Dt)} {l m e:Int} {t a:Te} {env:Bnd} (hp:RPre ws t l true) (ha:t.args[0]?=some a) (he:e≠0) (h:Suk rtF [.ptr 0 0,teA a,bnA env] (rtX ws (l - 1)) (.tup [obA zO,inA e]) (rtX ws m)):Suk rtF [.ptr 0 0,teA t,bnA env] (rtX ws l) (.tup [obA zO,inA e]) (rtX ws m) :=
 have h0:=hp.l0
 have h1:=hp.l1
 psw (n:=1) (ks:=[0]) (an:=[yF,yF,yF,.av (inA (l - 1)),.av (.tup [inA t.args.length,boA true]),.av (inA t.args.length),yF,.av (.tup [inA t.args.length,boA true]),.av (.tup [zFn,boA false]),yT,.av (.pin ((encT a).map .dt)),yT]) (ls:=[.scl 22 6 [0] (.tup [obA zO,inA e]) [some (.cells [.dt (.row ws),inA m])]]) (ps:=[Bn .eql 3 (.tmp 23) (.const (vi 1)) (vi t.kind) (vi 1) bF,Bn .eql 3 (.tmp 23) (.const (vi 2)) (vi t.kind) (vi 2) bF,Bn .lss 3 (.tmp 44) (.const (vi 1)) (vi l) (vi 1) bF,Bn .sub 3 (.tmp 50) (.const (vi 1)) (vi l) (vi 1) (vi (l - 1)),Puk 84 [(.dt (.row ws)),(syA t.np t.nn)] (.tup [(inA ↑t.args.length),(boA true)]),(vi ↑t.args.length)=(vi (↑(List.map Te.enc t.args).length)),Bn .neq 3 (.tmp 67) (.tmp 70) (vi ↑t.args.length) (vi ↑t.args.length) bF,Puk 10 [(syA t.np t.nn)] (.tup [(inA ↑t.args.length),(boA true)]),Puk 85 [(.dt (.row ws)),(syA t.np t.nn)] (.tup [(.agg ((stA [])::(stA [])::(.dt (.row []))::(inA 0)::(inA 0)::(stA zTe.np)::(stA zTe.nn)::(inA 0)::(stA zTe.val.num)::(stA zTe.val.den)::(stA zTe.val.sp)::(stA zTe.val.sn)::(stA zTe.val.text)::(.dt (.row (List.map Ob.enc zTe.val.pair)))::(.dt (.row (List.map Te.enc zTe.args)))::(inA 0)::(stA zTe.np)::(stA zTe.nn)::(inA 0)::(stA zTe.val.num)::(stA zTe.val.den)::(stA zTe.val.sp)::(stA zTe.val.sn)::(stA zTe.val.text)::(.dt (.row (List.map Ob.enc zTe.val.pair)))::(.dt (.row (List.map Te.enc zTe.args)))::(inA 0)::(stA zTe.np)::(stA zTe.nn)::(inA 0)::(stA zTe.val.num)::(stA zTe.val.den)::(stA zTe.val.sp)::(stA zTe.val.sn)::(stA zTe.val.text)::(.dt (.row (List.map Ob.enc zTe.val.pair)))::(.dt (.row (List.map Te.enc zTe.args)))::[])),(boA false)]),Puk 86 [(teA t),(stA [105,102]),(inA 3)] (boA true),IxAt (List.map Te.enc t.args) 0 11 (encT a),Suk 49 [AV.ptr 0 0,teA a,AV.dt (Dt.row (bnT env))] [some (Bx.cells [AV.dt (Dt.row ws),AV.dt (Dt.val (vi (l - 1)))])] (AV.tup [obA zO,inA e]) [some (Bx.cells [AV.dt (Dt.row ws),inA m])],Bn .neq 44 (.tmp 109) (.const (vi 0)) (vi e) (vi 0) bT]) Tryz.func49 (by kernel_rfl) (by kernel_rfl) ⟨bin_ieq (by simp [hp.k]),bin_ieq (by simp [hp.k]),bin_ilt (decide_eq_false (by omega)),bin_isub rfl (by omega) (by omega),hp.ar,lenEncT _,bin_ine (by simp),hp.pr,hp.fn,hp.is,ix_te ha,h,bin_ine (by simp [he]),trivial⟩
theorem w_rt6 {ws:List (List Dt)} {l m k e:Int} {t a b:Te} {env:Bnd} {x:Tr} {o:Ob} (hp:RPre ws t l true) (ha:t.args[0]?=some a) (hb:t.args[2]?=some b) (h:Suk rtF [.ptr 0 0,teA a,bnA env] (rtX ws (l - 1)) (.tup [trA x,inA 0]) (rtX ws m)) (hn:Puk 87 [trA x] (boA true)) (h2:Suk rtF [.ptr 0 0,teA b,bnA env] (rtX ws m) (.tup [obA o,inA e]) (rtX ws k)):Suk rtF [.ptr 0 0,teA t,bnA env] (rtX ws l) (.tup [obA o,inA e]) (rtX ws k) :=
 have h0:=hp.l0
 have h1:=hp.l1
 psw (n:=1) (ks:=[0]) (an:=[yF,yF,yF,.av (inA (l - 1)),.av (.tup [inA t.args.length,boA true]),.av (inA t.args.length),yF,.av (.tup [inA t.args.length,boA true]),.av (.tup [zFn,boA false]),yT,.av (.pin ((encT a).map .dt)),yF,yT,.av (.pin ((encT b).map .dt))]) (ls:=[.scl 22 6 [0] (.tup [trA x,inA 0]) [some (.cells [.dt (.row ws),inA m])],.scl 26 6 [0] (.tup [obA o,inA e]) [some (.cells [.dt (.row ws),inA k])]]) (ps:=[Bn .eql 3 (.tmp 23) (.const (vi 1)) (vi t.kind) (vi 1) bF,Bn .eql 3 (.tmp 23) (.const (vi 2)) (vi t.kind) (vi 2) bF,Bn .lss 3 (.tmp 44) (.const (vi 1)) (vi l) (vi 1) bF,Bn .sub 3 (.tmp 50) (.const (vi 1)) (vi l) (vi 1) (vi (l - 1)),Puk 84 [(.dt (.row ws)),(syA t.np t.nn)] (.tup [(inA ↑t.args.length),(boA true)]),(vi ↑t.args.length)=(vi (↑(List.map Te.enc t.args).length)),Bn .neq 3 (.tmp 67) (.tmp 70) (vi ↑t.args.length) (vi ↑t.args.length) bF,Puk 10 [(syA t.np t.nn)] (.tup [(inA ↑t.args.length),(boA true)]),Puk 85 [(.dt (.row ws)),(syA t.np t.nn)] (.tup [(.agg ((stA [])::(stA [])::(.dt (.row []))::(inA 0)::(inA 0)::(stA zTe.np)::(stA zTe.nn)::(inA 0)::(stA zTe.val.num)::(stA zTe.val.den)::(stA zTe.val.sp)::(stA zTe.val.sn)::(stA zTe.val.text)::(.dt (.row (List.map Ob.enc zTe.val.pair)))::(.dt (.row (List.map Te.enc zTe.args)))::(inA 0)::(stA zTe.np)::(stA zTe.nn)::(inA 0)::(stA zTe.val.num)::(stA zTe.val.den)::(stA zTe.val.sp)::(stA zTe.val.sn)::(stA zTe.val.text)::(.dt (.row (List.map Ob.enc zTe.val.pair)))::(.dt (.row (List.map Te.enc zTe.args)))::(inA 0)::(stA zTe.np)::(stA zTe.nn)::(inA 0)::(stA zTe.val.num)::(stA zTe.val.den)::(stA zTe.val.sp)::(stA zTe.val.sn)::(stA zTe.val.text)::(.dt (.row (List.map Ob.enc zTe.val.pair)))::(.dt (.row (List.map Te.enc zTe.args)))::[])),(boA false)]),Puk 86 [(teA t),(stA [105,102]),(inA 3)] (boA true),IxAt (List.map Te.enc t.args) 0 11 (encT a),Suk 49 [AV.ptr 0 0,teA a,AV.dt (Dt.row (bnT env))] [some (Bx.cells [AV.dt (Dt.row ws),AV.dt (Dt.val (vi (l - 1)))])] (AV.tup [trA x,inA 0]) [some (Bx.cells [AV.dt (Dt.row ws),inA m])],Bn .neq 44 (.tmp 109) (.const (vi 0)) (vi 0) (vi 0) bF,Puk 87 [(obA x.ob)] (boA true),IxAt (List.map Te.enc t.args) 2 11 (encT b),Suk 49 [AV.ptr 0 0,teA b,AV.dt (Dt.row (bnT env))] [some (Bx.cells [AV.dt (Dt.row ws),AV.dt (Dt.val (vi m))])] (AV.tup [obA o,inA e]) [some (Bx.cells [AV.dt (Dt.row ws),inA k])]]) Tryz.func49 (by kernel_rfl) (by kernel_rfl) ⟨bin_ieq (by simp [hp.k]),bin_ieq (by simp [hp.k]),bin_ilt (decide_eq_false (by omega)),bin_isub rfl (by omega) (by omega),hp.ar,lenEncT _,bin_ine (by simp),hp.pr,hp.fn,hp.is,ix_te ha,h,bin_ine (by simp),hn,ix_te hb,h2,trivial⟩
theorem w_rt7 {ws:List (List Dt)} {l m k e:Int} {t a b:Te} {env:Bnd} {x:Tr} {o:Ob} (hp:RPre ws t l true) (ha:t.args[0]?=some a) (hb:t.args[1]?=some b) (h:Suk rtF [.ptr 0 0,teA a,bnA env] (rtX ws (l - 1)) (.tup [trA x,inA 0]) (rtX ws m)) (hn:Puk 87 [trA x] (boA false)) (h2:Suk rtF [.ptr 0 0,teA b,bnA env] (rtX ws m) (.tup [obA o,inA e]) (rtX ws k)):Suk rtF [.ptr 0 0,teA t,bnA env] (rtX ws l) (.tup [obA o,inA e]) (rtX ws k) :=
 have h0:=hp.l0
 have h1:=hp.l1
 psw (n:=1) (ks:=[0]) (an:=[yF,yF,yF,.av (inA (l - 1)),.av (.tup [inA t.args.length,boA true]),.av (inA t.args.length),yF,.av (.tup [inA t.args.length,boA true]),.av (.tup [zFn,boA false]),yT,.av (.pin ((encT a).map .dt)),yF,yF,.av (.pin ((encT b).map .dt))]) (ls:=[.scl 22 6 [0] (.tup [trA x,inA 0]) [some (.cells [.dt (.row ws),inA m])],.scl 27 6 [0] (.tup [obA o,inA e]) [some (.cells [.dt (.row ws),inA k])]]) (ps:=[Bn .eql 3 (.tmp 23) (.const (vi 1)) (vi t.kind) (vi 1) bF,Bn .eql 3 (.tmp 23) (.const (vi 2)) (vi t.kind) (vi 2) bF,Bn .lss 3 (.tmp 44) (.const (vi 1)) (vi l) (vi 1) bF,Bn .sub 3 (.tmp 50) (.const (vi 1)) (vi l) (vi 1) (vi (l - 1)),Puk 84 [(.dt (.row ws)),(syA t.np t.nn)] (.tup [(inA ↑t.args.length),(boA true)]),(vi ↑t.args.length)=(vi (↑(List.map Te.enc t.args).length)),Bn .neq 3 (.tmp 67) (.tmp 70) (vi ↑t.args.length) (vi ↑t.args.length) bF,Puk 10 [(syA t.np t.nn)] (.tup [(inA ↑t.args.length),(boA true)]),Puk 85 [(.dt (.row ws)),(syA t.np t.nn)] (.tup [(.agg ((stA [])::(stA [])::(.dt (.row []))::(inA 0)::(inA 0)::(stA zTe.np)::(stA zTe.nn)::(inA 0)::(stA zTe.val.num)::(stA zTe.val.den)::(stA zTe.val.sp)::(stA zTe.val.sn)::(stA zTe.val.text)::(.dt (.row (List.map Ob.enc zTe.val.pair)))::(.dt (.row (List.map Te.enc zTe.args)))::(inA 0)::(stA zTe.np)::(stA zTe.nn)::(inA 0)::(stA zTe.val.num)::(stA zTe.val.den)::(stA zTe.val.sp)::(stA zTe.val.sn)::(stA zTe.val.text)::(.dt (.row (List.map Ob.enc zTe.val.pair)))::(.dt (.row (List.map Te.enc zTe.args)))::(inA 0)::(stA zTe.np)::(stA zTe.nn)::(inA 0)::(stA zTe.val.num)::(stA zTe.val.den)::(stA zTe.val.sp)::(stA zTe.val.sn)::(stA zTe.val.text)::(.dt (.row (List.map Ob.enc zTe.val.pair)))::(.dt (.row (List.map Te.enc zTe.args)))::[])),(boA false)]),Puk 86 [(teA t),(stA [105,102]),(inA 3)] (boA true),IxAt (List.map Te.enc t.args) 0 11 (encT a),Suk 49 [AV.ptr 0 0,teA a,AV.dt (Dt.row (bnT env))] [some (Bx.cells [AV.dt (Dt.row ws),AV.dt (Dt.val (vi (l - 1)))])] (AV.tup [trA x,inA 0]) [some (Bx.cells [AV.dt (Dt.row ws),inA m])],Bn .neq 44 (.tmp 109) (.const (vi 0)) (vi 0) (vi 0) bF,Puk 87 [(obA x.ob)] (boA false),IxAt (List.map Te.enc t.args) 1 11 (encT b),Suk 49 [AV.ptr 0 0,teA b,AV.dt (Dt.row (bnT env))] [some (Bx.cells [AV.dt (Dt.row ws),AV.dt (Dt.val (vi m))])] (AV.tup [obA o,inA e]) [some (Bx.cells [AV.dt (Dt.row ws),inA k])]]) Tryz.func49 (by kernel_rfl) (by kernel_rfl) ⟨bin_ieq (by simp [hp.k]),bin_ieq (by simp [hp.k]),bin_ilt (decide_eq_false (by omega)),bin_isub rfl (by omega) (by omega),hp.ar,lenEncT _,bin_ine (by simp),hp.pr,hp.fn,hp.is,ix_te ha,h,bin_ine (by simp),hn,ix_te hb,h2,trivial⟩
abbrev raX (ws:List (List Dt)) (t:Te) (fc:List AV) (l:Int) (es:List (List Dt)):List (Option Bx):=[some (.cells [.dt (.row ws),inA l]),some (.cells ((encT t).map .dt)),zOc,some (.cells fc),some (.buf 37 7 es)]
abbrev raS (ws:List (List Dt)) (t:Te) (env:Bnd) (fc:List AV) (p:Bool) (l:Int) (es:List (List Dt)) (i:Int):AS:=⟨stt 176 [(0,.ptr 0 0),(2,bnA env),(4,.ptr 1 0),(6,.ptr 2 0),(13,boA p),(14,.ptr 3 0),(18,.own 4 es.length),(19,inA i)],raX ws t fc l es⟩
abbrev ra0 (ws:List (List Dt)) (t:Te) (env:Bnd) (fc:List AV) (p:Bool) (l:Int):AS:=⟨stt 176 [(0,.ptr 0 0),(2,bnA env),(4,.ptr 1 0),(6,.ptr 2 0),(13,boA p),(14,.ptr 3 0),(18,.nil),(19,inA 0)],[some (.cells [.dt (.row ws),inA l]),some (.cells ((encT t).map .dt)),zOc,some (.cells fc)]⟩
abbrev raR (ws:List (List Dt)) (t:Te) (e l:Int):AS:=⟨stt 176 [(6,.ptr 2 0),(7,inA e)],[some (.cells [.dt (.row ws),inA l]),some (.cells ((encT t).map .dt)),some (.cells [inA 0,stA [],stA [],stA [],stA [],stA [],.nil])]⟩
noncomputable abbrev raB:Code:=subC (bodyOf Tryz.f49) [1,1,1,1,1,1,1,1,1,1,1,1,0,1,0,0]
theorem raB2 {ws es:List (List Dt)} {t x:Te} {env:Bnd} {fc:List AV} {p:Bool} {l m e:Int} {i:Nat} (hx:t.args[i]?=some x) (he:e≠0) (h:Suk rtF [.ptr 0 0,teA x,bnA env] (rtX ws l) (.tup [obA zO,inA e]) (rtX ws m)):Tri (EXn 1) raB (raS ws t env fc p l es i) .ret (raR ws t e m) :=
 have hi:=(List.getElem?_eq_some_iff.1 hx).1
 tw (E:=EXn 1) (c:=subC (bodyOf Tryz.f49) [1,1,1,1,1,1,1,1,1,1,1,1,0,1,0,0]) (s:=raS ws t env fc p l es i) (an:=[.av (inA t.args.length),yT,.av (.pin ((encT x).map .dt)),yT]) (ls:=[.scl 32 7 [0] (.tup [obA zO,inA e]) [some (.cells [.dt (.row ws),inA m])]]) (ft:=[6,7]) (nb:=3) (e:=.ret) (s':=raR ws t e m) (ps:=[(vi ↑t.args.length)=(vi (↑(List.map Te.enc t.args).length)),Bn .lss 3 (.tmp 133) (.tmp 136) (vi ↑i) (vi ↑t.args.length) bT,IxAt (List.map Te.enc t.args) ↑i 11 (encT x),Suk 49 [AV.ptr 0 0,teA x,AV.dt (Dt.row (bnT env))] [some (Bx.cells [AV.dt (Dt.row ws),AV.dt (Dt.val (vi l))])] (AV.tup [obA zO,inA e]) [some (Bx.cells [AV.dt (Dt.row ws),inA m])],Bn .neq 44 (.tmp 151) (.const (vi 0)) (vi e) (vi 0) bT]) (by kernel_rfl) ⟨lenEncT _,bin_ilt (decide_eq_true (by omega)),ix_te hx,h,bin_ine (by simp [he]),trivial⟩
theorem raB1z {ws es:List (List Dt)} {t x:Te} {env:Bnd} {p:Bool} {l m:Int} {y:Tr} {i:Nat} (hx:t.args[i]?=some x) (hl:t.args.length≤1000) (he:es.length≤1000) (h:Suk rtF [.ptr 0 0,teA x,bnA env] (rtX ws l) (.tup [trA y,inA 0]) (rtX ws m)):Tri (EXn 1) raB (raS ws t env zFr p l es i) .nxt (raS ws t env zFr p m (es++[encL y.ob]) ((i+1:Nat):Int)) :=
 have hi:=(List.getElem?_eq_some_iff.1 hx).1
 tw (E:=EXn 1) (c:=subC (bodyOf Tryz.f49) [1,1,1,1,1,1,1,1,1,1,1,1,0,1,0,0]) (s:=raS ws t env zFr p l es i) (an:=[.av (inA t.args.length),yT,.av (.pin ((encT x).map .dt)),yF,.av (.un),.av (inA ((i+1:Nat):Int))]) (ls:=[.scl 32 7 [0] (.tup [trA y,inA 0]) [some (.cells [.dt (.row ws),inA m])]]) (ft:=[0,2,4,6,13,14,18,19]) (nb:=5) (e:=.nxt) (s':=raS ws t env zFr p m (es++[encL y.ob]) ((i+1:Nat):Int)) (ps:=[(vi ↑t.args.length)=(vi (↑(List.map Te.enc t.args).length)),Bn .lss 3 (.tmp 133) (.tmp 136) (vi ↑i) (vi ↑t.args.length) bT,IxAt (List.map Te.enc t.args) ↑i 11 (encT x),Suk 49 [AV.ptr 0 0,teA x,AV.dt (Dt.row (bnT env))] [some (Bx.cells [AV.dt (Dt.row ws),AV.dt (Dt.val (vi l))])] (AV.tup [trA y,inA 0]) [some (Bx.cells [AV.dt (Dt.row ws),inA m])],Bn .neq 44 (.tmp 151) (.const (vi 0)) (vi 0) (vi 0) bF,(es.length)=(es.length),FitB 112 ((es++[[Dt.val (vi y.ob.kind),Dt.val (str y.ob.num),Dt.val (str y.ob.den),Dt.val (str y.ob.sp),Dt.val (str y.ob.sn),Dt.val (str y.ob.text),Dt.row (List.map Ob.enc y.ob.pair)]]).length),SrcOK 7 [encL y.ob],Bn .add 3 (.tmp 138) (.const (vi 1)) (vi ↑i) (vi 1) (vi (↑(i+1)))]) (by kernel_rfl) ⟨lenEncT _,bin_ilt (decide_eq_true (by omega)),ix_te hx,h,bin_ine (by simp),rfl,fit_b (by omega) (by simp;omega),src_tr y,bin_iadd (by omega) (by omega) (by omega),trivial⟩
theorem raB3z {ws es:List (List Dt)} {t:Te} {env:Bnd} {p:Bool} {l:Int} {i:Nat} (hi:i=t.args.length):Tri (EXn 1) raB (raS ws t env zFr p l es i) (.out 1) (raS ws t env zFr p l es i) :=
 tw (E:=EXn 1) (c:=subC (bodyOf Tryz.f49) [1,1,1,1,1,1,1,1,1,1,1,1,0,1,0,0]) (s:=raS ws t env zFr p l es i) (an:=[.av (inA t.args.length),yF]) (ls:=[]) (ft:=[0,2,4,6,13,14,18,19]) (nb:=5) (e:=.out 1) (s':=raS ws t env zFr p l es i) (ps:=[(vi ↑t.args.length)=(vi (↑(List.map Te.enc t.args).length)),Bn .lss 3 (.tmp 133) (.tmp 136) (vi ↑i) (vi ↑t.args.length) bF]) (by kernel_rfl) ⟨lenEncT _,bin_ilt (decide_eq_false (by omega)),trivial⟩
theorem raB1f {ws es:List (List Dt)} {t x:Te} {env:Bnd} {f:Rdr.Fnc} {p:Bool} {l m:Int} {y:Tr} {i:Nat} (hx:t.args[i]?=some x) (hl:t.args.length≤1000) (he:es.length≤1000) (h:Suk rtF [.ptr 0 0,teA x,bnA env] (rtX ws l) (.tup [trA y,inA 0]) (rtX ws m)):Tri (EXn 1) raB (raS ws t env ((encF f).map .dt) p l es i) .nxt (raS ws t env ((encF f).map .dt) p m (es++[encL y.ob]) ((i+1:Nat):Int)) :=
 have hi:=(List.getElem?_eq_some_iff.1 hx).1
 tw (E:=EXn 1) (c:=subC (bodyOf Tryz.f49) [1,1,1,1,1,1,1,1,1,1,1,1,0,1,0,0]) (s:=raS ws t env ((encF f).map .dt) p l es i) (an:=[.av (inA t.args.length),yT,.av (.pin ((encT x).map .dt)),yF,.av (.un),.av (inA ((i+1:Nat):Int))]) (ls:=[.scl 32 7 [0] (.tup [trA y,inA 0]) [some (.cells [.dt (.row ws),inA m])]]) (ft:=[0,2,4,6,13,14,18,19]) (nb:=5) (e:=.nxt) (s':=raS ws t env ((encF f).map .dt) p m (es++[encL y.ob]) ((i+1:Nat):Int)) (ps:=[(vi ↑t.args.length)=(vi (↑(List.map Te.enc t.args).length)),Bn .lss 3 (.tmp 133) (.tmp 136) (vi ↑i) (vi ↑t.args.length) bT,IxAt (List.map Te.enc t.args) ↑i 11 (encT x),Suk 49 [AV.ptr 0 0,teA x,AV.dt (Dt.row (bnT env))] [some (Bx.cells [AV.dt (Dt.row ws),AV.dt (Dt.val (vi l))])] (AV.tup [trA y,inA 0]) [some (Bx.cells [AV.dt (Dt.row ws),inA m])],Bn .neq 44 (.tmp 151) (.const (vi 0)) (vi 0) (vi 0) bF,(es.length)=(es.length),FitB 112 ((es++[[Dt.val (vi y.ob.kind),Dt.val (str y.ob.num),Dt.val (str y.ob.den),Dt.val (str y.ob.sp),Dt.val (str y.ob.sn),Dt.val (str y.ob.text),Dt.row (List.map Ob.enc y.ob.pair)]]).length),SrcOK 7 [encL y.ob],Bn .add 3 (.tmp 138) (.const (vi 1)) (vi ↑i) (vi 1) (vi (↑(i+1)))]) (by kernel_rfl) ⟨lenEncT _,bin_ilt (decide_eq_true (by omega)),ix_te hx,h,bin_ine (by simp),rfl,fit_b (by omega) (by simp;omega),src_tr y,bin_iadd (by omega) (by omega) (by omega),trivial⟩
theorem raB3f {ws es:List (List Dt)} {t:Te} {env:Bnd} {f:Rdr.Fnc} {p:Bool} {l:Int} {i:Nat} (hi:i=t.args.length):Tri (EXn 1) raB (raS ws t env ((encF f).map .dt) p l es i) (.out 1) (raS ws t env ((encF f).map .dt) p l es i) :=
 tw (E:=EXn 1) (c:=subC (bodyOf Tryz.f49) [1,1,1,1,1,1,1,1,1,1,1,1,0,1,0,0]) (s:=raS ws t env ((encF f).map .dt) p l es i) (an:=[.av (inA t.args.length),yF]) (ls:=[]) (ft:=[0,2,4,6,13,14,18,19]) (nb:=5) (e:=.out 1) (s':=raS ws t env ((encF f).map .dt) p l es i) (ps:=[(vi ↑t.args.length)=(vi (↑(List.map Te.enc t.args).length)),Bn .lss 3 (.tmp 133) (.tmp 136) (vi ↑i) (vi ↑t.args.length) bF]) (by kernel_rfl) ⟨lenEncT _,bin_ilt (decide_eq_false (by omega)),trivial⟩
def RaS (fc:List AV):Prop:=(∀ (ws es:List (List Dt)) (t x:Te) (env:Bnd) (p:Bool) (l m:Int) (y:Tr) (i:Nat),t.args[i]?=some x→t.args.length≤1000→es.length≤1000→Suk rtF [.ptr 0 0,teA x,bnA env] (rtX ws l) (.tup [trA y,inA 0]) (rtX ws m)→Tri (EXn 1) raB (raS ws t env fc p l es i) .nxt (raS ws t env fc p m (es++[encL y.ob]) ((i+1:Nat):Int)))∧(∀ (ws es:List (List Dt)) (t:Te) (env:Bnd) (p:Bool) (l:Int) (i:Nat),i=t.args.length→Tri (EXn 1) raB (raS ws t env fc p l es i) (.out 1) (raS ws t env fc p l es i))
theorem raS_z:RaS zFr:=⟨fun _ _ _ _ _ _ _ _ _ _ hx hl he h=>raB1z hx hl he h,fun _ _ _ _ _ _ _ hi=>raB3z hi⟩
theorem raS_f (f:Rdr.Fnc):RaS ((encF f).map .dt):=⟨fun _ _ _ _ _ _ _ _ _ _ hx hl he h=>raB1f hx hl he h,fun _ _ _ _ _ _ _ hi=>raB3f hi⟩
theorem w_rtP {ws es:List (List Dt)} {l m e:Int} {t:Te} {env:Bnd} {k:Int} {o:Ob} (hp:RPre ws t l false) (h:Tri (EXn 1) (.loop raB) (ra0 ws t env zFr true (l - 1)) (.out 1) (raS ws t env zFr true m es k)) (ha:Puk 88 [syA t.np t.nn,.dt (.row es)] (.tup [obA o,inA e])):Suk rtF [.ptr 0 0,teA t,bnA env] (rtX ws l) (.tup [obA o,inA e]) (rtX ws m) :=
 have h0:=hp.l0
 have h1:=hp.l1
 psw (n:=1) (ks:=[0]) (an:=[yF,yF,yF,.av (inA (l - 1)),.av (.tup [inA t.args.length,boA true]),.av (inA t.args.length),yF,.av (.tup [inA t.args.length,boA true]),.av (.tup [zFn,boA false]),yF,.av (.tup [obA o,inA e])]) (ls:=[.inv [0,2,4,6,13,14,18,19] 4 (.out 1) (raS ws t env zFr true m es k)]) (ps:=[Bn .eql 3 (.tmp 23) (.const (vi 1)) (vi t.kind) (vi 1) bF,Bn .eql 3 (.tmp 23) (.const (vi 2)) (vi t.kind) (vi 2) bF,Bn .lss 3 (.tmp 44) (.const (vi 1)) (vi l) (vi 1) bF,Bn .sub 3 (.tmp 50) (.const (vi 1)) (vi l) (vi 1) (vi (l - 1)),Puk 84 [(.dt (.row ws)),(syA t.np t.nn)] (.tup [(inA ↑t.args.length),(boA true)]),(vi ↑t.args.length)=(vi (↑(List.map Te.enc t.args).length)),Bn .neq 3 (.tmp 67) (.tmp 70) (vi ↑t.args.length) (vi ↑t.args.length) bF,Puk 10 [(syA t.np t.nn)] (.tup [(inA ↑t.args.length),(boA true)]),Puk 85 [(.dt (.row ws)),(syA t.np t.nn)] (.tup [(.agg ((stA [])::(stA [])::(.dt (.row []))::(inA 0)::(inA 0)::(stA zTe.np)::(stA zTe.nn)::(inA 0)::(stA zTe.val.num)::(stA zTe.val.den)::(stA zTe.val.sp)::(stA zTe.val.sn)::(stA zTe.val.text)::(.dt (.row (List.map Ob.enc zTe.val.pair)))::(.dt (.row (List.map Te.enc zTe.args)))::(inA 0)::(stA zTe.np)::(stA zTe.nn)::(inA 0)::(stA zTe.val.num)::(stA zTe.val.den)::(stA zTe.val.sp)::(stA zTe.val.sn)::(stA zTe.val.text)::(.dt (.row (List.map Ob.enc zTe.val.pair)))::(.dt (.row (List.map Te.enc zTe.args)))::(inA 0)::(stA zTe.np)::(stA zTe.nn)::(inA 0)::(stA zTe.val.num)::(stA zTe.val.den)::(stA zTe.val.sp)::(stA zTe.val.sn)::(stA zTe.val.text)::(.dt (.row (List.map Ob.enc zTe.val.pair)))::(.dt (.row (List.map Te.enc zTe.args)))::[])),(boA false)]),Puk 86 [(teA t),(stA [105,102]),(inA 3)] (boA false),Tri (EXn 1) (.loop (subC (bodyOf Tryz.f49) [1,1,1,1,1,1,1,1,1,1,1,1,0,1,0,0])) (ra0 ws t env zFr true (l - 1)) (.out 1) (raS ws t env zFr true m es k),Puk 88 [(syA t.np t.nn),(.dt (.row es))] (.tup [(obA o),(inA e)]),(es.length)=(es.length)]) Tryz.func49 (by kernel_rfl) (by kernel_rfl) ⟨bin_ieq (by simp [hp.k]),bin_ieq (by simp [hp.k]),bin_ilt (decide_eq_false (by omega)),bin_isub rfl (by omega) (by omega),hp.ar,lenEncT _,bin_ine (by simp),hp.pr,hp.fn,hp.is,h,ha,rfl,trivial⟩
theorem w_rtPe {ws:List (List Dt)} {l m e:Int} {t:Te} {env:Bnd} (hp:RPre ws t l false) (h:Tri (EXn 1) (.loop raB) (ra0 ws t env zFr true (l - 1)) .ret (raR ws t e m)):Suk rtF [.ptr 0 0,teA t,bnA env] (rtX ws l) (.tup [obA zO,inA e]) (rtX ws m) :=
 have h0:=hp.l0
 have h1:=hp.l1
 .rv (psw (n:=1) (ks:=[0]) (an:=[yF,yF,yF,.av (inA (l - 1)),.av (.tup [inA t.args.length,boA true]),.av (inA t.args.length),yF,.av (.tup [inA t.args.length,boA true]),.av (.tup [zFn,boA false]),yF]) (ls:=[.inv [0,2,4,6,13,14,18,19] 4 (.ret) (raR ws t e m)]) (ps:=[Bn .eql 3 (.tmp 23) (.const (vi 1)) (vi t.kind) (vi 1) bF,Bn .eql 3 (.tmp 23) (.const (vi 2)) (vi t.kind) (vi 2) bF,Bn .lss 3 (.tmp 44) (.const (vi 1)) (vi l) (vi 1) bF,Bn .sub 3 (.tmp 50) (.const (vi 1)) (vi l) (vi 1) (vi (l - 1)),Puk 84 [(.dt (.row ws)),(syA t.np t.nn)] (.tup [(inA ↑t.args.length),(boA true)]),(vi ↑t.args.length)=(vi (↑(List.map Te.enc t.args).length)),Bn .neq 3 (.tmp 67) (.tmp 70) (vi ↑t.args.length) (vi ↑t.args.length) bF,Puk 10 [(syA t.np t.nn)] (.tup [(inA ↑t.args.length),(boA true)]),Puk 85 [(.dt (.row ws)),(syA t.np t.nn)] (.tup [(.agg ((stA [])::(stA [])::(.dt (.row []))::(inA 0)::(inA 0)::(stA zTe.np)::(stA zTe.nn)::(inA 0)::(stA zTe.val.num)::(stA zTe.val.den)::(stA zTe.val.sp)::(stA zTe.val.sn)::(stA zTe.val.text)::(.dt (.row (List.map Ob.enc zTe.val.pair)))::(.dt (.row (List.map Te.enc zTe.args)))::(inA 0)::(stA zTe.np)::(stA zTe.nn)::(inA 0)::(stA zTe.val.num)::(stA zTe.val.den)::(stA zTe.val.sp)::(stA zTe.val.sn)::(stA zTe.val.text)::(.dt (.row (List.map Ob.enc zTe.val.pair)))::(.dt (.row (List.map Te.enc zTe.args)))::(inA 0)::(stA zTe.np)::(stA zTe.nn)::(inA 0)::(stA zTe.val.num)::(stA zTe.val.den)::(stA zTe.val.sp)::(stA zTe.val.sn)::(stA zTe.val.text)::(.dt (.row (List.map Ob.enc zTe.val.pair)))::(.dt (.row (List.map Te.enc zTe.args)))::[])),(boA false)]),Puk 86 [(teA t),(stA [105,102]),(inA 3)] (boA false),Tri (EXn 1) (.loop (subC (bodyOf Tryz.f49) [1,1,1,1,1,1,1,1,1,1,1,1,0,1,0,0])) (ra0 ws t env zFr true (l - 1)) (.ret) (raR ws t e m)]) Tryz.func49 (by kernel_rfl) (by kernel_rfl) ⟨bin_ieq (by simp [hp.k]),bin_ieq (by simp [hp.k]),bin_ilt (decide_eq_false (by omega)),bin_isub rfl (by omega) (by omega),hp.ar,lenEncT _,bin_ine (by simp),hp.pr,hp.fn,hp.is,h,trivial⟩) fun _ _ _ h=>zOn_rv h
structure RPreF (ws:List (List Dt)) (t:Te) (l:Int) (f:Rdr.Fnc):Prop where
 k:t.kind=3
 l0:1≤l
 l1:l≤100000
 ar:Puk 84 [.dt (.row ws),syA t.np t.nn] (.tup [inA t.args.length,boA true])
 pr:Puk 10 [syA t.np t.nn] (.tup [inA 0,boA false])
 fn:Puk 85 [.dt (.row ws),syA t.np t.nn] (.tup [.agg ((encF f).map .dt),boA true])
 is:Puk 86 [teA t,stA ifB,inA 3] (boA false)
theorem w_rtF {ws es bs:List (List Dt)} {l m n e:Int} {t:Te} {f:Rdr.Fnc} {env:Bnd} {k:Int} {o:Ob} (hp:RPreF ws t l f) (h:Tri (EXn 1) (.loop raB) (ra0 ws t env ((encF f).map .dt) false (l - 1)) (.out 1) (raS ws t env ((encF f).map .dt) false m es k)) (hb:Puk 89 [.dt (.row (f.ps.map lrow)),.dt (.row es)] (.dt (.row bs))) (ha:Suk rtF [.ptr 0 0,teA f.body,.dt (.row bs)] (rtX ws m) (.tup [obA o,inA e]) (rtX ws n)):Suk rtF [.ptr 0 0,teA t,bnA env] (rtX ws l) (.tup [obA o,inA e]) (rtX ws n) :=
 have h0:=hp.l0
 have h1:=hp.l1
 psw (n:=1) (ks:=[0]) (an:=[yF,yF,yF,.av (inA (l - 1)),.av (.tup [inA t.args.length,boA true]),.av (inA t.args.length),yF,.av (.tup [inA 0,boA false]),.av (.tup [.agg ((encF f).map .dt),boA true]),.no,yF,.av (.dt (.row bs))]) (ls:=[.inv [0,2,4,6,13,14,18,19] 4 (.out 1) (raS ws t env ((encF f).map .dt) false m es k),.scl 38 7 [0] (.tup [obA o,inA e]) [some (.cells [.dt (.row ws),inA n])]]) (ps:=[Bn .eql 3 (.tmp 23) (.const (vi 1)) (vi t.kind) (vi 1) bF,Bn .eql 3 (.tmp 23) (.const (vi 2)) (vi t.kind) (vi 2) bF,Bn .lss 3 (.tmp 44) (.const (vi 1)) (vi l) (vi 1) bF,Bn .sub 3 (.tmp 50) (.const (vi 1)) (vi l) (vi 1) (vi (l - 1)),Puk 84 [(.dt (.row ws)),(syA t.np t.nn)] (.tup [(inA ↑t.args.length),(boA true)]),(vi ↑t.args.length)=(vi (↑(List.map Te.enc t.args).length)),Bn .neq 3 (.tmp 67) (.tmp 70) (vi ↑t.args.length) (vi ↑t.args.length) bF,Puk 10 [(syA t.np t.nn)] (.tup [(inA 0),(boA false)]),Puk 85 [(.dt (.row ws)),(syA t.np t.nn)] (.tup [(.agg ((encF f).map .dt)),(boA true)]),Puk 86 [(teA t),(stA [105,102]),(inA 3)] (boA false),Tri (EXn 1) (.loop (subC (bodyOf Tryz.f49) [1,1,1,1,1,1,1,1,1,1,1,1,0,1,0,0])) (ra0 ws t env ((encF f).map .dt) false (l - 1)) (.out 1) (raS ws t env ((encF f).map .dt) false m es k),Puk 89 [(.dt (.row (List.map lrow f.ps))),(.dt (.row es))] (.dt (.row bs)),(es.length)=(es.length),Suk 49 [AV.ptr 0 0,AV.agg [AV.dt (Dt.val (vi f.body.kind)),AV.dt (Dt.val (str f.body.np)),AV.dt (Dt.val (str f.body.nn)),AV.dt (Dt.val (vi f.body.val.kind)),AV.dt (Dt.val (str f.body.val.num)),AV.dt (Dt.val (str f.body.val.den)),AV.dt (Dt.val (str f.body.val.sp)),AV.dt (Dt.val (str f.body.val.sn)),AV.dt (Dt.val (str f.body.val.text)),AV.dt (Dt.row (List.map Ob.enc f.body.val.pair)),AV.dt (Dt.row (List.map Te.enc f.body.args))],AV.dt (Dt.row bs)] [some (Bx.cells [AV.dt (Dt.row ws),AV.dt (Dt.val (vi m))])] (AV.tup [obA o,inA e]) [some (Bx.cells [AV.dt (Dt.row ws),inA n])]]) Tryz.func49 (by kernel_rfl) (by kernel_rfl) ⟨bin_ieq (by simp [hp.k]),bin_ieq (by simp [hp.k]),bin_ilt (decide_eq_false (by omega)),bin_isub rfl (by omega) (by omega),hp.ar,lenEncT _,bin_ine (by simp),hp.pr,hp.fn,hp.is,h,hb,rfl,ha,trivial⟩
theorem w_rtFe {ws:List (List Dt)} {l m e:Int} {t:Te} {f:Rdr.Fnc} {env:Bnd} (hp:RPreF ws t l f) (h:Tri (EXn 1) (.loop raB) (ra0 ws t env ((encF f).map .dt) false (l - 1)) .ret (raR ws t e m)):Suk rtF [.ptr 0 0,teA t,bnA env] (rtX ws l) (.tup [obA zO,inA e]) (rtX ws m) :=
 have h0:=hp.l0
 have h1:=hp.l1
 .rv (psw (n:=1) (ks:=[0]) (an:=[yF,yF,yF,.av (inA (l - 1)),.av (.tup [inA t.args.length,boA true]),.av (inA t.args.length),yF,.av (.tup [inA 0,boA false]),.av (.tup [.agg ((encF f).map .dt),boA true]),.no,yF]) (ls:=[.inv [0,2,4,6,13,14,18,19] 4 (.ret) (raR ws t e m)]) (ps:=[Bn .eql 3 (.tmp 23) (.const (vi 1)) (vi t.kind) (vi 1) bF,Bn .eql 3 (.tmp 23) (.const (vi 2)) (vi t.kind) (vi 2) bF,Bn .lss 3 (.tmp 44) (.const (vi 1)) (vi l) (vi 1) bF,Bn .sub 3 (.tmp 50) (.const (vi 1)) (vi l) (vi 1) (vi (l - 1)),Puk 84 [(.dt (.row ws)),(syA t.np t.nn)] (.tup [(inA ↑t.args.length),(boA true)]),(vi ↑t.args.length)=(vi (↑(List.map Te.enc t.args).length)),Bn .neq 3 (.tmp 67) (.tmp 70) (vi ↑t.args.length) (vi ↑t.args.length) bF,Puk 10 [(syA t.np t.nn)] (.tup [(inA 0),(boA false)]),Puk 85 [(.dt (.row ws)),(syA t.np t.nn)] (.tup [(.agg ((encF f).map .dt)),(boA true)]),Puk 86 [(teA t),(stA [105,102]),(inA 3)] (boA false),Tri (EXn 1) (.loop (subC (bodyOf Tryz.f49) [1,1,1,1,1,1,1,1,1,1,1,1,0,1,0,0])) (ra0 ws t env ((encF f).map .dt) false (l - 1)) (.ret) (raR ws t e m)]) Tryz.func49 (by kernel_rfl) (by kernel_rfl) ⟨bin_ieq (by simp [hp.k]),bin_ieq (by simp [hp.k]),bin_ilt (decide_eq_false (by omega)),bin_isub rfl (by omega) (by omega),hp.ar,lenEncT _,bin_ine (by simp),hp.pr,hp.fn,hp.is,h,trivial⟩) fun _ _ _ h=>zOn_rv h
end Go.Proofs.YthhknjlmjefklaaGreatDoor
namespace Go.Proofs.YthhknjlmjefklaaGreatDoor
open Go.RowKit
open Te
theorem ev_var (W:List Rdr.Fnc) (f:Nat) (env:Bnd) (p n:List UInt8) (l:Nat):ev W f env ⟨1,p,n,zOb,[]⟩ l=(match vlk env p n with | some x=>.ok x | none=>.error 6,l):=by
 cases f <;> (rw [ev];unfold evB;exact if_pos rfl)
theorem ev_con (W:List Rdr.Fnc) (f:Nat) (env:Bnd) (t:Tr) (l:Nat):ev W f env (Te.con t.ob) l=(.ok t,l):=by
 have key:∀ r,evB env (Te.con t.ob) l r=(.ok t,l):=fun r=>by
  unfold evB
  rw [if_neg (show ¬ (Te.con t.ob).kind=1 from fun h=>absurd (show (2:Int)=1 from h) (by decide)),if_pos (show (Te.con t.ob).kind=2 from rfl)]
  show (Except.ok (trOf t.ob),l)=_
  rw [trOf_ob]
 cases f <;> (rw [ev];exact key _)
theorem evB_ap (env:Bnd) (n:List UInt8) (a:List Te) (l:Nat) (r:Evl):evB env (Te.ap n a) l r=r:=by
 unfold evB
 rw [if_neg (show ¬ (Te.ap n a).kind=1 from fun h=>absurd (show (3:Int)=1 from h) (by decide)),if_neg (show ¬ (Te.ap n a).kind=2 from fun h=>absurd (show (3:Int)=2 from h) (by decide))]
theorem ev_ap0 (W:List Rdr.Fnc) (f:Nat) (env:Bnd) (n:List UInt8) (a:List Te):ev W f env (Te.ap n a) 0=(.error 9,0):=by
 cases f with
 | zero=>rw [ev,evB_ap]
 | succ f=>rw [ev,evB_ap,if_pos rfl]
theorem ev_ap (W:List Rdr.Fnc) (f:Nat) (env:Bnd) (n:List UInt8) (a:List Te) (l:Nat):ev W (f+1) env (Te.ap n a) (l+1)=evC W (ev W f) env (Te.ap n a) l:=by
 rw [ev,evB_ap,if_neg (by omega),Nat.add_sub_cancel]
theorem ari_if:ariW worldB ifB=some 3:=by decide +kernel
theorem evA_ok {g:Te→Nat→Evl}:∀ (s:List Te) (l:Nat) (xs:List Tr) (l':Nat),(∀ t∈s,∀ l x l',g t l=(.ok x,l')→x.valid=true)→evA g s l=(.ok xs,l')→xs.length=s.length∧∀ x∈xs,x.valid=true
 | [],l,xs,l',_,h=>by rw [evA] at h;cases h;exact ⟨rfl,fun x hx=>by cases hx⟩
 | t::r,l,xs,l',hg,h=>by
  rw [evA] at h
  split at h
  ·cases h
  ·rename_i x l1 hh
   split at h
   ·cases h
   ·rename_i ys l2 hk
    cases h
    obtain ⟨h1,h2⟩:=evA_ok r l1 ys l' (fun t ht=>hg t (List.mem_cons_of_mem _ ht)) hk
    refine ⟨by rw [List.length_cons,List.length_cons,h1],fun y hy=>?_⟩
    rcases List.mem_cons.1 hy with rfl | hy
    ·exact hg t (List.mem_cons_self ..) _ _ _ hh
    ·exact h2 y hy
theorem ev_ok:∀ (f:Nat) (env:Bnd) (t:Te) (l:Nat),Wd t→BndOK env→(∀ x l',ev worldB f env t l=(.ok x,l')→x.valid=true)∧(∀ e l',ev worldB f env t l=(.error e,l')→e≠0):=by
 intro f
 induction f with
 | zero =>
  intro env t l ht he
  cases ht with
  | var p n =>
   rw [ev_var]
   cases hv:vlk env p n with
   | none=>exact ⟨fun x l' h=>(by cases h),fun e l' h=>by cases h;decide⟩
   | some y =>
    obtain ⟨z,h1,rfl⟩:=vlk_mem hv
    exact ⟨fun x l' h=>(by cases h;exact he z h1),fun e l' h=>by cases h⟩
  | con t h=>rw [ev_con];exact ⟨fun x l' e=>(by cases e;exact h),fun e l' h=>by cases h⟩
  | ap n a ha hl h=>rw [ev,evB_ap];exact ⟨fun x l' h=>(by cases h),fun e l' h=>by cases h;decide⟩
 | succ f ih =>
  intro env t l ht he
  cases ht with
  | var p n =>
   rw [ev_var]
   cases hv:vlk env p n with
   | none=>exact ⟨fun x l' h=>(by cases h),fun e l' h=>by cases h;decide⟩
   | some y =>
    obtain ⟨z,h1,rfl⟩:=vlk_mem hv
    exact ⟨fun x l' h=>(by cases h;exact he z h1),fun e l' h=>by cases h⟩
  | con t h=>rw [ev_con];exact ⟨fun x l' e=>(by cases e;exact h),fun e l' h=>by cases h⟩
  | ap n a ha hl h =>
   cases l with
   | zero=>rw [ev_ap0];exact ⟨fun x l' h=>(by cases h),fun e l' h=>by cases h;decide⟩
   | succ l =>
    rw [ev_ap]
    unfold evC
    by_cases hi:is (Te.ap n a) ifB 3
    ·rw [if_pos hi]
     have hk:∀ i,i < 3→Wd ((Te.ap n a).arg i):=fun i hi3=>h _ (List.mem_of_getElem? (arg_at hi hi3))
     obtain ⟨k1,k2⟩:=ih env ((Te.ap n a).arg 0) l (hk 0 (by omega)) he
     split
     ·rename_i c l' hc;exact ⟨fun x l' h=>(by cases h),fun e l' h=>by cases h;exact k2 _ _ hc⟩
     ·rename_i x l' hc
      split
      ·exact ih env _ l' (hk 2 (by omega)) he
      ·exact ih env _ l' (hk 1 (by omega)) he
    ·rw [if_neg hi]
     have hA:∀ (s:List Te) (l:Nat),(∀ x∈s,Wd x)→∀ e l',evA (ev worldB f env) s l=(.error e,l')→e≠0:=by
      intro s
      induction s with
      | nil=>intro l _ e l' h;rw [evA] at h;cases h
      | cons t r ihs =>
       intro l hs e l' h
       rw [evA] at h
       split at h
       ·rename_i c l1 hc;cases h;exact (ih env t l (hs t (List.mem_cons_self ..)) he).2 _ _ hc
       ·split at h
        ·rename_i c l2 hc;cases h;exact ihs _ (fun x hx=>hs x (List.mem_cons_of_mem _ hx)) _ _ hc
        ·cases h
     split
     ·rename_i c l' hc;exact ⟨fun x l' h=>(by cases h),fun e l' h'=>by cases h';exact hA _ _ h _ _ hc⟩
     ·rename_i vs l' hc
      obtain ⟨v1,v2⟩:=evA_ok _ _ _ _ (fun t ht l x l' hh=>(ih env t l (h t ht) he).1 x l' hh) hc
      split
      ·rename_i i k hp
       refine ⟨fun x l2 h=>?_,fun e l2 h=>?_⟩
       ·simp only [Prod.mk.injEq] at h;exact evP_ok h.1
       ·simp only [Prod.mk.injEq] at h
        unfold evP at h
        split at h
        ·cases h.1
        ·have:=h.1;cases this;decide
      ·split
       ·rename_i fn hf
        exact ih _ fn.body l' (body_wd (List.mem_of_find?_eq_some hf)).1 (bndP_ok _ _ v2)
       ·exact ⟨fun x l' h=>(by cases h),fun e l' h=>by cases h;decide⟩
theorem resE_ex (r:Except Int Tr):∃ (o:Ob) (e:Int),resE r=.tup [obA o,inA e]:=by
 cases r with
 | ok x=>exact ⟨x.ob,0,rfl⟩
 | error e=>exact ⟨zO,e,rfl⟩
abbrev rowsO (vs:List Tr):List (List Dt):=vs.map fun t=>encL t.ob
theorem rowsO_snoc (vs:List Tr) (x:Tr):rowsO vs++[encL x.ob]=rowsO (vs++[x]):=by unfold rowsO;rw [List.map_append];rfl
theorem rowsO_len (vs:List Tr):(rowsO vs).length=vs.length:=by unfold rowsO;rw [List.length_map]
theorem wrows_len:(worldB.map encE++[encP namesR]).length≤1000:=by rw [List.length_append,List.length_map,worldB_len];decide
structure WOK (wr:List (List Dt)):Prop where
 fn:∀ {n:List UInt8} {f:Rdr.Fnc},(worldB.find? fun f=>f.nm == n)=some f→Puk 85 [.dt (.row wr),syA lispB n] (.tup [.agg ((encF f).map .dt),boA true])
 no:∀ {n:List UInt8},(worldB.find? fun f=>f.nm == n)=none→Puk 85 [.dt (.row wr),syA lispB n] (.tup [zFn,boA false])
 ari:∀ {n:List UInt8} {k:Nat},ariW worldB n=some k→Puk 84 [.dt (.row wr),syA lispB n] (.tup [inA (k:Int),boA true])
 cfn:∀ {n:List UInt8} {f:Rdr.Fnc},(worldB.find? fun f=>f.nm == n)=some f→Puk 39 [.dt (.row wr),syA lispB n] (.tup [.agg ((encF f).map .dt),boA true])
theorem wok:WOK wrows:=⟨p_Func (ws:=worldB) (r:=[encP namesR]) wrows_len,p_FuncNo,p_AriW (ws:=worldB) (r:=[encP namesR]) wrows_len,p_worldF (ws:=worldB) (r:=[encP namesR]) wrows_len⟩
def REv (wr:List (List Dt)) (f:Nat) (env:Bnd) (t:Te):Prop:=∀ l:Nat,l≤f→l≤99999→Suk rtF [.ptr 0 0,teA t,bnA env] (rtX wr l) (resE (ev worldB f env t l).1) (rtX wr (ev worldB f env t l).2)
theorem ra_loop {wr:List (List Dt)} {f:Nat} {env:Bnd} {t:Te} {fc:List AV} {p:Bool} (hR:RaS fc) (hl:t.args.length≤8) (hw:∀ x∈t.args,Wd x) (he:BndOK env) (ih:∀ x∈t.args,REv wr f env x):∀ (s:List Te) (i:Nat) (out:List Tr) (l:Nat),t.args.drop i=s→i≤t.args.length→out.length=i→l≤f→l≤99999 →
  (∀ xs l',evA (ev worldB f env) s l=(.ok xs,l')→Lps (EXn 1) raB (raS wr t env fc p l (rowsO out) i) (.out 1) (raS wr t env fc p l' (rowsO (out++xs)) t.args.length))∧(∀ e l',evA (ev worldB f env) s l=(.error e,l')→Lps (EXn 1) raB (raS wr t env fc p l (rowsO out) i) .ret (raR wr t e l')):=by
 intro s
 induction s with
 | nil =>
  intro i out l hd hi ho hf _
  have e1:=congrArg List.length hd
  rw [List.length_drop,List.length_nil] at e1
  obtain rfl:i=t.args.length:=by omega
  refine ⟨fun xs l' h=>?_,fun e l' h=>by rw [evA] at h;cases h⟩
  rw [evA] at h
  cases h
  rw [List.append_nil]
  exact .stop (hR.2 _ _ _ _ _ _ _ rfl) (fun h=>by cases h)
 | cons x s ihs =>
  intro i out l hd hi ho hf hf2
  have hx:t.args[i]?=some x:=by rw [← List.head?_drop,hd];rfl
  have hlt:=(List.getElem?_eq_some_iff.1 hx).1
  have hxm:=List.mem_of_getElem? hx
  have hs:=ih x hxm l hf hf2
  have hle:=ev_le worldB f env x l
  rw [evA]
  cases hv:ev worldB f env x l with
  | mk r l1 =>
   rw [hv] at hs hle
   have hle:l1≤l:=hle
   cases r with
   | error c =>
    have hc:=(ev_ok f env x l (hw x hxm) he).2 c l1 hv
    exact ⟨fun xs l' h=>(by cases h),fun e l' h=>by cases h;exact .stop (raB2 hx hc hs) (fun h=>by cases h)⟩
   | ok y =>
    have hst:=hR.1 _ (rowsO out) _ _ _ p _ _ _ _ hx (by omega) (by rw [rowsO_len];omega) hs
    rw [rowsO_snoc] at hst
    obtain ⟨k1,k2⟩:=ihs (i+1) (out++[y]) l1 (by rw [← List.drop_drop,hd];rfl) hlt (by simp [ho]) (by omega) (by omega)
    refine ⟨fun xs l' h=>?_,fun e l' h=>?_⟩
    ·dsimp only at h
     split at h
     ·cases h
     ·rename_i ys l2 hh
      cases h
      have:=k1 ys l' hh
      rw [List.append_assoc] at this
      exact .more hst this
    ·dsimp only at h
     split at h
     ·rename_i c l2 hh
      cases h
      exact .more hst (k2 _ _ hh)
     ·cases h
theorem resT_evP (i:Nat) (vs:List Tr):resT (Tr.kept' (Tr.apL i vs))=resE (evP i vs):=by
 unfold evP
 cases Tr.kept' (Tr.apL i vs) <;> rfl
theorem p_rEv {wr:List (List Dt)} (hW:WOK wr):∀ (f:Nat) (env:Bnd) (t:Te),Wd t→BndOK env→env.length≤1000→REv wr f env t:=by
 intro f
 induction f with
 | zero =>
  intro env t ht he hle l hl hl2
  cases ht with
  | var p n =>
   rw [ev_var]
   obtain ⟨k1,k2⟩:=p_rVal (e:=env) (a:=p) (b:=n) hle
   cases hv:vlk env p n with
   | none=>exact w_rt2 (t:=⟨1,p,n,zOb,[]⟩) rfl (k1 hv)
   | some x=>exact w_rt1 (t:=⟨1,p,n,zOb,[]⟩) rfl (k2 x hv)
  | con t h=>rw [ev_con];exact w_rt3 (t:=Te.con t.ob) rfl
  | ap n a ha hn h =>
   obtain rfl:l=0:=by omega
   rw [ev_ap0]
   exact w_rt4 (t:=Te.ap n a) rfl (by decide)
 | succ f ih =>
  intro env t ht he hle l hl hl2
  cases ht with
  | var p n =>
   rw [ev_var]
   obtain ⟨k1,k2⟩:=p_rVal (e:=env) (a:=p) (b:=n) hle
   cases hv:vlk env p n with
   | none=>exact w_rt2 (t:=⟨1,p,n,zOb,[]⟩) rfl (k1 hv)
   | some x=>exact w_rt1 (t:=⟨1,p,n,zOb,[]⟩) rfl (k2 x hv)
  | con t h=>rw [ev_con];exact w_rt3 (t:=Te.con t.ob) rfl
  | ap n a ha hn h =>
   cases l with
   | zero=>rw [ev_ap0];exact w_rt4 (t:=Te.ap n a) rfl (by decide)
   | succ l =>
    rw [ev_ap]
    have e1:((l+1:Nat):Int) - 1=(l:Int):=by omega
    have har:Puk 84 [.dt (.row wr),syA lispB n] (.tup [inA (a.length:Int),boA true]):=hW.ari ha
    have his:=p_rIs (Te.ap n a) ifB 3
    have hloop:=fun (fc:List AV) (p:Bool) (hR:RaS fc)=>ra_loop (f:=f) (env:=env) (t:=Te.ap n a) (fc:=fc) (p:=p) hR hn h he (fun x hx=>ih env x (h x hx) he hle) a 0 [] l rfl (Nat.zero_le _) rfl (by omega) (by omega)
    rcases ariB_cases ha with ⟨i,hi,hp,hno⟩ | ⟨fn,hm,hf,hps,hp,hne⟩
    ·have hpr:Puk 10 [syA lispB n] (.tup [inA (a.length:Int),boA true]):=p_rAri hi
     have hfn:=hW.no hno
     unfold evC
     by_cases hif:is (Te.ap n a) ifB 3
     ·rw [if_pos hif]
      rw [decide_eq_true hif] at his
      have pre:RPre wr (Te.ap n a) ((l+1:Nat):Int) true:=⟨rfl,by omega,by omega,har,hpr,hfn,his⟩
      have w0:=h _ (List.mem_of_getElem? (arg_at hif (show 0 < 3 by omega)))
      have w1:=h _ (List.mem_of_getElem? (arg_at hif (show 1 < 3 by omega)))
      have w2:=h _ (List.mem_of_getElem? (arg_at hif (show 2 < 3 by omega)))
      have h0:=ih env _ w0 he hle l (by omega) (by omega)
      have hle0:=ev_le worldB f env ((Te.ap n a).arg 0) l
      have hok0:=ev_ok f env ((Te.ap n a).arg 0) l w0 he
      cases hv:ev worldB f env ((Te.ap n a).arg 0) l with
      | mk r l1 =>
       rw [hv] at h0 hle0
       have hle0:l1≤l:=hle0
       cases r with
       | error c=>exact w_rt5 pre (arg_at hif (show 0 < 3 by omega)) (hok0.2 c l1 hv) (by rw [e1];exact h0)
       | ok x =>
        have hn:=p_isNil x
        dsimp only
        by_cases hx:x=nilT
        ·rw [if_pos hx]
         rw [decide_eq_true hx] at hn
         have h2:=ih env _ w2 he hle l1 (by omega) (by omega)
         obtain ⟨o,e,hr⟩:=resE_ex (ev worldB f env ((Te.ap n a).arg 2) l1).1
         rw [hr] at h2 ⊢
         exact w_rt6 pre (arg_at hif (show 0 < 3 by omega)) (arg_at hif (show 2 < 3 by omega)) (by rw [e1];exact h0) hn h2
        ·rw [if_neg hx]
         rw [decide_eq_false hx] at hn
         have h2:=ih env _ w1 he hle l1 (by omega) (by omega)
         obtain ⟨o,e,hr⟩:=resE_ex (ev worldB f env ((Te.ap n a).arg 1) l1).1
         rw [hr] at h2 ⊢
         exact w_rt7 pre (arg_at hif (show 0 < 3 by omega)) (arg_at hif (show 1 < 3 by omega)) (by rw [e1];exact h0) hn h2
     ·rw [if_neg hif]
      rw [decide_eq_false hif] at his
      have pre:RPre wr (Te.ap n a) ((l+1:Nat):Int) false:=⟨rfl,by omega,by omega,har,hpr,hfn,his⟩
      obtain ⟨k1,k2⟩:=hloop zFr true raS_z
      rw [show (Te.ap n a).args=a from rfl]
      cases hv:evA (ev worldB f env) a l with
      | mk r l1 =>
       cases r with
       | error c=>exact w_rtPe pre (by rw [e1];exact Tri.own0 18 37 7 (by show 18 < 176;omega) rfl (k2 c l1 hv).tri)
       | ok vs =>
        obtain ⟨v1,v2⟩:=evA_ok _ _ _ _ (fun t ht l x l' hh=>(ev_ok f env t l (h t ht) he).1 x l' hh) hv
        dsimp only
        rw [show (Te.ap n a).nn=n from rfl,hp]
        dsimp only
        have hap:Puk 88 [syA lispB n,rowA vs] (resE (evP i vs)):=by rw [← resT_evP];exact p_rAp hi v2 v1
        obtain ⟨o,e,hr⟩:=resE_ex (evP i vs)
        rw [hr] at hap ⊢
        exact w_rtP pre (by rw [e1];exact Tri.own0 18 37 7 (by show 18 < 176;omega) rfl (k1 vs l1 hv).tri) hap
    ·have hpr:Puk 10 [syA lispB n] (.tup [inA 0,boA false]):=p_rArU hne
     have hfn:Puk 85 [.dt (.row wr),syA lispB n] (.tup [.agg ((encF fn).map .dt),boA true]):=hW.fn hf
     have hif:¬ is (Te.ap n a) ifB 3:=fun e=>by
      have e2:n=ifB:=e.2.2.1
      exact hne (ifB,3) (by decide) e2
     rw [decide_eq_false hif] at his
     have pre:RPreF wr (Te.ap n a) ((l+1:Nat):Int) fn:=⟨rfl,by omega,by omega,har,hpr,hfn,his⟩
     unfold evC
     rw [if_neg hif]
     obtain ⟨k1,k2⟩:=hloop ((encF fn).map .dt) false (raS_f fn)
     rw [show (Te.ap n a).args=a from rfl]
     cases hv:evA (ev worldB f env) a l with
     | mk r l1 =>
      have hle1:=evA_le (g:=ev worldB f env) (fun t l=>ev_le worldB f env t l) a l
      rw [hv] at hle1
      have hle1:l1≤l:=hle1
      cases r with
      | error c=>exact w_rtFe pre (by rw [e1];exact Tri.own0 18 37 7 (by show 18 < 176;omega) rfl (k2 c l1 hv).tri)
      | ok vs =>
       obtain ⟨v1,v2⟩:=evA_ok _ _ _ _ (fun t ht l x l' hh=>(ev_ok f env t l (h t ht) he).1 x l' hh) hv
       dsimp only
       rw [show (Te.ap n a).nn=n from rfl,hp]
       dsimp only
       rw [hf]
       dsimp only
       obtain ⟨hwd,hpl⟩:=body_wd hm
       have hbl:(bndP fn.ps vs).length≤1000:=by
        have key:∀ (p:List (List UInt8)) (v:List Tr),(bndP p v).length≤p.length:=by
         intro p
         induction p with
         | nil=>intro v;cases v <;> exact Nat.zero_le _
         | cons n p ihp=>intro v;cases v with
          | nil=>exact Nat.zero_le _
          | cons x v=>exact Nat.succ_le_succ (ihp v)
        have:=key fn.ps vs
        omega
       have hb:=ih (bndP fn.ps vs) fn.body hwd (bndP_ok _ _ v2) hbl l1 (by omega) (by omega)
       obtain ⟨o,e,hr⟩:=resE_ex (ev worldB f (bndP fn.ps vs) fn.body l1).1
       rw [hr] at hb ⊢
       exact w_rtF pre (by rw [e1];exact Tri.own0 18 37 7 (by show 18 < 176;omega) rfl (k1 vs l1 hv).tri) (p_rBind (by omega) (by omega)) hb
end Go.Proofs.YthhknjlmjefklaaGreatDoor
namespace Go.Proofs.YthhknjlmjefklaaGreatDoor
open Go.RowKit
open Te
abbrev tTr:Tr:=Tr.sym lispB [116]
abbrev vP:Te:=⟨1,lispB,[112],zOb,[]⟩
theorem b_not:(worldB.find? fun f=>f.nm == notB).map (fun f=>(f.ps,f.body))=some ([[112]],Te.ap ifB [vP,noT,yesT]):=by decide +kernel
theorem vlk_p (v:Tr) (r:Bnd):vlk (((lispB,[112]),v)::r) lispB [112]=some v:=by rw [vlk,if_pos ⟨rfl,rfl⟩]
theorem len1 {α:Type} {l:List α} (h:l.length=1):∃ a,l=[a]:=by
 match l,h with
 | [a],_=>exact ⟨a,rfl⟩
theorem len2 {α:Type} {l:List α} (h:l.length=2):∃ a b,l=[a,b]:=by
 match l,h with
 | [a,b],_=>exact ⟨a,b,rfl⟩
theorem len3 {α:Type} {l:List α} (h:l.length=3):∃ a b c,l=[a,b,c]:=by
 match l,h with
 | [a,b,c],_=>exact ⟨a,b,c,rfl⟩
end Go.Proofs.YthhknjlmjefklaaGreatDoor
