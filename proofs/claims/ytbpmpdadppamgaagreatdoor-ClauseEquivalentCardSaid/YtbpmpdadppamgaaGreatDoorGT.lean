/- Arithmetic of objects, as plain walks. -/
import Derived.Test.YtbpmpdadppamgaaGreatDoorGS
import Derived.Test.YtbpmpdadppamgaaGreatDoorGH
namespace Go.Proofs.YtbpmpdadppamgaaGreatDoor
open Go.Proofs.Tryz
open Go.RowKit
theorem YZ{f:FuncId}(hf:Fn f){a r:lw}(h:∀w,R9 w→Calls prog f #[str a] w (bD r w)):j5 f [stA a] (stA r) :=
 ⟨hf,fun ok w vs ht hv=>by
  obtain rfl:=hv.eB;exact (h w ht.1).mono fun _ _ ⟨h1,h2⟩=>⟨_,h1,h2,.val _⟩⟩
theorem EI{f:FuncId}(hf:Fn f){a b r:lw}(h:∀w,R9 w→Calls prog f #[str a,str b] w (bD r w)):j5 f [stA a,stA b] (stA r) :=
 ⟨hf,fun ok w vs ht hv=>by
  obtain⟨u,us,rfl,h1,h2⟩:=hv;obtain rfl:=RL.eB h2;rw[Rd.Q7 h1];exact (h w ht.1).mono fun _ _ ⟨h1,h2⟩=>⟨_,h1,h2,.val _⟩⟩
section
variable {a b:lw} {x y:Int} (ha:j6.x9 a=x) (hb:j6.x9 b=y) (la:a.length≤2500000) (lb:b.length≤2500000)
include ha hb la lb
theorem yX:j5 225 [stA a,stA b] (stA (Lib.itoa (x * y))) :=
 EI (Q3 func225 rfl (by kernel_rfl)) fun w ht=>by rw[←ha,←hb];exact Ri a b w la lb ht
theorem UM:j5 223 [stA a,stA b] (stA (Lib.itoa (x+y))) :=
 EI (Q3 func223 rfl (by kernel_rfl)) fun w ht=>by rw[←ha,←hb];exact a3S a b w la lb ht
theorem yY:j5 206 [stA a,stA b] (stA (Lib.itoa (x * y))) :=
 EI (Q3 func206 rfl (by kernel_rfl)) fun w _=>by rw[←ha,←hb];exact PU a b w la lb
theorem a8y:j5 205 [stA a,stA b] (stA (Lib.itoa (x+y))) :=
 EI (Q3 func205 rfl (by kernel_rfl)) fun w _=>by rw[←ha,←hb];exact a2p a b w la lb
end
theorem a8z{a:lw}{x:Int}(ha:j6.x9 a=x)(la:a.length≤2500000):j5 263 [stA a] (stA (Lib.itoa (-x))) :=
 YZ (Q3 func263 rfl (by kernel_rfl)) fun w _=>by
  rw[←ha];exact (Io a w la).mono fun _ _ ⟨h1,h2⟩=>⟨h1,by rw[←h2];exact Below.refl _ _⟩
theorem a8A{a:lw}{x:Int}(ha:j6.x9 a=x)(la:a.length≤2500000):j5 202 [stA a] (stA (Lib.itoa (-x))) :=
 YZ (Q3 func202 rfl (by kernel_rfl)) fun w _=>by rw[←ha];exact a1f a w la
theorem Ee{a b:lw}(ha:a.length≤1100000)(hb:b.length≤1100000):j5 224 [stA a,stA b] (l9 (.num (Rat.divInt (j6.x9 a) (j6.x9 b)))) :=
 ⟨Q3 func224 rfl (by kernel_rfl),fun ok w vs ht hv=>by
  obtain⟨u,us,rfl,h1,h2⟩:=hv;obtain rfl:=RL.eB h2;rw[Rd.Q7 h1];exact (a2h a b w ha hb ht.1).mono fun _ _ h=>Y9.pure (r:=U4 (Rat.divInt (j6.x9 a) (j6.x9 b))) rfl h⟩
theorem aN(t:Tr):j5 154 [l9 t] (l9 (.num t.val)) :=
 ⟨Q3 func154 rfl (by kernel_rfl),fun ok w vs ht hv=>by
  obtain⟨A,n,c,rfl,hr⟩:=hv.vO;have e1:=hr.len;rw[Cc]at e1;exact (Je t.ob t.val t.DT A n c e1 w ht.1).mono fun _ _=>qc.pure⟩
theorem lT(t:Tr):j5 221 [l9 t] (l9 (.num t.val)) :=
 ⟨Q3 func221 rfl (by kernel_rfl),fun ok w vs ht hv=>by
  obtain⟨A,n,c,rfl,hr⟩:=hv.vO;have e1:=hr.len;rw[Cc]at e1;exact (a3Z t.ob t.val t.DT A n c e1 w ht.1).mono fun _ _=>qc.pure⟩
theorem a8B(a:lw):j5 222 [stA a] (o7 (Z4 a [49])) :=
 ⟨Q3 func222 rfl (by kernel_rfl),fun ok w vs ht hv=>by
  obtain rfl:=hv.eB;exact (Pp a w).mono fun _ _ h=>Y9.pure (r:=Z4 a [49]) rfl h⟩
theorem a8C{p q:Rat}{k:Nat}(bp:Rb k p)(bq:Rb k q)(hk:k≤10000):j5 230 [l9 (.num p),l9 (.num q)] (j4 (dL p q)) :=
 ⟨Q3 func230 rfl (by kernel_rfl),fun ok w vs ht hv=>by
  obtain⟨A,n,c,A',n',c',rfl,hr,hr'⟩:=hv.si;have e1:=hr.len;have e2:=hr'.len;obtain rfl:n=0:=e1.symm;obtain rfl:n'=0:=e2.symm;exact (a2i p q bp bq hk hk A A' 0 0 c c' w ht.1).mono fun _ _ ⟨h1,h2⟩=>⟨_,h1,h2,.val _⟩⟩
section
variable {a b:Tr} {p q r:Rat} {m n d:lw} {k:Nat}
theorem a8D(f1:j5 154 [l9 a] (l9 (.num p)))(f2:j5 154 [l9 b] (l9 (.num q)))(m1:j5 206 [stA (Tr.num p).ob.num,stA (Tr.num q).ob.num] (stA m))(m2:j5 206 [stA (Tr.num p).ob.den,stA (Tr.num q).ob.den] (stA d))(r1:j5 77 [stA m,stA d] (l9 (.num r))):j5 163 [l9 a,l9 b] (l9 (.num r)) :=
 pV [.av (l9 (.num p)),.av (l9 (.num q)),.av (stA m),.av (stA d),.av (l9 (.num r))] [_,_,_,_,_] func163 ⟨f1,f2,m1,m2,r1,Z⟩
theorem a8E(f1:j5 221 [l9 a] (l9 (.num p)))(f2:j5 221 [l9 b] (l9 (.num q)))(m1:j5 225 [stA (Tr.num p).ob.num,stA (Tr.num q).ob.num] (stA m))(m2:j5 225 [stA (Tr.num p).ob.den,stA (Tr.num q).ob.den] (stA d))(r1:j5 224 [stA m,stA d] (l9 (.num r))):j5 193 [l9 a,l9 b] (l9 (.num r)) :=
 pV [.av (l9 (.num p)),.av (l9 (.num q)),.av (stA m),.av (stA d),.av (l9 (.num r))] [_,_,_,_,_] func193 ⟨f1,f2,m1,m2,r1,Z⟩
theorem b1e{s:lw}(f1:j5 154 [l9 a] (l9 (.num p)))(f2:j5 154 [l9 b] (l9 (.num q)))(m1:j5 206 [stA (Tr.num p).ob.num,stA (Tr.num q).ob.den] (stA m))(m2:j5 206 [stA (Tr.num q).ob.num,stA (Tr.num p).ob.den] (stA n))(m3:j5 205 [stA m,stA n] (stA s))(m4:j5 206 [stA (Tr.num p).ob.den,stA (Tr.num q).ob.den] (stA d))(r1:j5 77 [stA s,stA d] (l9 (.num r))):j5 162 [l9 a,l9 b] (l9 (.num r)) :=
 pV [.av (l9 (.num p)),.av (l9 (.num q)),.av (stA m),.av (stA n),.av (stA s),.av (stA d),.av (l9 (.num r))] [_,_,_,_,_,_,_] func162 ⟨f1,f2,m1,m2,m3,m4,r1,Z⟩
theorem b1f{s:lw}(hd:¬((Tr.num p).ob.den=[49]∧(Tr.num q).ob.den=[49]))(f1:j5 221 [l9 a] (l9 (.num p)))(f2:j5 221 [l9 b] (l9 (.num q)))(m1:j5 225 [stA (Tr.num p).ob.num,stA (Tr.num q).ob.den] (stA m))(m2:j5 225 [stA (Tr.num q).ob.num,stA (Tr.num p).ob.den] (stA n))(m3:j5 223 [stA m,stA n] (stA s))(m4:j5 225 [stA (Tr.num p).ob.den,stA (Tr.num q).ob.den] (stA d))(r1:j5 224 [stA s,stA d] (l9 (.num r))):j5 192 [l9 a,l9 b] (l9 (.num r)):=by
 by_cases h:(Tr.num p).ob.den=[49]
 ·exact pV [.av (l9 (.num p)),.av (l9 (.num q)),yT,yF,.av (stA m),.av (stA n),.av (stA s),.av (stA d),.av (l9 (.num r))] [_,_,Bl .eql 9 10 [49] ((Tr.num p).ob.den) bT,Bl .eql 9 14 [49] ((Tr.num q).ob.den) bF,_,_,_,_,_] func192 ⟨f1,f2,I6 (Pi h),I6 (WF fun e=>hd ⟨h,e⟩),m1,m2,m3,m4,r1,Z⟩
 ·exact pV [.av (l9 (.num p)),.av (l9 (.num q)),yF,.av (stA m),.av (stA n),.av (stA s),.av (stA d),.av (l9 (.num r))] [_,_,Bl .eql 9 10 [49] ((Tr.num p).ob.den) bF,_,_,_,_,_] func192 ⟨f1,f2,I6 (WF h),m1,m2,m3,m4,r1,Z⟩
theorem a8F(h1:(Tr.num p).ob.den=[49])(h2:(Tr.num q).ob.den=[49])(f1:j5 221 [l9 a] (l9 (.num p)))(f2:j5 221 [l9 b] (l9 (.num q)))(m1:j5 223 [stA (Tr.num p).ob.num,stA (Tr.num q).ob.num] (stA m))(r1:j5 222 [stA m] (l9 (.num r))):j5 192 [l9 a,l9 b] (l9 (.num r)) :=
 pV [.av (l9 (.num p)),.av (l9 (.num q)),yT,yT,.av (stA m),.av (l9 (.num r))] [_,_,Bl .eql 9 10 [49] ((Tr.num p).ob.den) bT,Bl .eql 9 14 [49] ((Tr.num q).ob.den) bT,_,_] func192 ⟨f1,f2,I6 (Pi h1),I6 (Pi h2),m1,r1,Z⟩
theorem b1g(f1:j5 154 [l9 a] (l9 (.num p)))(m1:j5 202 [stA (Tr.num p).ob.num] (stA m))(r1:j5 77 [stA m,stA (Tr.num p).ob.den] (l9 (.num r))):j5 157 [l9 a] (l9 (.num r)) :=
 pV [.av (l9 (.num p)),.av (stA m),.av (l9 (.num r))] [_,_,_] func157 ⟨f1,m1,r1,Z⟩
theorem b1h(f1:j5 154 [l9 a] (l9 (.num p)))(r1:j5 77 [stA (Tr.num p).ob.den,stA (Tr.num p).ob.num] (l9 (.num r))):j5 158 [l9 a] (l9 (.num r)) :=
 pV [.av (l9 (.num p)),.av (l9 (.num r))] [_,_] func158 ⟨f1,r1,Z⟩
theorem b1i(f1:j5 221 [l9 a] (l9 (.num p)))(m1:j5 263 [stA (Tr.num p).ob.num] (stA m)):j5 232 [l9 a] (o7 ⟨(Tr.num p).ob.kind,m,(Tr.num p).ob.den,(Tr.num p).ob.sp,(Tr.num p).ob.sn,(Tr.num p).ob.text,(Tr.num p).ob.pair⟩) :=
 pV [.av (l9 (.num p)),.av (stA m)] [_,_] func232 ⟨f1,m1,Z⟩
theorem b1j(f1:j5 221 [l9 a] (l9 (.num p)))(r1:j5 224 [stA (Tr.num p).ob.den,stA (Tr.num p).ob.num] (l9 (.num r))):j5 233 [l9 a] (l9 (.num r)) :=
 pV [.av (l9 (.num p)),.av (l9 (.num r))] [_,_] func233 ⟨f1,r1,Z⟩
theorem a8G{b':Bool}{c:Int}(f1:j5 221 [l9 a] (l9 (.num p)))(f2:j5 221 [l9 b] (l9 (.num q)))(m1:j5 230 [l9 (.num p),l9 (.num q)] (j4 c))(hc:decide (c < 0)=b'):j5 199 [l9 a,l9 b] (l5 b') :=
 pV [.av (l9 (.num p)),.av (l9 (.num q)),.av (j4 c),.av (l5 b')] [_,_,_,Bk .lss 3 9 0 c (Value.bool b')] func199 ⟨f1,f2,m1,D8 hc,Z⟩
end
section
variable {k:Nat} {a b:Tr}
theorem iO(q:Rat):j6.x9 (Tr.num q).ob.num=q.num:=j6.M7 _
theorem fe(q:Rat):j6.x9 (Tr.num q).ob.den=q.den:=j6.M7 (q.den:Int)
theorem nl{q:Rat}(h:Rb k q)(hk:k≤10000):(Tr.num q).ob.num.length≤20000:=pu (Rb.nV h) J
theorem dl{q:Rat}(h:Rb k q)(hk:k≤10000):(Tr.num q).ob.den.length≤20000:=pu (Rb.qy h) J
theorem ml{x y:Int}(hx:x.natAbs < 10 ^ k)(hy:y.natAbs < 10 ^ k)(h1:1≤k)(hk:k≤10000):(Lib.itoa (x * y)).length≤50000:=by
 have h:(x * y).natAbs < 10 ^ (k+k):=by
  rw[Int.natAbs_mul,Nat.pow_add];exact Nat.mul_lt_mul'' hx hy
 exact pu (iP _ (k:=k+k) J h) J
theorem al'{x y:Int}(hx:(Lib.itoa x).length≤k)(hy:(Lib.itoa y).length≤k):(Lib.itoa (x+y)).length≤k+2:=by
 have h1:=jC hx;have h2:=jC hy;rw[j6.M7]at h1 h2;refine iP _ (k:=k+1) J ?_;rw[ZaM];generalize 10 ^ k=z at *;have:=Int.natAbs_add_le x y;omega
theorem al{x y:Int}(hx:(Lib.itoa x).length≤50000)(hy:(Lib.itoa y).length≤50000):(Lib.itoa (x+y)).length≤100010:=pu (al' hx hy) O
variable (ha:a.Ok k) (hb:b.Ok k) (h1:1≤k) (hk:k≤10000)
include ha h1 hk
theorem b1k:j5 157 [l9 a] (l9 (.num (-a.val))):=by
 have ba:=ha.val h1;refine b1g (aN a) (a8A (iO _) (pu (nl ba hk) O)) ?_;have h:=wC (a:=Lib.itoa (-a.val.num)) (b:=(Tr.num a.val).ob.den) (pu (iP _ (k:=k) h1 (by rw[Int.natAbs_neg];exact ba.num)) J) (pu (dl ba hk) O);rw[j6.M7,fe,show Rat.divInt (-a.val.num) (a.val.den:Int)=-a.val by rw[←Rat.neg_divInt,Rat.num_divInt_den]]at h
 exact h
theorem b1l:j5 158 [l9 a] (l9 (.num a.val⁻¹)):=by
 have ba:=ha.val h1;refine b1h (aN a) ?_;have h:=wC (a:=(Tr.num a.val).ob.den) (b:=(Tr.num a.val).ob.num) (pu (dl ba hk) O) (pu (nl ba hk) O);rw[fe,iO,←Rat.inv_def]at h;exact h
theorem b1m:j5 232 [l9 a] (l9 (.num (-a.val))):=by
 have ba:=ha.val h1;refine (b1i (lT a) (a8z (iO _) (pu (nl ba hk) O))).val (congrArg o7 ?_);show (⟨1,Lib.itoa (-a.val.num),Lib.itoa (a.val.den:Int),[],[],[],[]⟩:Ob)=⟨1,Lib.itoa (-a.val).num,Lib.itoa ((-a.val).den:Int),[],[],[],[]⟩;rw[Rat.neg_num,Rat.neg_den]
theorem b1n:j5 233 [l9 a] (l9 (.num a.val⁻¹)):=by
 have ba:=ha.val h1;refine b1j (lT a) ?_;have h:=Ee (a:=(Tr.num a.val).ob.den) (b:=(Tr.num a.val).ob.num) (pu (dl ba hk) O) (pu (nl ba hk) O);rw[fe,iO,←Rat.inv_def]at h;exact h
include hb
theorem a8H:j5 163 [l9 a,l9 b] (l9 (.num (a.val * b.val))):=by
 have ba:=ha.val h1;have bb:=hb.val h1;refine a8D (aN a) (aN b) (yY (iO _) (iO _) (pu (nl ba hk) O) (pu (nl bb hk) O)) (yY (fe _) (fe _) (pu (dl ba hk) O) (pu (dl bb hk) O)) ?_;have h:=wC (pu (ml ba.num bb.num h1 hk) O) (pu (ml (x:=(a.val.den:Int)) (y:=(b.val.den:Int)) (by rw[Int.natAbs_natCast];exact ba.den) (by rw[Int.natAbs_natCast];exact bb.den) h1 hk) O);rw[j6.M7,j6.M7,←Rat.mul_div]at h;exact h
theorem UN:j5 193 [l9 a,l9 b] (l9 (.num (a.val * b.val))):=by
 have ba:=ha.val h1;have bb:=hb.val h1;refine a8E (lT a) (lT b) (yX (iO _) (iO _) (pu (nl ba hk) O) (pu (nl bb hk) O)) (yX (fe _) (fe _) (pu (dl ba hk) O) (pu (dl bb hk) O)) ?_;have h:=Ee (pu (ml ba.num bb.num h1 hk) O) (pu (ml (x:=(a.val.den:Int)) (y:=(b.val.den:Int)) (by rw[Int.natAbs_natCast];exact ba.den) (by rw[Int.natAbs_natCast];exact bb.den) h1 hk) O);rw[j6.M7,j6.M7,←Rat.mul_div]at h;exact h
theorem b1o:j5 162 [l9 a,l9 b] (l9 (.num (a.val+b.val))):=by
 have ba:=ha.val h1;have bb:=hb.val h1;have l1:=ml (x:=a.val.num) (y:=(b.val.den:Int)) ba.num (by rw[Int.natAbs_natCast];exact bb.den) h1 hk;have l2:=ml (x:=b.val.num) (y:=(a.val.den:Int)) bb.num (by rw[Int.natAbs_natCast];exact ba.den) h1 hk;have l3:=ml (x:=(a.val.den:Int)) (y:=(b.val.den:Int)) (by rw[Int.natAbs_natCast];exact ba.den) (by rw[Int.natAbs_natCast];exact bb.den) h1 hk;refine b1e (aN a) (aN b) (yY (iO _) (fe _) (pu (nl ba hk) O) (pu (dl bb hk) O)) (yY (iO _) (fe _) (pu (nl bb hk) O) (pu (dl ba hk) O)) (a8y (j6.M7 _) (j6.M7 _) J J) (yY (fe _) (fe _) (pu (dl ba hk) O) (pu (dl bb hk) O)) ?_;have h:=wC (pu (al l1 l2) O) (pu l3 O);rw[j6.M7,j6.M7,←Rat.add_div]at h;exact h
theorem Wp:j5 192 [l9 a,l9 b] (l9 (.num (a.val+b.val))):=by
 have ba:=ha.val h1;have bb:=hb.val h1;by_cases hd:(Tr.num a.val).ob.den=[49]∧(Tr.num b.val).ob.den=[49]
 ·obtain⟨d1,d2⟩:=hd;refine a8F d1 d2 (lT a) (lT b) (UM (iO _) (iO _) (pu (nl ba hk) O) (pu (nl bb hk) O)) ((a8B _).val (congrArg o7 ?_));have e1:(a.val.den:Int)=1:=by rw[←fe a.val,d1];decide +kernel
  have e2:(b.val.den:Int)=1:=by rw[←fe b.val,d2];decide +kernel
  have e:a.val+b.val=((a.val.num+b.val.num:Int):Rat):=by
   rw[Rat.add_div,e1,e2];simp only[Int.mul_one];exact Cx _
  rw[e];exact (Jb _).symm
 ·have l1:=ml (x:=a.val.num) (y:=(b.val.den:Int)) ba.num (by rw[Int.natAbs_natCast];exact bb.den) h1 hk;have l2:=ml (x:=b.val.num) (y:=(a.val.den:Int)) bb.num (by rw[Int.natAbs_natCast];exact ba.den) h1 hk;have l3:=ml (x:=(a.val.den:Int)) (y:=(b.val.den:Int)) (by rw[Int.natAbs_natCast];exact ba.den) (by rw[Int.natAbs_natCast];exact bb.den) h1 hk;refine b1f hd (lT a) (lT b) (yX (iO _) (fe _) (pu (nl ba hk) O) (pu (dl bb hk) O)) (yX (iO _) (fe _) (pu (nl bb hk) O) (pu (dl ba hk) O)) (UM (j6.M7 _) (j6.M7 _) J J) (yX (fe _) (fe _) (pu (dl ba hk) O) (pu (dl bb hk) O)) ?_;have h:=Ee (pu (al l1 l2) O) (pu l3 O);rw[j6.M7,j6.M7,←Rat.add_div]at h;exact h
theorem a5w:j5 199 [l9 a,l9 b] (l5 (decide (a.val < b.val))) :=
 a8G (lT a) (lT b) (a8C (ha.val h1) (hb.val h1) hk) (Ro _ _)
end
abbrev l6:Tr:=.sym o9 R8
abbrev V7(b:Bool):Tr:=if b then .sym o9 [116] else l6
theorem kF:j5 90 [] (l9 l6) :=
 ⟨Q3 func90 rfl (by kernel_rfl),fun ok w vs ht hv=>by
  obtain rfl:vs=[]:=hv;exact (a3Y w).mono fun _ _ h=>Y9.pure (r:=K8) rfl h⟩
theorem b3Q:j5 89 [] (l9 (.sym o9 [116])) :=
 ⟨Q3 func89 rfl (by kernel_rfl),fun ok w vs ht hv=>by
  obtain rfl:vs=[]:=hv;exact (a9F w).mono fun _ _ h=>Y9.pure (r:=tO) rfl h⟩
theorem kG:j5 40 [] (l9 l6) :=
 ⟨Q3 func40 rfl (by kernel_rfl),fun ok w vs ht hv=>by
  obtain rfl:vs=[]:=hv;exact (Jd w).mono fun _ _ h=>Y9.pure (r:=K8) rfl h⟩
theorem b3R:j5 52 [] (l9 (.sym o9 [116])) :=
 ⟨Q3 func52 rfl (by kernel_rfl),fun ok w vs ht hv=>by
  obtain rfl:vs=[]:=hv;exact (a9I w).mono fun _ _ h=>Y9.pure (r:=tO) rfl h⟩
theorem vS(t:lw):j5 194 [stA t] (l9 (.txt t)) :=
 ⟨Q3 func194 rfl (by kernel_rfl),fun ok w vs ht hv=>by
  obtain rfl:=hv.eB;exact (a2T w t).mono fun _ _ h=>Y9.pure (r:=kR t) rfl h⟩
theorem a8I(p s:lw):j5 121 [p8 p s] (l9 (.sym p s)) :=
 ⟨Q3 func121 rfl (by kernel_rfl),fun ok w vs ht hv=>by
  obtain⟨u,us,rfl,h1,rfl⟩:=hv;rw[h1.sy];exact (Ie w p s).mono fun _ _ h=>Y9.pure (r:=jc p s) rfl h⟩
theorem Kl{q:Int}{a:lw}(ha:a.length≤1100000)(hq:j6.x9 a=q):j5 224 [stA a,stA [49]] (l9 (.num (q:Rat))):=by
 have h:=Ee (b:=[49]) ha O;have e:Rat.divInt (j6.x9 a) (j6.x9 [49])=(q:Rat):=by
  rw[hq,show j6.x9 [49]=1 by decide +kernel]
  exact Cx q
 rwa [e]at h
theorem kJ(t:Tr):j5 227 [l9 t] (l5 (decide (t.ob.kind=1∧t.ob.den=[49]))) :=
 nR (Q3 func227 rfl (by kernel_rfl)) fun ok A n c w _ _=>a05 t.ob A n c w
theorem a8J(p s:lw):j5 76 [p8 p s] (l9 (.sym p s)) :=
 ⟨Q3 func76 rfl (by kernel_rfl),fun ok w vs ht hv=>by
  obtain⟨u,us,rfl,h1,rfl⟩:=hv;rw[h1.sy];exact (Ig w p s).mono fun _ _ h=>Y9.pure (r:=jc p s) rfl h⟩
theorem Km{q:Int}{a:lw}(ha:a.length≤1100000)(hq:j6.x9 a=q):j5 77 [stA a,stA [49]] (l9 (.num (q:Rat))):=by
 have h:=wC (b:=[49]) ha O;have e:Rat.divInt (j6.x9 a) (j6.x9 [49])=(q:Rat):=by
  rw[hq,show j6.x9 [49]=1 by decide +kernel]
  exact Cx q
 rwa [e]at h
theorem kK(t:Tr):j5 156 [l9 t] (l5 (decide (t.ob.kind=1∧t.ob.den=[49]))) :=
 nR (Q3 func156 rfl (by kernel_rfl)) fun ok A n c w _ _=>a06 t.ob A n c w
theorem CU(t:Tr):j5 45 [l9 t] (l5 (decide (t=l6))):=by
 have h:j5 45 [l9 t] (l5 (decide (t.ob.kind=2∧t.ob.sp=o9∧t.ob.sn=R8))):=nR (Q3 func45 rfl (by kernel_rfl)) fun ok A n c w _ _=>PR t.ob A n c w
 refine h.b ?_;cases t with
 |sym p s =>
  by_cases hh:p=o9∧s=R8
  ·obtain⟨rfl,rfl⟩:=hh;rw[Pi ⟨rfl,rfl,rfl⟩,Pi rfl]
  ·rw[WF (fun h=>hh ⟨h.2.1,h.2.2⟩),WF (fun h=>by cases h;exact hh ⟨rfl,rfl⟩)]
 |num q=>rw[WF (fun h=>absurd (show (1:Int)=2 from h.1) O),WF (fun h=>by cases h)]
 |txt q=>rw[WF (fun h=>absurd (show (3:Int)=2 from h.1) O),WF (fun h=>by cases h)]
 |cons a d=>rw[WF (fun h=>absurd (show (4:Int)=2 from h.1) O),WF (fun h=>by cases h)]
theorem rR{k:Nat}{t:Tr}(h:t.Ok k)(hk:k≤100000):j5 21 [l9 t] (l5 (decide (t=l6))) :=
 ⟨Q3 func21 rfl (by kernel_rfl),fun ok w vs ht hv=>by
  obtain⟨A,n,c,rfl,hr⟩:=hv.vO;exact (PW ok t.ob (h.wf hk) A n c w hr).mono fun e w' h=>(ik.iff (Tr.vX (a:=t) (b:=l6)) h).pure⟩
def Z7(l:lw):Int×Bool:=if (j6.mag (norm l)).length≤9 then (j6.x9 l,true) else (0,false)
theorem Si{l:lw}(hl:l.length≤2500000):j5 228 [stA l] (.l7 [j4 (Z7 l).1,l5 (Z7 l).2]) :=
 ⟨Q3 func228 rfl (by kernel_rfl),fun ok w vs ht hv=>by
  obtain rfl:=hv.eB;unfold Z7;split
  ·rename_i h;refine (a2S l w hl h).mono ?_;rintro e w' ⟨rfl,h2⟩;exact⟨_,rfl,h2,_,rfl,_,_,rfl,.val _,_,_,rfl,.val _,rfl⟩
  ·rename_i h;refine (a3T l w hl J).mono ?_;rintro e w' ⟨rfl,h2⟩;exact⟨_,rfl,h2,_,rfl,_,_,rfl,.val _,_,_,rfl,.val _,rfl⟩⟩
theorem Sj{l:lw}(hl:l.length≤2500000):j5 204 [stA l] (.l7 [j4 (Z7 l).1,l5 (Z7 l).2]) :=
 ⟨Q3 func204 rfl (by kernel_rfl),fun ok w vs ht hv=>by
  obtain rfl:=hv.eB;unfold Z7;split
  ·rename_i h;refine (a1u l w hl h).mono ?_;rintro e w' ⟨rfl,h2⟩;exact⟨_,rfl,h2,_,rfl,_,_,rfl,.val _,_,_,rfl,.val _,rfl⟩
  ·rename_i h;refine (a1T l w hl J).mono ?_;rintro e w' ⟨rfl,h2⟩;exact⟨_,rfl,h2,_,rfl,_,_,rfl,.val _,_,_,rfl,.val _,rfl⟩⟩
theorem b1p{a b:lw}(ha:a.length≤2400000)(hb:b.length≤2400000):j5 235 [stA a,stA b] (.l7 [stA (Lib.itoa (qd (j6.x9 a) (j6.x9 b))),stA (Lib.itoa (rm (j6.x9 a) (j6.x9 b)))]) :=
 ⟨Q3 func235 rfl (by kernel_rfl),fun ok w vs ht hv=>by
  obtain⟨u,us,rfl,h1,h2⟩:=hv;obtain rfl:=RL.eB h2;rw[Rd.Q7 h1];refine (yz a b w ha hb ht.1).mono ?_;rintro e w' ⟨rfl,h2⟩;exact⟨_,rfl,h2,_,rfl,_,_,rfl,.val _,_,_,rfl,.val _,rfl⟩⟩
theorem b1q{a b:lw}(ha:a.length≤2400000)(hb:b.length≤2400000):j5 159 [stA a,stA b] (.l7 [stA (Lib.itoa (qd (j6.x9 a) (j6.x9 b))),stA (Lib.itoa (rm (j6.x9 a) (j6.x9 b)))]) :=
 ⟨Q3 func159 rfl (by kernel_rfl),fun ok w vs ht hv=>by
  obtain⟨u,us,rfl,h1,h2⟩:=hv;obtain rfl:=RL.eB h2;rw[Rd.Q7 h1];refine (a2q a b w ha hb).mono ?_;rintro e w' ⟨rfl,h2⟩;exact⟨_,rfl,h2,_,rfl,_,_,rfl,.val _,_,_,rfl,.val _,rfl⟩⟩
theorem Wq{p s:lw}(hp:p.length≤9223372036854775807)(hs:s.length≤9223372036854775807):j5 226 [p8 p s] (l5 (R6 ⟨p,s⟩)) :=
 ⟨Q3 func226 rfl (by kernel_rfl),fun ok w vs ht hv=>by
  obtain⟨u,us,rfl,h1,rfl⟩:=hv;rw[h1.sy];exact (a1y ⟨p,s⟩ w hp hs).mono fun _ _=>J7.pure⟩
theorem Ws{p s:lw}(hp:p.length≤9223372036854775807)(hs:s.length≤9223372036854775807):j5 165 [p8 p s] (l5 (R6 ⟨p,s⟩)) :=
 ⟨Q3 func165 rfl (by kernel_rfl),fun ok w vs ht hv=>by
  obtain⟨u,us,rfl,h1,rfl⟩:=hv;rw[h1.sy];exact (Pe ⟨p,s⟩ w hp hs).mono fun _ _=>J7.pure⟩
namespace Tr
abbrev tx(t:Tr):lw:=t.ob.text
def aK:Tr→Bool
 |.txt _=>true
 |_=>false
def jV:Tr→Bool
 |.sym _ _=>true
 |_=>false
def jW:Tr→Bool
 |.num _=>true
 |_=>false
def bR:Tr→Bool
 |.num q=>decide (q.den=1)
 |_=>false
theorem cZ(t:Tr):decide (t.ob.kind=1∧t.ob.den=[49])=t.bR:=by
 cases t with
 |num q =>
  have h:((U4 q).den=[49])↔q.den=1:=by
   show Lib.itoa (q.den:Int)=[49]↔_;have:=Cv (v:=(q.den:Int));constructor
   ·intro h;rw[h]at this;have h2:decide ((q.den:Int)=1)=true:=by rw[←this];rfl
    have:=bv h2;omega
   ·intro h;rw[h];exact vB
  by_cases hq:q.den=1
  ·show decide ((1:Int)=1∧(U4 q).den=[49])=decide (q.den=1);rw[Pi hq,Pi ⟨rfl,h.2 hq⟩]
  ·show decide ((1:Int)=1∧(U4 q).den=[49])=decide (q.den=1);rw[WF hq,WF fun hh=>hq (h.1 hh.2)]
 |txt s=>exact WF fun h=>absurd (show (3:Int)=1 from h.1) O
 |sym p s=>exact WF fun h=>absurd (show (2:Int)=1 from h.1) O
 |cons a d=>exact WF fun h=>absurd (show (4:Int)=1 from h.1) O
def ed(x i:Tr):Option Int:=if x.aK && i.bR && (Z7 i.ob.num).2 && decide (0≤(Z7 i.ob.num).1) && decide ((Z7 i.ob.num).1 < x.tx.length) then some (Z7 i.ob.num).1 else none
def gD(x:Tr):Option Int:=if x.bR && (Z7 x.ob.num).2 && decide (0≤(Z7 x.ob.num).1) && decide ((Z7 x.ob.num).1≤255) then some (Z7 x.ob.num).1 else none
def Fh:Tr→Tr
 |.cons a _=>a
 |_=>l6
def Fj:Tr→Tr
 |.cons _ d=>d
 |_=>l6
def ap:Nat→Tr→Tr→Tr→Tr
 |0,x,y,z=>if x=l6 then z else y
 |1,x,y,_=>V7 (decide (x=y))
 |2,x,y,_=>.cons x y
 |3,x,_,_=>x.Fh
 |4,x,_,_=>x.Fj
 |5,x,_,_=>V7 x.dC
 |6,x,_,_=>V7 x.jV
 |7,x,_,_=>V7 x.aK
 |8,x,_,_=>V7 x.jW
 |9,x,_,_=>V7 x.bR
 |10,x,y,_=>.num (x.val+y.val)
 |11,x,y,_=>.num (x.val * y.val)
 |12,x,_,_=>.num (-x.val)
 |13,x,_,_=>.num x.val⁻¹
 |14,x,y,_=>V7 (decide (x.val < y.val))
 |15,x,_,_=>.num (x.val.num:Rat)
 |16,x,_,_=>.num ((x.val.den:Int):Rat)
 |17,x,_,_=>.num ((qd x.val.num x.val.den:Int):Rat)
 |18,x,_,_=>.txt x.ob.sn
 |19,x,_,_=>.txt x.ob.sp
 |20,x,y,_=>if x.aK && y.aK && R6 ⟨y.tx,x.tx⟩ then .sym y.tx x.tx else l6
 |21,x,y,_=>.txt (x.tx++y.tx)
 |22,x,_,_=>.num ((x.tx.length:Int):Rat)
 |23,x,y,_=>match ed x y with
  |some n=>.num ((x.tx.getD n.toNat 0).toNat:Int)
  |none=>l6
 |24,x,_,_=>match gD x with
  |some n=>.txt [UInt8.ofNat n.toNat]
  |none=>.txt []
 |_,_,_,_=>l6
def kept'(t:Tr):Option Tr:=if t.valid then some t else none
def az(i:Nat)(x y z:Tr):Option Tr:=if i=2∨i=10∨i=11∨i=21 then kept' (ap i x y z) else some (ap i x y z)
end Tr
theorem aD{t:Tr}(h:t.valid=true):Tr.kept' t=some t:=by unfold Tr.kept';rw[Ch h]
theorem aL{t:Tr}(h:t.valid=false):Tr.kept' t=none:=by unfold Tr.kept';rw[EQ (by rw[h];simp)]
theorem Tr.Ok.DK{k:Nat}{t:Tr}(h:t.Ok k)(hk:k≤100000):t.ob.num.length≤100001:=by
 cases t with
 |num q=>exact pu (Rb.nV h) J
 |_=>exact Ci _
theorem Tr.Ok.Wt{k:Nat}{t:Tr}(h:t.Ok k):t.tx.length≤100000:=by
 cases t with
 |txt q=>exact h
 |_=>exact Ci _
theorem XN(t:Tr):decide (t.ob.kind=4)=t.dC:=by cases t <;> rfl
theorem XO(t:Tr):decide (t.ob.kind=2)=t.jV:=by cases t <;> rfl
theorem fC(t:Tr):decide (t.ob.kind=3)=t.aK:=by cases t <;> rfl
theorem XP(t:Tr):decide (t.ob.kind=1)=t.jW:=by cases t <;> rfl
theorem gY{P:Program}{t:TypeId}{x y:Operand}{k:IntKind}{a b:Int}{r:Bool}(h:decide (a=b)=!r):bg P .neq t x y (.int k a) (.int k b) (.bool r):=by
 refine iT ?_;simp only[je,decide_true];rw[show (a != b)=!decide (a=b) by rw[bne,xI a b],h,Bool.not_not]
theorem Sk{P:Program}{t:TypeId}{x y:Operand}{k:IntKind}{a b:Int}{r:Bool}(h:decide (a≤b)=r):bg P .leq t x y (.int k a) (.int k b) (.bool r):=by
 refine iT ?_;simp only[je,decide_true];rw[h]
abbrev Fq(o:Ob):AV:=.pin ((A9 o).map .dt)
abbrev zO:Ob:=⟨0,[],[],[],[],[],[]⟩
abbrev O9(o:Option Tr):AV:=match o with
 |some t=>.l7 [l9 t,j4 0]
 |none=>.l7 [o7 zO,j4 2]
theorem j5.r{f:FuncId}{args:List AV}{a b:Option Tr}(h:j5 f args (O9 a))(e:a=b):j5 f args (O9 b):=e ▸ h
theorem sM(b:Bool):j5 198 [l5 b] (l9 (V7 b)):=by
 cases b with
 |true=>exact pV [.av (l9 (.sym o9 [116]))] [_] func198 ⟨b3Q,Z⟩
 |false=>exact pV [.av (l9 l6)] [_] func198 ⟨kF,Z⟩
theorem sN(b:Bool):j5 155 [l5 b] (l9 (V7 b)):=by
 cases b with
 |true=>exact pV [.av (l9 (.sym o9 [116]))] [_] func155 ⟨b3R,Z⟩
 |false=>exact pV [.av (l9 l6)] [_] func155 ⟨kG,Z⟩
theorem Ef(t:Tr):j5 234 [l9 t] (l9 (.num t.val)):=by
 cases t with
 |num q=>exact pV [] [] func234 trivial
 |txt s=>exact pV [.no,.av (l9 (.num ((0:Int):Rat)))] [j5 197 [(j4 0)] (l9 (Tr.num ↑0))] func234 ⟨zn 0 O O,Z⟩
 |sym p s=>exact pV [.no,.av (l9 (.num ((0:Int):Rat)))] [j5 197 [(j4 0)] (l9 (Tr.num ↑0))] func234 ⟨zn 0 O O,Z⟩
 |cons a d=>exact pV [.no,.av (l9 (.num ((0:Int):Rat)))] [j5 197 [(j4 0)] (l9 (Tr.num ↑0))] func234 ⟨zn 0 O O,Z⟩
theorem a5x(t:Tr):j5 231 [l9 t,j4 0] (l9 t.Fh):=by
 cases t with
 |num q=>exact pV [.no,.av (l9 l6)] [_] func231 ⟨kF,Z⟩
 |txt s=>exact pV [.no,.av (l9 l6)] [_] func231 ⟨kF,Z⟩
 |sym p s=>exact pV [.no,.av (l9 l6)] [_] func231 ⟨kF,Z⟩
 |cons a d=>exact pV [.no,.no,.no,.av (Fq a.ob)] [z8 (List.map Ob.enc (a.cons d).ob.pair) 0 7 (A9 a.ob)] func231 ⟨DZ (l:=[a.ob,d.ob]) (i:=0) rfl,Z⟩
theorem a5y(t:Tr):j5 231 [l9 t,j4 1] (l9 t.Fj):=by
 cases t with
 |num q=>exact pV [.no,.av (l9 l6)] [_] func231 ⟨kF,Z⟩
 |txt s=>exact pV [.no,.av (l9 l6)] [_] func231 ⟨kF,Z⟩
 |sym p s=>exact pV [.no,.av (l9 l6)] [_] func231 ⟨kF,Z⟩
 |cons a d=>exact pV [.no,.no,.no,.av (Fq d.ob)] [z8 (List.map Ob.enc (a.cons d).ob.pair) 1 7 (A9 d.ob)] func231 ⟨DZ (l:=[a.ob,d.ob]) (i:=1) rfl,Z⟩
theorem kL(t:Tr):j5 160 [l9 t] (stA t.tx):=by
 cases t with
 |num q=>exact pV [] [] func160 trivial
 |txt s=>exact pV [] [] func160 trivial
 |sym p s=>exact pV [] [] func160 trivial
 |cons a d=>exact pV [] [] func160 trivial
def Az(x i:Tr):Int:=if x.aK && i.bR then (Z7 i.ob.num).1 else 0
theorem Sn{x i:Tr}{n:Int}(h:x.ed i=some n):Az x i=n∧x.aK=true∧i.bR=true∧0≤n∧n < x.tx.length:=by
 unfold Tr.ed at h;split at h
 ·rename_i hc;simp only[Ce,rE]at hc;cases h;unfold Az;rw[Ch (by rw[hc.1.1.1.1,hc.1.1.1.2];rfl)];exact⟨rfl,hc.1.1.1.1,hc.1.1.1.2,hc.1.2,hc.2⟩
 ·cases h
theorem XQ(x i:Tr):(x.ed i).isSome=(x.aK && i.bR && (Z7 i.ob.num).2 && decide (0≤(Z7 i.ob.num).1) && decide ((Z7 i.ob.num).1 < x.tx.length)):=by
 unfold Tr.ed;split
 ·rename_i h;rw[h];rfl
 ·rename_i h;simp only[Bool.not_eq_true]at h;rw[h];rfl
theorem Wu(x:Tr):(x.gD).isSome=(x.bR && (Z7 x.ob.num).2 && decide (0≤(Z7 x.ob.num).1) && decide ((Z7 x.ob.num).1≤255)):=by
 unfold Tr.gD;split
 ·rename_i h;rw[h];rfl
 ·rename_i h;simp only[Bool.not_eq_true]at h;rw[h];rfl
theorem b3S{k:Nat}(x:Tr){i:Tr}(hi:i.Ok k)(hk:k≤100000):j5 196 [l9 x,l9 i] (.l7 [j4 (Az x i),l5 (x.ed i).isSome]):=by
 rw[XQ];cases x with
 |num q=>exact pV [] [] func196 trivial
 |sym p s=>exact pV [] [] func196 trivial
 |cons a d=>exact pV [] [] func196 trivial
 |txt s =>
  unfold Az;cases hI:i.bR with
  |false=>exact pV [.no,yF] [j5 227 [(o7 i.ob)] (l5 false)] func196 ⟨(kJ i).b ((Tr.cZ i).trans hI),Z⟩
  |true =>
   have hs:=Si (l:=i.ob.num) (pu (hi.DK hk) O);have ht:(Tr.txt s).tx=s:=rfl;rw[ht];generalize hp:Z7 i.ob.num=p at hs ⊢;obtain⟨n,b⟩:=p;cases b with
   |false=>exact pV [.no,yT,.av (.l7 [j4 n,l5 false])] [j5 227 [(o7 i.ob)] (l5 true),_] func196 ⟨(kJ i).b ((Tr.cZ i).trans hI),hs,Z⟩
   |true =>
    by_cases h0:0≤n
    ·rw[Pi h0];by_cases h1:n < s.length
     ·rw[Pi h1];exact pV [.no,yT,.av (.l7 [j4 n,l5 true]),yT,.no,yT] [j5 227 [(o7 i.ob)] (l5 true),_,Bk .geq 3 25 0 n bT,Bt .lss 3 29 32 n (↑{ data:=(Tr.txt s).ob.text.toArray:ByteArray }.data.toList.length) bT] func196 ⟨(kJ i).b ((Tr.cZ i).trans hI),hs,U0 (Pi h0),D8 (Pi h1),Z⟩
     ·rw[WF h1];exact pV [.no,yT,.av (.l7 [j4 n,l5 true]),yT,.no,yF] [j5 227 [(o7 i.ob)] (l5 true),_,Bk .geq 3 25 0 n bT,Bt .lss 3 29 32 n (↑{ data:=(Tr.txt s).ob.text.toArray:ByteArray }.data.toList.length) bF] func196 ⟨(kJ i).b ((Tr.cZ i).trans hI),hs,U0 (Pi h0),D8 (WF h1),Z⟩
    ·rw[WF h0];exact pV [.no,yT,.av (.l7 [j4 n,l5 true]),yF] [j5 227 [(o7 i.ob)] (l5 true),_,Bk .geq 3 25 0 n bF] func196 ⟨(kJ i).b ((Tr.cZ i).trans hI),hs,U0 (WF h0),Z⟩
def xq(x i:Tr):Int:=match x.ed i with
 |some n=>n
 |none=>0
theorem b1r(x i:Tr):xq x i=if x.aK && i.bR && (Z7 i.ob.num).2 && decide (0≤(Z7 i.ob.num).1) && decide ((Z7 i.ob.num).1 < x.tx.length) then (Z7 i.ob.num).1 else 0:=by
 unfold xq Tr.ed;split <;> rename_i h <;> split at h <;> first | (cases h;rename_i hc;rw[Ch hc]) | (cases h;done) | (rename_i hc;rw[EQ hc])
theorem b3T{k:Nat}(x:Tr){i:Tr}(hi:i.Ok k)(hk:k≤100000):j5 166 [l9 x,l9 i] (.l7 [j4 (xq x i),l5 (x.ed i).isSome]):=by
 rw[b1r,XQ];cases x with
 |num q=>exact pV [] [] func166 trivial
 |sym p s=>exact pV [] [] func166 trivial
 |cons a d=>exact pV [] [] func166 trivial
 |txt s =>
  cases hI:i.bR with
  |false=>exact pV [.no,yF] [j5 156 [(o7 i.ob)] (l5 false)] func166 ⟨(kK i).b ((Tr.cZ i).trans hI),Z⟩
  |true =>
   have hs:=Sj (l:=i.ob.num) (pu (hi.DK hk) O);have ht:(Tr.txt s).tx=s:=rfl;rw[ht];generalize hp:Z7 i.ob.num=p at hs ⊢;obtain⟨n,b⟩:=p;cases b with
   |false=>exact pV [.no,yT,.av (.l7 [j4 n,l5 false])] [j5 156 [(o7 i.ob)] (l5 true),_] func166 ⟨(kK i).b ((Tr.cZ i).trans hI),hs,Z⟩
   |true =>
    by_cases h0:0≤n
    ·rw[Pi h0];by_cases h1:n < s.length
     ·rw[Pi h1];exact pV [.no,yT,.av (.l7 [j4 n,l5 true]),yF,.no,yF] [j5 156 [(o7 i.ob)] (l5 true),_,Bk .lss 3 25 0 n bF,Bt .geq 3 29 32 n (↑{ data:=(Tr.txt s).ob.text.toArray:ByteArray }.data.toList.length) bF] func166 ⟨(kK i).b ((Tr.cZ i).trans hI),hs,D8 (WF J),U0 (b:=(s.length:Int)) (WF J),Z⟩
     ·rw[WF h1];exact pV [.no,yT,.av (.l7 [j4 n,l5 true]),yF,.no,yT] [j5 156 [(o7 i.ob)] (l5 true),_,Bk .lss 3 25 0 n bF,Bt .geq 3 29 32 n (↑{ data:=(Tr.txt s).ob.text.toArray:ByteArray }.data.toList.length) bT] func166 ⟨(kK i).b ((Tr.cZ i).trans hI),hs,D8 (WF J),U0 (b:=(s.length:Int)) (Pi J),Z⟩
    ·rw[WF h0];exact pV [.no,yT,.av (.l7 [j4 n,l5 true]),yT] [j5 156 [(o7 i.ob)] (l5 true),_,Bk .lss 3 25 0 n bT] func166 ⟨(kK i).b ((Tr.cZ i).trans hI),hs,D8 (Pi J),Z⟩
theorem a8K{k:Nat}{x:Tr}(hx:x.Ok k)(hk:k≤100000):j5 236 [l9 x] (.l7 [.dt (.val (.int .u8 (IntKind.u8.wrap (Z7 x.ob.num).1))),l5 (x.gD).isSome]):=by
 rw[Wu];have hs:=Si (l:=x.ob.num) (pu (hx.DK hk) O);generalize hp:Z7 x.ob.num=p at hs ⊢;obtain⟨n,b⟩:=p;cases hI:x.bR with
 |false=>exact pV [.av (.l7 [j4 n,l5 b]),.no,yF] [_,j5 227 [(o7 x.ob)] (l5 false)] func236 ⟨hs,(kJ x).b ((Tr.cZ x).trans hI),Z⟩
 |true =>
  cases b with
  |false=>exact pV [.av (.l7 [j4 n,l5 false]),.no,yT] [_,j5 227 [(o7 x.ob)] (l5 true)] func236 ⟨hs,(kJ x).b ((Tr.cZ x).trans hI),Z⟩
  |true =>
   by_cases h0:0≤n
   ·rw[Pi h0];by_cases h1:n≤255
    ·rw[Pi h1];exact pV [.av (.l7 [j4 n,l5 true]),.no,yT,yT,yT] [_,j5 227 [(o7 x.ob)] (l5 true),Bk .geq 3 20 0 n bT,Bk .leq 3 24 255 n bT] func236 ⟨hs,(kJ x).b ((Tr.cZ x).trans hI),U0 (Pi h0),Sk (Pi h1),Z⟩
    ·rw[WF h1];exact pV [.av (.l7 [j4 n,l5 true]),.no,yT,yT,yF] [_,j5 227 [(o7 x.ob)] (l5 true),Bk .geq 3 20 0 n bT,Bk .leq 3 24 255 n bF] func236 ⟨hs,(kJ x).b ((Tr.cZ x).trans hI),U0 (Pi h0),Sk (WF h1),Z⟩
   ·rw[WF h0];exact pV [.av (.l7 [j4 n,l5 true]),.no,yT,yF] [_,j5 227 [(o7 x.ob)] (l5 true),Bk .geq 3 20 0 n bF] func236 ⟨hs,(kJ x).b ((Tr.cZ x).trans hI),U0 (WF h0),Z⟩
def BS(x:Tr):Int:=if x.bR && (Z7 x.ob.num).2 && decide (0≤(Z7 x.ob.num).1) && decide ((Z7 x.ob.num).1≤255) then IntKind.u8.wrap (Z7 x.ob.num).1 else 0
theorem b1s{k:Nat}{x:Tr}(hx:x.Ok k)(hk:k≤100000):j5 161 [l9 x] (.l7 [.dt (.val (.int .u8 (BS x))),l5 (x.gD).isSome]):=by
 rw[Wu];unfold BS;have hs:=Sj (l:=x.ob.num) (pu (hx.DK hk) O);generalize hp:Z7 x.ob.num=p at hs ⊢;obtain⟨n,b⟩:=p;cases hI:x.bR with
 |false=>exact pV [yF] [j5 156 [(o7 x.ob)] (l5 false)] func161 ⟨(kK x).b ((Tr.cZ x).trans hI),Z⟩
 |true =>
  cases b with
  |false=>exact pV [yT,.av (.l7 [j4 n,l5 false])] [j5 156 [(o7 x.ob)] (l5 true),_] func161 ⟨(kK x).b ((Tr.cZ x).trans hI),hs,Z⟩
  |true =>
   by_cases h0:0≤n
   ·rw[Pi h0];by_cases h1:n≤255
    ·rw[Pi h1];exact pV [yT,.av (.l7 [j4 n,l5 true]),yF,yF] [j5 156 [(o7 x.ob)] (l5 true),_,Bk .lss 3 18 0 n bF,Bk .gtr 3 22 255 n bF] func161 ⟨(kK x).b ((Tr.cZ x).trans hI),hs,D8 (WF J),K4 (WF J),Z⟩
    ·rw[WF h1];exact pV [yT,.av (.l7 [j4 n,l5 true]),yF,yT] [j5 156 [(o7 x.ob)] (l5 true),_,Bk .lss 3 18 0 n bF,Bk .gtr 3 22 255 n bT] func161 ⟨(kK x).b ((Tr.cZ x).trans hI),hs,D8 (WF J),K4 (Pi J),Z⟩
   ·rw[WF h0];exact pV [yT,.av (.l7 [j4 n,l5 true]),yT] [j5 156 [(o7 x.ob)] (l5 true),_,Bk .lss 3 18 0 n bT] func161 ⟨(kK x).b ((Tr.cZ x).trans hI),hs,D8 (Pi J),Z⟩
theorem a3A{x y:Tr}{k:Nat}(hx:x.Ok k)(hy:y.Ok k):j5 195 [l9 x,l9 y] (l9 (Tr.ap 20 x y l6)):=by
 have lx:x.tx.length≤100000:=hx.Wt;have ly:y.tx.length≤100000:=hy.Wt;have e:Tr.ap 20 x y l6=if x.aK && y.aK && R6 ⟨y.tx,x.tx⟩ then .sym y.tx x.tx else l6:=rfl
 rw[e];cases hX:x.aK with
 |false=>exact pV [yT,.av (l9 l6)] [Bk .neq 3 12 3 x.ob.kind bT,_] func195 ⟨gY (by rw[fC,hX];rfl),kF,Z⟩
 |true =>
  cases hY:y.aK with
  |false=>exact pV [yF,yT,.av (l9 l6)] [Bk .neq 3 12 3 x.ob.kind bF,Bk .neq 3 16 3 y.ob.kind bT,_] func195 ⟨gY (by rw[fC,hX];rfl),gY (by rw[fC,hY];rfl),kF,Z⟩
  |true =>
   cases hS:R6 ⟨y.tx,x.tx⟩ with
   |false=>exact pV [yF,yF,yF,.av (l9 l6)] [Bk .neq 3 12 3 x.ob.kind bF,Bk .neq 3 16 3 y.ob.kind bF,j5 226 [(p8 y.ob.text x.ob.text)] (l5 false),_] func195 ⟨gY (by rw[fC,hX];rfl),gY (by rw[fC,hY];rfl),(Wq (p:=y.tx) (s:=x.tx) J J).b hS,kF,Z⟩
   |true=>exact pV [yF,yF,yT,.av (l9 (.sym y.tx x.tx))] [Bk .neq 3 12 3 x.ob.kind bF,Bk .neq 3 16 3 y.ob.kind bF,j5 226 [(p8 y.ob.text x.ob.text)] (l5 true),j5 121 [(p8 y.ob.text x.ob.text)] (l9 (Tr.sym y.tx x.tx))] func195 ⟨gY (by rw[fC,hX];rfl),gY (by rw[fC,hY];rfl),(Wq (p:=y.tx) (s:=x.tx) J J).b hS,a8I _ _,Z⟩
structure Arg (x:Tr):Prop where
 ok:x.Ok 120
 tx:x.tx.length≤40000
theorem Arg.rb{x:Tr}(h:Arg x):Rb 120 x.val:=h.ok.val O
theorem Arg.n{x:Tr}(h:Arg x):(Lib.itoa x.val.num).length≤121:=Rb.nV h.rb
theorem Arg.d{x:Tr}(h:Arg x):(Lib.itoa (x.val.den:Int)).length≤121:=Rb.qy h.rb
theorem b3U{x:Tr}(h:Arg x):j5 235 [stA (U4 x.val).num,stA (U4 x.val).den] (.l7 [stA (Lib.itoa (qd x.val.num x.val.den)),stA (Lib.itoa (rm x.val.num x.val.den))]):=by
 have h1:=h.n;have h2:=h.d;have:=b1p (a:=(U4 x.val).num) (b:=(U4 x.val).den) (by show (Lib.itoa x.val.num).length≤_;omega) (by show (Lib.itoa (x.val.den:Int)).length≤_;omega);rw[show j6.x9 (U4 x.val).num=x.val.num from j6.M7 _,show j6.x9 (U4 x.val).den=(x.val.den:Int) from j6.M7 (x.val.den:Int)]at this
 exact this
theorem b3V{x:Tr}(h:Arg x):j5 159 [stA (U4 x.val).num,stA (U4 x.val).den] (.l7 [stA (Lib.itoa (qd x.val.num x.val.den)),stA (Lib.itoa (rm x.val.num x.val.den))]):=by
 have h1:=h.n;have h2:=h.d;have:=b1q (a:=(U4 x.val).num) (b:=(U4 x.val).den) (by show (Lib.itoa x.val.num).length≤_;omega) (by show (Lib.itoa (x.val.den:Int)).length≤_;omega);rw[show j6.x9 (U4 x.val).num=x.val.num from j6.M7 _,show j6.x9 (U4 x.val).den=(x.val.den:Int) from j6.M7 (x.val.den:Int)]at this
 exact this
theorem a5z{q:Int}{k:Nat}(hk:1≤k)(h:q.natAbs < 10 ^ k):(Lib.itoa q).length≤k+1:=iP _ hk h
theorem XR{x:Tr}(h:Arg x):(qd x.val.num x.val.den).natAbs < 10 ^ 121:=by
 have h1:=h.rb.num;have hp:(0:Int) < x.val.den:=Int.natCast_pos.2 x.val.den_pos;unfold qd;rw[EQ J,Ch hp];have h2:(x.val.num / (x.val.den:Int)).natAbs≤x.val.num.natAbs:=Int.natAbs_ediv_le_natAbs _ _;exact Nat.lt_of_le_of_lt h2 (kw h1 (Zar O O))
theorem Wv{x:Tr}(h:Arg x):(Lib.itoa (qd x.val.num x.val.den)).length≤1000:=pu (a5z O (XR h)) O
theorem a8L{x:Tr}(_hx:Arg x):j5 200 [stA [99,97,114],l9 x] (l9 (Tr.ap 3 x l6 l6)) :=
 pV [.no,.av (l9 x.Fh)] [j5 231 [(o7 x.ob),(j4 0)] (o7 x.Fh.ob)] func200 ⟨a5x x,Z⟩
theorem a8M{x:Tr}(_hx:Arg x):j5 200 [stA [99,100,114],l9 x] (l9 (Tr.ap 4 x l6 l6)) :=
 pV [.no,.no,.av (l9 x.Fj)] [j5 231 [(o7 x.ob),(j4 1)] (o7 x.Fj.ob)] func200 ⟨a5y x,Z⟩
theorem a8N{x:Tr}(_hx:Arg x):j5 200 [stA [99,111,110,115,112],l9 x] (l9 (Tr.ap 5 x l6 l6)) :=
 pV [.no,.no,.no,.av (l5 x.dC),.av (l9 (V7 x.dC))] [Bk .eql 3 21 4 x.ob.kind (Value.bool x.dC),j5 198 [(l5 x.dC)] (l9 (V7 x.dC))] func200 ⟨C9 (XN x),sM _,Z⟩
theorem a8O{x:Tr}(_hx:Arg x):j5 200 [stA [115,121,109,98,111,108,112],l9 x] (l9 (Tr.ap 6 x l6 l6)) :=
 pV (nK 4 [.av (l5 x.jV),.av (l9 (V7 x.jV))]) [Bk .eql 3 27 2 x.ob.kind (Value.bool x.jV),j5 198 [(l5 x.jV)] (l9 (V7 x.jV))] func200 ⟨C9 (XO x),sM _,Z⟩
theorem a8P{x:Tr}(_hx:Arg x):j5 200 [stA [115,116,114,105,110,103,112],l9 x] (l9 (Tr.ap 7 x l6 l6)) :=
 pV (nK 5 [.av (l5 x.aK),.av (l9 (V7 x.aK))]) [Bk .eql 3 33 3 x.ob.kind (Value.bool x.aK),j5 198 [(l5 x.aK)] (l9 (V7 x.aK))] func200 ⟨C9 (fC x),sM _,Z⟩
theorem a8Q{x:Tr}(_hx:Arg x):j5 200 [stA [114,97,116,105,111,110,97,108,112],l9 x] (l9 (Tr.ap 8 x l6 l6)) :=
 pV (nK 6 [.av (l5 x.jW),.av (l9 (V7 x.jW))]) [Bk .eql 3 39 1 x.ob.kind (Value.bool x.jW),j5 198 [(l5 x.jW)] (l9 (V7 x.jW))] func200 ⟨C9 (XP x),sM _,Z⟩
theorem a8R{x:Tr}(_hx:Arg x):j5 200 [stA [105,110,116,101,103,101,114,112],l9 x] (l9 (Tr.ap 9 x l6 l6)) :=
 pV (nK 7 [.av (l5 x.bR),.av (l9 (V7 x.bR))]) [j5 227 [(o7 x.ob)] (l5 x.bR),j5 198 [(l5 x.bR)] (l9 (V7 x.bR))] func200 ⟨(kJ x).b (Tr.cZ x),sM _,Z⟩
theorem a5A{x:Tr}(hx:Arg x):j5 200 [stA [117,110,97,114,121,45,45],l9 x] (l9 (Tr.ap 12 x l6 l6)) :=
 pV (nK 8 [.av (l9 (.num (-x.val)))]) [j5 232 [(o7 x.ob)] (o7 ((Tr.num (-x.val)).ob))] func200 ⟨b1m hx.ok O O,Z⟩
theorem a5B{x:Tr}(hx:Arg x):j5 200 [stA [117,110,97,114,121,45,47],l9 x] (l9 (Tr.ap 13 x l6 l6)) :=
 pV (nK 9 [.av (l9 (.num x.val⁻¹))]) [j5 233 [(o7 x.ob)] (o7 ((Tr.num x.val⁻¹).ob))] func200 ⟨b1n hx.ok O O,Z⟩
theorem a5C{x:Tr}(hx:Arg x):j5 200 [stA [110,117,109,101,114,97,116,111,114],l9 x] (l9 (Tr.ap 15 x l6 l6)) :=
 pV (nK 10 [.av (l9 (.num x.val)),.av (l9 (.num (x.val.num:Rat)))]) [j5 234 [(o7 x.ob)] (l9 (Tr.num x.val)),j5 224 [(stA (Tr.num x.val).ob.num),(stA [49])] (l9 (Tr.num ↑x.val.num))] func200 ⟨Ef x,Kl (q:=x.val.num) (a:=(Tr.num x.val).ob.num) (by have:=hx.n;show (Lib.itoa x.val.num).length≤_;omega) (j6.M7 x.val.num),Z⟩
theorem a5D{x:Tr}(hx:Arg x):j5 200 [stA [100,101,110,111,109,105,110,97,116,111,114],l9 x] (l9 (Tr.ap 16 x l6 l6)) :=
 pV (nK 11 [.av (l9 (.num x.val)),.av (l9 (.num ((x.val.den:Int):Rat)))]) [j5 234 [(o7 x.ob)] (l9 (Tr.num x.val)),j5 224 [(stA (Tr.num x.val).ob.den),(stA [49])] (l9 (Tr.num ↑↑x.val.den))] func200 ⟨Ef x,Kl (q:=(x.val.den:Int)) (a:=(Tr.num x.val).ob.den) (by have:=hx.d;show (Lib.itoa (x.val.den:Int)).length≤_;omega) (j6.M7 (x.val.den:Int)),Z⟩
theorem a5E{x:Tr}(hx:Arg x):j5 200 [stA [102,108,111,111,114],l9 x] (l9 (Tr.ap 17 x l6 l6)) :=
 pV (nK 12 [.av (l9 (.num x.val)),.av (l9 (.num x.val)),.av (.l7 [stA (Lib.itoa (qd x.val.num x.val.den)),stA (Lib.itoa (rm x.val.num x.val.den))]),.av (l9 (.num ((qd x.val.num x.val.den:Int):Rat)))]) [j5 234 [(o7 x.ob)] (l9 (Tr.num x.val)),j5 234 [(o7 x.ob)] (l9 (Tr.num x.val)),j5 235 [(stA (Tr.num x.val).ob.num),(stA (Tr.num x.val).ob.den)] (.l7 [(stA (Lib.itoa (qd x.val.num ↑x.val.den))),(stA (Lib.itoa (rm x.val.num ↑x.val.den)))]),j5 224 [(stA (Lib.itoa (qd x.val.num ↑x.val.den))),(stA [49])] (o7 ((Tr.num ↑(qd x.val.num ↑x.val.den)).ob))] func200 ⟨Ef x,Ef x,b3U hx,Kl (a:=Lib.itoa (qd x.val.num x.val.den)) (by have:=Wv hx;omega) (j6.M7 _),Z⟩
theorem a5F{x:Tr}(_hx:Arg x):j5 200 [stA [115,121,109,98,111,108,45,110,97,109,101],l9 x] (l9 (Tr.ap 18 x l6 l6)) :=
 pV (nK 13 [.av (l9 (.txt x.ob.sn))]) [j5 194 [(stA x.ob.sn)] (l9 (Tr.txt x.ob.sn))] func200 ⟨vS _,Z⟩
theorem a5G{x:Tr}(_hx:Arg x):j5 200 [stA [115,121,109,98,111,108,45,112,97,99,107,97,103,101,45,110,97,109,101],l9 x] (l9 (Tr.ap 19 x l6 l6)) :=
 pV (nK 14 [.av (l9 (.txt x.ob.sp))]) [j5 194 [(stA x.ob.sp)] (l9 (Tr.txt x.ob.sp))] func200 ⟨vS _,Z⟩
theorem a5H{x:Tr}(hx:Arg x):j5 200 [stA [115,116,114,105,110,103,45,108,101,110,103,116,104],l9 x] (l9 (Tr.ap 22 x l6 l6)) :=
 pV (nK 16 [.av (l9 (.num ((x.tx.length:Int):Rat)))]) [j5 197 [(j4 (x.ob.text.length:Int))] (l9 (Tr.num ↑↑x.tx.length))] func200 ⟨zn (x.tx.length:Int) J (by have:=hx.tx;omega),Z⟩
theorem UO{x:Tr}(_hx:Arg x):j5 124 [stA [99,111,110,115,112],l9 x] (l9 (Tr.ap 5 x l6 l6)) :=
 pV [.av (l9 (.num x.val)),.no,.no,.no,.av (l5 x.dC),.av (l9 (V7 x.dC))] [j5 154 [(o7 x.ob)] (l9 (Tr.num x.val)),Bk .eql 3 33 4 x.ob.kind (Value.bool x.dC),j5 155 [(l5 x.dC)] (l9 (V7 x.dC))] func124 ⟨aN x,C9 (XN x),sN _,Z⟩
theorem UQ{x:Tr}(_hx:Arg x):j5 124 [stA [115,121,109,98,111,108,112],l9 x] (l9 (Tr.ap 6 x l6 l6)) :=
 pV (.av (l9 (.num x.val))::nK 4 [.av (l5 x.jV),.av (l9 (V7 x.jV))]) [j5 154 [(o7 x.ob)] (l9 (Tr.num x.val)),Bk .eql 3 39 2 x.ob.kind (Value.bool x.jV),j5 155 [(l5 x.jV)] (l9 (V7 x.jV))] func124 ⟨aN x,C9 (XO x),sN _,Z⟩
theorem UR{x:Tr}(_hx:Arg x):j5 124 [stA [115,116,114,105,110,103,112],l9 x] (l9 (Tr.ap 7 x l6 l6)) :=
 pV (.av (l9 (.num x.val))::nK 5 [.av (l5 x.aK),.av (l9 (V7 x.aK))]) [j5 154 [(o7 x.ob)] (l9 (Tr.num x.val)),Bk .eql 3 45 3 x.ob.kind (Value.bool x.aK),j5 155 [(l5 x.aK)] (l9 (V7 x.aK))] func124 ⟨aN x,C9 (fC x),sN _,Z⟩
theorem UT{x:Tr}(_hx:Arg x):j5 124 [stA [114,97,116,105,111,110,97,108,112],l9 x] (l9 (Tr.ap 8 x l6 l6)) :=
 pV (.av (l9 (.num x.val))::nK 6 [.av (l5 x.jW),.av (l9 (V7 x.jW))]) [j5 154 [(o7 x.ob)] (l9 (Tr.num x.val)),Bk .eql 3 51 1 x.ob.kind (Value.bool x.jW),j5 155 [(l5 x.jW)] (l9 (V7 x.jW))] func124 ⟨aN x,C9 (XP x),sN _,Z⟩
theorem UU{x:Tr}(_hx:Arg x):j5 124 [stA [105,110,116,101,103,101,114,112],l9 x] (l9 (Tr.ap 9 x l6 l6)) :=
 pV (.av (l9 (.num x.val))::nK 7 [.av (l5 x.bR),.av (l9 (V7 x.bR))]) [j5 154 [(o7 x.ob)] (l9 (Tr.num x.val)),j5 156 [(o7 x.ob)] (l5 x.bR),j5 155 [(l5 x.bR)] (l9 (V7 x.bR))] func124 ⟨aN x,(kK x).b (Tr.cZ x),sN _,Z⟩
theorem Sq{x:Tr}(hx:Arg x):j5 124 [stA [117,110,97,114,121,45,45],l9 x] (l9 (Tr.ap 12 x l6 l6)) :=
 pV (.av (l9 (.num x.val))::nK 8 [.av (l9 (.num (-x.val)))]) [j5 154 [(o7 x.ob)] (l9 (Tr.num x.val)),j5 157 [(o7 x.ob)] (o7 ((Tr.num (-x.val)).ob))] func124 ⟨aN x,b1k hx.ok O O,Z⟩
theorem Sr{x:Tr}(hx:Arg x):j5 124 [stA [117,110,97,114,121,45,47],l9 x] (l9 (Tr.ap 13 x l6 l6)) :=
 pV (.av (l9 (.num x.val))::nK 9 [.av (l9 (.num x.val⁻¹))]) [j5 154 [(o7 x.ob)] (l9 (Tr.num x.val)),j5 158 [(o7 x.ob)] (o7 ((Tr.num x.val⁻¹).ob))] func124 ⟨aN x,b1l hx.ok O O,Z⟩
theorem Su{x:Tr}(hx:Arg x):j5 124 [stA [110,117,109,101,114,97,116,111,114],l9 x] (l9 (Tr.ap 15 x l6 l6)) :=
 pV (.av (l9 (.num x.val))::nK 10 [.av (l9 (.num (x.val.num:Rat)))]) [j5 154 [(o7 x.ob)] (l9 (Tr.num x.val)),j5 77 [(stA (Tr.num x.val).ob.num),(stA [49])] (l9 (Tr.num ↑x.val.num))] func124 ⟨aN x,Km (q:=x.val.num) (a:=(Tr.num x.val).ob.num) (by have:=hx.n;show (Lib.itoa x.val.num).length≤_;omega) (j6.M7 x.val.num),Z⟩
theorem Sv{x:Tr}(hx:Arg x):j5 124 [stA [100,101,110,111,109,105,110,97,116,111,114],l9 x] (l9 (Tr.ap 16 x l6 l6)) :=
 pV (.av (l9 (.num x.val))::nK 11 [.av (l9 (.num ((x.val.den:Int):Rat)))]) [j5 154 [(o7 x.ob)] (l9 (Tr.num x.val)),j5 77 [(stA (Tr.num x.val).ob.den),(stA [49])] (l9 (Tr.num ↑↑x.val.den))] func124 ⟨aN x,Km (q:=(x.val.den:Int)) (a:=(Tr.num x.val).ob.den) (by have:=hx.d;show (Lib.itoa (x.val.den:Int)).length≤_;omega) (j6.M7 (x.val.den:Int)),Z⟩
theorem Sw{x:Tr}(hx:Arg x):j5 124 [stA [102,108,111,111,114],l9 x] (l9 (Tr.ap 17 x l6 l6)) :=
 pV (.av (l9 (.num x.val))::nK 12 [.av (.l7 [stA (Lib.itoa (qd x.val.num x.val.den)),stA (Lib.itoa (rm x.val.num x.val.den))]),.av (l9 (.num ((qd x.val.num x.val.den:Int):Rat)))]) [j5 154 [(o7 x.ob)] (l9 (Tr.num x.val)),j5 159 [(stA (Tr.num x.val).ob.num),(stA (Tr.num x.val).ob.den)] (.l7 [(stA (Lib.itoa (qd x.val.num ↑x.val.den))),(stA (Lib.itoa (rm x.val.num ↑x.val.den)))]),j5 77 [(stA (Lib.itoa (qd x.val.num ↑x.val.den))),(stA [49])] (o7 ((Tr.num ↑(qd x.val.num ↑x.val.den)).ob))] func124 ⟨aN x,b3V hx,Km (a:=Lib.itoa (qd x.val.num x.val.den)) (by have:=Wv hx;omega) (j6.M7 _),Z⟩
theorem Sz{x:Tr}(_hx:Arg x):j5 124 [stA [115,121,109,98,111,108,45,110,97,109,101],l9 x] (l9 (Tr.ap 18 x l6 l6)) :=
 pV (.av (l9 (.num x.val))::nK 13 [.av (l9 (.txt x.ob.sn))]) [j5 154 [(o7 x.ob)] (l9 (Tr.num x.val)),j5 80 [(stA x.ob.sn)] (l9 (Tr.txt x.ob.sn))] func124 ⟨aN x,vR _,Z⟩
theorem SA{x:Tr}(_hx:Arg x):j5 124 [stA [115,121,109,98,111,108,45,112,97,99,107,97,103,101,45,110,97,109,101],l9 x] (l9 (Tr.ap 19 x l6 l6)) :=
 pV (.av (l9 (.num x.val))::nK 14 [.av (l9 (.txt x.ob.sp))]) [j5 154 [(o7 x.ob)] (l9 (Tr.num x.val)),j5 80 [(stA x.ob.sp)] (l9 (Tr.txt x.ob.sp))] func124 ⟨aN x,vR _,Z⟩
theorem SB{x:Tr}(hx:Arg x):j5 124 [stA [115,116,114,105,110,103,45,108,101,110,103,116,104],l9 x] (l9 (Tr.ap 22 x l6 l6)) :=
 pV (.av (l9 (.num x.val))::nK 15 [.av (stA x.tx),.no,.av (l9 (.num ((x.tx.length:Int):Rat)))]) [j5 154 [(o7 x.ob)] (l9 (Tr.num x.val)),j5 160 [(o7 x.ob)] (stA x.tx),j5 55 [(j4 (x.tx.length:Int))] (l9 (Tr.num ↑↑x.tx.length))] func124 ⟨aN x,kL x,wy (x.tx.length:Int) J (by have:=hx.tx;omega),Z⟩
theorem QT{x:Tr}{n:Int}(h:x.gD=some n):(Z7 x.ob.num).1=n∧BS x=IntKind.u8.wrap n∧0≤n∧n≤255:=by
 unfold Tr.gD at h;split at h
 ·rename_i hc;unfold BS;rw[Ch hc];simp only[Ce,rE]at hc;cases h;exact⟨rfl,rfl,hc.1.2,hc.2⟩
 ·cases h
theorem Za{n:Int}(h0:0≤n)(h1:n≤255):IntKind.u8.wrap n=((UInt8.ofNat n.toNat).toNat:Int):=by
 have e:(UInt8.ofNat n.toNat).toNat=n.toNat:=by
  rw[UInt8.toNat_ofNat'];omega
 rw[e,show IntKind.u8.wrap n=n from by
  show (n % 256)=n;omega]
 omega
theorem Ww{x:Tr}(h:x.gD=none):Tr.ap 24 x l6 l6=.txt []:=by
 show (match x.gD with | some n=>Tr.txt [UInt8.ofNat n.toNat] | none=>Tr.txt [])=_;rw[h]
theorem Wx{x:Tr}{n:Int}(h:x.gD=some n):Tr.ap 24 x l6 l6=.txt [UInt8.ofNat n.toNat]:=by
 show (match x.gD with | some n=>Tr.txt [UInt8.ofNat n.toNat] | none=>Tr.txt [])=_;rw[h]
theorem qj(x:Tr):j5 112 [l9 x] (l5 x.dC):=by
 cases x with
 |num q=>exact (vo (Tr.num q).ob (Ci _)).b (WF fun h=>absurd (show (1:Int)=4 from h.1) O)
 |txt q=>exact (vo (Tr.txt q).ob (Ci _)).b (WF fun h=>absurd (show (3:Int)=4 from h.1) O)
 |sym p s=>exact (vo (Tr.sym p s).ob (Ci _)).b (WF fun h=>absurd (show (2:Int)=4 from h.1) O)
 |cons a d=>exact (vo (Tr.cons a d).ob (show (2:Nat)≤_ by decide)).b (Pi ⟨rfl,rfl⟩)
theorem a5I{x:Tr}(hx:Arg x):j5 200 [stA [98,121,116,101,45,115,116,114,105,110,103],l9 x] (l9 (Tr.ap 24 x l6 l6)):=by
 have hc:=a8K hx.ok O;cases ho:x.gD with
 |none =>
  rw[Ww ho];rw[ho]at hc;exact pV (nK 15 [.av (.l7 [.dt (.val (.int .u8 (IntKind.u8.wrap (Z7 x.ob.num).1))),l5 false]),.av (l9 (.txt []))]) [_,j5 194 [(stA [])] (l9 (Tr.txt []))] func200 ⟨hc,vS [],Z⟩
 |some n =>
  obtain⟨h1,h3,h0,h2⟩:=QT ho;rw[Wx ho];rw[ho,h1]at hc;exact pV (nK 15 [.av (.l7 [.dt (.val (.int .u8 (IntKind.u8.wrap n))),l5 true]),.av (stA [UInt8.ofNat n.toNat]),.av (l9 (.txt [UInt8.ofNat n.toNat]))]) [_,[[Dt.val (Value.int IntKind.u8 (IntKind.u8.wrap n))]]=[[Dt.val (Value.int IntKind.u8 ((UInt8.ofNat n.toNat).toNat:Int))]],j5 194 [(stA [UInt8.ofNat n.toNat])] (l9 (Tr.txt [UInt8.ofNat n.toNat]))] func200 ⟨hc,by rw[Za h0 h2],vS _,Z⟩
theorem SC{x:Tr}(hx:Arg x):j5 124 [stA [98,121,116,101,45,115,116,114,105,110,103],l9 x] (l9 (Tr.ap 24 x l6 l6)):=by
 have hc:=b1s hx.ok O;cases ho:x.gD with
 |none =>
  rw[Ww ho];rw[ho]at hc;exact pV (.av (l9 (.num x.val))::nK 16 [.av (.l7 [.dt (.val (.int .u8 (BS x))),l5 false]),.av (l9 (.txt []))]) [j5 154 [(o7 x.ob)] (l9 (Tr.num x.val)),_,j5 80 [(stA [])] (l9 (Tr.txt []))] func124 ⟨aN x,hc,vR [],Z⟩
 |some n =>
  obtain⟨h1,h3,h0,h2⟩:=QT ho;rw[Wx ho];rw[ho,h3]at hc;exact pV (.av (l9 (.num x.val))::nK 16 [.av (.l7 [.dt (.val (.int .u8 (IntKind.u8.wrap n))),l5 true]),.av (stA [UInt8.ofNat n.toNat]),.av (l9 (.txt [UInt8.ofNat n.toNat]))]) [j5 154 [(o7 x.ob)] (l9 (Tr.num x.val)),_,[[Dt.val (Value.int IntKind.u8 (IntKind.u8.wrap n))]]=[[Dt.val (Value.int IntKind.u8 ((UInt8.ofNat n.toNat).toNat:Int))]],j5 80 [(stA [UInt8.ofNat n.toNat])] (l9 (Tr.txt [UInt8.ofNat n.toNat]))] func124 ⟨aN x,hc,by rw[Za h0 h2],vR _,Z⟩
theorem UW{x:Tr}(_:Arg x):j5 124 [stA [99,97,114],l9 x] (l9 (Tr.ap 3 x l6 l6)):=by
 cases x with
 |num q=>exact pV [.av (l9 (.num (Tr.val (.num q)))),.no,.av (l5 (Tr.dC (.num q))),.av (l9 l6)] [j5 154 [(l9 (Tr.num q))] (o7 ((Tr.num (Tr.num q).val).ob)),j5 112 [(l9 (Tr.num q))] (l5 false),_] func124 ⟨aN _,qj _,kG,Z⟩
 |txt q=>exact pV [.av (l9 (.num (Tr.val (.txt q)))),.no,.av (l5 (Tr.dC (.txt q))),.av (l9 l6)] [j5 154 [(l9 (Tr.txt q))] (o7 ((Tr.num (Tr.txt q).val).ob)),j5 112 [(l9 (Tr.txt q))] (l5 false),_] func124 ⟨aN _,qj _,kG,Z⟩
 |sym p s=>exact pV [.av (l9 (.num (Tr.val (.sym p s)))),.no,.av (l5 (Tr.dC (.sym p s))),.av (l9 l6)] [j5 154 [(l9 (Tr.sym p s))] (o7 ((Tr.num (Tr.sym p s).val).ob)),j5 112 [(l9 (Tr.sym p s))] (l5 false),_] func124 ⟨aN _,qj _,kG,Z⟩
 |cons a d=>exact pV [.av (l9 (.num (Tr.val (.cons a d)))),.no,.av (l5 (Tr.dC (.cons a d))),.no,.av (Fq a.ob)] [j5 154 [(l9 (a.cons d))] (o7 ((Tr.num (a.cons d).val).ob)),j5 112 [(l9 (a.cons d))] (l5 true),z8 (List.map Ob.enc (a.cons d).ob.pair) 0 7 (A9 a.ob)] func124 ⟨aN _,qj _,DZ (l:=[a.ob,d.ob]) (i:=0) rfl,Z⟩
theorem UX{x:Tr}(_:Arg x):j5 124 [stA [99,100,114],l9 x] (l9 (Tr.ap 4 x l6 l6)):=by
 cases x with
 |num q=>exact pV [.av (l9 (.num (Tr.val (.num q)))),.no,.no,.av (l5 (Tr.dC (.num q))),.av (l9 l6)] [j5 154 [(l9 (Tr.num q))] (o7 ((Tr.num (Tr.num q).val).ob)),j5 112 [(l9 (Tr.num q))] (l5 false),_] func124 ⟨aN _,qj _,kG,Z⟩
 |txt q=>exact pV [.av (l9 (.num (Tr.val (.txt q)))),.no,.no,.av (l5 (Tr.dC (.txt q))),.av (l9 l6)] [j5 154 [(l9 (Tr.txt q))] (o7 ((Tr.num (Tr.txt q).val).ob)),j5 112 [(l9 (Tr.txt q))] (l5 false),_] func124 ⟨aN _,qj _,kG,Z⟩
 |sym p s=>exact pV [.av (l9 (.num (Tr.val (.sym p s)))),.no,.no,.av (l5 (Tr.dC (.sym p s))),.av (l9 l6)] [j5 154 [(l9 (Tr.sym p s))] (o7 ((Tr.num (Tr.sym p s).val).ob)),j5 112 [(l9 (Tr.sym p s))] (l5 false),_] func124 ⟨aN _,qj _,kG,Z⟩
 |cons a d=>exact pV [.av (l9 (.num (Tr.val (.cons a d)))),.no,.no,.av (l5 (Tr.dC (.cons a d))),.no,.av (Fq d.ob)] [j5 154 [(l9 (a.cons d))] (o7 ((Tr.num (a.cons d).val).ob)),j5 112 [(l9 (a.cons d))] (l5 true),z8 (List.map Ob.enc (a.cons d).ob.pair) 1 7 (A9 d.ob)] func124 ⟨aN _,qj _,DZ (l:=[a.ob,d.ob]) (i:=1) rfl,Z⟩
theorem UY{x y:Tr}(hx:Arg x)(_hy:Arg y):j5 125 [stA [101,113,117,97,108],l9 x,l9 y] (l9 (Tr.ap 1 x y l6)):=pV [.no,.av (l5 (decide (x=y))),.av (l9 (V7 (decide (x=y))))] [j5 49 [(o7 x.ob),(o7 y.ob)] (l5 (decide (x=y))),j5 155 [(l5 (decide (x=y)))] (o7 ((V7 (decide (x=y))).ob))] func125 ⟨b2I y hx.ok O,sN _,Z⟩
theorem UZ{x y:Tr}(_hx:Arg x)(_hy:Arg y):j5 125 [stA [99,111,110,115],l9 x,l9 y] (l9 (Tr.ap 2 x y l6)):=pV [.no,.no,.av (l9 (.cons x y))] [j5 81 [(o7 x.ob),(o7 y.ob)] (l9 (x.cons y))] func125 ⟨DC x.ob y.ob,Z⟩
theorem SE{x y:Tr}(hx:Arg x)(hy:Arg y):j5 125 [stA [98,105,110,97,114,121,45,43],l9 x,l9 y] (l9 (Tr.ap 10 x y l6)):=pV [.no,.no,.no,.av (l9 (.num (x.val+y.val)))] [j5 162 [(o7 x.ob),(o7 y.ob)] (o7 ((Tr.num (x.val+y.val)).ob))] func125 ⟨b1o hx.ok hy.ok O O,Z⟩
theorem SF{x y:Tr}(hx:Arg x)(hy:Arg y):j5 125 [stA [98,105,110,97,114,121,45,42],l9 x,l9 y] (l9 (Tr.ap 11 x y l6)):=pV (nK 4 [.av (l9 (.num (x.val * y.val)))]) [j5 163 [(o7 x.ob),(o7 y.ob)] (o7 ((Tr.num (x.val * y.val)).ob))] func125 ⟨a8H hx.ok hy.ok O O,Z⟩
theorem SG{x y:Tr}(hx:Arg x)(hy:Arg y):j5 125 [stA [60],l9 x,l9 y] (l9 (Tr.ap 14 x y l6)):=pV (nK 5 [.av (l5 (decide (x.val < y.val))),.av (l9 (V7 (decide (x.val < y.val))))]) [j5 164 [(o7 x.ob),(o7 y.ob)] (l5 (decide (x.val < y.val))),j5 155 [(l5 (decide (x.val < y.val)))] (o7 ((V7 (decide (x.val < y.val))).ob))] func125 ⟨a4L hx.ok hy.ok O O,sN _,Z⟩
theorem SH{x y:Tr}(hx:Arg x)(hy:Arg y):j5 125 [stA [115,116,114,105,110,103,45,97,112,112,101,110,100],l9 x,l9 y] (l9 (Tr.ap 21 x y l6)):=pV (nK 7 [.av (stA x.tx),.av (stA y.tx),.av (stA (x.tx++y.tx)),.av (l9 (.txt (x.tx++y.tx)))]) [j5 160 [(o7 x.ob)] (stA x.tx),j5 160 [(o7 y.ob)] (stA y.tx),Bs .add 9 64 66 x.tx y.tx (str (x.tx++y.tx)),j5 80 [(stA (x.tx++y.tx))] (o7 ((Tr.txt (x.tx++y.tx)).ob))] func125 ⟨kL x,kL y,Dh (a:=x.tx) (b:=y.tx) (by have:=hx.tx;have:=hy.tx;omega),vR _,Z⟩
theorem SI{x y:Tr}(hx:Arg x)(hy:Arg y):j5 125 [stA [105,110,116,101,114,110],l9 x,l9 y] (l9 (Tr.ap 20 x y l6)):=by
 have lx:x.tx.length≤40000:=hx.tx;have ly:y.tx.length≤40000:=hy.tx;have e:Tr.ap 20 x y l6=if x.aK && y.aK && R6 ⟨y.tx,x.tx⟩ then .sym y.tx x.tx else l6:=rfl
 rw[e];cases hX:x.aK with
 |false=>exact pV (nK 6 [.av (stA y.tx),.av (stA x.tx),yT,.av (l9 l6)]) [j5 160 [(o7 y.ob)] (stA y.tx),j5 160 [(o7 x.ob)] (stA x.tx),Bk .neq 3 46 3 x.ob.kind bT,_] func125 ⟨kL y,kL x,gY (by rw[fC,hX];rfl),kG,Z⟩
 |true =>
  cases hY:y.aK with
  |false=>exact pV (nK 6 [.av (stA y.tx),.av (stA x.tx),yF,yT,.av (l9 l6)]) [j5 160 [(o7 y.ob)] (stA y.tx),j5 160 [(o7 x.ob)] (stA x.tx),Bk .neq 3 46 3 x.ob.kind bF,Bk .neq 3 50 3 y.ob.kind bT,_] func125 ⟨kL y,kL x,gY (by rw[fC,hX];rfl),gY (by rw[fC,hY];rfl),kG,Z⟩
  |true =>
   cases hS:R6 ⟨y.tx,x.tx⟩ with
   |false=>exact pV (nK 6 [.av (stA y.tx),.av (stA x.tx),yF,yF,yF,.av (l9 l6)]) [j5 160 [(o7 y.ob)] (stA y.tx),j5 160 [(o7 x.ob)] (stA x.tx),Bk .neq 3 46 3 x.ob.kind bF,Bk .neq 3 50 3 y.ob.kind bF,j5 165 [(p8 y.tx x.tx)] (l5 false),_] func125 ⟨kL y,kL x,gY (by rw[fC,hX];rfl),gY (by rw[fC,hY];rfl),(Ws (p:=y.tx) (s:=x.tx) J J).b hS,kG,Z⟩
   |true=>exact pV (nK 6 [.av (stA y.tx),.av (stA x.tx),yF,yF,yT,.av (l9 (.sym y.tx x.tx))]) [j5 160 [(o7 y.ob)] (stA y.tx),j5 160 [(o7 x.ob)] (stA x.tx),Bk .neq 3 46 3 x.ob.kind bF,Bk .neq 3 50 3 y.ob.kind bF,j5 165 [(p8 y.tx x.tx)] (l5 true),j5 76 [(p8 y.tx x.tx)] (l9 (Tr.sym y.tx x.tx))] func125 ⟨kL y,kL x,gY (by rw[fC,hX];rfl),gY (by rw[fC,hY];rfl),(Ws (p:=y.tx) (s:=x.tx) J J).b hS,a8J _ _,Z⟩
theorem Wy{x y:Tr}(h:x.ed y=none):Tr.ap 23 x y l6=l6:=by
 show (match x.ed y with | some n=>Tr.num (((x.tx.getD n.toNat 0).toNat:Int):Rat) | none=>l6)=_;rw[h]
theorem Wz{x y:Tr}{n:Int}(h:x.ed y=some n):Tr.ap 23 x y l6=.num (((x.tx.getD n.toNat 0).toNat:Int):Rat):=by
 show (match x.ed y with | some n=>Tr.num (((x.tx.getD n.toNat 0).toNat:Int):Rat) | none=>l6)=_;rw[h]
theorem a5J{x i:Tr}{n:Int}(h:x.ed i=some n):xq x i=n:=by unfold xq;rw[h]
theorem Va{l:lw}{n:Int}(h0:0≤n)(h1:n < l.length):l[n.toNat]?=some (l.getD n.toNat 0):=by
 have h:n.toNat < l.length:=J;rw[AC,ww h];rfl
theorem Vb(b:UInt8):IntKind.i64.wrap (b.toNat:Int)=(b.toNat:Int):=by have:=b.toNat_lt;rw[IntKind.wrap_i64];omega
theorem SK{x y:Tr}(_hx:Arg x)(hy:Arg y):j5 125 [stA [115,116,114,105,110,103,45,98,121,116,101],l9 x,l9 y] (l9 (Tr.ap 23 x y l6)):=by
 have hi:=b3T x hy.ok O;cases ho:x.ed y with
 |none =>
  rw[Wy ho];rw[ho]at hi;exact pV (nK 8 [.av (.l7 [j4 (xq x y),l5 false]),.av (l9 l6)]) [_,_] func125 ⟨hi,kG,Z⟩
 |some n =>
  obtain⟨_,_,_,h0,h1⟩:=Sn ho;rw[Wz ho];rw[ho,a5J ho]at hi;generalize hb:x.tx.getD n.toNat 0=b;have hg:=Va h0 h1;rw[hb]at hg;have:=b.toNat_lt;exact pV (nK 8 [.av (.l7 [j4 n,l5 true]),.av (.dt (.val (.int .u8 b.toNat))),.av (j4 b.toNat),.av (l9 (.num ((b.toNat:Int):Rat)))]) [_,gP ({ data:=x.ob.text.toArray:ByteArray }) n (Value.int .u8 ↑b.toNat),(vi ↑b.toNat)=(vi (IntKind.i64.wrap ↑b.toNat)),j5 55 [(j4 ↑b.toNat)] (l9 (Tr.num ↑↑b.toNat))] func125 ⟨hi,⟨b,h0,by rw[II];exact hg,rfl⟩,by rw[Vb],wy _ J J,Z⟩
end Go.Proofs.YtbpmpdadppamgaaGreatDoor
