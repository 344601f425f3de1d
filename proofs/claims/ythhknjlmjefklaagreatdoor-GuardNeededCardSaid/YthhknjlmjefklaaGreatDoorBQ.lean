/- Arithmetic of objects, as plain walks. -/
import Derived.Test.YthhknjlmjefklaaGreatDoorBP
import Derived.Test.YthhknjlmjefklaaGreatDoorBF
namespace Go.Proofs.YthhknjlmjefklaaGreatDoor
open Go.Proofs.Tryz
open Go.RowKit
theorem a2O{f:FuncId}(hf:Fn f){a r:aa0}(h:∀w,Tab w→Calls prog f #[str a] w (dG r w)):l7 f [stA a] (stA r) :=
 ⟨hf,fun ok w vs ht hv=>by
  obtain rfl:=hv.iD;exact (h w ht.1).mono fun _ _ ⟨h1,h2⟩=>⟨_,h1,h2,.val _⟩⟩
theorem JE{f:FuncId}(hf:Fn f){a b r:aa0}(h:∀w,Tab w→Calls prog f #[str a,str b] w (dG r w)):l7 f [stA a,stA b] (stA r) :=
 ⟨hf,fun ok w vs ht hv=>by
  obtain⟨u,us,rfl,h1,h2⟩:=hv;obtain rfl:=RL.iD h2;rw[Rd.Z9 h1];exact (h w ht.1).mono fun _ _ ⟨h1,h2⟩=>⟨_,h1,h2,.val _⟩⟩
section
variable {a b:aa0} {x y:Int} (ha:l9.D5 a=x) (hb:l9.D5 b=y) (la:a.length≤2500000) (lb:b.length≤2500000)
include ha hb la lb
theorem Dl:l7 209 [stA a,stA b] (stA (Lib.itoa (x * y))) :=
 JE (V8 func209 rfl (by kernel_rfl)) fun w ht=>by rw[←ha,←hb];exact Xe a b w la lb ht
theorem Zg:l7 207 [stA a,stA b] (stA (Lib.itoa (x+y))) :=
 JE (V8 func207 rfl (by kernel_rfl)) fun w ht=>by rw[←ha,←hb];exact a7C a b w la lb ht
theorem Dn:l7 200 [stA a,stA b] (stA (Lib.itoa (x * y))) :=
 JE (V8 func200 rfl (by kernel_rfl)) fun w _=>by rw[←ha,←hb];exact VG a b w la lb
theorem b08:l7 199 [stA a,stA b] (stA (Lib.itoa (x+y))) :=
 JE (V8 func199 rfl (by kernel_rfl)) fun w _=>by rw[←ha,←hb];exact a6g a b w la lb
end
theorem b09{a:aa0}{x:Int}(ha:l9.D5 a=x)(la:a.length≤2500000):l7 248 [stA a] (stA (Lib.itoa (-x))) :=
 a2O (V8 func248 rfl (by kernel_rfl)) fun w _=>by
  rw[←ha];exact (Nq a w la).mono fun _ _ ⟨h1,h2⟩=>⟨h1,by rw[←h2];exact Below.refl _ _⟩
theorem b1a{a:aa0}{x:Int}(ha:l9.D5 a=x)(la:a.length≤2500000):l7 197 [stA a] (stA (Lib.itoa (-x))) :=
 a2O (V8 func197 rfl (by kernel_rfl)) fun w _=>by rw[←ha];exact a4T a w la
theorem IZ{a b:aa0}(ha:a.length≤1100000)(hb:b.length≤1100000):l7 208 [stA a,stA b] (o9 (.num (Rat.divInt (l9.D5 a) (l9.D5 b)))) :=
 ⟨V8 func208 rfl (by kernel_rfl),fun ok w vs ht hv=>by
  obtain⟨u,us,rfl,h1,h2⟩:=hv;obtain rfl:=RL.iD h2;rw[Rd.Z9 h1];exact (a5Z a b w ha hb ht.1).mono fun _ _ h=>aI.pure (r:=ax (Rat.divInt (l9.D5 a) (l9.D5 b))) rfl h⟩
theorem bU(t:Tr):l7 146 [o9 t] (o9 (.num t.val)) :=
 ⟨V8 func146 rfl (by kernel_rfl),fun ok w vs ht hv=>by
  obtain⟨A,n,c,rfl,hr⟩:=hv.zC;have e1:=hr.len;rw[EQ]at e1;exact (Oj t.ob t.val t.IE A n c e1 w ht.1).mono fun _ _=>uD.pure⟩
theorem pM(t:Tr):l7 206 [o9 t] (o9 (.num t.val)) :=
 ⟨V8 func206 rfl (by kernel_rfl),fun ok w vs ht hv=>by
  obtain⟨A,n,c,rfl,hr⟩:=hv.zC;have e1:=hr.len;rw[EQ]at e1;exact (a7J t.ob t.val t.IE A n c e1 w ht.1).mono fun _ _=>uD.pure⟩
theorem b1b(a:aa0):l7 80 [stA a] (x9 (numO a [49])) :=
 ⟨V8 func80 rfl (by kernel_rfl),fun ok w vs ht hv=>by
  obtain rfl:=hv.iD;exact (Vg a w).mono fun _ _ h=>aI.pure (r:=numO a [49]) rfl h⟩
theorem b1c{p q:Rat}{k:Nat}(bp:Rb k p)(bq:Rb k q)(hk:k≤10000):l7 211 [o9 (.num p),o9 (.num q)] (inA (gK p q)) :=
 ⟨V8 func211 rfl (by kernel_rfl),fun ok w vs ht hv=>by
  obtain⟨A,n,c,A',n',c',rfl,hr,hr'⟩:=hv.wP;have e1:=hr.len;have e2:=hr'.len;obtain rfl:n=0:=e1.symm;obtain rfl:n'=0:=e2.symm;exact (a6a p q bp bq hk hk A A' 0 0 c c' w ht.1).mono fun _ _ ⟨h1,h2⟩=>⟨_,h1,h2,.val _⟩⟩
section
variable {a b:Tr} {p q r:Rat} {m n d:aa0} {k:Nat}
theorem b1d(f1:l7 146 [o9 a] (o9 (.num p)))(f2:l7 146 [o9 b] (o9 (.num q)))(m1:l7 200 [stA (Tr.num p).ob.num,stA (Tr.num q).ob.num] (stA m))(m2:l7 200 [stA (Tr.num p).ob.den,stA (Tr.num q).ob.den] (stA d))(r1:l7 35 [stA m,stA d] (o9 (.num r))):l7 153 [o9 a,o9 b] (o9 (.num r)) :=
 pV [.av (o9 (.num p)),.av (o9 (.num q)),.av (stA m),.av (stA d),.av (o9 (.num r))] [_,_,_,_,_] func153 ⟨f1,f2,m1,m2,r1,Z⟩
theorem b1e(f1:l7 206 [o9 a] (o9 (.num p)))(f2:l7 206 [o9 b] (o9 (.num q)))(m1:l7 209 [stA (Tr.num p).ob.num,stA (Tr.num q).ob.num] (stA m))(m2:l7 209 [stA (Tr.num p).ob.den,stA (Tr.num q).ob.den] (stA d))(r1:l7 208 [stA m,stA d] (o9 (.num r))):l7 169 [o9 a,o9 b] (o9 (.num r)) :=
 pV [.av (o9 (.num p)),.av (o9 (.num q)),.av (stA m),.av (stA d),.av (o9 (.num r))] [_,_,_,_,_] func169 ⟨f1,f2,m1,m2,r1,Z⟩
theorem b3M{s:aa0}(f1:l7 146 [o9 a] (o9 (.num p)))(f2:l7 146 [o9 b] (o9 (.num q)))(m1:l7 200 [stA (Tr.num p).ob.num,stA (Tr.num q).ob.den] (stA m))(m2:l7 200 [stA (Tr.num q).ob.num,stA (Tr.num p).ob.den] (stA n))(m3:l7 199 [stA m,stA n] (stA s))(m4:l7 200 [stA (Tr.num p).ob.den,stA (Tr.num q).ob.den] (stA d))(r1:l7 35 [stA s,stA d] (o9 (.num r))):l7 152 [o9 a,o9 b] (o9 (.num r)) :=
 pV [.av (o9 (.num p)),.av (o9 (.num q)),.av (stA m),.av (stA n),.av (stA s),.av (stA d),.av (o9 (.num r))] [_,_,_,_,_,_,_] func152 ⟨f1,f2,m1,m2,m3,m4,r1,Z⟩
theorem b3N{s:aa0}(hd:¬((Tr.num p).ob.den=[49]∧(Tr.num q).ob.den=[49]))(f1:l7 206 [o9 a] (o9 (.num p)))(f2:l7 206 [o9 b] (o9 (.num q)))(m1:l7 209 [stA (Tr.num p).ob.num,stA (Tr.num q).ob.den] (stA m))(m2:l7 209 [stA (Tr.num q).ob.num,stA (Tr.num p).ob.den] (stA n))(m3:l7 207 [stA m,stA n] (stA s))(m4:l7 209 [stA (Tr.num p).ob.den,stA (Tr.num q).ob.den] (stA d))(r1:l7 208 [stA s,stA d] (o9 (.num r))):l7 168 [o9 a,o9 b] (o9 (.num r)):=by
 by_cases h:(Tr.num p).ob.den=[49]
 ·exact pV [.av (o9 (.num p)),.av (o9 (.num q)),yT,yF,.av (stA m),.av (stA n),.av (stA s),.av (stA d),.av (o9 (.num r))] [_,_,Bl .eql 9 10 [49] ((Tr.num p).ob.den) bT,Bl .eql 9 14 [49] ((Tr.num q).ob.den) bF,_,_,_,_,_] func168 ⟨f1,f2,L6 (UV h),L6 (WF fun e=>hd ⟨h,e⟩),m1,m2,m3,m4,r1,Z⟩
 ·exact pV [.av (o9 (.num p)),.av (o9 (.num q)),yF,.av (stA m),.av (stA n),.av (stA s),.av (stA d),.av (o9 (.num r))] [_,_,Bl .eql 9 10 [49] ((Tr.num p).ob.den) bF,_,_,_,_,_] func168 ⟨f1,f2,L6 (WF h),m1,m2,m3,m4,r1,Z⟩
theorem b1f(h1:(Tr.num p).ob.den=[49])(h2:(Tr.num q).ob.den=[49])(f1:l7 206 [o9 a] (o9 (.num p)))(f2:l7 206 [o9 b] (o9 (.num q)))(m1:l7 207 [stA (Tr.num p).ob.num,stA (Tr.num q).ob.num] (stA m))(r1:l7 80 [stA m] (o9 (.num r))):l7 168 [o9 a,o9 b] (o9 (.num r)) :=
 pV [.av (o9 (.num p)),.av (o9 (.num q)),yT,yT,.av (stA m),.av (o9 (.num r))] [_,_,Bl .eql 9 10 [49] ((Tr.num p).ob.den) bT,Bl .eql 9 14 [49] ((Tr.num q).ob.den) bT,_,_] func168 ⟨f1,f2,L6 (UV h1),L6 (UV h2),m1,r1,Z⟩
theorem b3O(f1:l7 146 [o9 a] (o9 (.num p)))(m1:l7 197 [stA (Tr.num p).ob.num] (stA m))(r1:l7 35 [stA m,stA (Tr.num p).ob.den] (o9 (.num r))):l7 148 [o9 a] (o9 (.num r)) :=
 pV [.av (o9 (.num p)),.av (stA m),.av (o9 (.num r))] [_,_,_] func148 ⟨f1,m1,r1,Z⟩
theorem b3P(f1:l7 146 [o9 a] (o9 (.num p)))(r1:l7 35 [stA (Tr.num p).ob.den,stA (Tr.num p).ob.num] (o9 (.num r))):l7 149 [o9 a] (o9 (.num r)) :=
 pV [.av (o9 (.num p)),.av (o9 (.num r))] [_,_] func149 ⟨f1,r1,Z⟩
theorem b3Q(f1:l7 206 [o9 a] (o9 (.num p)))(m1:l7 248 [stA (Tr.num p).ob.num] (stA m)):l7 213 [o9 a] (x9 ⟨(Tr.num p).ob.kind,m,(Tr.num p).ob.den,(Tr.num p).ob.sp,(Tr.num p).ob.sn,(Tr.num p).ob.text,(Tr.num p).ob.pair⟩) :=
 pV [.av (o9 (.num p)),.av (stA m)] [_,_] func213 ⟨f1,m1,Z⟩
theorem b3R(f1:l7 206 [o9 a] (o9 (.num p)))(r1:l7 208 [stA (Tr.num p).ob.den,stA (Tr.num p).ob.num] (o9 (.num r))):l7 214 [o9 a] (o9 (.num r)) :=
 pV [.av (o9 (.num p)),.av (o9 (.num r))] [_,_] func214 ⟨f1,r1,Z⟩
theorem b1g{b':Bool}{c:Int}(f1:l7 206 [o9 a] (o9 (.num p)))(f2:l7 206 [o9 b] (o9 (.num q)))(m1:l7 211 [o9 (.num p),o9 (.num q)] (inA c))(hc:decide (c < 0)=b'):l7 173 [o9 a,o9 b] (o6 b') :=
 pV [.av (o9 (.num p)),.av (o9 (.num q)),.av (inA c),.av (o6 b')] [_,_,_,Bk .lss 3 9 0 c (Value.bool b')] func173 ⟨f1,f2,m1,F8 hc,Z⟩
end
section
variable {k:Nat} {a b:Tr}
theorem kN(q:Rat):l9.D5 (Tr.num q).ob.num=q.num:=l9.P9 _
theorem iO(q:Rat):l9.D5 (Tr.num q).ob.den=q.den:=l9.P9 (q.den:Int)
theorem nl{q:Rat}(h:Rb k q)(hk:k≤10000):(Tr.num q).ob.num.length≤20000:=Za6 (Rb.rQ h) J
theorem dl{q:Rat}(h:Rb k q)(hk:k≤10000):(Tr.num q).ob.den.length≤20000:=Za6 (Rb.uS h) J
theorem ml{x y:Int}(hx:x.natAbs < 10 ^ k)(hy:y.natAbs < 10 ^ k)(h1:1≤k)(hk:k≤10000):(Lib.itoa (x * y)).length≤50000:=by
 have h:(x * y).natAbs < 10 ^ (k+k):=by
  rw[Int.natAbs_mul,Nat.pow_add];exact Nat.mul_lt_mul'' hx hy
 exact Za6 (kQ _ (k:=k+k) J h) J
theorem al'{x y:Int}(hx:(Lib.itoa x).length≤k)(hy:(Lib.itoa y).length≤k):(Lib.itoa (x+y)).length≤k+2:=by
 have h1:=lY hx;have h2:=lY hy;rw[l9.P9]at h1 h2;refine kQ _ (k:=k+1) J ?_;rw[Zb0];generalize 10 ^ k=z at *;have:=Int.natAbs_add_le x y;omega
theorem al{x y:Int}(hx:(Lib.itoa x).length≤50000)(hy:(Lib.itoa y).length≤50000):(Lib.itoa (x+y)).length≤100010:=Za6 (al' hx hy) O
variable (ha:a.Ok k) (hb:b.Ok k) (h1:1≤k) (hk:k≤10000)
include ha h1 hk
theorem b3S:l7 148 [o9 a] (o9 (.num (-a.val))):=by
 have ba:=ha.val h1;refine b3O (bU a) (b1a (kN _) (Za6 (nl ba hk) O)) ?_;have h:=zU (a:=Lib.itoa (-a.val.num)) (b:=(Tr.num a.val).ob.den) (Za6 (kQ _ (k:=k) h1 (by rw[Int.natAbs_neg];exact ba.num)) J) (Za6 (dl ba hk) O);rw[l9.P9,iO,show Rat.divInt (-a.val.num) (a.val.den:Int)=-a.val by rw[←Rat.neg_divInt,Rat.num_divInt_den]]at h
 exact h
theorem b3T:l7 149 [o9 a] (o9 (.num a.val⁻¹)):=by
 have ba:=ha.val h1;refine b3P (bU a) ?_;have h:=zU (a:=(Tr.num a.val).ob.den) (b:=(Tr.num a.val).ob.num) (Za6 (dl ba hk) O) (Za6 (nl ba hk) O);rw[iO,kN,←Rat.inv_def]at h;exact h
theorem b3U:l7 213 [o9 a] (o9 (.num (-a.val))):=by
 have ba:=ha.val h1;refine (b3Q (pM a) (b09 (kN _) (Za6 (nl ba hk) O))).val (congrArg x9 ?_);show (⟨1,Lib.itoa (-a.val.num),Lib.itoa (a.val.den:Int),[],[],[],[]⟩:Ob)=⟨1,Lib.itoa (-a.val).num,Lib.itoa ((-a.val).den:Int),[],[],[],[]⟩;rw[Rat.neg_num,Rat.neg_den]
theorem b3V:l7 214 [o9 a] (o9 (.num a.val⁻¹)):=by
 have ba:=ha.val h1;refine b3R (pM a) ?_;have h:=IZ (a:=(Tr.num a.val).ob.den) (b:=(Tr.num a.val).ob.num) (Za6 (dl ba hk) O) (Za6 (nl ba hk) O);rw[iO,kN,←Rat.inv_def]at h;exact h
include hb
theorem b1h:l7 153 [o9 a,o9 b] (o9 (.num (a.val * b.val))):=by
 have ba:=ha.val h1;have bb:=hb.val h1;refine b1d (bU a) (bU b) (Dn (kN _) (kN _) (Za6 (nl ba hk) O) (Za6 (nl bb hk) O)) (Dn (iO _) (iO _) (Za6 (dl ba hk) O) (Za6 (dl bb hk) O)) ?_;have h:=zU (Za6 (ml ba.num bb.num h1 hk) O) (Za6 (ml (x:=(a.val.den:Int)) (y:=(b.val.den:Int)) (by rw[Int.natAbs_natCast];exact ba.den) (by rw[Int.natAbs_natCast];exact bb.den) h1 hk) O);rw[l9.P9,l9.P9,←Rat.mul_div]at h;exact h
theorem Zh:l7 169 [o9 a,o9 b] (o9 (.num (a.val * b.val))):=by
 have ba:=ha.val h1;have bb:=hb.val h1;refine b1e (pM a) (pM b) (Dl (kN _) (kN _) (Za6 (nl ba hk) O) (Za6 (nl bb hk) O)) (Dl (iO _) (iO _) (Za6 (dl ba hk) O) (Za6 (dl bb hk) O)) ?_;have h:=IZ (Za6 (ml ba.num bb.num h1 hk) O) (Za6 (ml (x:=(a.val.den:Int)) (y:=(b.val.den:Int)) (by rw[Int.natAbs_natCast];exact ba.den) (by rw[Int.natAbs_natCast];exact bb.den) h1 hk) O);rw[l9.P9,l9.P9,←Rat.mul_div]at h;exact h
theorem b3W:l7 152 [o9 a,o9 b] (o9 (.num (a.val+b.val))):=by
 have ba:=ha.val h1;have bb:=hb.val h1;have l1:=ml (x:=a.val.num) (y:=(b.val.den:Int)) ba.num (by rw[Int.natAbs_natCast];exact bb.den) h1 hk;have l2:=ml (x:=b.val.num) (y:=(a.val.den:Int)) bb.num (by rw[Int.natAbs_natCast];exact ba.den) h1 hk;have l3:=ml (x:=(a.val.den:Int)) (y:=(b.val.den:Int)) (by rw[Int.natAbs_natCast];exact ba.den) (by rw[Int.natAbs_natCast];exact bb.den) h1 hk;refine b3M (bU a) (bU b) (Dn (kN _) (iO _) (Za6 (nl ba hk) O) (Za6 (dl bb hk) O)) (Dn (kN _) (iO _) (Za6 (nl bb hk) O) (Za6 (dl ba hk) O)) (b08 (l9.P9 _) (l9.P9 _) J J) (Dn (iO _) (iO _) (Za6 (dl ba hk) O) (Za6 (dl bb hk) O)) ?_;have h:=zU (Za6 (al l1 l2) O) (Za6 l3 O);rw[l9.P9,l9.P9,←Rat.add_div]at h;exact h
theorem a0u:l7 168 [o9 a,o9 b] (o9 (.num (a.val+b.val))):=by
 have ba:=ha.val h1;have bb:=hb.val h1;by_cases hd:(Tr.num a.val).ob.den=[49]∧(Tr.num b.val).ob.den=[49]
 ·obtain⟨d1,d2⟩:=hd;refine b1f d1 d2 (pM a) (pM b) (Zg (kN _) (kN _) (Za6 (nl ba hk) O) (Za6 (nl bb hk) O)) ((b1b _).val (congrArg x9 ?_));have e1:(a.val.den:Int)=1:=by rw[←iO a.val,d1];decide +kernel
  have e2:(b.val.den:Int)=1:=by rw[←iO b.val,d2];decide +kernel
  have e:a.val+b.val=((a.val.num+b.val.num:Int):Rat):=by
   rw[Rat.add_div,e1,e2];simp only[Int.mul_one];exact GI _
  rw[e];exact (Og _).symm
 ·have l1:=ml (x:=a.val.num) (y:=(b.val.den:Int)) ba.num (by rw[Int.natAbs_natCast];exact bb.den) h1 hk;have l2:=ml (x:=b.val.num) (y:=(a.val.den:Int)) bb.num (by rw[Int.natAbs_natCast];exact ba.den) h1 hk;have l3:=ml (x:=(a.val.den:Int)) (y:=(b.val.den:Int)) (by rw[Int.natAbs_natCast];exact ba.den) (by rw[Int.natAbs_natCast];exact bb.den) h1 hk;refine b3N hd (pM a) (pM b) (Dl (kN _) (iO _) (Za6 (nl ba hk) O) (Za6 (dl bb hk) O)) (Dl (kN _) (iO _) (Za6 (nl bb hk) O) (Za6 (dl ba hk) O)) (Zg (l9.P9 _) (l9.P9 _) J J) (Dl (iO _) (iO _) (Za6 (dl ba hk) O) (Za6 (dl bb hk) O)) ?_;have h:=IZ (Za6 (al l1 l2) O) (Za6 l3 O);rw[l9.P9,l9.P9,←Rat.add_div]at h;exact h
theorem a8R:l7 173 [o9 a,o9 b] (o6 (decide (a.val < b.val))) :=
 b1g (pM a) (pM b) (b1c (ha.val h1) (hb.val h1) hk) (Xk _ _)
end
abbrev o8:Tr:=.sym x8 aQ
abbrev Z8(b:Bool):Tr:=if b then .sym x8 [116] else o8
theorem nN:l7 48 [] (o9 o8) :=
 ⟨V8 func48 rfl (by kernel_rfl),fun ok w vs ht hv=>by
  obtain rfl:vs=[]:=hv;exact (a7I w).mono fun _ _ h=>aI.pure (r:=U6) rfl h⟩
theorem b5Q:l7 47 [] (o9 (.sym x8 [116])) :=
 ⟨V8 func47 rfl (by kernel_rfl),fun ok w vs ht hv=>by
  obtain rfl:vs=[]:=hv;exact (b2F w).mono fun _ _ h=>aI.pure (r:=tO) rfl h⟩
theorem nO:l7 28 [] (o9 o8) :=
 ⟨V8 func28 rfl (by kernel_rfl),fun ok w vs ht hv=>by
  obtain rfl:vs=[]:=hv;exact (Oi w).mono fun _ _ h=>aI.pure (r:=U6) rfl h⟩
theorem b5R:l7 64 [] (o9 (.sym x8 [116])) :=
 ⟨V8 func64 rfl (by kernel_rfl),fun ok w vs ht hv=>by
  obtain rfl:vs=[]:=hv;exact (b2I w).mono fun _ _ h=>aI.pure (r:=tO) rfl h⟩
theorem zF(t:aa0):l7 170 [stA t] (o9 (.txt t)) :=
 ⟨V8 func170 rfl (by kernel_rfl),fun ok w vs ht hv=>by
  obtain rfl:=hv.iD;exact (a6I w t).mono fun _ _ h=>aI.pure (r:=rP t) rfl h⟩
theorem b1i(p s:aa0):l7 82 [y7 p s] (o9 (.sym p s)) :=
 ⟨V8 func82 rfl (by kernel_rfl),fun ok w vs ht hv=>by
  obtain⟨u,us,rfl,h1,rfl⟩:=hv;rw[h1.sy];exact (Na w p s).mono fun _ _ h=>aI.pure (r:=ou p s) rfl h⟩
theorem PT{q:Int}{a:aa0}(ha:a.length≤1100000)(hq:l9.D5 a=q):l7 208 [stA a,stA [49]] (o9 (.num (q:Rat))):=by
 have h:=IZ (b:=[49]) ha O;have e:Rat.divInt (l9.D5 a) (l9.D5 [49])=(q:Rat):=by
  rw[hq,show l9.D5 [49]=1 by decide +kernel]
  exact GI q
 rwa [e]at h
theorem nU(t:Tr):l7 203 [o9 t] (o6 (decide (t.ob.kind=1∧t.ob.den=[49]))) :=
 uN (V8 func203 rfl (by kernel_rfl)) fun ok A n c w _ _=>a4J t.ob A n c w
theorem b1j(p s:aa0):l7 59 [y7 p s] (o9 (.sym p s)) :=
 ⟨V8 func59 rfl (by kernel_rfl),fun ok w vs ht hv=>by
  obtain⟨u,us,rfl,h1,rfl⟩:=hv;rw[h1.sy];exact (Nb w p s).mono fun _ _ h=>aI.pure (r:=ou p s) rfl h⟩
theorem PU{q:Int}{a:aa0}(ha:a.length≤1100000)(hq:l9.D5 a=q):l7 35 [stA a,stA [49]] (o9 (.num (q:Rat))):=by
 have h:=zU (b:=[49]) ha O;have e:Rat.divInt (l9.D5 a) (l9.D5 [49])=(q:Rat):=by
  rw[hq,show l9.D5 [49]=1 by decide +kernel]
  exact GI q
 rwa [e]at h
theorem nV(t:Tr):l7 90 [o9 t] (o6 (decide (t.ob.kind=1∧t.ob.den=[49]))) :=
 uN (V8 func90 rfl (by kernel_rfl)) fun ok A n c w _ _=>a4K t.ob A n c w
theorem yX(t:Tr):l7 119 [o9 t] (o6 (decide (t=o8))):=by
 have h:l7 119 [o9 t] (o6 (decide (t.ob.kind=2∧t.ob.sp=x8∧t.ob.sn=aQ))):=uN (V8 func119 rfl (by kernel_rfl)) fun ok A n c w _ _=>a6b t.ob A n c w
 refine h.b ?_;cases t with
 |sym p s =>
  by_cases hh:p=x8∧s=aQ
  ·obtain⟨rfl,rfl⟩:=hh;rw[UV ⟨rfl,rfl,rfl⟩,UV rfl]
  ·rw[WF (fun h=>hh ⟨h.2.1,h.2.2⟩),WF (fun h=>by cases h;exact hh ⟨rfl,rfl⟩)]
 |num q=>rw[WF (fun h=>absurd (show (1:Int)=2 from h.1) O),WF (fun h=>by cases h)]
 |txt q=>rw[WF (fun h=>absurd (show (3:Int)=2 from h.1) O),WF (fun h=>by cases h)]
 |cons a d=>rw[WF (fun h=>absurd (show (4:Int)=2 from h.1) O),WF (fun h=>by cases h)]
theorem wK{k:Nat}{t:Tr}(h:t.Ok k)(hk:k≤100000):l7 16 [o9 t] (o6 (decide (t=o8))) :=
 ⟨V8 func16 rfl (by kernel_rfl),fun ok w vs ht hv=>by
  obtain⟨A,n,c,rfl,hr⟩:=hv.zC;exact (VI ok t.ob (h.wf hk) A n c w hr).mono fun e w' h=>(jZ.iff (Tr.Dx (a:=t) (b:=o8)) h).pure⟩
def ae(l:aa0):Int×Bool:=if (l9.mag (norm l)).length≤9 then (l9.D5 l,true) else (0,false)
theorem XI{l:aa0}(hl:l.length≤2500000):l7 204 [stA l] (.o7 [inA (ae l).1,o6 (ae l).2]) :=
 ⟨V8 func204 rfl (by kernel_rfl),fun ok w vs ht hv=>by
  obtain rfl:=hv.iD;unfold ae;split
  ·rename_i h;refine (a6H l w hl h).mono ?_;rintro e w' ⟨rfl,h2⟩;exact⟨_,rfl,h2,_,rfl,_,_,rfl,.val _,_,_,rfl,.val _,rfl⟩
  ·rename_i h;refine (a7D l w hl J).mono ?_;rintro e w' ⟨rfl,h2⟩;exact⟨_,rfl,h2,_,rfl,_,_,rfl,.val _,_,_,rfl,.val _,rfl⟩⟩
theorem XJ{l:aa0}(hl:l.length≤2500000):l7 91 [stA l] (.o7 [inA (ae l).1,o6 (ae l).2]) :=
 ⟨V8 func91 rfl (by kernel_rfl),fun ok w vs ht hv=>by
  obtain rfl:=hv.iD;unfold ae;split
  ·rename_i h;refine (a5i l w hl h).mono ?_;rintro e w' ⟨rfl,h2⟩;exact⟨_,rfl,h2,_,rfl,_,_,rfl,.val _,_,_,rfl,.val _,rfl⟩
  ·rename_i h;refine (a5H l w hl J).mono ?_;rintro e w' ⟨rfl,h2⟩;exact⟨_,rfl,h2,_,rfl,_,_,rfl,.val _,_,_,rfl,.val _,rfl⟩⟩
theorem b3X{a b:aa0}(ha:a.length≤2400000)(hb:b.length≤2400000):l7 216 [stA a,stA b] (.o7 [stA (Lib.itoa (qd (l9.D5 a) (l9.D5 b))),stA (Lib.itoa (rm (l9.D5 a) (l9.D5 b)))]) :=
 ⟨V8 func216 rfl (by kernel_rfl),fun ok w vs ht hv=>by
  obtain⟨u,us,rfl,h1,h2⟩:=hv;obtain rfl:=RL.iD h2;rw[Rd.Z9 h1];refine (CE a b w ha hb ht.1).mono ?_;rintro e w' ⟨rfl,h2⟩;exact⟨_,rfl,h2,_,rfl,_,_,rfl,.val _,_,_,rfl,.val _,rfl⟩⟩
theorem b3Y{a b:aa0}(ha:a.length≤2400000)(hb:b.length≤2400000):l7 150 [stA a,stA b] (.o7 [stA (Lib.itoa (qd (l9.D5 a) (l9.D5 b))),stA (Lib.itoa (rm (l9.D5 a) (l9.D5 b)))]) :=
 ⟨V8 func150 rfl (by kernel_rfl),fun ok w vs ht hv=>by
  obtain⟨u,us,rfl,h1,h2⟩:=hv;obtain rfl:=RL.iD h2;rw[Rd.Z9 h1];refine (a6h a b w ha hb).mono ?_;rintro e w' ⟨rfl,h2⟩;exact⟨_,rfl,h2,_,rfl,_,_,rfl,.val _,_,_,rfl,.val _,rfl⟩⟩
theorem a0v{p s:aa0}(hp:p.length≤9223372036854775807)(hs:s.length≤9223372036854775807):l7 210 [y7 p s] (o6 (Y8 ⟨p,s⟩)) :=
 ⟨V8 func210 rfl (by kernel_rfl),fun ok w vs ht hv=>by
  obtain⟨u,us,rfl,h1,rfl⟩:=hv;rw[h1.sy];exact (a5m ⟨p,s⟩ w hp hs).mono fun _ _=>P6.pure⟩
theorem a0w{p s:aa0}(hp:p.length≤9223372036854775807)(hs:s.length≤9223372036854775807):l7 155 [y7 p s] (o6 (Y8 ⟨p,s⟩)) :=
 ⟨V8 func155 rfl (by kernel_rfl),fun ok w vs ht hv=>by
  obtain⟨u,us,rfl,h1,rfl⟩:=hv;rw[h1.sy];exact (UX ⟨p,s⟩ w hp hs).mono fun _ _=>P6.pure⟩
namespace Tr
abbrev tx(t:Tr):aa0:=t.ob.text
def O9:Tr→Bool
 |.txt _=>true
 |_=>false
def dE:Tr→Bool
 |.sym _ _=>true
 |_=>false
def J9:Tr→Bool
 |.num _=>true
 |_=>false
def aH:Tr→Bool
 |.num q=>decide (q.den=1)
 |_=>false
theorem eP(t:Tr):decide (t.ob.kind=1∧t.ob.den=[49])=t.aH:=by
 cases t with
 |num q =>
  have h:((ax q).den=[49])↔q.den=1:=by
   show Lib.itoa (q.den:Int)=[49]↔_;have:=GG (v:=(q.den:Int));constructor
   ·intro h;rw[h]at this;have h2:decide ((q.den:Int)=1)=true:=by rw[←this];rfl
    have:=Zad h2;omega
   ·intro h;rw[h];exact zi
  by_cases hq:q.den=1
  ·show decide ((1:Int)=1∧(ax q).den=[49])=decide (q.den=1);rw[UV hq,UV ⟨rfl,h.2 hq⟩]
  ·show decide ((1:Int)=1∧(ax q).den=[49])=decide (q.den=1);rw[WF hq,WF fun hh=>hq (h.1 hh.2)]
 |txt s=>exact WF fun h=>absurd (show (3:Int)=1 from h.1) O
 |sym p s=>exact WF fun h=>absurd (show (2:Int)=1 from h.1) O
 |cons a d=>exact WF fun h=>absurd (show (4:Int)=1 from h.1) O
def eG(x i:Tr):Option Int:=if x.O9 && i.aH && (ae i.ob.num).2 && decide (0≤(ae i.ob.num).1) && decide ((ae i.ob.num).1 < x.tx.length) then some (ae i.ob.num).1 else none
def dJ(x:Tr):Option Int:=if x.aH && (ae x.ob.num).2 && decide (0≤(ae x.ob.num).1) && decide ((ae x.ob.num).1≤255) then some (ae x.ob.num).1 else none
def Kq:Tr→Tr
 |.cons a _=>a
 |_=>o8
def Kr:Tr→Tr
 |.cons _ d=>d
 |_=>o8
def ap:Nat→Tr→Tr→Tr→Tr
 |0,x,y,z=>if x=o8 then z else y
 |1,x,y,_=>Z8 (decide (x=y))
 |2,x,y,_=>.cons x y
 |3,x,_,_=>x.Kq
 |4,x,_,_=>x.Kr
 |5,x,_,_=>Z8 x.isC
 |6,x,_,_=>Z8 x.dE
 |7,x,_,_=>Z8 x.O9
 |8,x,_,_=>Z8 x.J9
 |9,x,_,_=>Z8 x.aH
 |10,x,y,_=>.num (x.val+y.val)
 |11,x,y,_=>.num (x.val * y.val)
 |12,x,_,_=>.num (-x.val)
 |13,x,_,_=>.num x.val⁻¹
 |14,x,y,_=>Z8 (decide (x.val < y.val))
 |15,x,_,_=>.num (x.val.num:Rat)
 |16,x,_,_=>.num ((x.val.den:Int):Rat)
 |17,x,_,_=>.num ((qd x.val.num x.val.den:Int):Rat)
 |18,x,_,_=>.txt x.ob.sn
 |19,x,_,_=>.txt x.ob.sp
 |20,x,y,_=>if x.O9 && y.O9 && Y8 ⟨y.tx,x.tx⟩ then .sym y.tx x.tx else o8
 |21,x,y,_=>.txt (x.tx++y.tx)
 |22,x,_,_=>.num ((x.tx.length:Int):Rat)
 |23,x,y,_=>match eG x y with
  |some n=>.num ((x.tx.getD n.toNat 0).toNat:Int)
  |none=>o8
 |24,x,_,_=>match dJ x with
  |some n=>.txt [UInt8.ofNat n.toNat]
  |none=>.txt []
 |_,_,_,_=>o8
def kept'(t:Tr):Option Tr:=if t.valid then some t else none
def aY(i:Nat)(x y z:Tr):Option Tr:=if i=2∨i=10∨i=11∨i=21 then kept' (ap i x y z) else some (ap i x y z)
end Tr
theorem aP{t:Tr}(h:t.valid=true):Tr.kept' t=some t:=by unfold Tr.kept';rw[Za0 h]
theorem bJ{t:Tr}(h:t.valid=false):Tr.kept' t=none:=by unfold Tr.kept';rw[lw (by rw[h];simp)]
theorem Tr.Ok.Iy{k:Nat}{t:Tr}(h:t.Ok k)(hk:k≤100000):t.ob.num.length≤100001:=by
 cases t with
 |num q=>exact Za6 (Rb.rQ h) J
 |_=>exact ww _
theorem Tr.Ok.a0x{k:Nat}{t:Tr}(h:t.Ok k):t.tx.length≤100000:=by
 cases t with
 |txt q=>exact h
 |_=>exact ww _
theorem JF(t:Tr):decide (t.ob.kind=4)=t.isC:=by cases t <;> rfl
theorem RG(t:Tr):decide (t.ob.kind=2)=t.dE:=by cases t <;> rfl
theorem iG(t:Tr):decide (t.ob.kind=3)=t.O9:=by cases t <;> rfl
theorem RH(t:Tr):decide (t.ob.kind=1)=t.J9:=by cases t <;> rfl
theorem jT{P:Program}{t:TypeId}{x y:Operand}{k:IntKind}{a b:Int}{r:Bool}(h:decide (a=b)=!r):dS P .neq t x y (.int k a) (.int k b) (.bool r):=by
 refine kV ?_;simp only[lF,decide_true];rw[show (a != b)=!decide (a=b) by rw[bne,BA a b],h,Bool.not_not]
theorem XK{P:Program}{t:TypeId}{x y:Operand}{k:IntKind}{a b:Int}{r:Bool}(h:decide (a≤b)=r):dS P .leq t x y (.int k a) (.int k b) (.bool r):=by
 refine kV ?_;simp only[lF,decide_true];rw[h]
abbrev Kt(o:Ob):AV:=.pin ((D9 o).map .dt)
abbrev zO:Ob:=⟨0,[],[],[],[],[],[]⟩
abbrev U7(o:Option Tr):AV:=match o with
 |some t=>.o7 [o9 t,inA 0]
 |none=>.o7 [x9 zO,inA 2]
theorem l7.r{f:FuncId}{args:List AV}{a b:Option Tr}(h:l7 f args (U7 a))(e:a=b):l7 f args (U7 b):=e ▸ h
theorem wU(b:Bool):l7 172 [o6 b] (o9 (Z8 b)):=by
 cases b with
 |true=>exact pV [.av (o9 (.sym x8 [116]))] [_] func172 ⟨b5Q,Z⟩
 |false=>exact pV [.av (o9 o8)] [_] func172 ⟨nN,Z⟩
theorem wV(b:Bool):l7 147 [o6 b] (o9 (Z8 b)):=by
 cases b with
 |true=>exact pV [.av (o9 (.sym x8 [116]))] [_] func147 ⟨b5R,Z⟩
 |false=>exact pV [.av (o9 o8)] [_] func147 ⟨nO,Z⟩
theorem Ja(t:Tr):l7 215 [o9 t] (o9 (.num t.val)):=by
 cases t with
 |num q=>exact pV [] [] func215 trivial
 |txt s=>exact pV [.no,.av (o9 (.num ((0:Int):Rat)))] [l7 46 [(inA 0)] (o9 (Tr.num ↑0))] func215 ⟨zN 0 O O,Z⟩
 |sym p s=>exact pV [.no,.av (o9 (.num ((0:Int):Rat)))] [l7 46 [(inA 0)] (o9 (Tr.num ↑0))] func215 ⟨zN 0 O O,Z⟩
 |cons a d=>exact pV [.no,.av (o9 (.num ((0:Int):Rat)))] [l7 46 [(inA 0)] (o9 (Tr.num ↑0))] func215 ⟨zN 0 O O,Z⟩
theorem a8S(t:Tr):l7 212 [o9 t,inA 0] (o9 t.Kq):=by
 cases t with
 |num q=>exact pV [.no,.av (o9 o8)] [_] func212 ⟨nN,Z⟩
 |txt s=>exact pV [.no,.av (o9 o8)] [_] func212 ⟨nN,Z⟩
 |sym p s=>exact pV [.no,.av (o9 o8)] [_] func212 ⟨nN,Z⟩
 |cons a d=>exact pV [.no,.no,.no,.av (Kt a.ob)] [E5 (List.map Ob.enc (a.cons d).ob.pair) 0 7 (D9 a.ob)] func212 ⟨IM (l:=[a.ob,d.ob]) (i:=0) rfl,Z⟩
theorem a8T(t:Tr):l7 212 [o9 t,inA 1] (o9 t.Kr):=by
 cases t with
 |num q=>exact pV [.no,.av (o9 o8)] [_] func212 ⟨nN,Z⟩
 |txt s=>exact pV [.no,.av (o9 o8)] [_] func212 ⟨nN,Z⟩
 |sym p s=>exact pV [.no,.av (o9 o8)] [_] func212 ⟨nN,Z⟩
 |cons a d=>exact pV [.no,.no,.no,.av (Kt d.ob)] [E5 (List.map Ob.enc (a.cons d).ob.pair) 1 7 (D9 d.ob)] func212 ⟨IM (l:=[a.ob,d.ob]) (i:=1) rfl,Z⟩
theorem nX(t:Tr):l7 151 [o9 t] (stA t.tx):=by
 cases t with
 |num q=>exact pV [] [] func151 trivial
 |txt s=>exact pV [] [] func151 trivial
 |sym p s=>exact pV [] [] func151 trivial
 |cons a d=>exact pV [] [] func151 trivial
def xJ(x i:Tr):Int:=if x.O9 && i.aH then (ae i.ob.num).1 else 0
theorem XL{x i:Tr}{n:Int}(h:x.eG i=some n):xJ x i=n∧x.O9=true∧i.aH=true∧0≤n∧n < x.tx.length:=by
 unfold Tr.eG at h;split at h
 ·rename_i hc;simp only[AC,Za3]at hc;cases h;unfold xJ;rw[Za0 (by rw[hc.1.1.1.1,hc.1.1.1.2];rfl)];exact⟨rfl,hc.1.1.1.1,hc.1.1.1.2,hc.1.2,hc.2⟩
 ·cases h
theorem RI(x i:Tr):(x.eG i).isSome=(x.O9 && i.aH && (ae i.ob.num).2 && decide (0≤(ae i.ob.num).1) && decide ((ae i.ob.num).1 < x.tx.length)):=by
 unfold Tr.eG;split
 ·rename_i h;rw[h];rfl
 ·rename_i h;simp only[Bool.not_eq_true]at h;rw[h];rfl
theorem QI(x:Tr):(x.dJ).isSome=(x.aH && (ae x.ob.num).2 && decide (0≤(ae x.ob.num).1) && decide ((ae x.ob.num).1≤255)):=by
 unfold Tr.dJ;split
 ·rename_i h;rw[h];rfl
 ·rename_i h;simp only[Bool.not_eq_true]at h;rw[h];rfl
theorem a1I{k:Nat}(x:Tr){i:Tr}(hi:i.Ok k)(hk:k≤100000):l7 157 [o9 x,o9 i] (.o7 [inA (xJ x i),o6 (x.eG i).isSome]):=by
 rw[RI];cases x with
 |num q=>exact pV [] [] func157 trivial
 |sym p s=>exact pV [] [] func157 trivial
 |cons a d=>exact pV [] [] func157 trivial
 |txt s =>
  unfold xJ;cases hI:i.aH with
  |false=>exact pV [.no,yF] [l7 203 [(x9 i.ob)] (o6 false)] func157 ⟨(nU i).b ((Tr.eP i).trans hI),Z⟩
  |true =>
   have hs:=XI (l:=i.ob.num) (Za6 (hi.Iy hk) O);have ht:(Tr.txt s).tx=s:=rfl;rw[ht];generalize hp:ae i.ob.num=p at hs ⊢;obtain⟨n,b⟩:=p;cases b with
   |false=>exact pV [.no,yT,.av (.o7 [inA n,o6 false])] [l7 203 [(x9 i.ob)] (o6 true),_] func157 ⟨(nU i).b ((Tr.eP i).trans hI),hs,Z⟩
   |true =>
    by_cases h0:0≤n
    ·rw[UV h0];by_cases h1:n < s.length
     ·rw[UV h1];exact pV [.no,yT,.av (.o7 [inA n,o6 true]),yT,.no,yT] [l7 203 [(x9 i.ob)] (o6 true),_,Bk .geq 3 25 0 n bT,Bt .lss 3 29 32 n (↑{ data:=(Tr.txt s).ob.text.toArray:ByteArray }.data.toList.length) bT] func157 ⟨(nU i).b ((Tr.eP i).trans hI),hs,Z7 (UV h0),F8 (UV h1),Z⟩
     ·rw[WF h1];exact pV [.no,yT,.av (.o7 [inA n,o6 true]),yT,.no,yF] [l7 203 [(x9 i.ob)] (o6 true),_,Bk .geq 3 25 0 n bT,Bt .lss 3 29 32 n (↑{ data:=(Tr.txt s).ob.text.toArray:ByteArray }.data.toList.length) bF] func157 ⟨(nU i).b ((Tr.eP i).trans hI),hs,Z7 (UV h0),F8 (WF h1),Z⟩
    ·rw[WF h0];exact pV [.no,yT,.av (.o7 [inA n,o6 true]),yF] [l7 203 [(x9 i.ob)] (o6 true),_,Bk .geq 3 25 0 n bF] func157 ⟨(nU i).b ((Tr.eP i).trans hI),hs,Z7 (WF h0),Z⟩
def AX(x i:Tr):Int:=match x.eG i with
 |some n=>n
 |none=>0
theorem b3Z(x i:Tr):AX x i=if x.O9 && i.aH && (ae i.ob.num).2 && decide (0≤(ae i.ob.num).1) && decide ((ae i.ob.num).1 < x.tx.length) then (ae i.ob.num).1 else 0:=by
 unfold AX Tr.eG;split <;> rename_i h <;> split at h <;> first | (cases h;rename_i hc;rw[Za0 hc]) | (cases h;done) | (rename_i hc;rw[lw hc])
theorem b5S{k:Nat}(x:Tr){i:Tr}(hi:i.Ok k)(hk:k≤100000):l7 51 [o9 x,o9 i] (.o7 [inA (AX x i),o6 (x.eG i).isSome]):=by
 rw[b3Z,RI];cases x with
 |num q=>exact pV [] [] func51 trivial
 |sym p s=>exact pV [] [] func51 trivial
 |cons a d=>exact pV [] [] func51 trivial
 |txt s =>
  cases hI:i.aH with
  |false=>exact pV [.no,yF] [l7 90 [(x9 i.ob)] (o6 false)] func51 ⟨(nV i).b ((Tr.eP i).trans hI),Z⟩
  |true =>
   have hs:=XJ (l:=i.ob.num) (Za6 (hi.Iy hk) O);have ht:(Tr.txt s).tx=s:=rfl;rw[ht];generalize hp:ae i.ob.num=p at hs ⊢;obtain⟨n,b⟩:=p;cases b with
   |false=>exact pV [.no,yT,.av (.o7 [inA n,o6 false])] [l7 90 [(x9 i.ob)] (o6 true),_] func51 ⟨(nV i).b ((Tr.eP i).trans hI),hs,Z⟩
   |true =>
    by_cases h0:0≤n
    ·rw[UV h0];by_cases h1:n < s.length
     ·rw[UV h1];exact pV [.no,yT,.av (.o7 [inA n,o6 true]),yF,.no,yF] [l7 90 [(x9 i.ob)] (o6 true),_,Bk .lss 3 25 0 n bF,Bt .geq 3 29 32 n (↑{ data:=(Tr.txt s).ob.text.toArray:ByteArray }.data.toList.length) bF] func51 ⟨(nV i).b ((Tr.eP i).trans hI),hs,F8 (WF J),Z7 (b:=(s.length:Int)) (WF J),Z⟩
     ·rw[WF h1];exact pV [.no,yT,.av (.o7 [inA n,o6 true]),yF,.no,yT] [l7 90 [(x9 i.ob)] (o6 true),_,Bk .lss 3 25 0 n bF,Bt .geq 3 29 32 n (↑{ data:=(Tr.txt s).ob.text.toArray:ByteArray }.data.toList.length) bT] func51 ⟨(nV i).b ((Tr.eP i).trans hI),hs,F8 (WF J),Z7 (b:=(s.length:Int)) (UV J),Z⟩
    ·rw[WF h0];exact pV [.no,yT,.av (.o7 [inA n,o6 true]),yT] [l7 90 [(x9 i.ob)] (o6 true),_,Bk .lss 3 25 0 n bT] func51 ⟨(nV i).b ((Tr.eP i).trans hI),hs,F8 (UV J),Z⟩
theorem Zi{k:Nat}{x:Tr}(hx:x.Ok k)(hk:k≤100000):l7 164 [o9 x] (.o7 [.dt (.val (.int .u8 (IntKind.u8.wrap (ae x.ob.num).1))),o6 (x.dJ).isSome]):=by
 rw[QI];have hs:=XI (l:=x.ob.num) (Za6 (hx.Iy hk) O);generalize hp:ae x.ob.num=p at hs ⊢;obtain⟨n,b⟩:=p;cases hI:x.aH with
 |false=>exact pV [.av (.o7 [inA n,o6 b]),.no,yF] [_,l7 203 [(x9 x.ob)] (o6 false)] func164 ⟨hs,(nU x).b ((Tr.eP x).trans hI),Z⟩
 |true =>
  cases b with
  |false=>exact pV [.av (.o7 [inA n,o6 false]),.no,yT] [_,l7 203 [(x9 x.ob)] (o6 true)] func164 ⟨hs,(nU x).b ((Tr.eP x).trans hI),Z⟩
  |true =>
   by_cases h0:0≤n
   ·rw[UV h0];by_cases h1:n≤255
    ·rw[UV h1];exact pV [.av (.o7 [inA n,o6 true]),.no,yT,yT,yT] [_,l7 203 [(x9 x.ob)] (o6 true),Bk .geq 3 20 0 n bT,Bk .leq 3 24 255 n bT] func164 ⟨hs,(nU x).b ((Tr.eP x).trans hI),Z7 (UV h0),XK (UV h1),Z⟩
    ·rw[WF h1];exact pV [.av (.o7 [inA n,o6 true]),.no,yT,yT,yF] [_,l7 203 [(x9 x.ob)] (o6 true),Bk .geq 3 20 0 n bT,Bk .leq 3 24 255 n bF] func164 ⟨hs,(nU x).b ((Tr.eP x).trans hI),Z7 (UV h0),XK (WF h1),Z⟩
   ·rw[WF h0];exact pV [.av (.o7 [inA n,o6 true]),.no,yT,yF] [_,l7 203 [(x9 x.ob)] (o6 true),Bk .geq 3 20 0 n bF] func164 ⟨hs,(nU x).b ((Tr.eP x).trans hI),Z7 (WF h0),Z⟩
def FV(x:Tr):Int:=if x.aH && (ae x.ob.num).2 && decide (0≤(ae x.ob.num).1) && decide ((ae x.ob.num).1≤255) then IntKind.u8.wrap (ae x.ob.num).1 else 0
theorem b30{k:Nat}{x:Tr}(hx:x.Ok k)(hk:k≤100000):l7 52 [o9 x] (.o7 [.dt (.val (.int .u8 (FV x))),o6 (x.dJ).isSome]):=by
 rw[QI];unfold FV;have hs:=XJ (l:=x.ob.num) (Za6 (hx.Iy hk) O);generalize hp:ae x.ob.num=p at hs ⊢;obtain⟨n,b⟩:=p;cases hI:x.aH with
 |false=>exact pV [yF] [l7 90 [(x9 x.ob)] (o6 false)] func52 ⟨(nV x).b ((Tr.eP x).trans hI),Z⟩
 |true =>
  cases b with
  |false=>exact pV [yT,.av (.o7 [inA n,o6 false])] [l7 90 [(x9 x.ob)] (o6 true),_] func52 ⟨(nV x).b ((Tr.eP x).trans hI),hs,Z⟩
  |true =>
   by_cases h0:0≤n
   ·rw[UV h0];by_cases h1:n≤255
    ·rw[UV h1];exact pV [yT,.av (.o7 [inA n,o6 true]),yF,yF] [l7 90 [(x9 x.ob)] (o6 true),_,Bk .lss 3 18 0 n bF,Bk .gtr 3 22 255 n bF] func52 ⟨(nV x).b ((Tr.eP x).trans hI),hs,F8 (WF J),dA (WF J),Z⟩
    ·rw[WF h1];exact pV [yT,.av (.o7 [inA n,o6 true]),yF,yT] [l7 90 [(x9 x.ob)] (o6 true),_,Bk .lss 3 18 0 n bF,Bk .gtr 3 22 255 n bT] func52 ⟨(nV x).b ((Tr.eP x).trans hI),hs,F8 (WF J),dA (UV J),Z⟩
   ·rw[WF h0];exact pV [yT,.av (.o7 [inA n,o6 true]),yT] [l7 90 [(x9 x.ob)] (o6 true),_,Bk .lss 3 18 0 n bT] func52 ⟨(nV x).b ((Tr.eP x).trans hI),hs,F8 (UV J),Z⟩
theorem a7k{x y:Tr}{k:Nat}(hx:x.Ok k)(hy:y.Ok k):l7 171 [o9 x,o9 y] (o9 (Tr.ap 20 x y o8)):=by
 have lx:x.tx.length≤100000:=hx.a0x;have ly:y.tx.length≤100000:=hy.a0x;have e:Tr.ap 20 x y o8=if x.O9 && y.O9 && Y8 ⟨y.tx,x.tx⟩ then .sym y.tx x.tx else o8:=rfl
 rw[e];cases hX:x.O9 with
 |false=>exact pV [yT,.av (o9 o8)] [Bk .neq 3 12 3 x.ob.kind bT,_] func171 ⟨jT (by rw[iG,hX];rfl),nN,Z⟩
 |true =>
  cases hY:y.O9 with
  |false=>exact pV [yF,yT,.av (o9 o8)] [Bk .neq 3 12 3 x.ob.kind bF,Bk .neq 3 16 3 y.ob.kind bT,_] func171 ⟨jT (by rw[iG,hX];rfl),jT (by rw[iG,hY];rfl),nN,Z⟩
  |true =>
   cases hS:Y8 ⟨y.tx,x.tx⟩ with
   |false=>exact pV [yF,yF,yF,.av (o9 o8)] [Bk .neq 3 12 3 x.ob.kind bF,Bk .neq 3 16 3 y.ob.kind bF,l7 210 [(y7 y.ob.text x.ob.text)] (o6 false),_] func171 ⟨jT (by rw[iG,hX];rfl),jT (by rw[iG,hY];rfl),(a0v (p:=y.tx) (s:=x.tx) J J).b hS,nN,Z⟩
   |true=>exact pV [yF,yF,yT,.av (o9 (.sym y.tx x.tx))] [Bk .neq 3 12 3 x.ob.kind bF,Bk .neq 3 16 3 y.ob.kind bF,l7 210 [(y7 y.ob.text x.ob.text)] (o6 true),l7 82 [(y7 y.ob.text x.ob.text)] (o9 (Tr.sym y.tx x.tx))] func171 ⟨jT (by rw[iG,hX];rfl),jT (by rw[iG,hY];rfl),(a0v (p:=y.tx) (s:=x.tx) J J).b hS,b1i _ _,Z⟩
structure Arg (x:Tr):Prop where
 ok:x.Ok 120
 tx:x.tx.length≤40000
theorem Arg.rb{x:Tr}(h:Arg x):Rb 120 x.val:=h.ok.val O
theorem Arg.n{x:Tr}(h:Arg x):(Lib.itoa x.val.num).length≤121:=Rb.rQ h.rb
theorem Arg.d{x:Tr}(h:Arg x):(Lib.itoa (x.val.den:Int)).length≤121:=Rb.uS h.rb
theorem b5T{x:Tr}(h:Arg x):l7 216 [stA (ax x.val).num,stA (ax x.val).den] (.o7 [stA (Lib.itoa (qd x.val.num x.val.den)),stA (Lib.itoa (rm x.val.num x.val.den))]):=by
 have h1:=h.n;have h2:=h.d;have:=b3X (a:=(ax x.val).num) (b:=(ax x.val).den) (by show (Lib.itoa x.val.num).length≤_;omega) (by show (Lib.itoa (x.val.den:Int)).length≤_;omega);rw[show l9.D5 (ax x.val).num=x.val.num from l9.P9 _,show l9.D5 (ax x.val).den=(x.val.den:Int) from l9.P9 (x.val.den:Int)]at this
 exact this
theorem b5U{x:Tr}(h:Arg x):l7 150 [stA (ax x.val).num,stA (ax x.val).den] (.o7 [stA (Lib.itoa (qd x.val.num x.val.den)),stA (Lib.itoa (rm x.val.num x.val.den))]):=by
 have h1:=h.n;have h2:=h.d;have:=b3Y (a:=(ax x.val).num) (b:=(ax x.val).den) (by show (Lib.itoa x.val.num).length≤_;omega) (by show (Lib.itoa (x.val.den:Int)).length≤_;omega);rw[show l9.D5 (ax x.val).num=x.val.num from l9.P9 _,show l9.D5 (ax x.val).den=(x.val.den:Int) from l9.P9 (x.val.den:Int)]at this
 exact this
theorem a8U{q:Int}{k:Nat}(hk:1≤k)(h:q.natAbs < 10 ^ k):(Lib.itoa q).length≤k+1:=kQ _ hk h
theorem a1J{x:Tr}(h:Arg x):(qd x.val.num x.val.den).natAbs < 10 ^ 121:=by
 have h1:=h.rb.num;have hp:(0:Int) < x.val.den:=Int.natCast_pos.2 x.val.den_pos;unfold qd;rw[lw J,Za0 hp];have h2:(x.val.num / (x.val.den:Int)).natAbs≤x.val.num.natAbs:=Int.natAbs_ediv_le_natAbs _ _;exact Nat.lt_of_le_of_lt h2 (Zaa h1 (ZaF O O))
theorem a0y{x:Tr}(h:Arg x):(Lib.itoa (qd x.val.num x.val.den)).length≤1000:=Za6 (a8U O (a1J h)) O
theorem b1k{x:Tr}(_hx:Arg x):l7 174 [stA [99,97,114],o9 x] (o9 (Tr.ap 3 x o8 o8)) :=
 pV [.no,.av (o9 x.Kq)] [l7 212 [(x9 x.ob),(inA 0)] (x9 x.Kq.ob)] func174 ⟨a8S x,Z⟩
theorem b1l{x:Tr}(_hx:Arg x):l7 174 [stA [99,100,114],o9 x] (o9 (Tr.ap 4 x o8 o8)) :=
 pV [.no,.no,.av (o9 x.Kr)] [l7 212 [(x9 x.ob),(inA 1)] (x9 x.Kr.ob)] func174 ⟨a8T x,Z⟩
theorem b1m{x:Tr}(_hx:Arg x):l7 174 [stA [99,111,110,115,112],o9 x] (o9 (Tr.ap 5 x o8 o8)) :=
 pV [.no,.no,.no,.av (o6 x.isC),.av (o9 (Z8 x.isC))] [Bk .eql 3 21 4 x.ob.kind (Value.bool x.isC),l7 172 [(o6 x.isC)] (o9 (Z8 x.isC))] func174 ⟨F6 (JF x),wU _,Z⟩
theorem b1n{x:Tr}(_hx:Arg x):l7 174 [stA [115,121,109,98,111,108,112],o9 x] (o9 (Tr.ap 6 x o8 o8)) :=
 pV (nK 4 [.av (o6 x.dE),.av (o9 (Z8 x.dE))]) [Bk .eql 3 27 2 x.ob.kind (Value.bool x.dE),l7 172 [(o6 x.dE)] (o9 (Z8 x.dE))] func174 ⟨F6 (RG x),wU _,Z⟩
theorem b1o{x:Tr}(_hx:Arg x):l7 174 [stA [115,116,114,105,110,103,112],o9 x] (o9 (Tr.ap 7 x o8 o8)) :=
 pV (nK 5 [.av (o6 x.O9),.av (o9 (Z8 x.O9))]) [Bk .eql 3 33 3 x.ob.kind (Value.bool x.O9),l7 172 [(o6 x.O9)] (o9 (Z8 x.O9))] func174 ⟨F6 (iG x),wU _,Z⟩
theorem b1p{x:Tr}(_hx:Arg x):l7 174 [stA [114,97,116,105,111,110,97,108,112],o9 x] (o9 (Tr.ap 8 x o8 o8)) :=
 pV (nK 6 [.av (o6 x.J9),.av (o9 (Z8 x.J9))]) [Bk .eql 3 39 1 x.ob.kind (Value.bool x.J9),l7 172 [(o6 x.J9)] (o9 (Z8 x.J9))] func174 ⟨F6 (RH x),wU _,Z⟩
theorem b1q{x:Tr}(_hx:Arg x):l7 174 [stA [105,110,116,101,103,101,114,112],o9 x] (o9 (Tr.ap 9 x o8 o8)) :=
 pV (nK 7 [.av (o6 x.aH),.av (o9 (Z8 x.aH))]) [l7 203 [(x9 x.ob)] (o6 x.aH),l7 172 [(o6 x.aH)] (o9 (Z8 x.aH))] func174 ⟨(nU x).b (Tr.eP x),wU _,Z⟩
theorem a8V{x:Tr}(hx:Arg x):l7 174 [stA [117,110,97,114,121,45,45],o9 x] (o9 (Tr.ap 12 x o8 o8)) :=
 pV (nK 8 [.av (o9 (.num (-x.val)))]) [l7 213 [(x9 x.ob)] (x9 ((Tr.num (-x.val)).ob))] func174 ⟨b3U hx.ok O O,Z⟩
theorem a8W{x:Tr}(hx:Arg x):l7 174 [stA [117,110,97,114,121,45,47],o9 x] (o9 (Tr.ap 13 x o8 o8)) :=
 pV (nK 9 [.av (o9 (.num x.val⁻¹))]) [l7 214 [(x9 x.ob)] (x9 ((Tr.num x.val⁻¹).ob))] func174 ⟨b3V hx.ok O O,Z⟩
theorem a8X{x:Tr}(hx:Arg x):l7 174 [stA [110,117,109,101,114,97,116,111,114],o9 x] (o9 (Tr.ap 15 x o8 o8)) :=
 pV (nK 10 [.av (o9 (.num x.val)),.av (o9 (.num (x.val.num:Rat)))]) [l7 215 [(x9 x.ob)] (o9 (Tr.num x.val)),l7 208 [(stA (Tr.num x.val).ob.num),(stA [49])] (o9 (Tr.num ↑x.val.num))] func174 ⟨Ja x,PT (q:=x.val.num) (a:=(Tr.num x.val).ob.num) (by have:=hx.n;show (Lib.itoa x.val.num).length≤_;omega) (l9.P9 x.val.num),Z⟩
theorem a8Y{x:Tr}(hx:Arg x):l7 174 [stA [100,101,110,111,109,105,110,97,116,111,114],o9 x] (o9 (Tr.ap 16 x o8 o8)) :=
 pV (nK 11 [.av (o9 (.num x.val)),.av (o9 (.num ((x.val.den:Int):Rat)))]) [l7 215 [(x9 x.ob)] (o9 (Tr.num x.val)),l7 208 [(stA (Tr.num x.val).ob.den),(stA [49])] (o9 (Tr.num ↑↑x.val.den))] func174 ⟨Ja x,PT (q:=(x.val.den:Int)) (a:=(Tr.num x.val).ob.den) (by have:=hx.d;show (Lib.itoa (x.val.den:Int)).length≤_;omega) (l9.P9 (x.val.den:Int)),Z⟩
theorem a8Z{x:Tr}(hx:Arg x):l7 174 [stA [102,108,111,111,114],o9 x] (o9 (Tr.ap 17 x o8 o8)) :=
 pV (nK 12 [.av (o9 (.num x.val)),.av (o9 (.num x.val)),.av (.o7 [stA (Lib.itoa (qd x.val.num x.val.den)),stA (Lib.itoa (rm x.val.num x.val.den))]),.av (o9 (.num ((qd x.val.num x.val.den:Int):Rat)))]) [l7 215 [(x9 x.ob)] (o9 (Tr.num x.val)),l7 215 [(x9 x.ob)] (o9 (Tr.num x.val)),l7 216 [(stA (Tr.num x.val).ob.num),(stA (Tr.num x.val).ob.den)] (.o7 [(stA (Lib.itoa (qd x.val.num ↑x.val.den))),(stA (Lib.itoa (rm x.val.num ↑x.val.den)))]),l7 208 [(stA (Lib.itoa (qd x.val.num ↑x.val.den))),(stA [49])] (x9 ((Tr.num ↑(qd x.val.num ↑x.val.den)).ob))] func174 ⟨Ja x,Ja x,b5T hx,PT (a:=Lib.itoa (qd x.val.num x.val.den)) (by have:=a0y hx;omega) (l9.P9 _),Z⟩
theorem a81{x:Tr}(_hx:Arg x):l7 174 [stA [115,121,109,98,111,108,45,110,97,109,101],o9 x] (o9 (Tr.ap 18 x o8 o8)) :=
 pV (nK 13 [.av (o9 (.txt x.ob.sn))]) [l7 170 [(stA x.ob.sn)] (o9 (Tr.txt x.ob.sn))] func174 ⟨zF _,Z⟩
theorem a88{x:Tr}(_hx:Arg x):l7 174 [stA [115,121,109,98,111,108,45,112,97,99,107,97,103,101,45,110,97,109,101],o9 x] (o9 (Tr.ap 19 x o8 o8)) :=
 pV (nK 14 [.av (o9 (.txt x.ob.sp))]) [l7 170 [(stA x.ob.sp)] (o9 (Tr.txt x.ob.sp))] func174 ⟨zF _,Z⟩
theorem a9a{x:Tr}(hx:Arg x):l7 174 [stA [115,116,114,105,110,103,45,108,101,110,103,116,104],o9 x] (o9 (Tr.ap 22 x o8 o8)) :=
 pV (nK 16 [.av (o9 (.num ((x.tx.length:Int):Rat)))]) [l7 46 [(inA (x.ob.text.length:Int))] (o9 (Tr.num ↑↑x.tx.length))] func174 ⟨zN (x.tx.length:Int) J (by have:=hx.tx;omega),Z⟩
theorem Zj{x:Tr}(_hx:Arg x):l7 116 [stA [99,111,110,115,112],o9 x] (o9 (Tr.ap 5 x o8 o8)) :=
 pV [.av (o9 (.num x.val)),.no,.no,.no,.av (o6 x.isC),.av (o9 (Z8 x.isC))] [l7 146 [(x9 x.ob)] (o9 (Tr.num x.val)),Bk .eql 3 33 4 x.ob.kind (Value.bool x.isC),l7 147 [(o6 x.isC)] (o9 (Z8 x.isC))] func116 ⟨bU x,F6 (JF x),wV _,Z⟩
theorem Zk{x:Tr}(_hx:Arg x):l7 116 [stA [115,121,109,98,111,108,112],o9 x] (o9 (Tr.ap 6 x o8 o8)) :=
 pV (.av (o9 (.num x.val))::nK 4 [.av (o6 x.dE),.av (o9 (Z8 x.dE))]) [l7 146 [(x9 x.ob)] (o9 (Tr.num x.val)),Bk .eql 3 39 2 x.ob.kind (Value.bool x.dE),l7 147 [(o6 x.dE)] (o9 (Z8 x.dE))] func116 ⟨bU x,F6 (RG x),wV _,Z⟩
theorem Zl{x:Tr}(_hx:Arg x):l7 116 [stA [115,116,114,105,110,103,112],o9 x] (o9 (Tr.ap 7 x o8 o8)) :=
 pV (.av (o9 (.num x.val))::nK 5 [.av (o6 x.O9),.av (o9 (Z8 x.O9))]) [l7 146 [(x9 x.ob)] (o9 (Tr.num x.val)),Bk .eql 3 45 3 x.ob.kind (Value.bool x.O9),l7 147 [(o6 x.O9)] (o9 (Z8 x.O9))] func116 ⟨bU x,F6 (iG x),wV _,Z⟩
theorem Zm{x:Tr}(_hx:Arg x):l7 116 [stA [114,97,116,105,111,110,97,108,112],o9 x] (o9 (Tr.ap 8 x o8 o8)) :=
 pV (.av (o9 (.num x.val))::nK 6 [.av (o6 x.J9),.av (o9 (Z8 x.J9))]) [l7 146 [(x9 x.ob)] (o9 (Tr.num x.val)),Bk .eql 3 51 1 x.ob.kind (Value.bool x.J9),l7 147 [(o6 x.J9)] (o9 (Z8 x.J9))] func116 ⟨bU x,F6 (RH x),wV _,Z⟩
theorem Zn{x:Tr}(_hx:Arg x):l7 116 [stA [105,110,116,101,103,101,114,112],o9 x] (o9 (Tr.ap 9 x o8 o8)) :=
 pV (.av (o9 (.num x.val))::nK 7 [.av (o6 x.aH),.av (o9 (Z8 x.aH))]) [l7 146 [(x9 x.ob)] (o9 (Tr.num x.val)),l7 90 [(x9 x.ob)] (o6 x.aH),l7 147 [(o6 x.aH)] (o9 (Z8 x.aH))] func116 ⟨bU x,(nV x).b (Tr.eP x),wV _,Z⟩
theorem XM{x:Tr}(hx:Arg x):l7 116 [stA [117,110,97,114,121,45,45],o9 x] (o9 (Tr.ap 12 x o8 o8)) :=
 pV (.av (o9 (.num x.val))::nK 8 [.av (o9 (.num (-x.val)))]) [l7 146 [(x9 x.ob)] (o9 (Tr.num x.val)),l7 148 [(x9 x.ob)] (x9 ((Tr.num (-x.val)).ob))] func116 ⟨bU x,b3S hx.ok O O,Z⟩
theorem XN{x:Tr}(hx:Arg x):l7 116 [stA [117,110,97,114,121,45,47],o9 x] (o9 (Tr.ap 13 x o8 o8)) :=
 pV (.av (o9 (.num x.val))::nK 9 [.av (o9 (.num x.val⁻¹))]) [l7 146 [(x9 x.ob)] (o9 (Tr.num x.val)),l7 149 [(x9 x.ob)] (x9 ((Tr.num x.val⁻¹).ob))] func116 ⟨bU x,b3T hx.ok O O,Z⟩
theorem XO{x:Tr}(hx:Arg x):l7 116 [stA [110,117,109,101,114,97,116,111,114],o9 x] (o9 (Tr.ap 15 x o8 o8)) :=
 pV (.av (o9 (.num x.val))::nK 10 [.av (o9 (.num (x.val.num:Rat)))]) [l7 146 [(x9 x.ob)] (o9 (Tr.num x.val)),l7 35 [(stA (Tr.num x.val).ob.num),(stA [49])] (o9 (Tr.num ↑x.val.num))] func116 ⟨bU x,PU (q:=x.val.num) (a:=(Tr.num x.val).ob.num) (by have:=hx.n;show (Lib.itoa x.val.num).length≤_;omega) (l9.P9 x.val.num),Z⟩
theorem XP{x:Tr}(hx:Arg x):l7 116 [stA [100,101,110,111,109,105,110,97,116,111,114],o9 x] (o9 (Tr.ap 16 x o8 o8)) :=
 pV (.av (o9 (.num x.val))::nK 11 [.av (o9 (.num ((x.val.den:Int):Rat)))]) [l7 146 [(x9 x.ob)] (o9 (Tr.num x.val)),l7 35 [(stA (Tr.num x.val).ob.den),(stA [49])] (o9 (Tr.num ↑↑x.val.den))] func116 ⟨bU x,PU (q:=(x.val.den:Int)) (a:=(Tr.num x.val).ob.den) (by have:=hx.d;show (Lib.itoa (x.val.den:Int)).length≤_;omega) (l9.P9 (x.val.den:Int)),Z⟩
theorem XQ{x:Tr}(hx:Arg x):l7 116 [stA [102,108,111,111,114],o9 x] (o9 (Tr.ap 17 x o8 o8)) :=
 pV (.av (o9 (.num x.val))::nK 12 [.av (.o7 [stA (Lib.itoa (qd x.val.num x.val.den)),stA (Lib.itoa (rm x.val.num x.val.den))]),.av (o9 (.num ((qd x.val.num x.val.den:Int):Rat)))]) [l7 146 [(x9 x.ob)] (o9 (Tr.num x.val)),l7 150 [(stA (Tr.num x.val).ob.num),(stA (Tr.num x.val).ob.den)] (.o7 [(stA (Lib.itoa (qd x.val.num ↑x.val.den))),(stA (Lib.itoa (rm x.val.num ↑x.val.den)))]),l7 35 [(stA (Lib.itoa (qd x.val.num ↑x.val.den))),(stA [49])] (x9 ((Tr.num ↑(qd x.val.num ↑x.val.den)).ob))] func116 ⟨bU x,b5U hx,PU (a:=Lib.itoa (qd x.val.num x.val.den)) (by have:=a0y hx;omega) (l9.P9 _),Z⟩
theorem XR{x:Tr}(_hx:Arg x):l7 116 [stA [115,121,109,98,111,108,45,110,97,109,101],o9 x] (o9 (Tr.ap 18 x o8 o8)) :=
 pV (.av (o9 (.num x.val))::nK 13 [.av (o9 (.txt x.ob.sn))]) [l7 146 [(x9 x.ob)] (o9 (Tr.num x.val)),l7 68 [(stA x.ob.sn)] (o9 (Tr.txt x.ob.sn))] func116 ⟨bU x,zD _,Z⟩
theorem XT{x:Tr}(_hx:Arg x):l7 116 [stA [115,121,109,98,111,108,45,112,97,99,107,97,103,101,45,110,97,109,101],o9 x] (o9 (Tr.ap 19 x o8 o8)) :=
 pV (.av (o9 (.num x.val))::nK 14 [.av (o9 (.txt x.ob.sp))]) [l7 146 [(x9 x.ob)] (o9 (Tr.num x.val)),l7 68 [(stA x.ob.sp)] (o9 (Tr.txt x.ob.sp))] func116 ⟨bU x,zD _,Z⟩
theorem XU{x:Tr}(hx:Arg x):l7 116 [stA [115,116,114,105,110,103,45,108,101,110,103,116,104],o9 x] (o9 (Tr.ap 22 x o8 o8)) :=
 pV (.av (o9 (.num x.val))::nK 15 [.av (stA x.tx),.no,.av (o9 (.num ((x.tx.length:Int):Rat)))]) [l7 146 [(x9 x.ob)] (o9 (Tr.num x.val)),l7 151 [(x9 x.ob)] (stA x.tx),l7 12 [(inA (x.tx.length:Int))] (o9 (Tr.num ↑↑x.tx.length))] func116 ⟨bU x,nX x,zQ (x.tx.length:Int) J (by have:=hx.tx;omega),Z⟩
theorem WU{x:Tr}{n:Int}(h:x.dJ=some n):(ae x.ob.num).1=n∧FV x=IntKind.u8.wrap n∧0≤n∧n≤255:=by
 unfold Tr.dJ at h;split at h
 ·rename_i hc;unfold FV;rw[Za0 hc];simp only[AC,Za3]at hc;cases h;exact⟨rfl,rfl,hc.1.2,hc.2⟩
 ·cases h
theorem a2P{n:Int}(h0:0≤n)(h1:n≤255):IntKind.u8.wrap n=((UInt8.ofNat n.toNat).toNat:Int):=by
 have e:(UInt8.ofNat n.toNat).toNat=n.toNat:=by
  rw[UInt8.toNat_ofNat'];omega
 rw[e,show IntKind.u8.wrap n=n from by
  show (n % 256)=n;omega]
 omega
theorem a0z{x:Tr}(h:x.dJ=none):Tr.ap 24 x o8 o8=.txt []:=by
 show (match x.dJ with | some n=>Tr.txt [UInt8.ofNat n.toNat] | none=>Tr.txt [])=_;rw[h]
theorem a0A{x:Tr}{n:Int}(h:x.dJ=some n):Tr.ap 24 x o8 o8=.txt [UInt8.ofNat n.toNat]:=by
 show (match x.dJ with | some n=>Tr.txt [UInt8.ofNat n.toNat] | none=>Tr.txt [])=_;rw[h]
theorem uI(x:Tr):l7 102 [o9 x] (o6 x.isC):=by
 cases x with
 |num q=>exact (yV (Tr.num q).ob (ww _)).b (WF fun h=>absurd (show (1:Int)=4 from h.1) O)
 |txt q=>exact (yV (Tr.txt q).ob (ww _)).b (WF fun h=>absurd (show (3:Int)=4 from h.1) O)
 |sym p s=>exact (yV (Tr.sym p s).ob (ww _)).b (WF fun h=>absurd (show (2:Int)=4 from h.1) O)
 |cons a d=>exact (yV (Tr.cons a d).ob (show (2:Nat)≤_ by decide)).b (UV ⟨rfl,rfl⟩)
theorem a9b{x:Tr}(hx:Arg x):l7 174 [stA [98,121,116,101,45,115,116,114,105,110,103],o9 x] (o9 (Tr.ap 24 x o8 o8)):=by
 have hc:=Zi hx.ok O;cases ho:x.dJ with
 |none =>
  rw[a0z ho];rw[ho]at hc;exact pV (nK 15 [.av (.o7 [.dt (.val (.int .u8 (IntKind.u8.wrap (ae x.ob.num).1))),o6 false]),.av (o9 (.txt []))]) [_,l7 170 [(stA [])] (o9 (Tr.txt []))] func174 ⟨hc,zF [],Z⟩
 |some n =>
  obtain⟨h1,h3,h0,h2⟩:=WU ho;rw[a0A ho];rw[ho,h1]at hc;exact pV (nK 15 [.av (.o7 [.dt (.val (.int .u8 (IntKind.u8.wrap n))),o6 true]),.av (stA [UInt8.ofNat n.toNat]),.av (o9 (.txt [UInt8.ofNat n.toNat]))]) [_,[[Dt.val (Value.int IntKind.u8 (IntKind.u8.wrap n))]]=[[Dt.val (Value.int IntKind.u8 ((UInt8.ofNat n.toNat).toNat:Int))]],l7 170 [(stA [UInt8.ofNat n.toNat])] (o9 (Tr.txt [UInt8.ofNat n.toNat]))] func174 ⟨hc,by rw[a2P h0 h2],zF _,Z⟩
theorem XV{x:Tr}(hx:Arg x):l7 116 [stA [98,121,116,101,45,115,116,114,105,110,103],o9 x] (o9 (Tr.ap 24 x o8 o8)):=by
 have hc:=b30 hx.ok O;cases ho:x.dJ with
 |none =>
  rw[a0z ho];rw[ho]at hc;exact pV (.av (o9 (.num x.val))::nK 16 [.av (.o7 [.dt (.val (.int .u8 (FV x))),o6 false]),.av (o9 (.txt []))]) [l7 146 [(x9 x.ob)] (o9 (Tr.num x.val)),_,l7 68 [(stA [])] (o9 (Tr.txt []))] func116 ⟨bU x,hc,zD [],Z⟩
 |some n =>
  obtain⟨h1,h3,h0,h2⟩:=WU ho;rw[a0A ho];rw[ho,h3]at hc;exact pV (.av (o9 (.num x.val))::nK 16 [.av (.o7 [.dt (.val (.int .u8 (IntKind.u8.wrap n))),o6 true]),.av (stA [UInt8.ofNat n.toNat]),.av (o9 (.txt [UInt8.ofNat n.toNat]))]) [l7 146 [(x9 x.ob)] (o9 (Tr.num x.val)),_,[[Dt.val (Value.int IntKind.u8 (IntKind.u8.wrap n))]]=[[Dt.val (Value.int IntKind.u8 ((UInt8.ofNat n.toNat).toNat:Int))]],l7 68 [(stA [UInt8.ofNat n.toNat])] (o9 (Tr.txt [UInt8.ofNat n.toNat]))] func116 ⟨bU x,hc,by rw[a2P h0 h2],zD _,Z⟩
theorem Zo{x:Tr}(_:Arg x):l7 116 [stA [99,97,114],o9 x] (o9 (Tr.ap 3 x o8 o8)):=by
 cases x with
 |num q=>exact pV [.av (o9 (.num (Tr.val (.num q)))),.no,.av (o6 (Tr.isC (.num q))),.av (o9 o8)] [l7 146 [(o9 (Tr.num q))] (x9 ((Tr.num (Tr.num q).val).ob)),l7 102 [(o9 (Tr.num q))] (o6 false),_] func116 ⟨bU _,uI _,nO,Z⟩
 |txt q=>exact pV [.av (o9 (.num (Tr.val (.txt q)))),.no,.av (o6 (Tr.isC (.txt q))),.av (o9 o8)] [l7 146 [(o9 (Tr.txt q))] (x9 ((Tr.num (Tr.txt q).val).ob)),l7 102 [(o9 (Tr.txt q))] (o6 false),_] func116 ⟨bU _,uI _,nO,Z⟩
 |sym p s=>exact pV [.av (o9 (.num (Tr.val (.sym p s)))),.no,.av (o6 (Tr.isC (.sym p s))),.av (o9 o8)] [l7 146 [(o9 (Tr.sym p s))] (x9 ((Tr.num (Tr.sym p s).val).ob)),l7 102 [(o9 (Tr.sym p s))] (o6 false),_] func116 ⟨bU _,uI _,nO,Z⟩
 |cons a d=>exact pV [.av (o9 (.num (Tr.val (.cons a d)))),.no,.av (o6 (Tr.isC (.cons a d))),.no,.av (Kt a.ob)] [l7 146 [(o9 (a.cons d))] (x9 ((Tr.num (a.cons d).val).ob)),l7 102 [(o9 (a.cons d))] (o6 true),E5 (List.map Ob.enc (a.cons d).ob.pair) 0 7 (D9 a.ob)] func116 ⟨bU _,uI _,IM (l:=[a.ob,d.ob]) (i:=0) rfl,Z⟩
theorem Zp{x:Tr}(_:Arg x):l7 116 [stA [99,100,114],o9 x] (o9 (Tr.ap 4 x o8 o8)):=by
 cases x with
 |num q=>exact pV [.av (o9 (.num (Tr.val (.num q)))),.no,.no,.av (o6 (Tr.isC (.num q))),.av (o9 o8)] [l7 146 [(o9 (Tr.num q))] (x9 ((Tr.num (Tr.num q).val).ob)),l7 102 [(o9 (Tr.num q))] (o6 false),_] func116 ⟨bU _,uI _,nO,Z⟩
 |txt q=>exact pV [.av (o9 (.num (Tr.val (.txt q)))),.no,.no,.av (o6 (Tr.isC (.txt q))),.av (o9 o8)] [l7 146 [(o9 (Tr.txt q))] (x9 ((Tr.num (Tr.txt q).val).ob)),l7 102 [(o9 (Tr.txt q))] (o6 false),_] func116 ⟨bU _,uI _,nO,Z⟩
 |sym p s=>exact pV [.av (o9 (.num (Tr.val (.sym p s)))),.no,.no,.av (o6 (Tr.isC (.sym p s))),.av (o9 o8)] [l7 146 [(o9 (Tr.sym p s))] (x9 ((Tr.num (Tr.sym p s).val).ob)),l7 102 [(o9 (Tr.sym p s))] (o6 false),_] func116 ⟨bU _,uI _,nO,Z⟩
 |cons a d=>exact pV [.av (o9 (.num (Tr.val (.cons a d)))),.no,.no,.av (o6 (Tr.isC (.cons a d))),.no,.av (Kt d.ob)] [l7 146 [(o9 (a.cons d))] (x9 ((Tr.num (a.cons d).val).ob)),l7 102 [(o9 (a.cons d))] (o6 true),E5 (List.map Ob.enc (a.cons d).ob.pair) 1 7 (D9 d.ob)] func116 ⟨bU _,uI _,IM (l:=[a.ob,d.ob]) (i:=1) rfl,Z⟩
theorem Zq{x y:Tr}(hx:Arg x)(_hy:Arg y):l7 117 [stA [101,113,117,97,108],o9 x,o9 y] (o9 (Tr.ap 1 x y o8)):=pV [.no,.av (o6 (decide (x=y))),.av (o9 (Z8 (decide (x=y))))] [l7 50 [(x9 x.ob),(x9 y.ob)] (o6 (decide (x=y))),l7 147 [(o6 (decide (x=y)))] (x9 ((Z8 (decide (x=y))).ob))] func117 ⟨b47 y hx.ok O,wV _,Z⟩
theorem Zr{x y:Tr}(_hx:Arg x)(_hy:Arg y):l7 117 [stA [99,111,110,115],o9 x,o9 y] (o9 (Tr.ap 2 x y o8)):=pV [.no,.no,.av (o9 (.cons x y))] [l7 69 [(x9 x.ob),(x9 y.ob)] (o9 (x.cons y))] func117 ⟨Ik x.ob y.ob,Z⟩
theorem XW{x y:Tr}(hx:Arg x)(hy:Arg y):l7 117 [stA [98,105,110,97,114,121,45,43],o9 x,o9 y] (o9 (Tr.ap 10 x y o8)):=pV [.no,.no,.no,.av (o9 (.num (x.val+y.val)))] [l7 152 [(x9 x.ob),(x9 y.ob)] (x9 ((Tr.num (x.val+y.val)).ob))] func117 ⟨b3W hx.ok hy.ok O O,Z⟩
theorem XX{x y:Tr}(hx:Arg x)(hy:Arg y):l7 117 [stA [98,105,110,97,114,121,45,42],o9 x,o9 y] (o9 (Tr.ap 11 x y o8)):=pV (nK 4 [.av (o9 (.num (x.val * y.val)))]) [l7 153 [(x9 x.ob),(x9 y.ob)] (x9 ((Tr.num (x.val * y.val)).ob))] func117 ⟨b1h hx.ok hy.ok O O,Z⟩
theorem XY{x y:Tr}(hx:Arg x)(hy:Arg y):l7 117 [stA [60],o9 x,o9 y] (o9 (Tr.ap 14 x y o8)):=pV (nK 5 [.av (o6 (decide (x.val < y.val))),.av (o9 (Z8 (decide (x.val < y.val))))]) [l7 154 [(x9 x.ob),(x9 y.ob)] (o6 (decide (x.val < y.val))),l7 147 [(o6 (decide (x.val < y.val)))] (x9 ((Z8 (decide (x.val < y.val))).ob))] func117 ⟨a8k hx.ok hy.ok O O,wV _,Z⟩
theorem XZ{x y:Tr}(hx:Arg x)(hy:Arg y):l7 117 [stA [115,116,114,105,110,103,45,97,112,112,101,110,100],o9 x,o9 y] (o9 (Tr.ap 21 x y o8)):=pV (nK 7 [.av (stA x.tx),.av (stA y.tx),.av (stA (x.tx++y.tx)),.av (o9 (.txt (x.tx++y.tx)))]) [l7 151 [(x9 x.ob)] (stA x.tx),l7 151 [(x9 y.ob)] (stA y.tx),Bs .add 9 64 66 x.tx y.tx (str (x.tx++y.tx)),l7 68 [(stA (x.tx++y.tx))] (x9 ((Tr.txt (x.tx++y.tx)).ob))] func117 ⟨nX x,nX y,Hz (a:=x.tx) (b:=y.tx) (by have:=hx.tx;have:=hy.tx;omega),zD _,Z⟩
theorem Ya{x y:Tr}(hx:Arg x)(hy:Arg y):l7 117 [stA [105,110,116,101,114,110],o9 x,o9 y] (o9 (Tr.ap 20 x y o8)):=by
 have lx:x.tx.length≤40000:=hx.tx;have ly:y.tx.length≤40000:=hy.tx;have e:Tr.ap 20 x y o8=if x.O9 && y.O9 && Y8 ⟨y.tx,x.tx⟩ then .sym y.tx x.tx else o8:=rfl
 rw[e];cases hX:x.O9 with
 |false=>exact pV (nK 6 [.av (stA y.tx),.av (stA x.tx),yT,.av (o9 o8)]) [l7 151 [(x9 y.ob)] (stA y.tx),l7 151 [(x9 x.ob)] (stA x.tx),Bk .neq 3 46 3 x.ob.kind bT,_] func117 ⟨nX y,nX x,jT (by rw[iG,hX];rfl),nO,Z⟩
 |true =>
  cases hY:y.O9 with
  |false=>exact pV (nK 6 [.av (stA y.tx),.av (stA x.tx),yF,yT,.av (o9 o8)]) [l7 151 [(x9 y.ob)] (stA y.tx),l7 151 [(x9 x.ob)] (stA x.tx),Bk .neq 3 46 3 x.ob.kind bF,Bk .neq 3 50 3 y.ob.kind bT,_] func117 ⟨nX y,nX x,jT (by rw[iG,hX];rfl),jT (by rw[iG,hY];rfl),nO,Z⟩
  |true =>
   cases hS:Y8 ⟨y.tx,x.tx⟩ with
   |false=>exact pV (nK 6 [.av (stA y.tx),.av (stA x.tx),yF,yF,yF,.av (o9 o8)]) [l7 151 [(x9 y.ob)] (stA y.tx),l7 151 [(x9 x.ob)] (stA x.tx),Bk .neq 3 46 3 x.ob.kind bF,Bk .neq 3 50 3 y.ob.kind bF,l7 155 [(y7 y.tx x.tx)] (o6 false),_] func117 ⟨nX y,nX x,jT (by rw[iG,hX];rfl),jT (by rw[iG,hY];rfl),(a0w (p:=y.tx) (s:=x.tx) J J).b hS,nO,Z⟩
   |true=>exact pV (nK 6 [.av (stA y.tx),.av (stA x.tx),yF,yF,yT,.av (o9 (.sym y.tx x.tx))]) [l7 151 [(x9 y.ob)] (stA y.tx),l7 151 [(x9 x.ob)] (stA x.tx),Bk .neq 3 46 3 x.ob.kind bF,Bk .neq 3 50 3 y.ob.kind bF,l7 155 [(y7 y.tx x.tx)] (o6 true),l7 59 [(y7 y.tx x.tx)] (o9 (Tr.sym y.tx x.tx))] func117 ⟨nX y,nX x,jT (by rw[iG,hX];rfl),jT (by rw[iG,hY];rfl),(a0w (p:=y.tx) (s:=x.tx) J J).b hS,b1j _ _,Z⟩
theorem a0B{x y:Tr}(h:x.eG y=none):Tr.ap 23 x y o8=o8:=by
 show (match x.eG y with | some n=>Tr.num (((x.tx.getD n.toNat 0).toNat:Int):Rat) | none=>o8)=_;rw[h]
theorem a0C{x y:Tr}{n:Int}(h:x.eG y=some n):Tr.ap 23 x y o8=.num (((x.tx.getD n.toNat 0).toNat:Int):Rat):=by
 show (match x.eG y with | some n=>Tr.num (((x.tx.getD n.toNat 0).toNat:Int):Rat) | none=>o8)=_;rw[h]
theorem a9c{x i:Tr}{n:Int}(h:x.eG i=some n):AX x i=n:=by unfold AX;rw[h]
theorem Zt{l:aa0}{n:Int}(h0:0≤n)(h1:n < l.length):l[n.toNat]?=some (l.getD n.toNat 0):=by
 have h:n.toNat < l.length:=J;rw[bi,Za2 h];rfl
theorem Zu(b:UInt8):IntKind.i64.wrap (b.toNat:Int)=(b.toNat:Int):=by have:=b.toNat_lt;rw[IntKind.wrap_i64];omega
theorem Yb{x y:Tr}(_hx:Arg x)(hy:Arg y):l7 117 [stA [115,116,114,105,110,103,45,98,121,116,101],o9 x,o9 y] (o9 (Tr.ap 23 x y o8)):=by
 have hi:=b5S x hy.ok O;cases ho:x.eG y with
 |none =>
  rw[a0B ho];rw[ho]at hi;exact pV (nK 8 [.av (.o7 [inA (AX x y),o6 false]),.av (o9 o8)]) [_,_] func117 ⟨hi,nO,Z⟩
 |some n =>
  obtain⟨_,_,_,h0,h1⟩:=XL ho;rw[a0C ho];rw[ho,a9c ho]at hi;generalize hb:x.tx.getD n.toNat 0=b;have hg:=Zt h0 h1;rw[hb]at hg;have:=b.toNat_lt;exact pV (nK 8 [.av (.o7 [inA n,o6 true]),.av (.dt (.val (.int .u8 b.toNat))),.av (inA b.toNat),.av (o9 (.num ((b.toNat:Int):Rat)))]) [_,jL ({ data:=x.ob.text.toArray:ByteArray }) n (Value.int .u8 ↑b.toNat),(vi ↑b.toNat)=(vi (IntKind.i64.wrap ↑b.toNat)),l7 12 [(inA ↑b.toNat)] (o9 (Tr.num ↑↑b.toNat))] func117 ⟨hi,⟨b,h0,by rw[NH];exact hg,rfl⟩,by rw[Zu],zQ _ J J,Z⟩
end Go.Proofs.YthhknjlmjefklaaGreatDoor
