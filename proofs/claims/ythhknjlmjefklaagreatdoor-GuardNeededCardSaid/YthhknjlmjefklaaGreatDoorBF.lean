/- lispproverref1.Divide, Gcd, Reduce. -/
import Derived.Test.YthhknjlmjefklaaGreatDoorBE
import Derived.Test.YthhknjlmjefklaaGreatDoorBD
import Derived.Deep.RegionHeld3
import Derived.Test.YthhknjlmjefklaaGreatDoorBB
set_option maxRecDepth 100000
set_option maxHeartbeats 4000000
namespace Go.Proofs.YthhknjlmjefklaaGreatDoor
open Tryz
open Go.RowKit
theorem CG{x:Int}{n:Nat}(h:(l9.limbs 10 x.natAbs).length=n):n=0↔x=0:=by
 subst h;constructor
 ·intro h;have:=(l9.qR (B:=10) J).1 (Za9 h);omega
 ·rintro rfl;rfl
theorem a5E{v n:Nat}(h:(l9.limbs 10 v).length=n)(h0:n≠0):0 < v:=by
 rcases Zas v with e | e
 ·subst e;rw[l9.wE]at h;simp at h;omega
 ·exact e
theorem Gw{a b n:Nat}(h:(l9.limbs 10 a).length=n):(l9.limbs 10 (a / b)).length≤n:=by
 rw[←h];exact l9.cu J (Nat.div_le_self a b)
theorem MW{a b n:Nat}(hb:0 < b)(h:(l9.limbs 10 b).length=n):(l9.limbs 10 (a % b)).length≤n:=by
 rw[←h];exact l9.cu J (Nat.le_of_lt (Nat.mod_lt a hb))
theorem zk(ng:Bool)(A:Option Addr)(n c v:Nat)(l:aa0)(w:World)(hx:Sl w .i64 A n c (l9.limbs 10 v))(hn:n≤100000000)(hv:dF ng v=l) :
  Calls prog 108 #[.bool ng,.slice A n c] w (dG l w):=by
 have:=BO ng A n c _ w hx hn (l9.Q4 J v);rw[l9.L8 J,hv]at this;exact this
theorem a5F(a b:aa0)(w:World)(ha:a.length≤2400000)(hb:b.length≤2400000)(hy0:l9.D5 b=0) :
  Calls prog 150 #[.string ⟨a.toArray⟩,.string ⟨b.toArray⟩] w (iW [48] (Lib.itoa (l9.D5 a)) w):=by
 have aj:Hid (∀w':World,Calls prog 105 #[.string ⟨a.toArray⟩] w' (gz (a.length+1) (l9.D5 a) w')):=fun w'=>fF a J w'
 have HP2:Hid (∀w':World,Calls prog 105 #[.string ⟨b.toArray⟩] w' (gz (b.length+1) 0 w')):=fun w'=>by have:=fF b J w';rwa [hy0]at this
 clear hy0;generalize l9.D5 a=x at *;obtain⟨s,hsd⟩:∃s,s=decide (x < 0):=⟨_,rfl⟩;have fC:=WP hsd;clear hsd
 go_enter func150,ntmps150
 go_wp2_with fail
 refine (aj.out _).mono ?_;rintro e w1 ⟨A1,n1,c1,rfl,hs1,hn1,hb1⟩;rw[←fC.out]
 go_wp2_with fail
 refine (HP2.out _).mono ?_;rintro e w2 ⟨A2,n2,c2,rfl,hs2,hn2,hb2⟩;have hbw2:=hb1.trans (hb2.mono hb1.size);obtain rfl:n2=0:=(CG (x:=0) hs2.len).2 rfl
 go_wp2_with fail
 refine (nI s A1 n1 c1 _ x _ (hs1.below hb2) J (by rw[fC.out];by_cases h:x < 0 <;> simp[h] <;> omega)).mono ?_;rintro e w3 ⟨rfl,hb3⟩;go_wp2;go_ret2;exact⟨rfl,hbw2.trans (hb3.mono hbw2.size)⟩
theorem Vq(a b:aa0)(w:World)(ha:a.length≤2400000)(hb:b.length≤2400000)(x y:Int)(hxv:l9.D5 a=x)(hyv:l9.D5 b=y)(hy0:y≠0)(s s' z:Bool)(hsd:decide (x < 0)=s)(dC:decide (y < 0)=s')
  (hz:(!(s == s'))=z) (hcase:z=false∨x.natAbs % y.natAbs=0) (q r:aa0) (HQ:Hid (dF z (x.natAbs / y.natAbs)=q)) (HR:Hid (dF s' (x.natAbs % y.natAbs)=r)) :
  Calls prog 150 #[.string ⟨a.toArray⟩,.string ⟨b.toArray⟩] w (iW q r w):=by
 have aj:Hid (∀w':World,Calls prog 105 #[.string ⟨a.toArray⟩] w' (gz (a.length+1) x w')):=fun w'=>by have:=fF a J w';rwa [hxv]at this
 have HP2:Hid (∀w':World,Calls prog 105 #[.string ⟨b.toArray⟩] w' (gz (b.length+1) y w')):=fun w'=>by have:=fF b J w';rwa [hyv]at this
 have fC:=WP hsd;have jC:=WP dC;have hyp:0 < y.natAbs:=J;have DZ:=WP hcase;clear hcase;clear hsd dC hxv hyv
 go_enter func150,ntmps150
 go_wp2_with fail
 refine (aj.out _).mono ?_;rintro e w1 ⟨A1,n1,c1,rfl,hs1,hn1,hb1⟩;rw[fC.out]
 go_wp2_with fail
 refine (HP2.out _).mono ?_;rintro e w2 ⟨A2,n2,c2,rfl,hs2,hn2,hb2⟩;rw[jC.out];have hbw2:=hb1.trans (hb2.mono hb1.size);have JP:((n2:Int) == 0)=false:=by rw[IR];intro e;exact hy0 ((CG hs2.len).1 J)
 clear hy0;have hsA:=hs1.below hb2;have hlq:=Gw (b:=y.natAbs) hsA.len;have hlr:=MW (a:=x.natAbs) hyp hs2.len
 go_wp2_with fail
 refine (BP A1 A2 n1 n2 c1 c2 _ _ w2 hsA hs2 J J hyp).mono ?_;rintro e w3 ⟨A3,n3,c3,A4,n4,c4,rfl,hs3,hs4,hb3⟩;have hbw3:=hbw2.trans (hb3.mono hbw2.size);have hn3:n3≤n1:=by rw[←hs3.len];exact hlq
 have hn4:n4≤n2:=by rw[←hs4.len];exact hlr
 have xU:=WP hs4.len;by_cases Bi:z=true
 ·have JR:n4=0:=by
   rcases DZ.out with h | h
   ·rw[h]at Bi;cases Bi
   ·have:=xU.out;rw[h]at this;simpa[l9.wE] using this.symm
  subst JR;subst Bi
  go_wp2_with fail
  refine (zk true A3 n3 c3 _ q _ hs3 J HQ.out).mono ?_;rintro e w4 ⟨rfl,hb4⟩;have kC:=hbw3.trans (hb4.mono hbw3.size)
  go_wp2_with fail
  refine (zk s' A4 0 c4 _ r _ (hs4.below hb4) J HR.out).mono ?_;rintro e w5 ⟨rfl,hb5⟩;go_wp2;go_ret2;exact⟨rfl,kC.trans (hb5.mono kC.size)⟩
 ·have TJ:z=false:=by cases z <;> simp_all
  subst TJ
  go_wp2_with fail
  refine (zk false A3 n3 c3 _ q _ hs3 J HQ.out).mono ?_;rintro e w4 ⟨rfl,hb4⟩;have kC:=hbw3.trans (hb4.mono hbw3.size)
  go_wp2_with fail
  refine (zk s' A4 n4 c4 _ r _ (hs4.below hb4) J HR.out).mono ?_;rintro e w5 ⟨rfl,hb5⟩;go_wp2;go_ret2;exact⟨rfl,kC.trans (hb5.mono kC.size)⟩
theorem a5G(a b:aa0)(w:World)(ha:a.length≤2400000)(hb:b.length≤2400000)(x y:Int)(hxv:l9.D5 a=x)(hyv:l9.D5 b=y)(hy0:y≠0)(s s':Bool)(hsd:decide (x < 0)=s)(dC:decide (y < 0)=s')
  (hz:(!(s == s'))=true) (hcase:x.natAbs % y.natAbs≠0) (q r:aa0) (HQ:Hid (dF true (x.natAbs / y.natAbs+1)=q)) (HR:Hid (dF s' (y.natAbs - x.natAbs % y.natAbs)=r)) :
  Calls prog 150 #[.string ⟨a.toArray⟩,.string ⟨b.toArray⟩] w (iW q r w):=by
 have aj:Hid (∀w':World,Calls prog 105 #[.string ⟨a.toArray⟩] w' (gz (a.length+1) x w')):=fun w'=>by have:=fF a J w';rwa [hxv]at this
 have HP2:Hid (∀w':World,Calls prog 105 #[.string ⟨b.toArray⟩] w' (gz (b.length+1) y w')):=fun w'=>by have:=fF b J w';rwa [hyv]at this
 have fC:=WP hsd;have jC:=WP dC;have hyp:0 < y.natAbs:=J;have DZ:=WP hcase;clear hcase;clear hsd dC hxv hyv
 go_enter func150,ntmps150
 go_wp2_with fail
 refine (aj.out _).mono ?_;rintro e w1 ⟨A1,n1,c1,rfl,hs1,hn1,hb1⟩;rw[fC.out]
 go_wp2_with fail
 refine (HP2.out _).mono ?_;rintro e w2 ⟨A2,n2,c2,rfl,hs2,hn2,hb2⟩;rw[jC.out];have hbw2:=hb1.trans (hb2.mono hb1.size);have JP:((n2:Int) == 0)=false:=by rw[IR];intro e;exact hy0 ((CG hs2.len).1 J)
 clear hy0;have hsA:=hs1.below hb2;have hlq:=Gw (b:=y.natAbs) hsA.len;have hlr:=MW (a:=x.natAbs) hyp hs2.len
 go_wp2_with fail
 refine (BP A1 A2 n1 n2 c1 c2 _ _ w2 hsA hs2 J J hyp).mono ?_;rintro e w3 ⟨A3,n3,c3,A4,n4,c4,rfl,hs3,hs4,hb3⟩;have hbw3:=hbw2.trans (hb3.mono hbw2.size);have hn3:n3≤n1:=by rw[←hs3.len];exact hlq
 have hn4:n4≤n2:=by rw[←hs4.len];exact hlr
 have xU:=WP hs4.len;have c1Y:0 < n4:=by
  rcases Zas n4 with e | e
  ·have:=(l9.qR (B:=10) J).1 (Za9 (xU.out.trans e));exact absurd this DZ.out
  ·exact e
 have hml:=Nat.mod_lt x.natAbs hyp;have hone:=Sl.one w3 .i64 3 1;have hbW:Below w3.heap.size w3 (w3.alloc (.cells #[.int .i64 ((1:Nat):Int)] 3)):=(Below.refl _ _).alloc (NE _) _;have hP:=Nc A3 (some ⟨w3.heap.size,0,none⟩) n3 1 c3 1 _ [1] (w3.alloc (.cells #[.int .i64 ((1:Nat):Int)] 3)) (hs3.below hbW) hone J J (l9.Q4 J _) (l9.Small.cons J l9.Small.nil);rw[l9.L8 J,show l9.D6 10 [1]=1 from rfl]at hP
 have HP:=WP hP;clear hP hone
 go_wp2_with fail
 refine HP.out.mono ?_;rintro e w4 ⟨A5,n5,c5,o5,rfl,hn5,hs5,b7s,hv5,hb5,_⟩;have HV5:=WP hv5;clear hv5;have rO:=hbW.trans (hb5.mono hbW.size);have kC:=hbw3.trans (rO.mono hbw3.size);have hM:=tZ A2 A4 n2 n4 c2 c4 _ _ w4 ((hs2.below hb3).below rO) (hs4.below rO) J hn4 (l9.Q4 J _) (l9.Q4 J _) (by rw[l9.L8 J,l9.L8 J];omega);rw[l9.L8 J,l9.L8 J]at hM;have HM:=WP hM;clear hM;have hll:(l9.limbs 10 (y.natAbs - x.natAbs % y.natAbs)).length≤n2:=by rw[←hs2.len];exact l9.cu J J
 go_wp2_with fail
 refine HM.out.mono ?_;rintro e w6 ⟨A6,n6,c6,rfl,hs6,hb6,_⟩;have hn6:n6≤n2:=by rw[←hs6.len];exact hll
 have a2u:=kC.trans (hb6.mono kC.size);have hX:=BO true A5 n5 c5 o5 w6 (hs5.below hb6) J b7s;rw[HV5.out,HQ.out]at hX;have HX:=WP hX;clear hX
 go_wp2_with fail
 refine HX.out.mono ?_;rintro e w7 ⟨rfl,hb7⟩;have a2v:=a2u.trans (hb7.mono a2u.size)
 go_wp2_with fail
 refine (zk s' A6 n6 c6 _ r _ (hs6.below hb7) J HR.out).mono ?_;rintro e w8 ⟨rfl,hb8⟩;go_wp2;go_ret2;exact⟨rfl,a2v.trans (hb8.mono a2v.size)⟩
theorem a6h(a b:aa0)(w:World)(ha:a.length≤2400000)(hb:b.length≤2400000) :
  Calls prog 150 #[.string ⟨a.toArray⟩,.string ⟨b.toArray⟩] w (iW (Lib.itoa (qd (l9.D5 a) (l9.D5 b))) (Lib.itoa (rm (l9.D5 a) (l9.D5 b))) w):=by
 by_cases hy:l9.D5 b=0
 ·have:=a5F a b w ha hb hy;rw[hy,Yq,Yr,l9.jR];exact this
 ·generalize hx:l9.D5 a=x;generalize hyv:l9.D5 b=y at hy;cases hs:decide (y < 0) with
  |_ =>
   by_cases hd:decide (x < 0)=decide (y < 0)
   ·obtain⟨h1,h2⟩:=Yu hy (hd.trans hs) hs;exact Vq a b w ha hb x y hx hyv hy _ _ false (hd.trans hs) hs I (.inl rfl) _ _ (WP (jk (by simpa using h1))) (WP (jk h2))
   ·have hd':decide (x < 0)=!(decide (y < 0)):=by cases h1:decide (x < 0) <;> cases h2:decide (y < 0) <;> simp_all
    rw[hs]at hd';by_cases h0:x.natAbs % y.natAbs=0
    ·obtain⟨h1,h2⟩:=Xf hy hd' hs h0;exact Vq a b w ha hb x y hx hyv hy _ _ true hd' hs I (.inr h0) _ _ (WP (jk (by simpa using h1))) (WP (by rw[h0,Gz,h2,l9.jR]))
    ·obtain⟨h1,h2⟩:=Yv hy hd' hs h0;exact a5G a b w ha hb x y hx hyv hy _ _ hd' hs I h0 _ _ (WP (jk (by simpa using h1))) (WP (jk h2))
theorem a6i(a b:aa0)(w:World)(ha:a.length≤2400000)(hb:b.length≤2400000) :
  Calls prog 106 #[.string ⟨a.toArray⟩,.string ⟨b.toArray⟩] w (dG (Lib.itoa (Nat.gcd (l9.D5 a).natAbs (l9.D5 b).natAbs:Nat)) w):=by
 have aj:Hid (∀w':World,Calls prog 105 #[.string ⟨a.toArray⟩] w' (gz (a.length+1) (l9.D5 a) w')):=fun w'=>fF a J w'
 have HP2:Hid (∀w':World,Calls prog 105 #[.string ⟨b.toArray⟩] w' (gz (b.length+1) (l9.D5 b) w')):=fun w'=>fF b J w'
 generalize l9.D5 a=x at *;generalize l9.D5 b=y at *;generalize hG:Nat.gcd x.natAbs y.natAbs=G;have HG:=WP hG;clear hG;obtain⟨s,hsd⟩:∃s,s=decide (x < 0):=⟨_,rfl⟩;have fC:=WP hsd;clear hsd;obtain⟨s',dC⟩:∃s',s'=decide (y < 0):=⟨_,rfl⟩;have jC:=WP dC;clear dC
 go_enter func106,ntmps106
 go_wp2_with fail
 refine (aj.out _).mono ?_;rintro e w1 ⟨A1,n1,c1,rfl,hs1,hn1,hb1⟩;rw[←fC.out]
 go_wp2_with fail
 refine (HP2.out _).mono ?_;rintro e w2 ⟨A2,n2,c2,rfl,hs2,hn2,hb2⟩;rw[←jC.out];have hbw2:=hb1.trans (hb2.mono hb1.size)
 go_wp2_with fail
 go_loopg [6,8] y.natAbs (fun kx s5 s6 wr=>∃(A B:Option Addr) (n c m d u v:Nat),s5=.slice A n c∧s6=.slice B m d∧Sl wr .i64 A n c (l9.limbs 10 u)∧Sl wr .i64 B m d (l9.limbs 10 v)∧n≤2400001∧m≤2400001∧v≤kx∧Hid (Nat.gcd u v=G)∧Below w.heap.size w wr)
 case atStart=>exact⟨A1,A2,n1,c1,n2,c2,_,_,rfl,rfl,hs1.below hb2,hs2,J,J,NE _,HG,hbw2⟩
 case round =>
  obtain⟨A,B,n,c,m,d,u,v,rfl,rfl,hu,hv,hn,hm,hk,EZ,hb⟩:=hrel;by_cases hm0:0 < m
  ·have hv0:0 < v:=a5E hv.len J;have hlr:=MW (a:=u) hv0 hv.len;have hml:=Nat.mod_lt u hv0;have TK:Hid (Nat.gcd v (u % v)=G):=by show _=_;rw[←EZ.out,Nat.gcd_comm v,←Nat.gcd_rec,Nat.gcd_comm]
   have Bj:=WP (BP A B n m c d u v wr hu hv J J hv0)
   go_wp2_with (go_at_call 107;refine Bj.out.mono ?_;rintro e w3 ⟨A3,n3,c3,A4,n4,c4,rfl,hs3,hs4,hb3⟩;have hn4:n4≤m:=(by rw[←hs4.len];exact hlr))
   go_roundg (u % v)
   case measure=>omega
   case rel=>exact⟨B,A4,m,d,n4,c4,v,u % v,rfl,rfl,hv.below hb3,hs4,hm,J,NE _,TK,hb.trans (hb3.mono hb.size)⟩
  ·have hv0:v=0:=(l9.qR (B:=10) J).1 (Za9 (by rw[hv.len];omega));subst hv0;have HE:Hid (dF false u=Lib.itoa (G:Int)):=by show _=_;rw[←EZ.out,Nat.gcd_zero_right];rfl
   go_wp2_with fail
   refine (zk false A n c u _ _ hu J HE.out).mono ?_;rintro e w3 ⟨rfl,hb3⟩;go_wp2;go_ret;exact⟨rfl,hb.trans (hb3.mono hb.size)⟩
theorem b2G{x y:Int}{z:Bool}(hy:y≠0)(hz:(!(decide (x < 0) == decide (y < 0)))=z):(if z then -((x.natAbs / Nat.gcd x.natAbs y.natAbs:Nat):Int) else ((x.natAbs / Nat.gcd x.natAbs y.natAbs:Nat):Int))=bu x y:=by
 have hg:0 < Nat.gcd x.natAbs y.natAbs:=Nat.gcd_pos_of_pos_right _ J;have hd:=Nat.gcd_dvd_left x.natAbs y.natAbs;unfold bu;rw[lw hy];generalize Nat.gcd x.natAbs y.natAbs=g at *;obtain⟨k,hk⟩:=hd;rw[hk,Nat.mul_div_cancel_left _ hg];have hgk:((g * k:Nat):Int)=(g:Int) * k:=Int.natCast_mul _ _;by_cases h1:x < 0 <;> by_cases h2:y < 0
 ·have e:lI x y=k * g+0:=by unfold lI;rw[Za0 h2,Zbn,←hgk];omega
  rw[(ui J e J J).1];subst hz;simp[h1,h2]
 ·have e:lI x y=(-(k:Int)) * g+0:=by unfold lI;rw[lw h2,Int.neg_mul,Zbn,←hgk];omega
  rw[(ui J e J J).1];subst hz;simp[h1,h2]
 ·have e:lI x y=(-(k:Int)) * g+0:=by unfold lI;rw[Za0 h2,Int.neg_mul,Zbn,←hgk];omega
  rw[(ui J e J J).1];subst hz;simp[h1,h2]
 ·have e:lI x y=k * g+0:=by unfold lI;rw[lw h2,Zbn,←hgk];omega
  rw[(ui J e J J).1];subst hz;simp[h1,h2]
theorem b2H{x y:Int}(hy:y≠0):(if false=true then -((y.natAbs / Nat.gcd x.natAbs y.natAbs:Nat):Int) else ((y.natAbs / Nat.gcd x.natAbs y.natAbs:Nat):Int))=bz x y:=by
 have hg:0 < Nat.gcd x.natAbs y.natAbs:=Nat.gcd_pos_of_pos_right _ J;have hd:=Nat.gcd_dvd_right x.natAbs y.natAbs;unfold bz;rw[lw hy];generalize Nat.gcd x.natAbs y.natAbs=g at *;obtain⟨k,hk⟩:=hd;rw[hk,Nat.mul_div_cancel_left _ hg];have hgk:((g * k:Nat):Int)=(g:Int) * k:=Int.natCast_mul _ _;have e:xW y=k * g+0:=by unfold xW;split <;> rw[Zbn,←hgk] <;> omega
 rw[(ui J e J J).1];simp
theorem MP(a b:aa0)(w:World)(ha:a.length≤1100000)(hb:b.length≤1100000) :
  Calls prog 72 #[.string ⟨a.toArray⟩,.string ⟨b.toArray⟩] w (iW (Lib.itoa (bu (l9.D5 a) (l9.D5 b))) (Lib.itoa (bz (l9.D5 a) (l9.D5 b))) w):=by
 have aj:Hid (∀w':World,Calls prog 105 #[.string ⟨a.toArray⟩] w' (gz (a.length+1) (l9.D5 a) w')):=fun w'=>fF a J w'
 have HP2:Hid (∀w':World,Calls prog 105 #[.string ⟨b.toArray⟩] w' (gz (b.length+1) (l9.D5 b) w')):=fun w'=>fF b J w'
 have HG:Hid (∀w':World,Calls prog 106 #[.string ⟨a.toArray⟩,.string ⟨b.toArray⟩] w' (dG (Lib.itoa (Nat.gcd (l9.D5 a).natAbs (l9.D5 b).natAbs:Nat)) w')):=fun w'=>a6i a b w' J J
 have hgl:(Lib.itoa (Nat.gcd (l9.D5 a).natAbs (l9.D5 b).natAbs:Nat)).length≤1100002:=by
  obtain⟨K,hK⟩:∃K,K=1100001:=⟨_,rfl⟩;have:=Yw (K:=K) (x:=l9.D5 a) (y:=l9.D5 b) J (lY J) (lY J);omega
 generalize l9.D5 a=x at *;generalize l9.D5 b=y at *;by_cases hy:y=0
 ·subst hy;rw[show bu x 0=0 from rfl,show bz x 0=1 from rfl,l9.jR,zi]
  go_enter func72,ntmps72
  go_wp2_with fail
  refine (HP2.out _).mono ?_;rintro e w2 ⟨A2,n2,c2,rfl,hs2,hn2,hb2⟩;obtain rfl:n2=0:=(CG (x:=0) hs2.len).2 rfl;go_wp2;go_ret2;exact⟨rfl,hb2⟩
 ·obtain⟨z,hz⟩:∃z,z=(!(decide (x < 0) == decide (y < 0))):=⟨_,rfl⟩;have HN:=WP (b2G (x:=x) hy hz.symm);have HD:=WP (b2H (x:=x) hy);have hg0:0 < Nat.gcd x.natAbs y.natAbs:=Nat.gcd_pos_of_pos_right _ J;generalize Nat.gcd x.natAbs y.natAbs=g at *;have HPg:Hid (∀w':World,Calls prog 105 #[.string ⟨(Lib.itoa (g:Int)).toArray⟩] w' (gz 1100100 (g:Int) w')):=fun w'=>by
   have:=fF (Lib.itoa (g:Int)) J w';rw[l9.P9]at this;exact this.mono (by
    rintro e w'' ⟨A,n,c,h1,h2,h3,h4⟩;exact⟨A,n,c,h1,h2,J,h4⟩)
  obtain⟨s,hsd⟩:∃s,s=decide (x < 0):=⟨_,rfl⟩;obtain⟨s',dC⟩:∃s',s'=decide (y < 0):=⟨_,rfl⟩;rw[←hsd,←dC]at hz;have hz':(!(s == s'))=z:=hz.symm;have fC:=WP hsd;have jC:=WP dC;clear hsd dC hz hgl
  go_enter func72,ntmps72
  go_wp2_with fail
  refine (HP2.out _).mono ?_;rintro e w2 ⟨A2,n2,c2,rfl,hs2,hn2,hb2⟩;rw[←jC.out];have JP:((n2:Int) == 0)=false:=by rw[IR];intro e;exact hy ((CG hs2.len).1 J)
  clear hy
  go_wp2_with fail
  refine (aj.out _).mono ?_;rintro e w1 ⟨A1,n1,c1,rfl,hs1,hn1,hb1⟩;rw[←fC.out];have b1:=hb2.trans (hb1.mono hb2.size);have b7t:=hs2.below hb1
  go_wp2_with fail
  refine (HG.out _).mono ?_;rintro e w3 ⟨rfl,hb3⟩;have b3:=b1.trans (hb3.mono b1.size);have b7u:=hs1.below hb3;have JQ:=b7t.below hb3
  go_wp2_with fail
  refine (HPg.out _).mono ?_;rintro e w4 ⟨A4,n4,c4,rfl,hs4,hn4,hb4⟩;have b4:=b3.trans (hb4.mono b3.size);have a2w:=b7u.below hb4;have a2x:=JQ.below hb4;rw[show decide ((g:Int) < 0)=false from WF J]
  rw[Int.natAbs_natCast]at hs4;have hlq:=Gw (b:=g) a2w.len;have hld:=Gw (b:=g) a2x.len
  go_wp2_with fail
  refine (BP A1 A4 n1 n4 c1 c4 _ _ w4 a2w hs4 J J hg0).mono ?_;rintro e w5 ⟨A5,n5,c5,A6,n6,c6,rfl,hs5,hs6,hb5⟩;have b5:=b4.trans (hb5.mono b4.size);have hn5:n5≤n1:=by rw[←hs5.len];exact hlq
  go_wp2_with fail
  refine (BP A2 A4 n2 n4 c2 c4 _ _ w5 (a2x.below hb5) (hs4.below hb5) J J hg0).mono ?_;rintro e w7 ⟨A7,n7,c7,A8,n8,c8,rfl,hs7,hs8,hb7⟩;have b7:=b5.trans (hb7.mono b5.size);have hn7:n7≤n2:=by rw[←hs7.len];exact hld
  go_wp2_with fail
  refine (nI z A5 n5 c5 _ _ _ (hs5.below hb7) J HN.out).mono ?_;rintro e w9 ⟨rfl,KD⟩;have b9:=b7.trans (KD.mono b7.size)
  go_wp2_with fail
  refine (nI false A7 n7 c7 _ _ _ (hs7.below KD) J HD.out).mono ?_;rintro e w10 ⟨rfl,b7v⟩;go_wp2;go_ret2;exact⟨rfl,b9.trans (b7v.mono b9.size)⟩
theorem Ns(l:aa0):(l9.mag (norm l)).length=max 1 (l9.limbs 10 (l9.D5 l).natAbs).length:=by
 have hm:=zg l;have hd:=Ho l;have hv:=Nz l;generalize norm l=s at hm hd hv;by_cases h48:s=[48]
 ·subst h48;rw[←hv];decide +kernel
 ·obtain⟨h1,h2,h3,_⟩:=hm;obtain⟨_,hh⟩:=(l9.pz h48).1 hd;have h4:=l9.UO h1 hh;rw[h3]at h4;rw[←h4];have:(l9.jm (l9.mag s)).length=(l9.mag s).length:=by simp[l9.jm]
  rw[this];have:0 < (l9.mag s).length:=List.length_pos_iff.2 h2;omega
theorem MN(l:aa0)(w:World)(hl:l.length≤2500000) :
  Calls prog 186 #[.string ⟨l.toArray⟩] w (pR ((l9.mag (norm l)).length:Nat) w):=by
 have HD:=WP (fF l hl w);have HL:=WP (Ns l);generalize (l9.mag (norm l)).length=K at *;generalize l9.D5 l=x at *;obtain⟨s,hsd⟩:∃s,s=decide (x < 0):=⟨_,rfl⟩;have fC:=WP hsd;clear hsd
 go_enter func186,ntmps186
 go_wp2_with fail
 refine HD.out.mono ?_;rintro e w1 ⟨A1,n1,c1,rfl,hs1,hn1,hb1⟩;rw[←fC.out];have HN:=WP hs1.len;go_wp2;go_ret;refine⟨?_,hb1⟩;rw[HL.out,HN.out,show ((max 1 n1:Nat):Int)=max 1 (n1:Int) by omega]
 rfl
theorem a5H(l:aa0)(w:World)(hl:l.length≤2500000)(h9:9 < (l9.mag (norm l)).length) :
  Calls prog 91 #[.string ⟨l.toArray⟩] w (Hr 0 false w):=by
 have HD:=WP (fF l hl w);rw[Ns l]at h9;generalize l9.D5 l=x at *;obtain⟨s,hsd⟩:∃s,s=decide (x < 0):=⟨_,rfl⟩;have fC:=WP hsd;clear hsd
 go_enter func91,ntmps91
 go_wp2_with fail
 refine HD.out.mono ?_;rintro e w1 ⟨A1,n1,c1,rfl,hs1,hn1,hb1⟩;rw[←fC.out];have hn9:9 < n1:=by rw[hs1.len]at h9;omega
 clear h9;go_wp2;go_ret2;exact⟨rfl,hb1⟩
theorem a5i(l:aa0)(w:World)(hl:l.length≤2500000)(h9:(l9.mag (norm l)).length≤9) :
  Calls prog 91 #[.string ⟨l.toArray⟩] w (Hr (l9.D5 l) true w):=by
 have HD:=WP (fF l hl w);rw[Ns l]at h9;generalize l9.D5 l=x at *;have hxb:x.natAbs < 10 ^ 9:=by
  have h1:=l9.mf (B:=10) J (l9.Q4 J x.natAbs);rw[l9.L8 J]at h1;exact Zaa h1 (ZaF J J)
 have hsm:=l9.Q4 (B:=10) J x.natAbs;by_cases hs:x < 0
 ·go_enter func91,ntmps91
  go_wp2_with fail
  refine HD.out.mono ?_;rintro e w1 ⟨A1,n1,c1,rfl,hs1,hn1,hb1⟩;rw[UV hs];have hn9:n1≤9:=by rw[hs1.len]at h9;omega
  have HL:=WP hs1.len;clear h9
  go_wp2_with fail
  go_loop [6,7] (fun nv ix=>∃j:Nat,j≤n1∧ix=.int .i64 ((j:Int) - 1)∧nv=.int .i64 (l9.D6 10 ((l9.limbs 10 x.natAbs).drop j):Nat)) (fun _ ix=>(intOf ix+1).toNat)
  case atStart=>exact⟨n1,NE _,rfl,by rw[Zax (by rw[HL.out];exact NE _)];rfl⟩
  case round =>
   obtain⟨j,hj,rfl,rfl⟩:=hrel;have hvb:l9.D6 10 ((l9.limbs 10 x.natAbs).drop j) < 10 ^ 9:=by
    have h1:=l9.mf (B:=10) J (hsm.drop j);exact Zaa h1 (ZaF J (by rw[Za7,HL.out];omega))
   by_cases hj0:0 < j
   ·obtain⟨bx,ox,rfl,hbx,hcx⟩:=hs1.cells J;have bg:=hcx (j - 1) J;clear hcx;have hu:=getD_lt hsm J (j - 1);have HV:Hid (l9.D6 10 ((l9.limbs 10 x.natAbs).drop (j - 1))=(l9.limbs 10 x.natAbs).getD (j - 1) 0+10 * l9.D6 10 ((l9.limbs 10 x.natAbs).drop j)):=by
     have:=l9.uh 10 (l9.limbs 10 x.natAbs) (j - 1) (by rw[HL.out];omega);rw[show j - 1+1=j by omega]at this
     exact this
    generalize (l9.limbs 10 x.natAbs).getD (j - 1) 0=u at bg hu HV;generalize l9.D6 10 ((l9.limbs 10 x.natAbs).drop j)=V at hvb HV;have hi1:(0:Int)≤(j:Int) - 1:=J;have hi2:(j:Int) - 1 < n1:=J;have hi3:((j:Int) - 1).toNat=j - 1:=J;go_wp2
    go_round
    case rel=>exact⟨j - 1,J,by go_num,by rw[HV.out];go_num⟩
    case measure=>simp only[intOf];omega
   ·obtain rfl:j=0:=J;have HV:Hid (l9.D6 10 ((l9.limbs 10 x.natAbs).drop 0)=x.natAbs):=by rw[Zb5];exact l9.L8 J _
    generalize l9.D6 10 ((l9.limbs 10 x.natAbs).drop 0)=V at hvb HV;go_wp2;go_ret2;refine⟨?_,hb1⟩;have e:-(V:Int)=x:=by have:=HV.out;omega
    rw[←e];rfl
 ·go_enter func91,ntmps91
  go_wp2_with fail
  refine HD.out.mono ?_;rintro e w1 ⟨A1,n1,c1,rfl,hs1,hn1,hb1⟩;rw[WF J];have hn9:n1≤9:=by rw[hs1.len]at h9;omega
  have HL:=WP hs1.len;clear h9
  go_wp2_with fail
  go_loop [6,7] (fun nv ix=>∃j:Nat,j≤n1∧ix=.int .i64 ((j:Int) - 1)∧nv=.int .i64 (l9.D6 10 ((l9.limbs 10 x.natAbs).drop j):Nat)) (fun _ ix=>(intOf ix+1).toNat)
  case atStart=>exact⟨n1,NE _,rfl,by rw[Zax (by rw[HL.out];exact NE _)];rfl⟩
  case round =>
   obtain⟨j,hj,rfl,rfl⟩:=hrel;have hvb:l9.D6 10 ((l9.limbs 10 x.natAbs).drop j) < 10 ^ 9:=by
    have h1:=l9.mf (B:=10) J (hsm.drop j);exact Zaa h1 (ZaF J (by rw[Za7,HL.out];omega))
   by_cases hj0:0 < j
   ·obtain⟨bx,ox,rfl,hbx,hcx⟩:=hs1.cells J;have bg:=hcx (j - 1) J;clear hcx;have hu:=getD_lt hsm J (j - 1);have HV:Hid (l9.D6 10 ((l9.limbs 10 x.natAbs).drop (j - 1))=(l9.limbs 10 x.natAbs).getD (j - 1) 0+10 * l9.D6 10 ((l9.limbs 10 x.natAbs).drop j)):=by
     have:=l9.uh 10 (l9.limbs 10 x.natAbs) (j - 1) (by rw[HL.out];omega);rw[show j - 1+1=j by omega]at this
     exact this
    generalize (l9.limbs 10 x.natAbs).getD (j - 1) 0=u at bg hu HV;generalize l9.D6 10 ((l9.limbs 10 x.natAbs).drop j)=V at hvb HV;have hi1:(0:Int)≤(j:Int) - 1:=J;have hi2:(j:Int) - 1 < n1:=J;have hi3:((j:Int) - 1).toNat=j - 1:=J;go_wp2
    go_round
    case rel=>exact⟨j - 1,J,by go_num,by rw[HV.out];go_num⟩
    case measure=>simp only[intOf];omega
   ·obtain rfl:j=0:=J;have HV:Hid (l9.D6 10 ((l9.limbs 10 x.natAbs).drop 0)=x.natAbs):=by rw[Zb5];exact l9.L8 J _
    generalize l9.D6 10 ((l9.limbs 10 x.natAbs).drop 0)=V at hvb HV;go_wp2;go_ret2;refine⟨?_,hb1⟩;have e:(V:Int)=x:=by have:=HV.out;omega
    rw[←e];rfl
theorem GI(n:Int):Rat.divInt n 1=(n:Rat):=by
 have:=Rat.num_divInt_den (n:Rat)
 rwa [Rat.num_intCast,Rat.den_intCast]at this
theorem WB(l:aa0)(w:World):Calls prog 29 #[str l] w (P6 (.agg #[str x8,str l]) w):=by
 go_enter func29,ntmps29
 go_wp2;exact bodyPost_ret (v:=.agg #[str x8,str l]) (by simp[results,Tryz.results29,go_sem]) rfl ⟨rfl,box _ _⟩
theorem UN(n:Int)(w:World)(ht:Tab w)(h0:-9223372036854775808≤n)(h1:n≤9223372036854775807) :
  Calls prog 36 #[.int .i64 n] w (dG (Lib.itoa n) w):=by
 have HI:=WP (zh n w ht h0 h1);clear h0 h1
 go_enter func36,ntmps36
 go_wp2_with fail
 refine HI.out.mono ?_;rintro e w1 ⟨rfl,hb⟩;go_wp2;go_ret;exact⟨rfl,hb⟩
theorem Oi(w:World):Calls prog 28 #[] w (aI U6 w):=by
 go_enter func28,ntmps28
 go_wp2_with fail
 refine (WB aQ _).mono ?_;rintro e w1 ⟨rfl,hb⟩
 go_wp2_with fail
 refine (Nb _ x8 aQ).mono ?_;rintro e w2 ⟨rfl,hb2⟩;have HB:=WP ((F5.via hb).below hb2);obtain⟨u0,u1,u2,u3,u4,u5,u6,ul⟩:=HB.out.seven;obtain⟨uf0,uf1,uf2,uf3,uf4,uf5,uf6⟩:=HB.out.gy;go_wp2;exact jo Tryz.results28 rfl HB.out.je rfl ⟨rfl,jf (U3 (via hb) hb2) (NE _) _ _ _ _ _ _ _⟩
theorem b2I(w:World):Calls prog 64 #[] w (aI tO w):=by
 go_enter func64,ntmps64
 go_wp2_with fail
 refine (WB [116] _).mono ?_;rintro e w1 ⟨rfl,hb⟩
 go_wp2_with fail
 refine (Nb _ x8 [116]).mono ?_;rintro e w2 ⟨rfl,hb2⟩;have HB:=WP ((F5.via hb).below hb2);obtain⟨u0,u1,u2,u3,u4,u5,u6,ul⟩:=HB.out.seven;obtain⟨uf0,uf1,uf2,uf3,uf4,uf5,uf6⟩:=HB.out.gy;go_wp2;exact jo Tryz.results64 rfl HB.out.je rfl ⟨rfl,jf (U3 (via hb) hb2) (NE _) _ _ _ _ _ _ _⟩
theorem a4U(a b:aa0)(w:World)(ha:a.length≤1100000)(hb:b.length≤1100000):Calls prog 35 #[str a,str b] w (aI (numO (Lib.itoa (bu (l9.D5 a) (l9.D5 b))) (Lib.itoa (bz (l9.D5 a) (l9.D5 b)))) w):=by
 have HF:=WP (fun w' (_:Below w.heap.size w w')=>MP a b w' ha hb);clear ha hb;generalize Lib.itoa (bu (l9.D5 a) (l9.D5 b))=n at *;generalize Lib.itoa (bz (l9.D5 a) (l9.D5 b))=d at *
 go_enter func35,ntmps35
 go_wp2_with fail
 refine (HF.out _ (box _ _)).mono ?_;rintro e w1 ⟨rfl,hb⟩;have HB:=WP (F5.via hb);obtain⟨u0,u1,u2,u3,u4,u5,u6,hu⟩:=HB.out.seven;obtain⟨f0,f1,f2,f3,f4,f5,f6⟩:=HB.out.gy;go_wp2;exact jo Tryz.results35 rfl HB.out.je rfl ⟨rfl,jf (via hb) (NE _) _ _ _ _ _ _ _⟩
theorem VH(a b:aa0)(w:World)(ha:a.length≤1100000)(hb:b.length≤1100000):Calls prog 35 #[str a,str b] w (aI (ax (Rat.divInt (l9.D5 a) (l9.D5 b))) w):=by
 have:=a4U a b w ha hb
 rwa [(zK _ _).1,(zK _ _).2]at this
theorem WC(ok:Nat→Prop)(a d:Ob)(A A':Option Addr)(n n' c c':Nat)(w:World)(ha:Rd ok w (.slice A n c) (.row (a.pair.map Ob.enc)))(hd:Rd ok w (.slice A' n' c') (.row (d.pair.map Ob.enc))) :
  Calls prog 69 #[N7 a (.slice A n c),N7 d (.slice A' n' c')] w (nT ok (jY a d) w):=by
 go_enter func69,ntmps69
 go_wp2;exact jo Tryz.results69 rfl ((F5.a2r w _ _ _ _).alloc _) rfl (Xj ok a d A A' n n' c c' w ha hd)
theorem a5I(o:Ob)(A:Option Addr)(n c:Nat)(w:World)(hn:n≤9223372036854775807) :
  Calls prog 102 #[N7 o (.slice A n c)] w (P6 (.bool (decide (o.kind=4∧n=2))) w):=by
 by_cases hk:o.kind=4
 ·by_cases h2:n=2
  ·rw[UV ⟨hk,h2⟩];obtain⟨k,nm,d,p,s,t,l⟩:=o;dsimp only at hk;subst hk h2
   go_enter func102,ntmps102
   go_wp2;go_ret;exact⟨rfl,box _ _⟩
  ·rw[WF (fun h=>h2 h.2)];obtain⟨k,nm,d,p,s,t,l⟩:=o;dsimp only at hk;subst hk;have hn2:((n:Int) == 2)=false:=by rw[IR];omega
   clear h2
   go_enter func102,ntmps102
   go_wp2;go_ret;exact⟨rfl,box _ _⟩
 ·rw[WF (fun h=>hk h.1)];obtain⟨k,nm,d,p,s,t,l⟩:=o;dsimp only at hk;have hn2:(k == 4)=false:=by rw[IR];exact hk
  clear hk
  go_enter func102,ntmps102
  go_wp2;go_ret;exact⟨rfl,box _ _⟩
theorem Xn(n:Int)(w:World)(ht:Tab w)(h0:-9223372036854775808≤n)(h1:n≤9223372036854775807):Calls prog 12 #[.int .i64 n] w (aI (ax (n:Rat)) w):=by
 have HF:=WP (fun w' (hb:Below w.heap.size w w')=>UN n w' (ht.below hb) h0 h1);have hl:(Lib.itoa n).length≤20:=kQ n (k:=19) J J;have HR:Hid (∀w':World,Calls prog 35 #[str (Lib.itoa n),str [49]] w' (aI (ax (n:Rat)) w')):=fun w'=>by
  have:=VH (Lib.itoa n) [49] w' J O
  rwa [l9.P9,show l9.D5 [49]=1 by decide +kernel,GI]at this
 unfold ax at HR ⊢;clear h0 h1 hl;generalize Lib.itoa (n:Rat).num=l1 at *;generalize Lib.itoa ((n:Rat).den:Int)=l2 at *;generalize Lib.itoa n=ln at *
 go_enter func12,ntmps12
 go_wp2_with fail
 refine (HF.out _ (box _ _)).mono ?_;rintro e w1 ⟨rfl,hb⟩
 go_wp2_with fail
 refine (HR.out _).mono ?_;rintro e w2 ⟨rfl,hb2⟩;have HB:=WP ((F5.via hb).below hb2);obtain⟨u0,u1,u2,u3,u4,u5,u6,ul⟩:=HB.out.seven;obtain⟨uf0,uf1,uf2,uf3,uf4,uf5,uf6⟩:=HB.out.gy;go_wp2;exact jo Tryz.results12 rfl HB.out.je rfl ⟨rfl,jf (U3 (via hb) hb2) (NE _) _ _ _ _ _ _ _⟩
theorem a6O(ok:Nat→Prop)(l:List Ob)(A:Option Addr)(n c:Nat)(w:World)(h:Rd ok w (.slice A n c) (.row (l.map Ob.enc)))(hn:n≤1000000) :
  Calls prog 71 #[.slice A n c] w (nT ok (wZ l) w):=by
 have HL:=WP h.len
 go_enter func71,ntmps71
 go_wp2_with fail
 refine (Oi _).mono ?_;rintro e w1 ⟨rfl,hb1⟩;have R1:=WP (F5.via hb1);have b1:Below w.heap.size w w1:=via hb1;have hsz:=R1.out.lt;clear hb1;go_wp2
 go_loopw [4] (fun ix wr=>∃(j:Nat) (o:Ob) (Ao:Option Addr) (no co:Nat),j≤n∧ix=.int .i64 ((j:Int) - 1)∧Hid (o=wZ (l.drop j))∧Hid (F5 wr w.heap.size 37 zeroCells)∧Hid (F5 wr w1.heap.size 37 (aB o (.slice Ao no co)))∧Rd (fun b=>(ok b∧b < w.heap.size)∨w1.heap.size < b) wr (.slice Ao no co) (.row (o.pair.map Ob.enc))∧Below w.heap.size w wr) (fun ix _=>(intOf ix+1).toNat)
 case atStart=>exact⟨n,U6,none,0,0,NE _,rfl,WP (by rw[Zax (by have:=HL.out;rw[EQ]at this;omega)];rfl),WP (R1.out.alloc _),WP (F5.new w1 _ _),.nil _ _,dH b1 _⟩
 case round =>
  obtain⟨j,o,Ao,no,co,hj,rfl,HO,R,X,hr,hb⟩:=hrel;clear b1 R1;have hgs:=X.out.lt;obtain⟨x0,x1,x2,x3,x4,x5,x6,xl⟩:=X.out.seven;obtain⟨xf0,qA,qB,qC,qE,qF,qG⟩:=X.out.gy;rcases Zas j with h0 | h0
  ·subst h0;obtain⟨r0,r1,r2,r3,r4,r5,r6,rl⟩:=R.out.seven;obtain⟨Ua,rf1,rf2,rf3,rf4,rf5,rf6⟩:=R.out.gy;go_wp2;have e:o=wZ l:=by rw[HO.out];rfl
   refine jo Tryz.results71 rfl R.out.je rfl ⟨Ao,no,co,by rw[←e],?_,jf hb (NE _) _ _ _ _ _ _ _⟩;rw[←e];refine Rd.mono (hr.xy (g:=w.heap.size) (fun b hb'=>J) _ _ _ _ _ _ _) (fun b hb' _=>?_);rcases hb' with h1 | h1
   ·exact .inl h1.1
   ·exact .inr J
  ·obtain⟨b,q,hil,A3,n3,c3,rfl,hbl,hok,a0,a1,a2,a3,a4,a5,a6,ha⟩:=h.jD hb (i:=j - 1) J;have JU:=Zaa hbl hb.size;have HS:=WP (drop_cons hil);have hi1:(0:Int)≤(j:Int) - 1:=J;have hi2:(j:Int) - 1 < n:=J;have hi3:((j:Int) - 1).toNat=j - 1:=J;have ha':Rd (fun b=>(ok b∧b < w.heap.size)∨w1.heap.size < b) wr.drew (.slice A3 n3 c3) (.row ((l[j - 1]).pair.map Ob.enc)):=(((ha.mono fun b h1 h2=>⟨h1,h2⟩:Rd (fun b=>ok b∧b < w.heap.size) w _ _).under hb).mono fun b h1 _=>.inl h1).drew;have HC:=WP (WC (fun b=>(ok b∧b < w.heap.size)∨w1.heap.size < b) l[j - 1] o A3 Ao n3 no c3 co wr.drew ha' hr.drew);have hbd:=hb.drew
   go_upto_region 5 with (fail)
   go_still_tail 5,(by kernel_rfl)
   go_wp2_with fail
   refine HC.out.mono ?_;rintro e v ⟨A5,n5,c5,rfl,hr5,hb5⟩;have X5:=WP (X.out.drew.below hb5);have R5:=WP (R.out.drew.below hb5);have hv:=hb5.size;have b7w:=U3 hbd hb5;clear x0 xf0 x1 qA x2 qB x3 qC x4 qE x5 qF x6 qG a0 a1 a2 a3 a4 a5 a6;obtain⟨y0,y1,y2,y3,y4,y5,y6,yl⟩:=X5.out.seven;obtain⟨yf0,yf1,yf2,yf3,yf4,yf5,yf6⟩:=X5.out.gy;go_wp2
   go_roundw
   case rel =>
    refine⟨j - 1,jY l[j - 1] o,A5,n5,c5,J,by go_num,WP ?_,WP (R5.out.xy J _ _ _ _ _ _ _),WP X5.out.je,?_,jf b7w J _ _ _ _ _ _ _⟩
    ·have:=HS.out;rw[Nat.sub_add_cancel h0,←HO.out]at this;exact this.symm
    ·refine (hr5.mono (fun b h1 _=>?_)).xy (fun b h1=>J) _ _ _ _ _ _ _;rcases h1 with h1 | h1
     ·exact h1
     ·right;have:wr.drew.heap.size=wr.heap.size:=rfl;omega
   case measure=>simp only[intOf];omega
theorem all_eq{l m:List Ob}{n:Nat}(hl:l.length=n)(hm:m.length=n)(h:∀j (h1:j < l.length) (h2:j < m.length),j < n→l[j]=m[j]):l=m:=by
 apply List.ext_getElem J;intro i h1 h2;exact h i h1 h2 J
theorem Nu(ok ok':Nat→Prop):∀(N:Nat) (a b:Ob),a.size≤N→a.Wf→∀(A A':Option Addr) (n n' c c':Nat) (w:World),Rd ok w (.slice A n c) (.row (a.pair.map Ob.enc))→Rd ok' w (.slice A' n' c') (.row (b.pair.map Ob.enc)) →
  Calls prog 50 #[N7 a (.slice A n c),N7 b (.slice A' n' c')] w (jZ (a=b) w):=by
 intro N
 induction N with
 |zero=>intro a b h;have:=Ob.size_pos a;omega
 |succ N ih =>
  intro a b hN hW A A' n n' c c' w hx hy;obtain⟨P,HP⟩:∃P:Prop,Hid (P↔a=b):=⟨_,WP Iff.rfl⟩;rw[show (a=b)=P from propext HP.out.symm]
  obtain⟨xk,xn,xd,xp,xs,xt,xl⟩:=a;obtain⟨yk,yn,yd,yp,ys,yt,yl⟩:=b;have hxl:=hx.len;have hyl:=hy.len;rw[EQ]at hxl hyl;have hw1:=hW.len;dsimp only at hxl hyl hw1;by_cases hk:xk=yk
  case neg =>
   have hz:(xk != yk)=true:=by rw[bne_iff_ne];exact hk
   have HF:Hid (¬P):=fun e=>hk (by have e1:=HP.out.1 e;injection e1)
   clear hk hxl hyl
   go_enter func50,ntmps50
   go_wp2;go_ret;exact⟨false,rfl,iY HF.out,dH (box _ _) _⟩
  subst hk;by_cases hn:xn=yn
  case neg =>
   have hz:(xn == yn)=false:=by rw[IR];exact hn
   have HF:Hid (¬P):=fun e=>hn (by have e1:=HP.out.1 e;injection e1)
   clear hn hxl hyl
   go_enter func50,ntmps50
   go_wp2;go_ret;exact⟨false,rfl,iY HF.out,dH (box _ _) _⟩
  subst hn;by_cases hd:xd=yd
  case neg =>
   have hz:(xd == yd)=false:=by rw[IR];exact hd
   have HF:Hid (¬P):=fun e=>hd (by have e1:=HP.out.1 e;injection e1)
   clear hd hxl hyl
   go_enter func50,ntmps50
   go_wp2;go_ret;exact⟨false,rfl,iY HF.out,dH (box _ _) _⟩
  subst hd;by_cases hp:xp=yp
  case neg =>
   have hz:(xp == yp)=false:=by rw[IR];exact hp
   have HF:Hid (¬P):=fun e=>hp (by have e1:=HP.out.1 e;injection e1)
   clear hp hxl hyl
   go_enter func50,ntmps50
   go_wp2;go_ret;exact⟨false,rfl,iY HF.out,dH (box _ _) _⟩
  subst hp;by_cases hs:xs=ys
  case neg =>
   have hz:(xs == ys)=false:=by rw[IR];exact hs
   have HF:Hid (¬P):=fun e=>hs (by have e1:=HP.out.1 e;injection e1)
   clear hs hxl hyl
   go_enter func50,ntmps50
   go_wp2;go_ret;exact⟨false,rfl,iY HF.out,dH (box _ _) _⟩
  subst hs;by_cases ht:xt=yt
  case neg =>
   have hz:(xt == yt)=false:=by rw[IR];exact ht
   have HF:Hid (¬P):=fun e=>ht (by have e1:=HP.out.1 e;injection e1)
   clear ht hxl hyl
   go_enter func50,ntmps50
   go_wp2;go_ret;exact⟨false,rfl,iY HF.out,dH (box _ _) _⟩
  subst ht;by_cases hl:n=n'
  case neg =>
   have hz:((n:Int) != (n':Int))=true:=by rw[bne_iff_ne];omega
   have HF:Hid (¬P):=fun e=>hl (by have e1:=HP.out.1 e;injection e1 with _ _ _ _ _ _ e2;rw[←hxl,←hyl,e2])
   clear hl hxl hyl
   go_enter func50,ntmps50
   go_wp2;go_ret;exact⟨false,rfl,iY HF.out,dH (box _ _) _⟩
  subst hl;have KL:=WP hxl;have KN:=WP hyl;rw[hxl]at hw1;clear hxl hyl
  go_enter func50,ntmps50
  go_wp2
  go_loopw [5] (fun ix wq=>∃i:Nat,i≤n∧ix=.int .i64 i∧Hid (∀j (h1:j < xl.length) (h2:j < yl.length),j < i→xl[j]=yl[j])∧Hid (F5 wq w.heap.size 37 (aB ⟨xk,xn,xd,xp,xs,xt,xl⟩ (.slice A n c)))∧Hid (F5 wq (w.heap.size+1) 37 (aB ⟨xk,xn,xd,xp,xs,xt,yl⟩ (.slice A' n c')))∧Below w.heap.size w wq) (fun ix _=>n - (intOf ix).toNat)
  case atStart=>exact⟨0,ww _,rfl,WP (fun j _ _ h=>absurd h J),WP ((F5.new w _ _).alloc _),WP (F5.rM w _ _ _),dH (box _ _) _⟩
  case round =>
   obtain⟨i,hi,rfl,HJ,HX,HY,hb⟩:=hrel;obtain⟨u0,u1,u2,u3,u4,u5,u6,hu⟩:=HX.out.seven;obtain⟨v0,v1,v2,v3,v4,v5,v6,hv⟩:=HY.out.seven;by_cases hin:i < n
   ·obtain⟨p1,q1,hil,A4,n4,c4,rfl,hp1,_,a0,a1,a2,a3,a4,a5,a6,ha⟩:=hx.jD hb (i:=i) hin;obtain⟨p2,q2,a2s,A5,n5,c5,rfl,hp2,_,b0,b1,b2,b3,b4,b5,b6,hb'⟩:=hy.jD hb (i:=i) hin;have hp1':=Zaa hp1 hb.size;have hp2':=Zaa hp2 hb.size;have hsz:=Ob.pF (o:=⟨xk,xn,xd,xp,xs,xt,xl⟩) (x:=xl[i]) (Zay hil);have hwf:=hW.kids (x:=xl[i]) (Zay hil);have HC:Hid (∀wd:World,Below w.heap.size w wd→Calls prog 50 #[N7 xl[i] (.slice A4 n4 c4),N7 yl[i] (.slice A5 n5 c5)] wd (jZ (xl[i]=yl[i]) wd)):=fun wd hd=>ih xl[i] yl[i] J hwf A4 A5 n4 n5 c4 c5 wd (ha.under hd) (hb'.under hd)
    have hi1:(0:Int)≤(i:Int):=J;have hi2:(i:Int) < n:=J;have hbd:=hb.drew
    go_upto_region 6 with (fail)
    go_still_tail 10,(by kernel_rfl)
    go_wp2_with fail
    refine (HC.out _ hbd).mono ?_;rintro e w1 ⟨bb,rfl,hbb,hb1⟩;have jB:=U3 hbd hb1;cases bb with
    |false =>
     have HF:Hid (¬P):=fun e=>by
      have e1:=HP.out.1 e;injection e1 with _ _ _ _ _ _ e2
      have:=hbb.2 (by subst e2;rfl);cases this
     clear hbb;go_wp2;go_ret;exact⟨false,rfl,iY HF.out,jB⟩
    |true =>
     have HE:=WP (hbb.1 rfl);clear hbb;go_wp2
     go_roundw
     case rel=>exact⟨i+1,J,by go_num,WP (fun j h1 h2 h=>by
      rcases Zai j i with h3 | h3
      ·exact HJ.out j h1 h2 h3
      ·obtain rfl:j=i:=J;exact HE.out),WP (HX.out.drew.below hb1),WP (HY.out.drew.below hb1),jB⟩
     case measure=>simp only[intOf];omega
   ·obtain rfl:i=n:=J;have HT:Hid P:=HP.out.2 (by
     rw[all_eq KL.out KN.out HJ.out])
    go_wp2;go_ret;exact⟨true,rfl,Yy HT.out,hb⟩
theorem VI(ok:Nat→Prop)(o:Ob)(hw:o.Wf)(A:Option Addr)(n c:Nat)(w:World)(h:Rd ok w (.slice A n c) (.row (o.pair.map Ob.enc))):Calls prog 16 #[N7 o (.slice A n c)] w (jZ (o=U6) w):=by
 have HE:Hid (∀w':World,Below w.heap.size w w'→Calls prog 50 #[N7 o (.slice A n c),N7 U6 (.slice none 0 0)] w' (jZ (o=U6) w')):=fun w' hb=>Nu ok (fun _=>True) o.size o U6 (NE _) hw A none n 0 c 0 w' (h.under hb) (.nil _ _)
 generalize (o=U6)=P at *
 go_enter func16,ntmps16
 go_upto_region 1 with (fail)
 have oM:=WP (F5.new w 37 (aB o (.slice A n c)));have b0:=(box w (.cells (aB o (.slice A n c)) 37)).drew;generalize w.alloc (.cells (aB o (.slice A n c)) 37)=W at *;have X0:=WP oM.out.drew;obtain⟨TR,Bo,TS,TT,TU,TV,TW,TY⟩:=oM.out.seven
 go_region_held3 (fun w'=>w'.cell? ⟨w.heap.size,0,none⟩=some (.int .i64 o.kind)∧w'.cell? ⟨w.heap.size,1,none⟩=some (str o.num)∧w'.cell? ⟨w.heap.size,2,none⟩=some (str o.den)∧w'.cell? ⟨w.heap.size,3,none⟩=some (str o.sp)∧w'.cell? ⟨w.heap.size,4,none⟩=some (str o.sn)∧w'.cell? ⟨w.heap.size,5,none⟩=some (str o.text)∧w'.cell? ⟨w.heap.size,6,none⟩=some (.slice A n c)) (go_keep)
  (first | (go_at_call 28;((with_reducible refine (Oi _).mono ?_));rintro e v1 ⟨rfl,hb1⟩;have b1:=U3 b0 hb1;have X1:=WP (X0.out.below hb1);obtain⟨QU,QV,QW,QX,QY,QZ,Rf,Rh⟩:=X1.out.seven) | (go_at_call 50;((with_reducible refine (HE.out _ b1).mono ?_));rintro e v2 ⟨bb,rfl,hbb,hb2⟩;have b2:=U3 b1 hb2;have X2:=WP (X1.out.below hb2);obtain⟨Jj,Jk,Jl,Jm,Jn,Jo,Jp,Ri⟩:=X2.out.seven))
 go_wp2;go_ret;exact⟨bb,rfl,hbb,b2⟩
theorem Oj(o:Ob)(q:Rat)(hv:Val o q)(A:Option Addr)(n c:Nat)(hn:o.pair.length=n)(w:World)(ht:Tab w):Calls prog 146 #[N7 o (.slice A n c)] w (uD q w):=by
 rcases hv with⟨hk,rfl⟩ | ⟨hk,rfl⟩
 ·obtain rfl:n=0:=by rw[←hn];rfl
  clear hk hn;generalize Lib.itoa q.num=ln at *;generalize Lib.itoa (q.den:Int)=ld at *
  go_enter func146,ntmps146
  go_wp2;exact jo Tryz.results146 rfl (F5.rM w _ _ _) rfl ⟨A,c,rfl,dH (box _ _) _⟩
 ·obtain⟨k,nm,d,p,s,t,l⟩:=o;dsimp only at hk;have hz:(k == 1)=false:=by rw[IR];exact hk
  clear hk hn;have HI:Hid (∀w':World,Below w.heap.size w w'→Calls prog 12 #[.int .i64 0] w' (aI (numO (Lib.itoa (0:Rat).num) (Lib.itoa ((0:Rat).den:Int))) w')):=fun w' hb=>by
   exact Xn 0 w' (ht.below hb) J J
  unfold uD;generalize Lib.itoa (0:Rat).num=ln at *;generalize Lib.itoa ((0:Rat).den:Int)=ld at *
  go_enter func146,ntmps146
  go_wp2_with fail
  refine (HI.out _ (dH (box _ _) _)).mono ?_;rintro e w1 ⟨rfl,hb⟩;have HB:=WP ((F5.rM w _ _ _).below hb);obtain⟨u0,u1,u2,u3,u4,u5,u6,hu⟩:=HB.out.seven;obtain⟨f0,f1,f2,f3,f4,f5,f6⟩:=HB.out.gy;go_wp2;exact jo Tryz.results146 rfl HB.out.je rfl ⟨none,0,rfl,jf (via (via hb)) (Nat.le_succ _) _ _ _ _ _ _ _⟩
def rkI(k:Int):Int:=if k=1 then 0 else if k=3 then 1 else if k=2 then 2 else 3
theorem a1o{k m:Nat}{l r:aa0}{X Y:Int}(h:Num k l X)(h':Num m r Y)(hk:k≤100000)(hm:m≤100000)(w:World) :
  Calls prog 200 #[str l,str r] w (dG (Lib.itoa (X * Y)) w):=by
 have:=VG l r w (by have:=h.len;omega) (by have:=h'.len;omega)
 rwa [h.val,h'.val]at this
theorem a6P{k m:Nat}{l r:aa0}{X Y V:Int}(h:Num k l X)(h':Num m r Y)(hk:k≤100000)(hm:m≤100000)(hv:jd X Y=V)(w:World) :
  Calls prog 233 #[str l,str r] w (pR V w):=by
 have:=a4I l r w (by have:=h.len;omega) (by have:=h'.len;omega)
 rwa [h.val,h'.val,hv]at this
theorem WE(o:Ob)(A:Option Addr)(n c:Nat)(w:World):Calls prog 232 #[N7 o (.slice A n c)] w (P6 (.int .i64 (rkI o.kind+1)) w):=by
 obtain⟨k,nm,d,p,t,x,l⟩:=o;unfold rkI;dsimp only;by_cases h1:k=1
 ·subst h1
  go_enter func232,ntmps232
  go_wp2;go_ret;exact⟨rfl,box _ _⟩
 have e1:(k == 1)=false:=by rw[IR];exact h1
 rw[lw h1];by_cases h3:k=3
 ·subst h3
  go_enter func232,ntmps232
  go_wp2;go_ret;exact⟨rfl,box _ _⟩
 have e3:(k == 3)=false:=by rw[IR];exact h3
 rw[lw h3];by_cases h2:k=2
 ·subst h2
  go_enter func232,ntmps232
  go_wp2;go_ret;exact⟨rfl,box _ _⟩
 have e2:(k == 2)=false:=by rw[IR];exact h2
 rw[lw h2];clear h1 h2 h3
 go_enter func232,ntmps232
 go_wp2;go_ret;exact⟨rfl,box _ _⟩
theorem a5j(p q:Rat){k m:Nat}(bp:Rb k p)(bq:Rb m q)(hk:k≤10000)(hm:m≤10000)(A A':Option Addr)(n n' c c':Nat)(w:World) :
  Calls prog 201 #[N7 (ax p) (.slice A n c),N7 (ax q) (.slice A' n' c')] w (P6 (.int .i64 (gK p q)) w):=by
 have n1:Num (k+1) (Lib.itoa p.num) p.num:=⟨l9.P9 _,bp.rQ⟩;have d1:Num (k+1) (Lib.itoa (p.den:Int)) p.den:=⟨l9.P9 _,bp.uS⟩;have n2:Num (m+1) (Lib.itoa q.num) q.num:=⟨l9.P9 _,bq.rQ⟩;have d2:Num (m+1) (Lib.itoa (q.den:Int)) q.den:=⟨l9.P9 _,bq.uS⟩;have TP:Hid (∀w':World,Calls prog 200 #[str (Lib.itoa p.num),str (Lib.itoa (q.den:Int))] w' (dG (Lib.itoa (p.num * q.den)) w')):=fun w'=>a1o n1 d2 J J w'
 have TQ:Hid (∀w':World,Calls prog 200 #[str (Lib.itoa q.num),str (Lib.itoa (p.den:Int))] w' (dG (Lib.itoa (q.num * p.den)) w')):=fun w'=>a1o n2 d1 J J w'
 have HC:Hid (∀w':World,Calls prog 233 #[str (Lib.itoa (p.num * q.den)),str (Lib.itoa (q.num * p.den))] w' (pR (gK p q) w')):=fun w'=>a6P (n1.mul d2) (n2.mul d1) J J (Nr p q) w'
 clear n1 n2 d1 d2;unfold ax;generalize gK p q=z at *;generalize Lib.itoa (p.num * q.den)=l1 at *;generalize Lib.itoa (q.num * p.den)=l2 at *;generalize Lib.itoa p.num=ln at *;generalize Lib.itoa q.num=rn at *;generalize Lib.itoa (p.den:Int)=ld at *;generalize Lib.itoa (q.den:Int)=rd at *;have HR1:Hid (∀w':World,Calls prog 232 #[N7 (numO ln ld) (.slice A n c)] w' (P6 (.int .i64 1) w')):=fun w'=>WE (numO ln ld) A n c w'
 have HR2:Hid (∀w':World,Calls prog 232 #[N7 (numO rn rd) (.slice A' n' c')] w' (P6 (.int .i64 1) w')):=fun w'=>WE (numO rn rd) A' n' c' w'
 go_enter func201,ntmps201
 go_upto_region 1 with (fail)
 have oM:=WP ((F5.new w 37 (aB (numO ln ld) (.slice A n c))).alloc (.cells (aB (numO rn rd) (.slice A' n' c')) 37));have vg:=WP (F5.rM w (.cells (aB (numO ln ld) (.slice A n c)) 37) 37 (aB (numO rn rd) (.slice A' n' c')));have b0:=(dH (box w (.cells (aB (numO ln ld) (.slice A n c)) 37)) (.cells (aB (numO rn rd) (.slice A' n' c')) 37)).drew;generalize (w.alloc (.cells (aB (numO ln ld) (.slice A n c)) 37)).alloc (.cells (aB (numO rn rd) (.slice A' n' c')) 37)=W at *;have X0:=WP oM.out.drew;have Y0:=WP vg.out.drew;obtain⟨TR,Bo,TS,TT,TU,TV,TW,TY⟩:=oM.out.seven;obtain⟨ys0,ys1,ys2,ys3,ys4,ys5,ys6,ysl⟩:=vg.out.seven
 go_region_held3 (fun w'=>w'.cell? ⟨w.heap.size,0,none⟩=some (.int .i64 1)∧w'.cell? ⟨w.heap.size,1,none⟩=some (str ln)∧w'.cell? ⟨w.heap.size,2,none⟩=some (str ld)∧w'.cell? ⟨w.heap.size,3,none⟩=some (str [])∧w'.cell? ⟨w.heap.size,4,none⟩=some (str [])∧w'.cell? ⟨w.heap.size,5,none⟩=some (str [])∧w'.cell? ⟨w.heap.size,6,none⟩=some (.slice A n c)∧w'.cell? ⟨w.heap.size+1,0,none⟩=some (.int .i64 1)∧w'.cell? ⟨w.heap.size+1,1,none⟩=some (str rn)∧w'.cell? ⟨w.heap.size+1,2,none⟩=some (str rd)∧w'.cell? ⟨w.heap.size+1,3,none⟩=some (str [])∧w'.cell? ⟨w.heap.size+1,4,none⟩=some (str [])∧w'.cell? ⟨w.heap.size+1,5,none⟩=some (str [])∧w'.cell? ⟨w.heap.size+1,6,none⟩=some (.slice A' n' c')) (go_keep)
  (first | (go_at_call 232;((with_reducible refine (HR1.out _).mono ?_));rintro e v1 ⟨rfl,hb1⟩;have b1:=U3 b0 hb1;have X1:=WP (X0.out.below hb1);have Y1:=WP (Y0.out.below hb1);obtain⟨QU,QV,QW,QX,QY,QZ,Rf,Rh⟩:=X1.out.seven;obtain⟨a0X,a0Y,a0Z,a02,a03,a04,a05,a06⟩:=Y1.out.seven) | (go_at_call 232;((with_reducible refine (HR2.out _).mono ?_));rintro e v2 ⟨rfl,hb2⟩;have b2:=U3 b1 hb2;have X2:=WP (X1.out.below hb2);have Y2:=WP (Y1.out.below hb2);obtain⟨Jj,Jk,Jl,Jm,Jn,Jo,Jp,Ri⟩:=X2.out.seven;obtain⟨Rj,Rk,Rl,Rn,Ro,Rq,Rt,a07⟩:=Y2.out.seven))
 go_wp2_with fail
 refine (HR1.out _).mono ?_;rintro e v3 ⟨rfl,hb3⟩;have b3:=U3 b2 hb3;have X3:=WP (X2.out.below hb3);have Y3:=WP (Y2.out.below hb3);clear Jj Jk Jl Jm Jn Jo Jp Rj Rk Rl Rn Ro Rq Rt;obtain⟨a08,a09,a1a,a1b,a1c,a1d,a1e,a1f⟩:=X3.out.seven;obtain⟨a1g,a1h,a1i,a1j,a1k,a1l,a1m,a1n⟩:=Y3.out.seven
 go_upto_region 7 with (fail)
 have X4:=WP X3.out.drew;have Y4:=WP Y3.out.drew;have b4:=b3.drew
 go_region_held3 (fun w'=>w'.cell? ⟨w.heap.size,1,none⟩=some (str ln)∧w'.cell? ⟨w.heap.size,2,none⟩=some (str ld)∧w'.cell? ⟨w.heap.size+1,1,none⟩=some (str rn)∧w'.cell? ⟨w.heap.size+1,2,none⟩=some (str rd)) (go_keep)
  (first | (go_at_call 200;((with_reducible refine (TP.out _).mono ?_));rintro e v5 ⟨rfl,hb5⟩;have b5:=U3 b4 hb5;have X5:=WP (X4.out.below hb5);have Y5:=WP (Y4.out.below hb5);obtain⟨c0W,c0X,c0Y,c0Z,c02,c04,c05,c06⟩:=X5.out.seven;obtain⟨c07,c08,c09,c1b,c1c,c1d,c1e,c1f⟩:=Y5.out.seven) | (go_at_call 200;((with_reducible refine (TQ.out _).mono ?_));rintro e v6 ⟨rfl,hb6⟩;have b6:=U3 b5 hb6;have X6:=WP (X5.out.below hb6);have Y6:=WP (Y5.out.below hb6);obtain⟨c1g,c1h,c1i,c1j,c1k,c1l,c1m,c1n⟩:=X6.out.seven;obtain⟨c1o,c1p,c1q,c1r,c1s,c1t,c1u,c1w⟩:=Y6.out.seven) | (go_at_call 233;((with_reducible refine (HC.out _).mono ?_));rintro e v7 ⟨rfl,hb7⟩;have b7:=U3 b6 hb7;have X7:=WP (X6.out.below hb7);have Y7:=WP (Y6.out.below hb7);obtain⟨c1x,c1y,c1z,c1A,c1B,c1C,c1E,c1F⟩:=X7.out.seven;obtain⟨c1G,c1H,c1I,c1J,c1K,c1M,c1N,c1O⟩:=Y7.out.seven))
 go_wp2;go_ret;exact⟨rfl,b7⟩
theorem a6Q(a b:Ob)(p q:Rat)(hp:Val a p)(hq:Val b q){k m:Nat}(bp:Rb k p)(bq:Rb m q)(hk:k≤10000)(hm:m≤10000)(A A':Option Addr)(n n' c c':Nat)(hn:a.pair.length=n)(hn':b.pair.length=n')(w:World)(ht:Tab w) :
  Calls prog 154 #[N7 a (.slice A n c),N7 b (.slice A' n' c')] w (P6 (.bool (decide (p < q))) w):=by
 have HF1:Hid (∀w':World,Below w.heap.size w w'→Calls prog 146 #[N7 a (.slice A n c)] w' (QT (Lib.itoa p.num) (Lib.itoa (p.den:Int)) w')):=fun w' hb=>Oj a p hp A n c hn w' (ht.below hb)
 have HF2:Hid (∀w':World,Below w.heap.size w w'→Calls prog 146 #[N7 b (.slice A' n' c')] w' (QT (Lib.itoa q.num) (Lib.itoa (q.den:Int)) w')):=fun w' hb=>Oj b q hq A' n' c' hn' w' (ht.below hb)
 have HV:Hid (∀(w':World) (A1 A2:Option Addr) (c1 c2:Nat),Below w.heap.size w w'→Calls prog 201 #[N7 (ax p) (.slice A1 0 c1),N7 (ax q) (.slice A2 0 c2)] w' (P6 (.int .i64 (gK p q)) w')):=fun w' A1 A2 c1 c2 _=>a5j p q bp bq hk hm A1 A2 0 0 c1 c2 w'
 unfold ax at HV;rw[←Xk];clear hp hq bp bq hk hm hn hn';generalize gK p q=z at *;generalize Lib.itoa p.num=ln at *;generalize Lib.itoa (p.den:Int)=ld at *;generalize Lib.itoa q.num=rn at *;generalize Lib.itoa (q.den:Int)=rd at *
 go_enter func154,ntmps154
 go_upto_region 1 with (fail)
 have oM:=WP ((F5.new w 37 (aB a (.slice A n c))).alloc (.cells (aB b (.slice A' n' c')) 37));have vg:=WP (F5.rM w (.cells (aB a (.slice A n c)) 37) 37 (aB b (.slice A' n' c')));have b0:=(dH (box w (.cells (aB a (.slice A n c)) 37)) (.cells (aB b (.slice A' n' c')) 37)).drew;generalize (w.alloc (.cells (aB a (.slice A n c)) 37)).alloc (.cells (aB b (.slice A' n' c')) 37)=W at *;have X0:=WP oM.out.drew;have Y0:=WP vg.out.drew;obtain⟨TR,Bo,TS,TT,TU,TV,TW,TY⟩:=oM.out.seven;obtain⟨ys0,ys1,ys2,ys3,ys4,ys5,ys6,ysl⟩:=vg.out.seven
 go_region_held3 (fun w'=>w'.cell? ⟨w.heap.size,0,none⟩=some (.int .i64 a.kind)∧w'.cell? ⟨w.heap.size,1,none⟩=some (str a.num)∧w'.cell? ⟨w.heap.size,2,none⟩=some (str a.den)∧w'.cell? ⟨w.heap.size,3,none⟩=some (str a.sp)∧w'.cell? ⟨w.heap.size,4,none⟩=some (str a.sn)∧w'.cell? ⟨w.heap.size,5,none⟩=some (str a.text)∧w'.cell? ⟨w.heap.size,6,none⟩=some (.slice A n c)∧w'.cell? ⟨w.heap.size+1,0,none⟩=some (.int .i64 b.kind)∧w'.cell? ⟨w.heap.size+1,1,none⟩=some (str b.num)∧w'.cell? ⟨w.heap.size+1,2,none⟩=some (str b.den)∧w'.cell? ⟨w.heap.size+1,3,none⟩=some (str b.sp)∧w'.cell? ⟨w.heap.size+1,4,none⟩=some (str b.sn)∧w'.cell? ⟨w.heap.size+1,5,none⟩=some (str b.text)∧w'.cell? ⟨w.heap.size+1,6,none⟩=some (.slice A' n' c')) (go_keep)
  (first | (go_at_call 146;((with_reducible refine (HF1.out _ b0).mono ?_));rintro e v1 ⟨A1,c1,rfl,hb1⟩;have b1:=U3 b0 hb1;have X1:=WP (X0.out.below hb1);have Y1:=WP (Y0.out.below hb1);obtain⟨QU,QV,QW,QX,QY,QZ,Rf,Rh⟩:=X1.out.seven;obtain⟨a0X,a0Y,a0Z,a02,a03,a04,a05,a06⟩:=Y1.out.seven) | (go_at_call 146;((with_reducible refine (HF2.out _ b1).mono ?_));rintro e v2 ⟨A2,c2,rfl,hb2⟩;have b2:=U3 b1 hb2;have X2:=WP (X1.out.below hb2);have Y2:=WP (Y1.out.below hb2);obtain⟨Jj,Jk,Jl,Jm,Jn,Jo,Jp,Ri⟩:=X2.out.seven;obtain⟨Rj,Rk,Rl,Rn,Ro,Rq,Rt,a07⟩:=Y2.out.seven) | (go_at_call 201;((with_reducible refine (HV.out _ A1 A2 c1 c2 b2).mono ?_));rintro e v3 ⟨rfl,hb3⟩;have b3:=U3 b2 hb3;have X3:=WP (X2.out.below hb3);have Y3:=WP (Y2.out.below hb3);obtain⟨a08,a09,a1a,a1b,a1c,a1d,a1e,a1f⟩:=X3.out.seven;obtain⟨a1g,a1h,a1i,a1j,a1k,a1l,a1m,a1n⟩:=Y3.out.seven))
 go_wp2;go_ret;exact⟨rfl,b3⟩
abbrev dg(l:aa0):Nat:=(l9.mag (norm l)).length
def kD(n d:aa0):Bool:=decide (Lib.itoa (bu (l9.D5 n) (l9.D5 d))=n∧Lib.itoa (bz (l9.D5 n) (l9.D5 d))=d∧dg n≤100∧dg d≤100)
namespace Ob
mutual
def az:Ob→Bool
 |⟨k,n,d,p,s,t,l⟩ =>
  if k=4 then decide (n=[]∧d=[]∧p=[]∧s=[]∧t=[]∧l.length=2) && allB l
  else if k=1 then decide (p=[]∧s=[]∧t=[]∧l.length=0) && kD n d
  else if k=2 then decide (n=[]∧d=[]∧t=[]∧l.length=0) && Y8 ⟨p,s⟩
  else if k=3 then decide (n=[]∧d=[]∧p=[]∧s=[]∧t.length≤200∧l.length=0)
  else false
def allB:List Ob→Bool
 |[]=>true
 |o::r=>az o && allB r
end
theorem ah(k:Int)(n d p s t:aa0)(l:List Ob):az ⟨k,n,d,p,s,t,l⟩=(if k=4 then decide (n=[]∧d=[]∧p=[]∧s=[]∧t=[]∧l.length=2) && allB l
  else if k=1 then decide (p=[]∧s=[]∧t=[]∧l.length=0) && kD n d
  else if k=2 then decide (n=[]∧d=[]∧t=[]∧l.length=0) && Y8 ⟨p,s⟩
  else if k=3 then decide (n=[]∧d=[]∧p=[]∧s=[]∧t.length≤200∧l.length=0)
  else false):=by rw[az]
inductive Sm:Ob→Prop
 |mk (o:Ob) (hn:o.num.length≤1100000) (hd:o.den.length≤1100000) (h:∀x∈o.pair,Sm x):Sm o
theorem Sm.kids{o x:Ob}(h:o.Sm)(hx:x∈o.pair):x.Sm:=by
 cases h with
 |mk _ _ _ h=>exact h x hx
theorem Sm.len{o:Ob}(h:o.Sm):o.num.length≤1100000∧o.den.length≤1100000:=by
 cases h with
 |mk _ a b _=>exact⟨a,b⟩
end Ob
theorem a6R(o:Ob)(A:Option Addr)(n c:Nat)(w:World):Calls prog 253 #[N7 o (.slice A n c),.bool false,.bool false,.bool false] w (P6 (.bool (decide (o.num=[]∧o.den=[]∧o.sp=[]∧o.sn=[]∧o.text=[]))) w):=by
 obtain⟨k,nm,d,p,sy,t,l⟩:=o;dsimp only;by_cases hnm:nm=[]
 case neg =>
  rw[WF (fun h=>hnm (h.1))];have hz:(nm == [])=false:=by rw[IR];exact hnm
  clear hnm
  go_enter func253,ntmps253
  go_wp2;go_ret;exact⟨rfl,box _ _⟩
 subst hnm;by_cases hd:d=[]
 case neg =>
  rw[WF (fun h=>hd (h.2.1))];have hz:(d == [])=false:=by rw[IR];exact hd
  clear hd
  go_enter func253,ntmps253
  go_wp2;go_ret;exact⟨rfl,box _ _⟩
 subst hd;by_cases hp:p=[]
 case neg =>
  rw[WF (fun h=>hp (h.2.2.1))];have hz:(p == [])=false:=by rw[IR];exact hp
  clear hp
  go_enter func253,ntmps253
  go_wp2;go_ret;exact⟨rfl,box _ _⟩
 subst hp;by_cases hsy:sy=[]
 case neg =>
  rw[WF (fun h=>hsy (h.2.2.2.1))];have hz:(sy == [])=false:=by rw[IR];exact hsy
  clear hsy
  go_enter func253,ntmps253
  go_wp2;go_ret;exact⟨rfl,box _ _⟩
 subst hsy;by_cases ht:t=[]
 case neg =>
  rw[WF (fun h=>ht (h.2.2.2.2))];have hz:(t == [])=false:=by rw[IR];exact ht
  clear ht
  go_enter func253,ntmps253
  go_wp2;go_ret;exact⟨rfl,box _ _⟩
 subst ht;rw[UV I]
 go_enter func253,ntmps253
 go_wp2;go_ret;exact⟨rfl,box _ _⟩
theorem a6S(o:Ob)(A:Option Addr)(n c:Nat)(w:World):Calls prog 253 #[N7 o (.slice A n c),.bool true,.bool false,.bool false] w (P6 (.bool (decide (o.sp=[]∧o.sn=[]∧o.text=[]))) w):=by
 obtain⟨k,nm,d,p,sy,t,l⟩:=o;dsimp only;by_cases hp:p=[]
 case neg =>
  rw[WF (fun h=>hp (h.1))];have hz:(p == [])=false:=by rw[IR];exact hp
  clear hp
  go_enter func253,ntmps253
  go_wp2;go_ret;exact⟨rfl,box _ _⟩
 subst hp;by_cases hsy:sy=[]
 case neg =>
  rw[WF (fun h=>hsy (h.2.1))];have hz:(sy == [])=false:=by rw[IR];exact hsy
  clear hsy
  go_enter func253,ntmps253
  go_wp2;go_ret;exact⟨rfl,box _ _⟩
 subst hsy;by_cases ht:t=[]
 case neg =>
  rw[WF (fun h=>ht (h.2.2))];have hz:(t == [])=false:=by rw[IR];exact ht
  clear ht
  go_enter func253,ntmps253
  go_wp2;go_ret;exact⟨rfl,box _ _⟩
 subst ht;rw[UV I]
 go_enter func253,ntmps253
 go_wp2;go_ret;exact⟨rfl,box _ _⟩
theorem a6T(o:Ob)(A:Option Addr)(n c:Nat)(w:World):Calls prog 253 #[N7 o (.slice A n c),.bool false,.bool true,.bool false] w (P6 (.bool (decide (o.num=[]∧o.den=[]∧o.text=[]))) w):=by
 obtain⟨k,nm,d,p,sy,t,l⟩:=o;dsimp only;by_cases hnm:nm=[]
 case neg =>
  rw[WF (fun h=>hnm (h.1))];have hz:(nm == [])=false:=by rw[IR];exact hnm
  clear hnm
  go_enter func253,ntmps253
  go_wp2;go_ret;exact⟨rfl,box _ _⟩
 subst hnm;by_cases hd:d=[]
 case neg =>
  rw[WF (fun h=>hd (h.2.1))];have hz:(d == [])=false:=by rw[IR];exact hd
  clear hd
  go_enter func253,ntmps253
  go_wp2;go_ret;exact⟨rfl,box _ _⟩
 subst hd;by_cases ht:t=[]
 case neg =>
  rw[WF (fun h=>ht (h.2.2))];have hz:(t == [])=false:=by rw[IR];exact ht
  clear ht
  go_enter func253,ntmps253
  go_wp2;go_ret;exact⟨rfl,box _ _⟩
 subst ht;rw[UV I]
 go_enter func253,ntmps253
 go_wp2;go_ret;exact⟨rfl,box _ _⟩
theorem a6U(o:Ob)(A:Option Addr)(n c:Nat)(w:World):Calls prog 253 #[N7 o (.slice A n c),.bool false,.bool false,.bool true] w (P6 (.bool (decide (o.num=[]∧o.den=[]∧o.sp=[]∧o.sn=[]))) w):=by
 obtain⟨k,nm,d,p,sy,t,l⟩:=o;dsimp only;by_cases hnm:nm=[]
 case neg =>
  rw[WF (fun h=>hnm (h.1))];have hz:(nm == [])=false:=by rw[IR];exact hnm
  clear hnm
  go_enter func253,ntmps253
  go_wp2;go_ret;exact⟨rfl,box _ _⟩
 subst hnm;by_cases hd:d=[]
 case neg =>
  rw[WF (fun h=>hd (h.2.1))];have hz:(d == [])=false:=by rw[IR];exact hd
  clear hd
  go_enter func253,ntmps253
  go_wp2;go_ret;exact⟨rfl,box _ _⟩
 subst hd;by_cases hp:p=[]
 case neg =>
  rw[WF (fun h=>hp (h.2.2.1))];have hz:(p == [])=false:=by rw[IR];exact hp
  clear hp
  go_enter func253,ntmps253
  go_wp2;go_ret;exact⟨rfl,box _ _⟩
 subst hp;by_cases hsy:sy=[]
 case neg =>
  rw[WF (fun h=>hsy (h.2.2.2))];have hz:(sy == [])=false:=by rw[IR];exact hsy
  clear hsy
  go_enter func253,ntmps253
  go_wp2;go_ret;exact⟨rfl,box _ _⟩
 subst hsy;rw[UV I]
 go_enter func253,ntmps253
 go_wp2;go_ret;exact⟨rfl,box _ _⟩
theorem a7M{n d:aa0}(h:kD n d=true):l9.U4 n=true∧l9.U4 d=true∧dg n≤100∧dg d≤100:=by
 unfold kD at h;obtain⟨h1,h2,h3,h4⟩:=Zad h;exact⟨by rw[←h1];exact l9.Nk _,by rw[←h2];exact l9.Nk _,h3,h4⟩
theorem a6j(a b:aa0)(w:World)(ht:Tab w)(ha:a.length≤1100000)(hb:b.length≤1100000):Calls prog 254 #[str a,str b] w (P6 (.bool (kD a b)) w):=by
 have jK:Hid (∀w':World,Calls prog 262 #[str a] w' (uw (.bool (l9.U4 a)) w')):=fun w'=>qV a w' J
 have mX:Hid (∀w':World,Calls prog 262 #[str b] w' (uw (.bool (l9.U4 b)) w')):=fun w'=>qV b w' J
 have HD1:Hid (∀w':World,Calls prog 237 #[str a] w' (uw (.int .i64 (dg a:Nat)) w')):=fun w'=>GV a w' J
 have HD2:Hid (∀w':World,Calls prog 237 #[str b] w' (uw (.int .i64 (dg b:Nat)) w')):=fun w'=>GV b w' J
 have HR:Hid (∀w':World,Below w.heap.size w w'→Calls prog 245 #[str a,str b] w' (iW (Lib.itoa (bu (l9.D5 a) (l9.D5 b))) (Lib.itoa (bz (l9.D5 a) (l9.D5 b))) w')):=fun w' hb'=>Vp a b w' ha hb (ht.below hb')
 have Fa:dg a≤1100002:=by have h1:=l9.lV (norm a);have h2:=pq a;show (l9.mag (norm a)).length≤_;omega
 have Fb:dg b≤1100002:=by have h1:=l9.lV (norm b);have h2:=pq b;show (l9.mag (norm b)).length≤_;omega
 have HN:Hid (∀h:¬(l9.U4 a=true∧l9.U4 b=true∧dg a≤100∧dg b≤100),kD a b=false):=fun h=>by
  rw[Zal];exact fun e=>h (a7M e)
 have HL:Hid (kD a b=decide (Lib.itoa (bu (l9.D5 a) (l9.D5 b))=a∧Lib.itoa (bz (l9.D5 a) (l9.D5 b))=b∧dg a≤100∧dg b≤100)):=rfl;generalize kD a b=z at *;generalize Lib.itoa (bu (l9.D5 a) (l9.D5 b))=x at *;generalize Lib.itoa (bz (l9.D5 a) (l9.D5 b))=y at *;generalize dg a=da at *;generalize dg b=db at *;cases h1:l9.U4 a with
 |false =>
  obtain rfl:=HN.out (fun h=>by rw[h1]at h;cases h.1);rw[h1]at jK;clear HL HN h1
  go_enter func254,ntmps254
  go_wp2_with fail
  refine (jK.out _).mono ?_;rintro e w' ⟨rfl,rfl⟩;go_wp2;go_ret;exact⟨rfl,Below.refl _ _⟩
 |true =>
 rw[h1]at jK;cases h2:l9.U4 b with
 |false =>
  obtain rfl:=HN.out (fun h=>by rw[h2]at h;cases h.2.1);rw[h2]at mX;clear HL HN h1 h2
  go_enter func254,ntmps254
  go_wp2_with fail
  refine (jK.out _).mono ?_;rintro e w' ⟨rfl,rfl⟩
  go_wp2_with fail
  refine (mX.out _).mono ?_;rintro e w' ⟨rfl,rfl⟩;go_wp2;go_ret;exact⟨rfl,Below.refl _ _⟩
 |true =>
 rw[h2]at mX;have VV:Hid (l9.U4 a=true∧l9.U4 b=true):=⟨h1,h2⟩;clear h1 h2;by_cases h3:da≤100
 case neg =>
  obtain rfl:=HN.out (fun h=>h3 h.2.2.1);clear HL HN VV
  go_enter func254,ntmps254
  go_wp2_with fail
  refine (jK.out _).mono ?_;rintro e w' ⟨rfl,rfl⟩
  go_wp2_with fail
  refine (mX.out _).mono ?_;rintro e w' ⟨rfl,rfl⟩
  go_wp2_with fail
  refine (HD1.out _).mono ?_;rintro e w' ⟨rfl,rfl⟩;go_wp2;go_ret;exact⟨rfl,Below.refl _ _⟩
 by_cases h4:db≤100
 case neg =>
  obtain rfl:=HN.out (fun h=>h4 h.2.2.2);clear HL HN VV
  go_enter func254,ntmps254
  go_wp2_with fail
  refine (jK.out _).mono ?_;rintro e w' ⟨rfl,rfl⟩
  go_wp2_with fail
  refine (mX.out _).mono ?_;rintro e w' ⟨rfl,rfl⟩
  go_wp2_with fail
  refine (HD1.out _).mono ?_;rintro e w' ⟨rfl,rfl⟩
  go_wp2_with fail
  refine (HD2.out _).mono ?_;rintro e w' ⟨rfl,rfl⟩;go_wp2;go_ret;exact⟨rfl,Below.refl _ _⟩
 have HZ:Hid (z=decide (x=a∧y=b)):=by
  show z=_;rw[HL.out];exact Zam.2 ⟨fun h=>⟨h.1,h.2.1⟩,fun h=>⟨h.1,h.2,h3,h4⟩⟩
 clear HN HL VV;by_cases h5:x=a
 ·by_cases h6:y=b
  ·obtain rfl:z=true:=by rw[HZ.out];exact UV ⟨h5,h6⟩
   subst h5 h6;clear HZ
   go_enter func254,ntmps254
   go_wp2_with fail
   refine (jK.out _).mono ?_;rintro e w' ⟨rfl,rfl⟩
   go_wp2_with fail
   refine (mX.out _).mono ?_;rintro e w' ⟨rfl,rfl⟩
   go_wp2_with fail
   refine (HD1.out _).mono ?_;rintro e w' ⟨rfl,rfl⟩
   go_wp2_with fail
   refine (HD2.out _).mono ?_;rintro e w' ⟨rfl,rfl⟩
   go_wp2_with fail
   refine (HR.out _ (Below.refl _ _)).mono ?_;rintro e w1 ⟨rfl,hb1⟩;go_wp2;go_ret;exact⟨rfl,hb1⟩
  ·obtain rfl:z=false:=by rw[HZ.out];exact WF (fun h=>h6 h.2)
   subst h5;have hz:(y == b)=false:=by rw[IR];exact h6
   clear HZ h6
   go_enter func254,ntmps254
   go_wp2_with fail
   refine (jK.out _).mono ?_;rintro e w' ⟨rfl,rfl⟩
   go_wp2_with fail
   refine (mX.out _).mono ?_;rintro e w' ⟨rfl,rfl⟩
   go_wp2_with fail
   refine (HD1.out _).mono ?_;rintro e w' ⟨rfl,rfl⟩
   go_wp2_with fail
   refine (HD2.out _).mono ?_;rintro e w' ⟨rfl,rfl⟩
   go_wp2_with fail
   refine (HR.out _ (Below.refl _ _)).mono ?_;rintro e w1 ⟨rfl,hb1⟩;go_wp2;go_ret;exact⟨rfl,hb1⟩
 ·obtain rfl:z=false:=by rw[HZ.out];exact WF (fun h=>h5 h.1)
  have hz:(x == a)=false:=by rw[IR];exact h5
  clear HZ h5
  go_enter func254,ntmps254
  go_wp2_with fail
  refine (jK.out _).mono ?_;rintro e w' ⟨rfl,rfl⟩
  go_wp2_with fail
  refine (mX.out _).mono ?_;rintro e w' ⟨rfl,rfl⟩
  go_wp2_with fail
  refine (HD1.out _).mono ?_;rintro e w' ⟨rfl,rfl⟩
  go_wp2_with fail
  refine (HD2.out _).mono ?_;rintro e w' ⟨rfl,rfl⟩
  go_wp2_with fail
  refine (HR.out _ (Below.refl _ _)).mono ?_;rintro e w1 ⟨rfl,hb1⟩;go_wp2;go_ret;exact⟨rfl,hb1⟩
theorem a6k(ok:Nat→Prop):∀(N:Nat) (o:Ob),o.size≤N→o.Wf→o.Sm→∀(A:Option Addr) (n c:Nat) (w:World),Tab w→Rd ok w (.slice A n c) (.row (o.pair.map Ob.enc)) →
  Calls prog 218 #[N7 o (.slice A n c)] w (P6 (.bool o.az) w):=by
 intro N
 induction N with
 |zero=>intro o h;have:=Ob.size_pos o;omega
 |succ N ih =>
  intro o hN hW hS A n c w ht hP;obtain⟨fb,hfb⟩:∃fb,fb=o.az:=⟨_,rfl⟩;rw[←hfb];have HF0:Hid (o.az=fb):=hfb.symm;clear hfb
  go_enter func218,ntmps218
  go_wp2
  go_loopg [2] o.size (fun gx lv wr=>∃(x:Ob) (A2:Option Addr) (n2 c2:Nat),lv=.bool false∧Hid (F5 wr w.heap.size 37 (aB x (.slice A2 n2 c2)))∧Rd ok w (.slice A2 n2 c2) (.row (x.pair.map Ob.enc))∧x.size≤N+1∧Hid x.Wf∧Hid x.Sm∧Hid (x.az=fb)∧x.size≤gx∧Below w.heap.size w wr)
  case atStart=>exact⟨o,A,n,c,rfl,WP (F5.new w _ _),hP,hN,WP hW,WP hS,HF0,NE _,box _ _⟩
  case round =>
   clear HF0 hW hS hP;obtain⟨⟨xk,xn,xd,xp,xs,xt,vk⟩,A2,n2,c2,rfl,X,hr,hxN,xX,Bq,HF,hgx,hb⟩:=hrel;have hlen:=hr.len;rw[EQ]at hlen;have hw1:=xX.out.len;have hs1:=Bq.out.len;dsimp only at hlen hw1 hs1 hr X;have hn2:n2≤9223372036854775807:=by rw[←hlen];exact hw1
   obtain⟨hs1,hs2⟩:=hs1;clear hw1;obtain⟨x0,x1,x2,x3,x4,x5,x6,xl⟩:=X.out.seven;obtain⟨xf0,qA,qB,qC,qE,qF,qG⟩:=X.out.gy;by_cases h4:xk=4
   ·subst h4;have dV:Hid (∀w':World,Calls prog 253 #[N7 ⟨4,xn,xd,xp,xs,xt,vk⟩ (.slice A2 n2 c2),.bool false,.bool false,.bool false] w' (P6 (.bool (decide (xn=[]∧xd=[]∧xp=[]∧xs=[]∧xt=[]))) w')):=fun w'=>a6R ⟨4,xn,xd,xp,xs,xt,vk⟩ A2 n2 c2 w'
    by_cases h2:n2=2
    case neg =>
     obtain rfl:fb=false:=by rw[←HF.out,Ob.ah,Za0 rfl];rw[Zal];intro h;simp only[AC,Za3]at h;exact h2 (by rw[←hlen];simp[h])
     have hz:((n2:Int) != 2)=true:=by rw[bne_iff_ne];omega
     clear HF dV hlen;go_wp2;go_ret;exact⟨rfl,hb⟩
    subst h2;by_cases hbr:xn=[]∧xd=[]∧xp=[]∧xs=[]∧xt=[]
    case neg =>
     rw[WF hbr]at dV;obtain rfl:fb=false:=by rw[←HF.out,Ob.ah,Za0 rfl];rw[Zal];intro h;simp only[AC,Za3]at h;exact hbr (by simp[h])
     clear HF hbr hlen
     go_wp2_with fail
     refine (dV.out _).mono ?_;rintro e w1 ⟨rfl,hb1⟩;go_wp2;go_ret;exact⟨rfl,U3 hb hb1⟩
    rw[UV hbr]at dV;obtain⟨rfl,rfl,rfl,rfl,rfl⟩:=hbr;obtain⟨a,d,rfl⟩:=Ob.Gv hlen;have hsa:=Ob.pF (o:=⟨4,[],[],[],[],[],[a,d]⟩) (x:=a) I;have hsd:=Ob.pF (o:=⟨4,[],[],[],[],[],[a,d]⟩) (x:=d) I;have Ub:=WP (xX.out.kids (x:=a) I);have Uc:=WP (xX.out.kids (x:=d) I);have HSa:=WP (Bq.out.kids (x:=a) I);have HSd:=WP (Bq.out.kids (x:=d) I);have HF2:Hid ((a.az && d.az)=fb):=by
     show _=fb;rw[←HF.out,Ob.ah,Za0 rfl];simp[Ob.allB]
    clear hlen HF xX Bq
    go_wp2_with fail
    refine (dV.out _).mono ?_;rintro e w1 ⟨rfl,hb1⟩;have b1:=U3 hb hb1;have X1:=WP (X.out.below hb1);clear x0 xf0 x1 qA x2 qB x3 qC x4 qE x5 qF x6 qG;obtain⟨y0,y1,y2,y3,y4,y5,y6,yl⟩:=X1.out.seven;obtain⟨b,q,_,A3,n3,c3',rfl,hbl,_,a0,a1,a2,a3,a4,a5,a6,ha⟩:=hr.jD b1 (i:=0) J;simp only[ZaW,Nat.zero_mul,Nat.add_zero]at a0 a1 a2 a3 a4 a5 a6 ha;have JU:=Zaa hbl b1.size;have HC:=WP (ih a J Ub.out HSa.out A3 n3 c3' w1 (ht.below b1) (ha.under b1));generalize a.az=ba at *
    go_wp2_with fail
    refine HC.out.mono ?_;rintro e w2 ⟨rfl,hb2⟩;have b2:=U3 b1 hb2;have X2:=WP (X1.out.below hb2);clear y0 y1 y2 y3 y4 y5 y6 a0 a1 a2 a3 a4 a5 a6;cases ba with
    |false =>
     obtain rfl:fb=false:=HF2.out.symm;clear HF2;go_wp2;go_ret;exact⟨rfl,b2⟩
    |true =>
     obtain⟨z0,z1,z2,z3,z4,z5,z6,zl⟩:=X2.out.seven;obtain⟨zf0,zf1,zf2,zf3,zf4,zf5,zf6⟩:=X2.out.gy;obtain⟨b',q',_,A4,n4,TN,eA,_,_,d0,d1,d2,d3,d4,d5,d6,hd⟩:=hr.jD b2 (i:=1) J;injection eA with eA
     injection eA with eb eq
     subst eb eq;simp only[ZaW,List.getElem_cons_succ,Nat.one_mul]at d0 d1 d2 d3 d4 d5 d6 hd;have a2y:=Zaa hbl b2.size;go_wp2
     go_roundg d.size
     case measure=>omega
     case rel=>exact⟨d,A4,n4,TN,rfl,WP X2.out.je,hd,J,Uc,HSd,WP HF2.out,NE _,jf b2 (NE _) _ _ _ _ _ _ _⟩
   have e4:(xk == 4)=false:=by rw[IR];exact h4
   have HT:=WP (xX.out);by_cases h1:xk=1
   ·subst h1;clear h4 e4;have dV:Hid (∀w':World,Calls prog 253 #[N7 ⟨1,xn,xd,xp,xs,xt,vk⟩ (.slice A2 n2 c2),.bool true,.bool false,.bool false] w' (P6 (.bool (decide (xp=[]∧xs=[]∧xt=[]))) w')):=fun w'=>a6S ⟨1,xn,xd,xp,xs,xt,vk⟩ A2 n2 c2 w'
    by_cases hbr:xp=[]∧xs=[]∧xt=[]
    case neg =>
     rw[WF hbr]at dV;obtain rfl:fb=false:=by rw[←HF.out,Ob.ah];simp only[show ¬((1:Int)=4) by decide,ZaM,ZaP];rw[Zal];intro h;simp only[AC,Za3]at h;exact hbr (by simp[h])
     clear HF hbr hlen
     go_wp2_with fail
     refine (dV.out _).mono ?_;rintro e w1 ⟨rfl,hb1⟩;go_wp2;go_ret;exact⟨rfl,U3 hb hb1⟩
    rw[UV hbr]at dV;by_cases hn0:n2=0
    case neg =>
     obtain rfl:fb=false:=by rw[←HF.out,Ob.ah];simp only[show ¬((1:Int)=4) by decide,ZaM,ZaP];rw[Zal];intro h;simp only[AC,Za3]at h;exact hn0 (by rw[←hlen];simp[h])
     have hz:((n2:Int) == 0)=false:=by rw[IR];omega
     clear HF hbr hlen
     go_wp2_with fail
     refine (dV.out _).mono ?_;rintro e w1 ⟨rfl,hb1⟩;have X1:=WP (X.out.below hb1);clear x0 xf0 x1 qA x2 qB x3 qC x4 qE x5 qF x6 qG;obtain⟨y0,y1,y2,y3,y4,y5,y6,yl⟩:=X1.out.seven;go_wp2;go_ret;exact⟨rfl,U3 hb hb1⟩
    subst hn0;obtain rfl:fb=kD xn xd:=by rw[←HF.out,Ob.ah];simp[hbr,hlen]
    have Ud:Hid (∀w':World,Below w.heap.size w w'→Calls prog 254 #[str xn,str xd] w' (P6 (.bool (kD xn xd)) w')):=fun w' hb'=>a6j xn xd w' (ht.below hb') hs1 hs2
    generalize kD xn xd=bl at *;clear HF hbr hlen
    go_wp2_with fail
    refine (dV.out _).mono ?_;rintro e w1 ⟨rfl,hb1⟩;have X1:=WP (X.out.below hb1);clear x0 xf0 x1 qA x2 qB x3 qC x4 qE x5 qF x6 qG;obtain⟨y0,y1,y2,y3,y4,y5,y6,yl⟩:=X1.out.seven
    go_wp2_with fail
    refine (Ud.out _ (U3 hb hb1)).mono ?_;rintro e w2 ⟨rfl,hb2⟩;cases bl
    ·go_wp2;go_ret;exact⟨rfl,U3 (U3 hb hb1) hb2⟩
    ·go_wp2;go_ret;exact⟨rfl,U3 (U3 hb hb1) hb2⟩
   have e1:(xk == 1)=false:=by rw[IR];exact h1
   by_cases h2:xk=2
   ·subst h2;clear h4 e4 h1 e1;have dV:Hid (∀w':World,Calls prog 253 #[N7 ⟨2,xn,xd,xp,xs,xt,vk⟩ (.slice A2 n2 c2),.bool false,.bool true,.bool false] w' (P6 (.bool (decide (xn=[]∧xd=[]∧xt=[]))) w')):=fun w'=>a6T ⟨2,xn,xd,xp,xs,xt,vk⟩ A2 n2 c2 w'
    by_cases hbr:xn=[]∧xd=[]∧xt=[]
    case neg =>
     rw[WF hbr]at dV;obtain rfl:fb=false:=by rw[←HF.out,Ob.ah];simp only[show ¬((2:Int)=4) by decide,ZaM,ZaP,show ¬((2:Int)=1) by decide];rw[Zal];intro h;simp only[AC,Za3]at h;exact hbr (by simp[h])
     clear HF hbr hlen
     go_wp2_with fail
     refine (dV.out _).mono ?_;rintro e w1 ⟨rfl,hb1⟩;go_wp2;go_ret;exact⟨rfl,U3 hb hb1⟩
    rw[UV hbr]at dV;by_cases hn0:n2=0
    case neg =>
     obtain rfl:fb=false:=by rw[←HF.out,Ob.ah];simp only[show ¬((2:Int)=4) by decide,ZaM,ZaP,show ¬((2:Int)=1) by decide];rw[Zal];intro h;simp only[AC,Za3]at h;exact hn0 (by rw[←hlen];simp[h])
     have hz:((n2:Int) == 0)=false:=by rw[IR];omega
     clear HF hbr hlen
     go_wp2_with fail
     refine (dV.out _).mono ?_;rintro e w1 ⟨rfl,hb1⟩;have X1:=WP (X.out.below hb1);clear x0 xf0 x1 qA x2 qB x3 qC x4 qE x5 qF x6 qG;obtain⟨y0,y1,y2,y3,y4,y5,y6,yl⟩:=X1.out.seven;go_wp2;go_ret;exact⟨rfl,U3 hb hb1⟩
    subst hn0;obtain rfl:fb=Y8 ⟨xp,xs⟩:=by rw[←HF.out,Ob.ah];simp[hbr,hlen]
    have Ud:Hid (∀w':World,Calls prog 255 #[.agg #[str xp,str xs]] w' (P6 (.bool (Y8 ⟨xp,xs⟩)) w')):=fun w'=>UR ⟨xp,xs⟩ w' (by cases HT.out;assumption) (by cases HT.out;assumption)
    generalize Y8 ⟨xp,xs⟩=bl at *;clear HF hbr hlen
    go_wp2_with fail
    refine (dV.out _).mono ?_;rintro e w1 ⟨rfl,hb1⟩;have X1:=WP (X.out.below hb1);clear x0 xf0 x1 qA x2 qB x3 qC x4 qE x5 qF x6 qG;obtain⟨y0,y1,y2,y3,y4,y5,y6,yl⟩:=X1.out.seven
    go_wp2_with fail
    refine (Ud.out _).mono ?_;rintro e w2 ⟨rfl,hb2⟩;cases bl
    ·go_wp2;go_ret;exact⟨rfl,U3 (U3 hb hb1) hb2⟩
    ·go_wp2;go_ret;exact⟨rfl,U3 (U3 hb hb1) hb2⟩
   have e2:(xk == 2)=false:=by rw[IR];exact h2
   by_cases h3:xk=3
   ·subst h3;clear h4 e4 h1 e1 h2 e2;have hxt:xt.length≤9223372036854775807:=by cases HT.out;assumption
    have dV:Hid (∀w':World,Calls prog 253 #[N7 ⟨3,xn,xd,xp,xs,xt,vk⟩ (.slice A2 n2 c2),.bool false,.bool false,.bool true] w' (P6 (.bool (decide (xn=[]∧xd=[]∧xp=[]∧xs=[]))) w')):=fun w'=>a6U ⟨3,xn,xd,xp,xs,xt,vk⟩ A2 n2 c2 w'
    by_cases hbr:xn=[]∧xd=[]∧xp=[]∧xs=[]
    case neg =>
     rw[WF hbr]at dV;obtain rfl:fb=false:=by rw[←HF.out,Ob.ah];simp only[show ¬((3:Int)=4) by decide,ZaM,ZaP,show ¬((3:Int)=1) by decide,show ¬((3:Int)=2) by decide];rw[Zal];intro h;simp only[Za3]at h;exact hbr (by simp[h])
     clear HF hbr hlen
     go_wp2_with fail
     refine (dV.out _).mono ?_;rintro e w1 ⟨rfl,hb1⟩;go_wp2;go_ret;exact⟨rfl,U3 hb hb1⟩
    rw[UV hbr]at dV;by_cases hn0:n2=0
    case neg =>
     obtain rfl:fb=false:=by rw[←HF.out,Ob.ah];simp only[show ¬((3:Int)=4) by decide,ZaM,ZaP,show ¬((3:Int)=1) by decide,show ¬((3:Int)=2) by decide];rw[Zal];intro h;simp only[Za3]at h;exact hn0 (by rw[←hlen];simp[h])
     have hz:((n2:Int) == 0)=false:=by rw[IR];omega
     clear HF hbr hlen
     go_wp2_with fail
     refine (dV.out _).mono ?_;rintro e w1 ⟨rfl,hb1⟩;have X1:=WP (X.out.below hb1);clear x0 xf0 x1 qA x2 qB x3 qC x4 qE x5 qF x6 qG;obtain⟨y0,y1,y2,y3,y4,y5,y6,yl⟩:=X1.out.seven;go_wp2;go_ret;exact⟨rfl,U3 hb hb1⟩
    subst hn0;by_cases Aq:xt.length≤200
    ·obtain rfl:fb=true:=by rw[←HF.out,Ob.ah];simp[hbr,hlen,Aq]
     have hd2:decide ((xt.length:Int)≤200)=true:=UV J;clear HF hbr hlen xX Bq HT
     go_wp2_with fail
     refine (dV.out _).mono ?_;rintro e w1 ⟨rfl,hb1⟩;have X1:=WP (X.out.below hb1);clear x0 xf0 x1 qA x2 qB x3 qC x4 qE x5 qF x6 qG;obtain⟨y0,y1,y2,y3,y4,y5,y6,yl⟩:=X1.out.seven;go_wp2;go_ret;exact⟨rfl,U3 hb hb1⟩
    ·obtain rfl:fb=false:=by rw[←HF.out,Ob.ah];simp[Aq]
     have hd2:decide ((xt.length:Int)≤200)=false:=WF J;clear HF hbr hlen xX Bq HT
     go_wp2_with fail
     refine (dV.out _).mono ?_;rintro e w1 ⟨rfl,hb1⟩;have X1:=WP (X.out.below hb1);clear x0 xf0 x1 qA x2 qB x3 qC x4 qE x5 qF x6 qG;obtain⟨y0,y1,y2,y3,y4,y5,y6,yl⟩:=X1.out.seven;go_wp2;go_ret;exact⟨rfl,U3 hb hb1⟩
   have e3:(xk == 3)=false:=by rw[IR];exact h3
   obtain rfl:fb=false:=by rw[←HF.out,Ob.ah,lw h4,lw h1,lw h2,lw h3]
   clear HF h1 h2 h3 h4;go_wp2;go_ret;exact⟨rfl,hb⟩
def Ob.pU(o:Ob):Bool:=decide (o.nodes≤3000) && o.az
theorem a6l(ok:Nat→Prop)(o:Ob)(hW:o.Wf)(hS:o.Sm)(A:Option Addr)(n c:Nat)(w:World)(ht:Tab w)(hP:Rd ok w (.slice A n c) (.row (o.pair.map Ob.enc))) :
  Calls prog 175 #[N7 o (.slice A n c)] w (P6 (.bool o.pU) w):=by
 have HN:Hid (∀w':World,Below w.heap.size w w'→Calls prog 217 #[N7 o (.slice A n c)] w' (P6 (.int .i64 (aC o)) w')):=fun w' hb=>a5Y ok o A n c w' (hP.under hb)
 have HF:Hid (∀w':World,Below w.heap.size w w'→Calls prog 218 #[N7 o (.slice A n c)] w' (P6 (.bool o.az) w')):=fun w' hb=>a6k ok o.size o (NE _) hW hS A n c w' (ht.below hb) (hP.under hb)
 unfold Ob.pU;by_cases hk:o.nodes≤3000
 ·have hk':aC o≤3000:=by unfold aC;split <;> omega
  rw[UV hk,Zbq];generalize o.az=fb at *;generalize aC o=z at *;clear hk
  go_enter func175,ntmps175
  go_wp2_with fail
  refine (HN.out _ (box _ _)).mono ?_;rintro e w1 ⟨rfl,hb1⟩;have X1:=WP (F5.via hb1);obtain⟨y0,y1,y2,y3,y4,y5,y6,yl⟩:=X1.out.seven
  go_wp2_with fail
  refine (HF.out _ (via hb1)).mono ?_;rintro e w2 ⟨rfl,hb2⟩;go_wp2;go_ret;exact⟨rfl,U3 (via hb1) hb2⟩
 ·have hk':¬aC o≤3000:=by unfold aC;split <;> omega
  rw[WF hk,Zb6];generalize aC o=z at *;clear hk
  go_enter func175,ntmps175
  go_wp2_with fail
  refine (HN.out _ (box _ _)).mono ?_;rintro e w1 ⟨rfl,hb1⟩;go_wp2;go_ret;exact⟨rfl,via hb1⟩
abbrev ru(s:Sy):Value:=.agg #[.int .i64 2,str [],str [],str s.pkg,str s.name,str [],.slice none 0 0]
abbrev zL(s:Sy):Value:=.agg #[str s.pkg,str s.name]
theorem a6m(s:Sy)(w:World):Calls prog 82 #[zL s] w (P6 (ru s) w):=by
 go_enter func82,ntmps82
 go_wp2;exact bodyPost_ret (v:=ru s) (by simp[results,Tryz.results82,go_sem]) rfl ⟨rfl,dH (box _ _) _⟩
theorem a5J(s:Sy)(w:World):Calls prog 252 #[ru s,.int .i64 3001] w (P6 (.int .i64 3000) w):=by
 go_enter func252,ntmps252
 go_wp2;refine wp_loop_rounds 1 ?_;rw[rounds_succ];go_wp2;go_ret;exact⟨rfl,box _ _⟩
theorem a5K(s:Sy)(w:World):Calls prog 253 #[ru s,.bool false,.bool true,.bool false] w (P6 (.bool true) w):=by
 go_enter func253,ntmps253
 go_wp2;go_ret;exact⟨rfl,box _ _⟩
theorem a5k(s:Sy)(w:World):Calls prog 217 #[ru s] w (P6 (.int .i64 1) w):=by
 go_enter func217,ntmps217
 go_wp2_with fail
 refine (a5J s _).mono ?_;rintro e w1 ⟨rfl,hb1⟩;go_wp2;go_ret;exact⟨rfl,via hb1⟩
theorem a4V(s:Sy)(w:World)(hp:s.pkg.length≤9223372036854775807)(hn:s.name.length≤9223372036854775807):Calls prog 218 #[ru s] w (P6 (.bool (Y8 s)) w):=by
 go_enter func218,ntmps218
 go_wp2;refine wp_loop_rounds 1 ?_;rw[rounds_succ]
 go_wp2_with fail
 refine (a5K s _).mono ?_;rintro e w1 ⟨rfl,hb1⟩;obtain⟨c0,c1,c2,c3,c4,c5,c6,hg⟩:=(F5.via hb1).seven
 go_wp2_with fail
 refine (UR s _ hp hn).mono ?_;rintro e w2 ⟨rfl,hb2⟩;go_wp2;go_ret;exact⟨rfl,U3 (via hb1) hb2⟩
theorem a5l(s:Sy)(w:World)(hp:s.pkg.length≤9223372036854775807)(hn:s.name.length≤9223372036854775807):Calls prog 175 #[ru s] w (P6 (.bool (Y8 s)) w):=by
 have HF:Hid (∀w':World,Calls prog 218 #[ru s] w' (P6 (.bool (Y8 s)) w')):=fun w'=>a4V s w' hp hn
 go_enter func175,ntmps175
 go_wp2_with fail
 refine (a5k s _).mono ?_;rintro e w1 ⟨rfl,hb1⟩;obtain⟨c0,c1,c2,c3,c4,c5,c6,hg⟩:=(F5.via hb1).seven
 go_wp2_with fail
 refine (HF.out _).mono ?_;rintro e w2 ⟨rfl,hb2⟩;go_wp2;go_ret;exact⟨rfl,U3 (via hb1) hb2⟩
theorem a5m(s:Sy)(w:World)(hp:s.pkg.length≤9223372036854775807)(hn:s.name.length≤9223372036854775807):Calls prog 210 #[zL s] w (P6 (.bool (Y8 s)) w):=by
 have HF:Hid (∀w':World,Calls prog 175 #[ru s] w' (P6 (.bool (Y8 s)) w')):=fun w'=>a5l s w' hp hn
 go_enter func210,ntmps210
 go_wp2_with fail
 refine (a6m s _).mono ?_;rintro e w1 ⟨rfl,hb1⟩
 go_wp2_with fail
 refine (HF.out _).mono ?_;rintro e w2 ⟨rfl,hb2⟩;go_wp2;go_ret;exact⟨rfl,U3 (via hb1) hb2⟩
theorem UW(s:Sy)(w:World)(hp:s.pkg.length≤9223372036854775807)(hn:s.name.length≤9223372036854775807):Calls prog 202 #[zL s] w (P6 (.bool (Y8 s)) w):=by
 obtain⟨l,m⟩:=s;have HF:Hid (∀(w':World) (b:Bool),ja l=b→Calls prog 236 #[str l] w' (Oa (.bool b) w')):=fun w' b hb=>by
  have:=a4A l w' hp
  rwa [hb]at this
 dsimp only at hp hn ⊢;cases h:ja l with
 |false =>
  have HR:Hid (Y8 ⟨l,m⟩=false):=by show _=_;unfold Y8;rw[h];rfl
  have HH:=WP h;clear h
  go_enter func202,ntmps202
  go_wp2_with fail
  refine (HF.out _ _ HH.out).mono ?_;rintro e w1 ⟨rfl,rfl⟩;go_wp2;go_ret;exact⟨by rw[HR.out];rfl,box _ _⟩
 |true =>
  have HR:Hid (Y8 ⟨l,m⟩=kW m):=by show _=_;unfold Y8;rw[h];rfl
  have HH:=WP h;clear h;by_cases h1:1≤m.length
  ·by_cases h2:m.length≤40
   ·have HN:Hid (kW m=true):=by show _=_;unfold kW;simp;omega
    have hd:decide ((m.length:Int)≤40)=true:=by simp;omega
    go_enter func202,ntmps202
    go_wp2_with fail
    refine (HF.out _ _ HH.out).mono ?_;rintro e w1 ⟨rfl,rfl⟩;go_wp2;go_ret;exact⟨by rw[HR.out,HN.out];rfl,box _ _⟩
   ·have HN:=WP (GM (l:=m) (.inr J));have hd:decide ((m.length:Int)≤40)=false:=by simp;omega
    go_enter func202,ntmps202
    go_wp2_with fail
    refine (HF.out _ _ HH.out).mono ?_;rintro e w1 ⟨rfl,rfl⟩;go_wp2;go_ret;exact⟨by rw[HR.out,HN.out];rfl,box _ _⟩
  ·have HN:=WP (GM (l:=m) (.inl J));have hd:decide (1≤(m.length:Int))=false:=by simp;omega
   go_enter func202,ntmps202
   go_wp2_with fail
   refine (HF.out _ _ HH.out).mono ?_;rintro e w1 ⟨rfl,rfl⟩;go_wp2;go_ret;exact⟨by rw[HR.out,HN.out];rfl,box _ _⟩
theorem UX(s:Sy)(w:World)(hp:s.pkg.length≤9223372036854775807)(hn:s.name.length≤9223372036854775807):Calls prog 155 #[zL s] w (P6 (.bool (Y8 s)) w):=by
 have HF:Hid (∀w':World,Calls prog 202 #[zL s] w' (P6 (.bool (Y8 s)) w')):=fun w'=>UW s w' hp hn
 go_enter func155,ntmps155
 go_wp2_with fail
 refine (HF.out _).mono ?_;rintro e w2 ⟨rfl,hb2⟩;go_wp2;go_ret;exact⟨rfl,via hb2⟩
end Go.Proofs.YthhknjlmjefklaaGreatDoor
