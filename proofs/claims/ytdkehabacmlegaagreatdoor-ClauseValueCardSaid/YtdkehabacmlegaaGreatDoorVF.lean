/- lispproverref1.Divide, Gcd, Reduce. -/
import Derived.Test.YtdkehabacmlegaaGreatDoorVE
import Derived.Test.YtdkehabacmlegaaGreatDoorVD
import Derived.Deep.RegionHeld3
import Derived.Test.YtdkehabacmlegaaGreatDoorVB
set_option maxRecDepth 100000
set_option maxHeartbeats 4000000
namespace Go.Proofs.YtdkehabacmlegaaGreatDoor
open Tryz
open Go.RowKit
theorem vY{x:Int}{n:Nat}(h:(j4.limbs 10 x.natAbs).length=n):n=0↔x=0:=by
 subst h;constructor
 ·intro h;have:=(j4.kW (B:=10) J).1 (List.eq_nil_of_length_eq_zero h);omega
 ·rintro rfl;rfl
theorem Yd{v n:Nat}(h:(j4.limbs 10 v).length=n)(h0:n≠0):0 < v:=by
 rcases Nat.eq_zero_or_pos v with e | e
 ·subst e;rw[j4.pM]at h;simp at h;omega
 ·exact e
theorem zU{a b n:Nat}(h:(j4.limbs 10 a).length=n):(j4.limbs 10 (a / b)).length≤n:=by
 rw[←h];exact j4.aA J (Nat.div_le_self a b)
theorem Eo{a b n:Nat}(hb:0 < b)(h:(j4.limbs 10 b).length=n):(j4.limbs 10 (a % b)).length≤n:=by
 rw[←h];exact j4.aA J (Nat.le_of_lt (Nat.mod_lt a hb))
theorem sJ(ng:Bool)(A:Option Addr)(n c v:Nat)(l:bi)(w:World)(hx:Sl w .i64 A n c (j4.limbs 10 v))(hn:n≤100000000)(hv:aP ng v=l) :
  Calls prog 148 #[.bool ng,.slice A n c] w (aQ l w):=by
 have:=vE ng A n c _ w hx hn (j4.K7 J v);rw[j4.G7 J,hv]at this;exact this
theorem Ye(a b:bi)(w:World)(ha:a.length≤2400000)(hb:b.length≤2400000)(hy0:j4.r9 b=0) :
  Calls prog 160 #[.string ⟨a.toArray⟩,.string ⟨b.toArray⟩] w (dz [48] (Lib.itoa (j4.r9 a)) w):=by
 have Q8:Hid (∀w':World,Calls prog 145 #[.string ⟨a.toArray⟩] w' (bY (a.length+1) (j4.r9 a) w')):=fun w'=>bO a J w'
 have Q5:Hid (∀w':World,Calls prog 145 #[.string ⟨b.toArray⟩] w' (bY (b.length+1) 0 w')):=fun w'=>by have:=bO b J w';rwa [hy0]at this
 clear hy0;generalize j4.r9 a=x at *;obtain⟨s,hsd⟩:∃s,s=decide (x < 0):=⟨_,rfl⟩;have bJ:=Lib.hid hsd;clear hsd
 go_enter func160,ntmps160
 go_wp2_with fail
 refine (Q8.out _).mono ?_;rintro e w1 ⟨A1,n1,c1,rfl,hs1,hn1,hb1⟩;rw[←bJ.out]
 go_wp2_with fail
 refine (Q5.out _).mono ?_;rintro e w2 ⟨A2,n2,c2,rfl,hs2,hn2,hb2⟩;have hbw2:=hb1.trans (hb2.mono hb1.size);obtain rfl:n2=0:=(vY (x:=0) hs2.len).2 rfl
 go_wp2_with fail
 refine (jd s A1 n1 c1 _ x _ (hs1.below hb2) J (by rw[bJ.out];by_cases h:x < 0 <;> simp[h] <;> omega)).mono ?_;rintro e w3 ⟨rfl,hb3⟩;go_wp2;go_ret2;exact⟨rfl,hbw2.trans (hb3.mono hbw2.size)⟩
theorem LF(a b:bi)(w:World)(ha:a.length≤2400000)(hb:b.length≤2400000)(x y:Int)(hxv:j4.r9 a=x)(hyv:j4.r9 b=y)(hy0:y≠0)(s s' z:Bool)(hsd:decide (x < 0)=s)(aL:decide (y < 0)=s')
  (hz:(!(s == s'))=z) (hcase:z=false∨x.natAbs % y.natAbs=0) (q r:bi) (HQ:Hid (aP z (x.natAbs / y.natAbs)=q)) (HR:Hid (aP s' (x.natAbs % y.natAbs)=r)) :
  Calls prog 160 #[.string ⟨a.toArray⟩,.string ⟨b.toArray⟩] w (dz q r w):=by
 have Q8:Hid (∀w':World,Calls prog 145 #[.string ⟨a.toArray⟩] w' (bY (a.length+1) x w')):=fun w'=>by have:=bO a J w';rwa [hxv]at this
 have Q5:Hid (∀w':World,Calls prog 145 #[.string ⟨b.toArray⟩] w' (bY (b.length+1) y w')):=fun w'=>by have:=bO b J w';rwa [hyv]at this
 have bJ:=Lib.hid hsd;have eO:=Lib.hid aL;have hyp:0 < y.natAbs:=J;have xm:=Lib.hid hcase;clear hcase;clear hsd aL hxv hyv
 go_enter func160,ntmps160
 go_wp2_with fail
 refine (Q8.out _).mono ?_;rintro e w1 ⟨A1,n1,c1,rfl,hs1,hn1,hb1⟩;rw[bJ.out]
 go_wp2_with fail
 refine (Q5.out _).mono ?_;rintro e w2 ⟨A2,n2,c2,rfl,hs2,hn2,hb2⟩;rw[eO.out];have hbw2:=hb1.trans (hb2.mono hb1.size);have Ci:((n2:Int) == 0)=false:=by rw[beq_eq_false_iff_ne];intro e;exact hy0 ((vY hs2.len).1 J)
 clear hy0;have hsA:=hs1.below hb2;have hlq:=zU (b:=y.natAbs) hsA.len;have hlr:=Eo (a:=x.natAbs) hyp hs2.len
 go_wp2_with fail
 refine (vF A1 A2 n1 n2 c1 c2 _ _ w2 hsA hs2 J J hyp).mono ?_;rintro e w3 ⟨A3,n3,c3,A4,n4,c4,rfl,hs3,hs4,hb3⟩;have M7:=hbw2.trans (hb3.mono hbw2.size);have fo:n3≤n1:=by rw[←hs3.len];exact hlq
 have mh:n4≤n2:=by rw[←hs4.len];exact hlr
 have qP:=Lib.hid hs4.len;by_cases uU:z=true
 ·have Ck:n4=0:=by
   rcases xm.out with h | h
   ·rw[h]at uU;cases uU
   ·have:=qP.out;rw[h]at this;simpa[j4.pM] using this.symm
  subst Ck;subst uU
  go_wp2_with fail
  refine (sJ true A3 n3 c3 _ q _ hs3 J HQ.out).mono ?_;rintro e w4 ⟨rfl,hb4⟩;have fV:=M7.trans (hb4.mono M7.size)
  go_wp2_with fail
  refine (sJ s' A4 0 c4 _ r _ (hs4.below hb4) J HR.out).mono ?_;rintro e w5 ⟨rfl,hb5⟩;go_wp2;go_ret2;exact⟨rfl,fV.trans (hb5.mono fV.size)⟩
 ·have JR:z=false:=by cases z <;> simp_all
  subst JR
  go_wp2_with fail
  refine (sJ false A3 n3 c3 _ q _ hs3 J HQ.out).mono ?_;rintro e w4 ⟨rfl,hb4⟩;have fV:=M7.trans (hb4.mono M7.size)
  go_wp2_with fail
  refine (sJ s' A4 n4 c4 _ r _ (hs4.below hb4) J HR.out).mono ?_;rintro e w5 ⟨rfl,hb5⟩;go_wp2;go_ret2;exact⟨rfl,fV.trans (hb5.mono fV.size)⟩
theorem Yf(a b:bi)(w:World)(ha:a.length≤2400000)(hb:b.length≤2400000)(x y:Int)(hxv:j4.r9 a=x)(hyv:j4.r9 b=y)(hy0:y≠0)(s s':Bool)(hsd:decide (x < 0)=s)(aL:decide (y < 0)=s')
  (hz:(!(s == s'))=true) (hcase:x.natAbs % y.natAbs≠0) (q r:bi) (HQ:Hid (aP true (x.natAbs / y.natAbs+1)=q)) (HR:Hid (aP s' (y.natAbs - x.natAbs % y.natAbs)=r)) :
  Calls prog 160 #[.string ⟨a.toArray⟩,.string ⟨b.toArray⟩] w (dz q r w):=by
 have Q8:Hid (∀w':World,Calls prog 145 #[.string ⟨a.toArray⟩] w' (bY (a.length+1) x w')):=fun w'=>by have:=bO a J w';rwa [hxv]at this
 have Q5:Hid (∀w':World,Calls prog 145 #[.string ⟨b.toArray⟩] w' (bY (b.length+1) y w')):=fun w'=>by have:=bO b J w';rwa [hyv]at this
 have bJ:=Lib.hid hsd;have eO:=Lib.hid aL;have hyp:0 < y.natAbs:=J;have xm:=Lib.hid hcase;clear hcase;clear hsd aL hxv hyv
 go_enter func160,ntmps160
 go_wp2_with fail
 refine (Q8.out _).mono ?_;rintro e w1 ⟨A1,n1,c1,rfl,hs1,hn1,hb1⟩;rw[bJ.out]
 go_wp2_with fail
 refine (Q5.out _).mono ?_;rintro e w2 ⟨A2,n2,c2,rfl,hs2,hn2,hb2⟩;rw[eO.out];have hbw2:=hb1.trans (hb2.mono hb1.size);have Ci:((n2:Int) == 0)=false:=by rw[beq_eq_false_iff_ne];intro e;exact hy0 ((vY hs2.len).1 J)
 clear hy0;have hsA:=hs1.below hb2;have hlq:=zU (b:=y.natAbs) hsA.len;have hlr:=Eo (a:=x.natAbs) hyp hs2.len
 go_wp2_with fail
 refine (vF A1 A2 n1 n2 c1 c2 _ _ w2 hsA hs2 J J hyp).mono ?_;rintro e w3 ⟨A3,n3,c3,A4,n4,c4,rfl,hs3,hs4,hb3⟩;have M7:=hbw2.trans (hb3.mono hbw2.size);have fo:n3≤n1:=by rw[←hs3.len];exact hlq
 have mh:n4≤n2:=by rw[←hs4.len];exact hlr
 have qP:=Lib.hid hs4.len;have b4B:0 < n4:=by
  rcases Nat.eq_zero_or_pos n4 with e | e
  ·have:=(j4.kW (B:=10) J).1 (List.eq_nil_of_length_eq_zero (qP.out.trans e));exact absurd this xm.out
  ·exact e
 have gy:=Nat.mod_lt x.natAbs hyp;have hone:=Sl.one w3 .i64 3 1;have hbW:Below w3.heap.size w3 (w3.alloc (.cells #[.int .i64 ((1:Nat):Int)] 3)):=(Below.refl _ _).alloc (Nat.le_refl _) _;have hP:=Ev A3 (some ⟨w3.heap.size,0,none⟩) n3 1 c3 1 _ [1] (w3.alloc (.cells #[.int .i64 ((1:Nat):Int)] 3)) (hs3.below hbW) hone J J (j4.K7 J _) (j4.Small.cons J j4.Small.nil);rw[j4.G7 J,show j4.u7 10 [1]=1 from rfl]at hP
 have HP:=Lib.hid hP;clear hP hone
 go_wp2_with fail
 refine HP.out.mono ?_;rintro e w4 ⟨A5,n5,c5,o5,rfl,Vx,hs5,a95,hv5,hb5,_⟩;have HV5:=Lib.hid hv5;clear hv5;have lU:=hbW.trans (hb5.mono hbW.size);have fV:=M7.trans (lU.mono M7.size);have hM:=nz A2 A4 n2 n4 c2 c4 _ _ w4 ((hs2.below hb3).below lU) (hs4.below lU) J mh (j4.K7 J _) (j4.K7 J _) (by rw[j4.G7 J,j4.G7 J];omega);rw[j4.G7 J,j4.G7 J]at hM;have HM:=Lib.hid hM;clear hM;have hll:(j4.limbs 10 (y.natAbs - x.natAbs % y.natAbs)).length≤n2:=by rw[←hs2.len];exact j4.aA J J
 go_wp2_with fail
 refine HM.out.mono ?_;rintro e w6 ⟨A6,n6,c6,rfl,hs6,hb6,_⟩;have hn6:n6≤n2:=by rw[←hs6.len];exact hll
 have Us:=fV.trans (hb6.mono fV.size);have hX:=vE true A5 n5 c5 o5 w6 (hs5.below hb6) J a95;rw[HV5.out,HQ.out]at hX;have HX:=Lib.hid hX;clear hX
 go_wp2_with fail
 refine HX.out.mono ?_;rintro e w7 ⟨rfl,U6⟩;have Ut:=Us.trans (U6.mono Us.size)
 go_wp2_with fail
 refine (sJ s' A6 n6 c6 _ r _ (hs6.below U6) J HR.out).mono ?_;rintro e w8 ⟨rfl,gZ⟩;go_wp2;go_ret2;exact⟨rfl,Ut.trans (gZ.mono Ut.size)⟩
theorem YJ(a b:bi)(w:World)(ha:a.length≤2400000)(hb:b.length≤2400000) :
  Calls prog 160 #[.string ⟨a.toArray⟩,.string ⟨b.toArray⟩] w (dz (Lib.itoa (qd (j4.r9 a) (j4.r9 b))) (Lib.itoa (rm (j4.r9 a) (j4.r9 b))) w):=by
 by_cases hy:j4.r9 b=0
 ·have:=Ye a b w ha hb hy;rw[hy,Pe,Pf,j4.fI];exact this
 ·generalize hx:j4.r9 a=x;generalize hyv:j4.r9 b=y at hy;cases hs:decide (y < 0) with
  |_ =>
   by_cases hd:decide (x < 0)=decide (y < 0)
   ·obtain⟨h1,h2⟩:=Ph hy (hd.trans hs) hs;exact LF a b w ha hb x y hx hyv hy _ _ false (hd.trans hs) hs I (.inl rfl) _ _ (Lib.hid (dZ (by simpa using h1))) (Lib.hid (dZ h2))
   ·have hd':decide (x < 0)=!(decide (y < 0)):=by cases h1:decide (x < 0) <;> cases h2:decide (y < 0) <;> simp_all
    rw[hs]at hd';by_cases h0:x.natAbs % y.natAbs=0
    ·obtain⟨h1,h2⟩:=NC hy hd' hs h0;exact LF a b w ha hb x y hx hyv hy _ _ true hd' hs I (.inr h0) _ _ (Lib.hid (dZ (by simpa using h1))) (Lib.hid (by rw[h0,zW,h2,j4.fI]))
    ·obtain⟨h1,h2⟩:=Pj hy hd' hs h0;exact Yf a b w ha hb x y hx hyv hy _ _ hd' hs I h0 _ _ (Lib.hid (dZ (by simpa using h1))) (Lib.hid (dZ h2))
theorem YK(a b:bi)(w:World)(ha:a.length≤2400000)(hb:b.length≤2400000) :
  Calls prog 146 #[.string ⟨a.toArray⟩,.string ⟨b.toArray⟩] w (aQ (Lib.itoa (Nat.gcd (j4.r9 a).natAbs (j4.r9 b).natAbs:Nat)) w):=by
 have Q8:Hid (∀w':World,Calls prog 145 #[.string ⟨a.toArray⟩] w' (bY (a.length+1) (j4.r9 a) w')):=fun w'=>bO a J w'
 have Q5:Hid (∀w':World,Calls prog 145 #[.string ⟨b.toArray⟩] w' (bY (b.length+1) (j4.r9 b) w')):=fun w'=>bO b J w'
 generalize j4.r9 a=x at *;generalize j4.r9 b=y at *;generalize hG:Nat.gcd x.natAbs y.natAbs=G;have HG:=Lib.hid hG;clear hG;obtain⟨s,hsd⟩:∃s,s=decide (x < 0):=⟨_,rfl⟩;have bJ:=Lib.hid hsd;clear hsd;obtain⟨s',aL⟩:∃s',s'=decide (y < 0):=⟨_,rfl⟩;have eO:=Lib.hid aL;clear aL
 go_enter func146,ntmps146
 go_wp2_with fail
 refine (Q8.out _).mono ?_;rintro e w1 ⟨A1,n1,c1,rfl,hs1,hn1,hb1⟩;rw[←bJ.out]
 go_wp2_with fail
 refine (Q5.out _).mono ?_;rintro e w2 ⟨A2,n2,c2,rfl,hs2,hn2,hb2⟩;rw[←eO.out];have hbw2:=hb1.trans (hb2.mono hb1.size)
 go_wp2_with fail
 go_loopg [6,8] y.natAbs (fun kx s5 s6 wr=>∃(A B:Option Addr) (n c m d u v:Nat),s5=.slice A n c∧s6=.slice B m d∧Sl wr .i64 A n c (j4.limbs 10 u)∧Sl wr .i64 B m d (j4.limbs 10 v)∧n≤2400001∧m≤2400001∧v≤kx∧Hid (Nat.gcd u v=G)∧Below w.heap.size w wr)
 case atStart=>exact⟨A1,A2,n1,c1,n2,c2,_,_,rfl,rfl,hs1.below hb2,hs2,J,J,Nat.le_refl _,HG,hbw2⟩
 case round =>
  obtain⟨A,B,n,c,m,d,u,v,rfl,rfl,hu,hv,hn,hm,hk,yN,hb⟩:=hrel;by_cases hm0:0 < m
  ·have hv0:0 < v:=Yd hv.len J;have hlr:=Eo (a:=u) hv0 hv.len;have gy:=Nat.mod_lt u hv0;have JU:Hid (Nat.gcd v (u % v)=G):=by show _=_;rw[←yN.out,Nat.gcd_comm v,←Nat.gcd_rec,Nat.gcd_comm]
   have uV:=Lib.hid (vF A B n m c d u v wr hu hv J J hv0)
   go_wp2_with (go_at_call 147;refine uV.out.mono ?_;rintro e w3 ⟨A3,n3,c3,A4,n4,c4,rfl,hs3,hs4,hb3⟩;have mh:n4≤m:=(by rw[←hs4.len];exact hlr))
   go_roundg (u % v)
   case measure=>omega
   case rel=>exact⟨B,A4,m,d,n4,c4,v,u % v,rfl,rfl,hv.below hb3,hs4,hm,J,Nat.le_refl _,JU,hb.trans (hb3.mono hb.size)⟩
  ·have hv0:v=0:=(j4.kW (B:=10) J).1 (List.eq_nil_of_length_eq_zero (by rw[hv.len];omega));subst hv0;have HE:Hid (aP false u=Lib.itoa (G:Int)):=by show _=_;rw[←yN.out,Nat.gcd_zero_right];rfl
   go_wp2_with fail
   refine (sJ false A n c u _ _ hu J HE.out).mono ?_;rintro e w3 ⟨rfl,hb3⟩;go_wp2;go_ret;exact⟨rfl,hb.trans (hb3.mono hb.size)⟩
theorem a5t{x y:Int}{z:Bool}(hy:y≠0)(hz:(!(decide (x < 0) == decide (y < 0)))=z):(if z then -((x.natAbs / Nat.gcd x.natAbs y.natAbs:Nat):Int) else ((x.natAbs / Nat.gcd x.natAbs y.natAbs:Nat):Int))=V9 x y:=by
 have hg:0 < Nat.gcd x.natAbs y.natAbs:=Nat.gcd_pos_of_pos_right _ J;have hd:=Nat.gcd_dvd_left x.natAbs y.natAbs;unfold V9;rw[if_neg hy];generalize Nat.gcd x.natAbs y.natAbs=g at *;obtain⟨k,hk⟩:=hd;rw[hk,Nat.mul_div_cancel_left _ hg];have uX:((g * k:Nat):Int)=(g:Int) * k:=Int.natCast_mul _ _;by_cases h1:x < 0 <;> by_cases h2:y < 0
 ·have e:ib x y=k * g+0:=by unfold ib;rw[if_pos h2,Int.mul_comm,←uX];omega
  rw[(nE J e J J).1];subst hz;simp[h1,h2]
 ·have e:ib x y=(-(k:Int)) * g+0:=by unfold ib;rw[if_neg h2,Int.neg_mul,Int.mul_comm,←uX];omega
  rw[(nE J e J J).1];subst hz;simp[h1,h2]
 ·have e:ib x y=(-(k:Int)) * g+0:=by unfold ib;rw[if_pos h2,Int.neg_mul,Int.mul_comm,←uX];omega
  rw[(nE J e J J).1];subst hz;simp[h1,h2]
 ·have e:ib x y=k * g+0:=by unfold ib;rw[if_neg h2,Int.mul_comm,←uX];omega
  rw[(nE J e J J).1];subst hz;simp[h1,h2]
theorem a5u{x y:Int}(hy:y≠0):(if false=true then -((y.natAbs / Nat.gcd x.natAbs y.natAbs:Nat):Int) else ((y.natAbs / Nat.gcd x.natAbs y.natAbs:Nat):Int))=W9 x y:=by
 have hg:0 < Nat.gcd x.natAbs y.natAbs:=Nat.gcd_pos_of_pos_right _ J;have hd:=Nat.gcd_dvd_right x.natAbs y.natAbs;unfold W9;rw[if_neg hy];generalize Nat.gcd x.natAbs y.natAbs=g at *;obtain⟨k,hk⟩:=hd;rw[hk,Nat.mul_div_cancel_left _ hg];have uX:((g * k:Nat):Int)=(g:Int) * k:=Int.natCast_mul _ _;have e:qQ y=k * g+0:=by unfold qQ;split <;> rw[Int.mul_comm,←uX] <;> omega
 rw[(nE J e J J).1];simp
theorem Ei(a b:bi)(w:World)(ha:a.length≤1100000)(hb:b.length≤1100000) :
  Calls prog 117 #[.string ⟨a.toArray⟩,.string ⟨b.toArray⟩] w (dz (Lib.itoa (V9 (j4.r9 a) (j4.r9 b))) (Lib.itoa (W9 (j4.r9 a) (j4.r9 b))) w):=by
 have Q8:Hid (∀w':World,Calls prog 145 #[.string ⟨a.toArray⟩] w' (bY (a.length+1) (j4.r9 a) w')):=fun w'=>bO a J w'
 have Q5:Hid (∀w':World,Calls prog 145 #[.string ⟨b.toArray⟩] w' (bY (b.length+1) (j4.r9 b) w')):=fun w'=>bO b J w'
 have HG:Hid (∀w':World,Calls prog 146 #[.string ⟨a.toArray⟩,.string ⟨b.toArray⟩] w' (aQ (Lib.itoa (Nat.gcd (j4.r9 a).natAbs (j4.r9 b).natAbs:Nat)) w')):=fun w'=>YK a b w' J J
 have hgl:(Lib.itoa (Nat.gcd (j4.r9 a).natAbs (j4.r9 b).natAbs:Nat)).length≤1100002:=by
  obtain⟨K,hK⟩:∃K,K=1100001:=⟨_,rfl⟩;have:=Pk (K:=K) (x:=j4.r9 a) (y:=j4.r9 b) J (iH J) (iH J);omega
 generalize j4.r9 a=x at *;generalize j4.r9 b=y at *;by_cases hy:y=0
 ·subst hy;rw[show V9 x 0=0 from rfl,show W9 x 0=1 from rfl,j4.fI,sI]
  go_enter func117,ntmps117
  go_wp2_with fail
  refine (Q5.out _).mono ?_;rintro e w2 ⟨A2,n2,c2,rfl,hs2,hn2,hb2⟩;obtain rfl:n2=0:=(vY (x:=0) hs2.len).2 rfl;go_wp2;go_ret2;exact⟨rfl,hb2⟩
 ·obtain⟨z,hz⟩:∃z,z=(!(decide (x < 0) == decide (y < 0))):=⟨_,rfl⟩;have HN:=Lib.hid (a5t (x:=x) hy hz.symm);have HD:=Lib.hid (a5u (x:=x) hy);have hg0:0 < Nat.gcd x.natAbs y.natAbs:=Nat.gcd_pos_of_pos_right _ J;generalize Nat.gcd x.natAbs y.natAbs=g at *;have HPg:Hid (∀w':World,Calls prog 145 #[.string ⟨(Lib.itoa (g:Int)).toArray⟩] w' (bY 1100100 (g:Int) w')):=fun w'=>by
   have:=bO (Lib.itoa (g:Int)) J w';rw[j4.K5]at this;exact this.mono (by
    rintro e w'' ⟨A,n,c,h1,h2,h3,h4⟩;exact⟨A,n,c,h1,h2,J,h4⟩)
  obtain⟨s,hsd⟩:∃s,s=decide (x < 0):=⟨_,rfl⟩;obtain⟨s',aL⟩:∃s',s'=decide (y < 0):=⟨_,rfl⟩;rw[←hsd,←aL]at hz;have hz':(!(s == s'))=z:=hz.symm;have bJ:=Lib.hid hsd;have eO:=Lib.hid aL;clear hsd aL hz hgl
  go_enter func117,ntmps117
  go_wp2_with fail
  refine (Q5.out _).mono ?_;rintro e w2 ⟨A2,n2,c2,rfl,hs2,hn2,hb2⟩;rw[←eO.out];have Ci:((n2:Int) == 0)=false:=by rw[beq_eq_false_iff_ne];intro e;exact hy ((vY hs2.len).1 J)
  clear hy
  go_wp2_with fail
  refine (Q8.out _).mono ?_;rintro e w1 ⟨A1,n1,c1,rfl,hs1,hn1,hb1⟩;rw[←bJ.out];have b1:=hb2.trans (hb1.mono hb2.size);have a96:=hs2.below hb1
  go_wp2_with fail
  refine (HG.out _).mono ?_;rintro e w3 ⟨rfl,hb3⟩;have b3:=b1.trans (hb3.mono b1.size);have a97:=hs1.below hb3;have Cj:=a96.below hb3
  go_wp2_with fail
  refine (HPg.out _).mono ?_;rintro e w4 ⟨A4,n4,c4,rfl,hs4,mh,hb4⟩;have b4:=b3.trans (hb4.mono b3.size);have Uu:=a97.below hb4;have Uv:=Cj.below hb4;rw[show decide ((g:Int) < 0)=false from decide_eq_false J]
  rw[Int.natAbs_natCast]at hs4;have hlq:=zU (b:=g) Uu.len;have hld:=zU (b:=g) Uv.len
  go_wp2_with fail
  refine (vF A1 A4 n1 n4 c1 c4 _ _ w4 Uu hs4 J J hg0).mono ?_;rintro e w5 ⟨A5,n5,c5,A6,n6,c6,rfl,hs5,hs6,hb5⟩;have b5:=b4.trans (hb5.mono b4.size);have Vx:n5≤n1:=by rw[←hs5.len];exact hlq
  go_wp2_with fail
  refine (vF A2 A4 n2 n4 c2 c4 _ _ w5 (Uv.below hb5) (hs4.below hb5) J J hg0).mono ?_;rintro e w7 ⟨A7,n7,c7,A8,n8,c8,rfl,hs7,Vy,U6⟩;have b7:=b5.trans (U6.mono b5.size);have hn7:n7≤n2:=by rw[←hs7.len];exact hld
  go_wp2_with fail
  refine (jd z A5 n5 c5 _ _ _ (hs5.below U6) J HN.out).mono ?_;rintro e w9 ⟨rfl,CF⟩;have b9:=b7.trans (CF.mono b7.size)
  go_wp2_with fail
  refine (jd false A7 n7 c7 _ _ _ (hs7.below CF) J HD.out).mono ?_;rintro e w10 ⟨rfl,a98⟩;go_wp2;go_ret2;exact⟨rfl,b9.trans (a98.mono b9.size)⟩
theorem ED(l:bi):(j4.mag (norm l)).length=max 1 (j4.limbs 10 (j4.r9 l).natAbs).length:=by
 have hm:=vV l;have hd:=Fe l;have hv:=EI l;generalize norm l=s at hm hd hv;by_cases h48:s=[48]
 ·subst h48;rw[←hv];decide +kernel
 ·obtain⟨h1,h2,h3,_⟩:=hm;obtain⟨_,hh⟩:=(j4.kZ h48).1 hd;have h4:=j4.KZ h1 hh;rw[h3]at h4;rw[←h4];have:(j4.eu (j4.mag s)).length=(j4.mag s).length:=by simp[j4.eu]
  rw[this];have:0 < (j4.mag s).length:=List.length_pos_iff.2 h2;omega
theorem Eg(l:bi)(w:World)(hl:l.length≤2500000) :
  Calls prog 178 #[.string ⟨l.toArray⟩] w (jY ((j4.mag (norm l)).length:Nat) w):=by
 have HD:=Lib.hid (bO l hl w);have HL:=Lib.hid (ED l);generalize (j4.mag (norm l)).length=K at *;generalize j4.r9 l=x at *;obtain⟨s,hsd⟩:∃s,s=decide (x < 0):=⟨_,rfl⟩;have bJ:=Lib.hid hsd;clear hsd
 go_enter func178,ntmps178
 go_wp2_with fail
 refine HD.out.mono ?_;rintro e w1 ⟨A1,n1,c1,rfl,hs1,hn1,hb1⟩;rw[←bJ.out];have HN:=Lib.hid hs1.len;go_wp2;go_ret;refine⟨?_,hb1⟩;rw[HL.out,HN.out,show ((max 1 n1:Nat):Int)=max 1 (n1:Int) by omega]
 rfl
theorem Yg(l:bi)(w:World)(hl:l.length≤2500000)(h9:9 < (j4.mag (norm l)).length) :
  Calls prog 205 #[.string ⟨l.toArray⟩] w (Aq 0 false w):=by
 have HD:=Lib.hid (bO l hl w);rw[ED l]at h9;generalize j4.r9 l=x at *;obtain⟨s,hsd⟩:∃s,s=decide (x < 0):=⟨_,rfl⟩;have bJ:=Lib.hid hsd;clear hsd
 go_enter func205,ntmps205
 go_wp2_with fail
 refine HD.out.mono ?_;rintro e w1 ⟨A1,n1,c1,rfl,hs1,hn1,hb1⟩;rw[←bJ.out];have VO:9 < n1:=by rw[hs1.len]at h9;omega
 clear h9;go_wp2;go_ret2;exact⟨rfl,hb1⟩
theorem XG(l:bi)(w:World)(hl:l.length≤2500000)(h9:(j4.mag (norm l)).length≤9) :
  Calls prog 205 #[.string ⟨l.toArray⟩] w (Aq (j4.r9 l) true w):=by
 have HD:=Lib.hid (bO l hl w);rw[ED l]at h9;generalize j4.r9 l=x at *;have hxb:x.natAbs < 10 ^ 9:=by
  have h1:=j4.iK (B:=10) J (j4.K7 J x.natAbs);rw[j4.G7 J]at h1;exact Nat.lt_of_lt_of_le h1 (Nat.pow_le_pow_right J J)
 have hsm:=j4.K7 (B:=10) J x.natAbs;by_cases hs:x < 0
 ·go_enter func205,ntmps205
  go_wp2_with fail
  refine HD.out.mono ?_;rintro e w1 ⟨A1,n1,c1,rfl,hs1,hn1,hb1⟩;rw[decide_eq_true hs];have VO:n1≤9:=by rw[hs1.len]at h9;omega
  have HL:=Lib.hid hs1.len;clear h9
  go_wp2_with fail
  go_loop [6,7] (fun nv ix=>∃j:Nat,j≤n1∧ix=.int .i64 ((j:Int) - 1)∧nv=.int .i64 (j4.u7 10 ((j4.limbs 10 x.natAbs).drop j):Nat)) (fun _ ix=>(intOf ix+1).toNat)
  case atStart=>exact⟨n1,Nat.le_refl _,rfl,by rw[List.drop_of_length_le (by rw[HL.out];exact Nat.le_refl _)];rfl⟩
  case round =>
   obtain⟨j,hj,rfl,rfl⟩:=hrel;have hvb:j4.u7 10 ((j4.limbs 10 x.natAbs).drop j) < 10 ^ 9:=by
    have h1:=j4.iK (B:=10) J (hsm.drop j);exact Nat.lt_of_lt_of_le h1 (Nat.pow_le_pow_right J (by rw[List.length_drop,HL.out];omega))
   by_cases hj0:0 < j
   ·obtain⟨bx,ox,rfl,hbx,hcx⟩:=hs1.cells J;have Z5:=hcx (j - 1) J;clear hcx;have hu:=getD_lt hsm J (j - 1);have HV:Hid (j4.u7 10 ((j4.limbs 10 x.natAbs).drop (j - 1))=(j4.limbs 10 x.natAbs).getD (j - 1) 0+10 * j4.u7 10 ((j4.limbs 10 x.natAbs).drop j)):=by
     have:=j4.nD 10 (j4.limbs 10 x.natAbs) (j - 1) (by rw[HL.out];omega);rw[show j - 1+1=j by omega]at this
     exact this
    generalize (j4.limbs 10 x.natAbs).getD (j - 1) 0=u at Z5 hu HV;generalize j4.u7 10 ((j4.limbs 10 x.natAbs).drop j)=V at hvb HV;have hi1:(0:Int)≤(j:Int) - 1:=J;have hi2:(j:Int) - 1 < n1:=J;have hi3:((j:Int) - 1).toNat=j - 1:=J;go_wp2
    go_round
    case rel=>exact⟨j - 1,J,by go_num,by rw[HV.out];go_num⟩
    case measure=>simp only[intOf];omega
   ·obtain rfl:j=0:=J;have HV:Hid (j4.u7 10 ((j4.limbs 10 x.natAbs).drop 0)=x.natAbs):=by rw[List.drop_zero];exact j4.G7 J _
    generalize j4.u7 10 ((j4.limbs 10 x.natAbs).drop 0)=V at hvb HV;go_wp2;go_ret2;refine⟨?_,hb1⟩;have e:-(V:Int)=x:=by have:=HV.out;omega
    rw[←e];rfl
 ·go_enter func205,ntmps205
  go_wp2_with fail
  refine HD.out.mono ?_;rintro e w1 ⟨A1,n1,c1,rfl,hs1,hn1,hb1⟩;rw[decide_eq_false J];have VO:n1≤9:=by rw[hs1.len]at h9;omega
  have HL:=Lib.hid hs1.len;clear h9
  go_wp2_with fail
  go_loop [6,7] (fun nv ix=>∃j:Nat,j≤n1∧ix=.int .i64 ((j:Int) - 1)∧nv=.int .i64 (j4.u7 10 ((j4.limbs 10 x.natAbs).drop j):Nat)) (fun _ ix=>(intOf ix+1).toNat)
  case atStart=>exact⟨n1,Nat.le_refl _,rfl,by rw[List.drop_of_length_le (by rw[HL.out];exact Nat.le_refl _)];rfl⟩
  case round =>
   obtain⟨j,hj,rfl,rfl⟩:=hrel;have hvb:j4.u7 10 ((j4.limbs 10 x.natAbs).drop j) < 10 ^ 9:=by
    have h1:=j4.iK (B:=10) J (hsm.drop j);exact Nat.lt_of_lt_of_le h1 (Nat.pow_le_pow_right J (by rw[List.length_drop,HL.out];omega))
   by_cases hj0:0 < j
   ·obtain⟨bx,ox,rfl,hbx,hcx⟩:=hs1.cells J;have Z5:=hcx (j - 1) J;clear hcx;have hu:=getD_lt hsm J (j - 1);have HV:Hid (j4.u7 10 ((j4.limbs 10 x.natAbs).drop (j - 1))=(j4.limbs 10 x.natAbs).getD (j - 1) 0+10 * j4.u7 10 ((j4.limbs 10 x.natAbs).drop j)):=by
     have:=j4.nD 10 (j4.limbs 10 x.natAbs) (j - 1) (by rw[HL.out];omega);rw[show j - 1+1=j by omega]at this
     exact this
    generalize (j4.limbs 10 x.natAbs).getD (j - 1) 0=u at Z5 hu HV;generalize j4.u7 10 ((j4.limbs 10 x.natAbs).drop j)=V at hvb HV;have hi1:(0:Int)≤(j:Int) - 1:=J;have hi2:(j:Int) - 1 < n1:=J;have hi3:((j:Int) - 1).toNat=j - 1:=J;go_wp2
    go_round
    case rel=>exact⟨j - 1,J,by go_num,by rw[HV.out];go_num⟩
    case measure=>simp only[intOf];omega
   ·obtain rfl:j=0:=J;have HV:Hid (j4.u7 10 ((j4.limbs 10 x.natAbs).drop 0)=x.natAbs):=by rw[List.drop_zero];exact j4.G7 J _
    generalize j4.u7 10 ((j4.limbs 10 x.natAbs).drop 0)=V at hvb HV;go_wp2;go_ret2;refine⟨?_,hb1⟩;have e:(V:Int)=x:=by have:=HV.out;omega
    rw[←e];rfl
theorem zZ(n:Int):Rat.divInt n 1=(n:Rat):=by
 have:=Rat.num_divInt_den (n:Rat)
 rwa [Rat.num_intCast,Rat.den_intCast]at this
theorem MU(l:bi)(w:World):Calls prog 36 #[str l] w (I7 (.agg #[str o6,str l]) w):=by
 go_enter func36,ntmps36
 go_wp2;exact bodyPost_ret (v:=.agg #[str o6,str l]) (by simp[results,Tryz.results36,go_sem]) rfl ⟨rfl,box _ _⟩
theorem KY(n:Int)(w:World)(ht:Q4 w)(h0:-9223372036854775808≤n)(h1:n≤9223372036854775807) :
  Calls prog 75 #[.int .i64 n] w (aQ (Lib.itoa n) w):=by
 have HI:=Lib.hid (sH n w ht h0 h1);clear h0 h1
 go_enter func75,ntmps75
 go_wp2_with fail
 refine HI.out.mono ?_;rintro e w1 ⟨rfl,hb⟩;go_wp2;go_ret;exact⟨rfl,hb⟩
theorem Fs(w:World):Calls prog 38 #[] w (U8 M5 w):=by
 go_enter func38,ntmps38
 go_wp2_with fail
 refine (MU R4 _).mono ?_;rintro e w1 ⟨rfl,hb⟩
 go_wp2_with fail
 refine (Eu _ o6 R4).mono ?_;rintro e w2 ⟨rfl,hb2⟩;have HB:=Lib.hid ((y9.via hb).below hb2);obtain⟨u0,u1,u2,u3,u4,u5,u6,ul⟩:=HB.out.seven;obtain⟨VP,VQ,VR,VS,VT,VU,VW⟩:=HB.out.bN;go_wp2;exact eB Tryz.results38 rfl HB.out.dE rfl ⟨rfl,dF (J9 (via hb) hb2) (Nat.le_refl _) _ _ _ _ _ _ _⟩
theorem a5v(w:World):Calls prog 54 #[] w (U8 tO w):=by
 go_enter func54,ntmps54
 go_wp2_with fail
 refine (MU [116] _).mono ?_;rintro e w1 ⟨rfl,hb⟩
 go_wp2_with fail
 refine (Eu _ o6 [116]).mono ?_;rintro e w2 ⟨rfl,hb2⟩;have HB:=Lib.hid ((y9.via hb).below hb2);obtain⟨u0,u1,u2,u3,u4,u5,u6,ul⟩:=HB.out.seven;obtain⟨VP,VQ,VR,VS,VT,VU,VW⟩:=HB.out.bN;go_wp2;exact eB Tryz.results54 rfl HB.out.dE rfl ⟨rfl,dF (J9 (via hb) hb2) (Nat.le_refl _) _ _ _ _ _ _ _⟩
theorem Xr(a b:bi)(w:World)(ha:a.length≤1100000)(hb:b.length≤1100000):Calls prog 74 #[str a,str b] w (U8 (U9 (Lib.itoa (V9 (j4.r9 a) (j4.r9 b))) (Lib.itoa (W9 (j4.r9 a) (j4.r9 b)))) w):=by
 have HF:=Lib.hid (fun w' (_:Below w.heap.size w w')=>Ei a b w' ha hb);clear ha hb;generalize Lib.itoa (V9 (j4.r9 a) (j4.r9 b))=n at *;generalize Lib.itoa (W9 (j4.r9 a) (j4.r9 b))=d at *
 go_enter func74,ntmps74
 go_wp2_with fail
 refine (HF.out _ (box _ _)).mono ?_;rintro e w1 ⟨rfl,hb⟩;have HB:=Lib.hid (y9.via hb);obtain⟨u0,u1,u2,u3,u4,u5,u6,hu⟩:=HB.out.seven;obtain⟨f0,f1,f2,f3,f4,f5,f6⟩:=HB.out.bN;go_wp2;exact eB Tryz.results74 rfl HB.out.dE rfl ⟨rfl,dF (via hb) (Nat.le_refl _) _ _ _ _ _ _ _⟩
theorem Md(a b:bi)(w:World)(ha:a.length≤1100000)(hb:b.length≤1100000):Calls prog 74 #[str a,str b] w (U8 (R6 (Rat.divInt (j4.r9 a) (j4.r9 b))) w):=by
 have:=Xr a b w ha hb
 rwa [(tN _ _).1,(tN _ _).2]at this
theorem MV(ok:Nat→Prop)(a d:Ob)(A A':Option Addr)(n n' c c':Nat)(w:World)(ha:Rd ok w (.slice A n c) (.row (a.pair.map Ob.enc)))(hd:Rd ok w (.slice A' n' c') (.row (d.pair.map Ob.enc))) :
  Calls prog 78 #[F5 a (.slice A n c),F5 d (.slice A' n' c')] w (ji ok (dh a d) w):=by
 go_enter func78,ntmps78
 go_wp2;exact eB Tryz.results78 rfl ((y9.Un w _ _ _ _).alloc _) rfl (NH ok a d A A' n n' c c' w ha hd)
theorem Yh(o:Ob)(A:Option Addr)(n c:Nat)(w:World)(hn:n≤9223372036854775807) :
  Calls prog 113 #[F5 o (.slice A n c)] w (I7 (.bool (decide (o.kind=4∧n=2))) w):=by
 by_cases hk:o.kind=4
 ·by_cases h2:n=2
  ·rw[decide_eq_true ⟨hk,h2⟩];obtain⟨k,nm,d,p,s,t,l⟩:=o;dsimp only at hk;subst hk h2
   go_enter func113,ntmps113
   go_wp2;go_ret;exact⟨rfl,box _ _⟩
  ·rw[decide_eq_false (fun h=>h2 h.2)];obtain⟨k,nm,d,p,s,t,l⟩:=o;dsimp only at hk;subst hk;have hn2:((n:Int) == 2)=false:=by rw[beq_eq_false_iff_ne];omega
   clear h2
   go_enter func113,ntmps113
   go_wp2;go_ret;exact⟨rfl,box _ _⟩
 ·rw[decide_eq_false (fun h=>hk h.1)];obtain⟨k,nm,d,p,s,t,l⟩:=o;dsimp only at hk;have hn2:(k == 4)=false:=by rw[beq_eq_false_iff_ne];exact hk
  clear hk
  go_enter func113,ntmps113
  go_wp2;go_ret;exact⟨rfl,box _ _⟩
theorem NL(n:Int)(w:World)(ht:Q4 w)(h0:-9223372036854775808≤n)(h1:n≤9223372036854775807):Calls prog 56 #[.int .i64 n] w (U8 (R6 (n:Rat)) w):=by
 have HF:=Lib.hid (fun w' (hb:Below w.heap.size w w')=>KY n w' (ht.below hb) h0 h1);have hl:(Lib.itoa n).length≤20:=gG n (k:=19) J J;have HR:Hid (∀w':World,Calls prog 74 #[str (Lib.itoa n),str [49]] w' (U8 (R6 (n:Rat)) w')):=fun w'=>by
  have:=Md (Lib.itoa n) [49] w' J O
  rwa [j4.K5,show j4.r9 [49]=1 by decide +kernel,zZ]at this
 unfold R6 at HR ⊢;clear h0 h1 hl;generalize Lib.itoa (n:Rat).num=l1 at *;generalize Lib.itoa ((n:Rat).den:Int)=l2 at *;generalize Lib.itoa n=ln at *
 go_enter func56,ntmps56
 go_wp2_with fail
 refine (HF.out _ (box _ _)).mono ?_;rintro e w1 ⟨rfl,hb⟩
 go_wp2_with fail
 refine (HR.out _).mono ?_;rintro e w2 ⟨rfl,hb2⟩;have HB:=Lib.hid ((y9.via hb).below hb2);obtain⟨u0,u1,u2,u3,u4,u5,u6,ul⟩:=HB.out.seven;obtain⟨VP,VQ,VR,VS,VT,VU,VW⟩:=HB.out.bN;go_wp2;exact eB Tryz.results56 rfl HB.out.dE rfl ⟨rfl,dF (J9 (via hb) hb2) (Nat.le_refl _) _ _ _ _ _ _ _⟩
theorem Zu(ok:Nat→Prop)(l:List Ob)(A:Option Addr)(n c:Nat)(w:World)(h:Rd ok w (.slice A n c) (.row (l.map Ob.enc)))(hn:n≤1000000) :
  Calls prog 80 #[.slice A n c] w (ji ok (qw l) w):=by
 have HL:=Lib.hid h.len
 go_enter func80,ntmps80
 go_wp2_with fail
 refine (Fs _).mono ?_;rintro e w1 ⟨rfl,hb1⟩;have R1:=Lib.hid (y9.via hb1);have b1:Below w.heap.size w w1:=via hb1;have hsz:=R1.out.lt;clear hb1;go_wp2
 go_loopw [4] (fun ix wr=>∃(j:Nat) (o:Ob) (Ao:Option Addr) (no co:Nat),j≤n∧ix=.int .i64 ((j:Int) - 1)∧Hid (o=qw (l.drop j))∧Hid (y9 wr w.heap.size 48 zeroCells)∧Hid (y9 wr w1.heap.size 48 (R8 o (.slice Ao no co)))∧Rd (fun b=>(ok b∧b < w.heap.size)∨w1.heap.size < b) wr (.slice Ao no co) (.row (o.pair.map Ob.enc))∧Below w.heap.size w wr) (fun ix _=>(intOf ix+1).toNat)
 case atStart=>exact⟨n,M5,none,0,0,Nat.le_refl _,rfl,Lib.hid (by rw[List.drop_of_length_le (by have:=HL.out;rw[List.length_map]at this;omega)];rfl),Lib.hid (R1.out.alloc _),Lib.hid (y9.new w1 _ _),.nil _ _,aT b1 _⟩
 case round =>
  obtain⟨j,o,Ao,no,co,hj,rfl,HO,R,X,hr,hb⟩:=hrel;clear b1 R1;have hgs:=X.out.lt;obtain⟨x0,x1,x2,x3,x4,x5,x6,xl⟩:=X.out.seven;obtain⟨fq,fu,fw,fA,fB,fC,fD⟩:=X.out.bN;rcases Nat.eq_zero_or_pos j with h0 | h0
  ·subst h0;obtain⟨r0,r1,r2,r3,r4,r5,r6,rl⟩:=R.out.seven;obtain⟨Kl,rf1,rf2,rf3,rf4,rf5,rf6⟩:=R.out.bN;go_wp2;have e:o=qw l:=by rw[HO.out];rfl
   refine eB Tryz.results80 rfl R.out.dE rfl ⟨Ao,no,co,by rw[←e],?_,dF hb (Nat.le_refl _) _ _ _ _ _ _ _⟩;rw[←e];refine Rd.mono (hr.qB (g:=w.heap.size) (fun b hb'=>J) _ _ _ _ _ _ _) (fun b hb' _=>?_);rcases hb' with h1 | h1
   ·exact .inl h1.1
   ·exact .inr J
  ·obtain⟨b,q,hil,A3,n3,c3,rfl,hbl,hok,a0,a1,a2,a3,a4,a5,a6,ha⟩:=h.dD hb (i:=j - 1) J;have xU:=Nat.lt_of_lt_of_le hbl hb.size;have HS:=Lib.hid (drop_cons hil);have hi1:(0:Int)≤(j:Int) - 1:=J;have hi2:(j:Int) - 1 < n:=J;have hi3:((j:Int) - 1).toNat=j - 1:=J;have ha':Rd (fun b=>(ok b∧b < w.heap.size)∨w1.heap.size < b) wr.drew (.slice A3 n3 c3) (.row ((l[j - 1]).pair.map Ob.enc)):=(((ha.mono fun b h1 h2=>⟨h1,h2⟩:Rd (fun b=>ok b∧b < w.heap.size) w _ _).under hb).mono fun b h1 _=>.inl h1).drew;have HC:=Lib.hid (MV (fun b=>(ok b∧b < w.heap.size)∨w1.heap.size < b) l[j - 1] o A3 Ao n3 no c3 co wr.drew ha' hr.drew);have hbd:=hb.drew
   go_upto_region 5 with (fail)
   go_still_tail 5,(by kernel_rfl)
   go_wp2_with fail
   refine HC.out.mono ?_;rintro e v ⟨A5,n5,c5,rfl,hr5,hb5⟩;have X5:=Lib.hid (X.out.drew.below hb5);have R5:=Lib.hid (R.out.drew.below hb5);have hv:=hb5.size;have a99:=J9 hbd hb5;clear x0 fq x1 fu x2 fw x3 fA x4 fB x5 fC x6 fD a0 a1 a2 a3 a4 a5 a6;obtain⟨y0,y1,y2,y3,y4,y5,y6,yl⟩:=X5.out.seven;obtain⟨yf0,yf1,yf2,yf3,yf4,yf5,yf6⟩:=X5.out.bN;go_wp2
   go_roundw
   case rel =>
    refine⟨j - 1,dh l[j - 1] o,A5,n5,c5,J,by go_num,Lib.hid ?_,Lib.hid (R5.out.qB J _ _ _ _ _ _ _),Lib.hid X5.out.dE,?_,dF a99 J _ _ _ _ _ _ _⟩
    ·have:=HS.out;rw[Nat.sub_add_cancel h0,←HO.out]at this;exact this.symm
    ·refine (hr5.mono (fun b h1 _=>?_)).qB (fun b h1=>J) _ _ _ _ _ _ _;rcases h1 with h1 | h1
     ·exact h1
     ·right;have:wr.drew.heap.size=wr.heap.size:=rfl;omega
   case measure=>simp only[intOf];omega
theorem all_eq{l m:List Ob}{n:Nat}(hl:l.length=n)(hm:m.length=n)(h:∀j (h1:j < l.length) (h2:j < m.length),j < n→l[j]=m[j]):l=m:=by
 apply List.ext_getElem J;intro i h1 h2;exact h i h1 h2 J
theorem EE(ok ok':Nat→Prop):∀(N:Nat) (a b:Ob),a.size≤N→a.Wf→∀(A A':Option Addr) (n n' c c':Nat) (w:World),Rd ok w (.slice A n c) (.row (a.pair.map Ob.enc))→Rd ok' w (.slice A' n' c') (.row (b.pair.map Ob.enc)) →
  Calls prog 51 #[F5 a (.slice A n c),F5 b (.slice A' n' c')] w (fT (a=b) w):=by
 intro N
 induction N with
 |zero=>intro a b h;have:=Ob.size_pos a;omega
 |succ N ih =>
  intro a b hN hW A A' n n' c c' w hx hy;obtain⟨P,HP⟩:∃P:Prop,Hid (P↔a=b):=⟨_,Lib.hid Iff.rfl⟩;rw[show (a=b)=P from propext HP.out.symm]
  obtain⟨xk,xn,xd,xp,xs,xt,xl⟩:=a;obtain⟨yk,yn,yd,yp,ys,yt,yl⟩:=b;have hxl:=hx.len;have hyl:=hy.len;rw[List.length_map]at hxl hyl;have hw1:=hW.len;dsimp only at hxl hyl hw1;by_cases hk:xk=yk
  case neg =>
   have hz:(xk != yk)=true:=by rw[bne_iff_ne];exact hk
   have HF:Hid (¬P):=fun e=>hk (by have e1:=HP.out.1 e;injection e1)
   clear hk hxl hyl
   go_enter func51,ntmps51
   go_wp2;go_ret;exact⟨false,rfl,dO HF.out,aT (box _ _) _⟩
  subst hk;by_cases hn:xn=yn
  case neg =>
   have hz:(xn == yn)=false:=by rw[beq_eq_false_iff_ne];exact hn
   have HF:Hid (¬P):=fun e=>hn (by have e1:=HP.out.1 e;injection e1)
   clear hn hxl hyl
   go_enter func51,ntmps51
   go_wp2;go_ret;exact⟨false,rfl,dO HF.out,aT (box _ _) _⟩
  subst hn;by_cases hd:xd=yd
  case neg =>
   have hz:(xd == yd)=false:=by rw[beq_eq_false_iff_ne];exact hd
   have HF:Hid (¬P):=fun e=>hd (by have e1:=HP.out.1 e;injection e1)
   clear hd hxl hyl
   go_enter func51,ntmps51
   go_wp2;go_ret;exact⟨false,rfl,dO HF.out,aT (box _ _) _⟩
  subst hd;by_cases hp:xp=yp
  case neg =>
   have hz:(xp == yp)=false:=by rw[beq_eq_false_iff_ne];exact hp
   have HF:Hid (¬P):=fun e=>hp (by have e1:=HP.out.1 e;injection e1)
   clear hp hxl hyl
   go_enter func51,ntmps51
   go_wp2;go_ret;exact⟨false,rfl,dO HF.out,aT (box _ _) _⟩
  subst hp;by_cases hs:xs=ys
  case neg =>
   have hz:(xs == ys)=false:=by rw[beq_eq_false_iff_ne];exact hs
   have HF:Hid (¬P):=fun e=>hs (by have e1:=HP.out.1 e;injection e1)
   clear hs hxl hyl
   go_enter func51,ntmps51
   go_wp2;go_ret;exact⟨false,rfl,dO HF.out,aT (box _ _) _⟩
  subst hs;by_cases ht:xt=yt
  case neg =>
   have hz:(xt == yt)=false:=by rw[beq_eq_false_iff_ne];exact ht
   have HF:Hid (¬P):=fun e=>ht (by have e1:=HP.out.1 e;injection e1)
   clear ht hxl hyl
   go_enter func51,ntmps51
   go_wp2;go_ret;exact⟨false,rfl,dO HF.out,aT (box _ _) _⟩
  subst ht;by_cases hl:n=n'
  case neg =>
   have hz:((n:Int) != (n':Int))=true:=by rw[bne_iff_ne];omega
   have HF:Hid (¬P):=fun e=>hl (by have e1:=HP.out.1 e;injection e1 with _ _ _ _ _ _ e2;rw[←hxl,←hyl,e2])
   clear hl hxl hyl
   go_enter func51,ntmps51
   go_wp2;go_ret;exact⟨false,rfl,dO HF.out,aT (box _ _) _⟩
  subst hl;have CR:=Lib.hid hxl;have CU:=Lib.hid hyl;rw[hxl]at hw1;clear hxl hyl
  go_enter func51,ntmps51
  go_wp2
  go_loopw [5] (fun ix wq=>∃i:Nat,i≤n∧ix=.int .i64 i∧Hid (∀j (h1:j < xl.length) (h2:j < yl.length),j < i→xl[j]=yl[j])∧Hid (y9 wq w.heap.size 48 (R8 ⟨xk,xn,xd,xp,xs,xt,xl⟩ (.slice A n c)))∧Hid (y9 wq (w.heap.size+1) 48 (R8 ⟨xk,xn,xd,xp,xs,xt,yl⟩ (.slice A' n c')))∧Below w.heap.size w wq) (fun ix _=>n - (intOf ix).toNat)
  case atStart=>exact⟨0,Nat.zero_le _,rfl,Lib.hid (fun j _ _ h=>absurd h J),Lib.hid ((y9.new w _ _).alloc _),Lib.hid (y9.lT w _ _ _),aT (box _ _) _⟩
  case round =>
   obtain⟨i,hi,rfl,HJ,HX,HY,hb⟩:=hrel;obtain⟨u0,u1,u2,u3,u4,u5,u6,hu⟩:=HX.out.seven;obtain⟨v0,v1,v2,v3,v4,v5,v6,hv⟩:=HY.out.seven;by_cases hin:i < n
   ·obtain⟨p1,q1,hil,A4,n4,c4,rfl,hp1,_,a0,a1,a2,a3,a4,a5,a6,ha⟩:=hx.dD hb (i:=i) hin;obtain⟨p2,q2,Uo,A5,n5,c5,rfl,hp2,_,b0,b1,b2,b3,b4,b5,b6,hb'⟩:=hy.dD hb (i:=i) hin;have hp1':=Nat.lt_of_lt_of_le hp1 hb.size;have Uq:=Nat.lt_of_lt_of_le hp2 hb.size;have hsz:=Ob.iI (o:=⟨xk,xn,xd,xp,xs,xt,xl⟩) (x:=xl[i]) (List.getElem_mem hil);have hwf:=hW.kids (x:=xl[i]) (List.getElem_mem hil);have HC:Hid (∀wd:World,Below w.heap.size w wd→Calls prog 51 #[F5 xl[i] (.slice A4 n4 c4),F5 yl[i] (.slice A5 n5 c5)] wd (fT (xl[i]=yl[i]) wd)):=fun wd hd=>ih xl[i] yl[i] J hwf A4 A5 n4 n5 c4 c5 wd (ha.under hd) (hb'.under hd)
    have hi1:(0:Int)≤(i:Int):=J;have hi2:(i:Int) < n:=J;have hbd:=hb.drew
    go_upto_region 6 with (fail)
    go_still_tail 10,(by kernel_rfl)
    go_wp2_with fail
    refine (HC.out _ hbd).mono ?_;rintro e w1 ⟨bb,rfl,hbb,hb1⟩;have eH:=J9 hbd hb1;cases bb with
    |false =>
     have HF:Hid (¬P):=fun e=>by
      have e1:=HP.out.1 e;injection e1 with _ _ _ _ _ _ e2
      have:=hbb.2 (by subst e2;rfl);cases this
     clear hbb;go_wp2;go_ret;exact⟨false,rfl,dO HF.out,eH⟩
    |true =>
     have HE:=Lib.hid (hbb.1 rfl);clear hbb;go_wp2
     go_roundw
     case rel=>exact⟨i+1,J,by go_num,Lib.hid (fun j h1 h2 h=>by
      rcases Nat.lt_or_ge j i with h3 | h3
      ·exact HJ.out j h1 h2 h3
      ·obtain rfl:j=i:=J;exact HE.out),Lib.hid (HX.out.drew.below hb1),Lib.hid (HY.out.drew.below hb1),eH⟩
     case measure=>simp only[intOf];omega
   ·obtain rfl:i=n:=J;have HT:Hid P:=HP.out.2 (by
     rw[all_eq CR.out CU.out HJ.out])
    go_wp2;go_ret;exact⟨true,rfl,Pn HT.out,hb⟩
theorem Me(ok:Nat→Prop)(o:Ob)(hw:o.Wf)(A:Option Addr)(n c:Nat)(w:World)(h:Rd ok w (.slice A n c) (.row (o.pair.map Ob.enc))):Calls prog 23 #[F5 o (.slice A n c)] w (fT (o=M5) w):=by
 have HE:Hid (∀w':World,Below w.heap.size w w'→Calls prog 51 #[F5 o (.slice A n c),F5 M5 (.slice none 0 0)] w' (fT (o=M5) w')):=fun w' hb=>EE ok (fun _=>True) o.size o M5 (Nat.le_refl _) hw A none n 0 c 0 w' (h.under hb) (.nil _ _)
 generalize (o=M5)=P at *
 go_enter func23,ntmps23
 go_upto_region 1 with (fail)
 have jF:=Lib.hid (y9.new w 48 (R8 o (.slice A n c)));have b0:=(box w (.cells (R8 o (.slice A n c)) 48)).drew;generalize w.alloc (.cells (R8 o (.slice A n c)) 48)=W at *;have X0:=Lib.hid jF.out.drew;obtain⟨Ka,uW,Kb,Kc,Ke,Kg,Kh,Ki⟩:=jF.out.seven
 go_region_held3 (fun w'=>w'.cell? ⟨w.heap.size,0,none⟩=some (.int .i64 o.kind)∧w'.cell? ⟨w.heap.size,1,none⟩=some (str o.num)∧w'.cell? ⟨w.heap.size,2,none⟩=some (str o.den)∧w'.cell? ⟨w.heap.size,3,none⟩=some (str o.sp)∧w'.cell? ⟨w.heap.size,4,none⟩=some (str o.sn)∧w'.cell? ⟨w.heap.size,5,none⟩=some (str o.text)∧w'.cell? ⟨w.heap.size,6,none⟩=some (.slice A n c)) (go_keep)
  (first | (go_at_call 38;((with_reducible refine (Fs _).mono ?_));rintro e v1 ⟨rfl,hb1⟩;have b1:=J9 b0 hb1;have X1:=Lib.hid (X0.out.below hb1);obtain⟨Ih,Ii,Ij,Ik,Il,Im,Io,Ip⟩:=X1.out.seven) | (go_at_call 51;((with_reducible refine (HE.out _ b1).mono ?_));rintro e v2 ⟨bb,rfl,hbb,hb2⟩;have b2:=J9 b1 hb2;have X2:=Lib.hid (X1.out.below hb2);obtain⟨BI,BJ,BK,BL,BM,BN,BO,Iq⟩:=X2.out.seven))
 go_wp2;go_ret;exact⟨bb,rfl,hbb,b2⟩
theorem Fu(o:Ob)(q:Rat)(hv:Val o q)(A:Option Addr)(n c:Nat)(hn:o.pair.length=n)(w:World)(ht:Q4 w):Calls prog 155 #[F5 o (.slice A n c)] w (nQ q w):=by
 rcases hv with⟨hk,rfl⟩ | ⟨hk,rfl⟩
 ·obtain rfl:n=0:=by rw[←hn];rfl
  clear hk hn;generalize Lib.itoa q.num=ln at *;generalize Lib.itoa (q.den:Int)=ld at *
  go_enter func155,ntmps155
  go_wp2;exact eB Tryz.results155 rfl (y9.lT w _ _ _) rfl ⟨A,c,rfl,aT (box _ _) _⟩
 ·obtain⟨k,nm,d,p,s,t,l⟩:=o;dsimp only at hk;have hz:(k == 1)=false:=by rw[beq_eq_false_iff_ne];exact hk
  clear hk hn;have HI:Hid (∀w':World,Below w.heap.size w w'→Calls prog 56 #[.int .i64 0] w' (U8 (U9 (Lib.itoa (0:Rat).num) (Lib.itoa ((0:Rat).den:Int))) w')):=fun w' hb=>by
   exact NL 0 w' (ht.below hb) J J
  unfold nQ;generalize Lib.itoa (0:Rat).num=ln at *;generalize Lib.itoa ((0:Rat).den:Int)=ld at *
  go_enter func155,ntmps155
  go_wp2_with fail
  refine (HI.out _ (aT (box _ _) _)).mono ?_;rintro e w1 ⟨rfl,hb⟩;have HB:=Lib.hid ((y9.lT w _ _ _).below hb);obtain⟨u0,u1,u2,u3,u4,u5,u6,hu⟩:=HB.out.seven;obtain⟨f0,f1,f2,f3,f4,f5,f6⟩:=HB.out.bN;go_wp2;exact eB Tryz.results155 rfl HB.out.dE rfl ⟨none,0,rfl,dF (via (via hb)) (Nat.le_succ _) _ _ _ _ _ _ _⟩
def VX(k:Int):Int:=if k=1 then 0 else if k=3 then 1 else if k=2 then 2 else 3
theorem Ti{k m:Nat}{l r:bi}{X Y:Int}(h:Num k l X)(h':Num m r Y)(hk:k≤100000)(hm:m≤100000)(w:World) :
  Calls prog 207 #[str l,str r] w (aQ (Lib.itoa (X * Y)) w):=by
 have:=Ma l r w (by have:=h.len;omega) (by have:=h'.len;omega)
 rwa [h.val,h'.val]at this
theorem Zv{k m:Nat}{l r:bi}{X Y V:Int}(h:Num k l X)(h':Num m r Y)(hk:k≤100000)(hm:m≤100000)(hv:dV X Y=V)(w:World) :
  Calls prog 242 #[str l,str r] w (jY V w):=by
 have:=Xf l r w (by have:=h.len;omega) (by have:=h'.len;omega)
 rwa [h.val,h'.val,hv]at this
theorem MW(o:Ob)(A:Option Addr)(n c:Nat)(w:World):Calls prog 241 #[F5 o (.slice A n c)] w (I7 (.int .i64 (VX o.kind+1)) w):=by
 obtain⟨k,nm,d,p,t,x,l⟩:=o;unfold VX;dsimp only;by_cases h1:k=1
 ·subst h1
  go_enter func241,ntmps241
  go_wp2;go_ret;exact⟨rfl,box _ _⟩
 have e1:(k == 1)=false:=by rw[beq_eq_false_iff_ne];exact h1
 rw[if_neg h1];by_cases h3:k=3
 ·subst h3
  go_enter func241,ntmps241
  go_wp2;go_ret;exact⟨rfl,box _ _⟩
 have e3:(k == 3)=false:=by rw[beq_eq_false_iff_ne];exact h3
 rw[if_neg h3];by_cases h2:k=2
 ·subst h2
  go_enter func241,ntmps241
  go_wp2;go_ret;exact⟨rfl,box _ _⟩
 have e2:(k == 2)=false:=by rw[beq_eq_false_iff_ne];exact h2
 rw[if_neg h2];clear h1 h2 h3
 go_enter func241,ntmps241
 go_wp2;go_ret;exact⟨rfl,box _ _⟩
theorem XH(p q:Rat){k m:Nat}(bp:Rb k p)(bq:Rb m q)(hk:k≤10000)(hm:m≤10000)(A A':Option Addr)(n n' c c':Nat)(w:World) :
  Calls prog 208 #[F5 (R6 p) (.slice A n c),F5 (R6 q) (.slice A' n' c')] w (I7 (.int .i64 (cB p q)) w):=by
 have n1:Num (k+1) (Lib.itoa p.num) p.num:=⟨j4.K5 _,bp.lV⟩;have d1:Num (k+1) (Lib.itoa (p.den:Int)) p.den:=⟨j4.K5 _,bp.oo⟩;have n2:Num (m+1) (Lib.itoa q.num) q.num:=⟨j4.K5 _,bq.lV⟩;have d2:Num (m+1) (Lib.itoa (q.den:Int)) q.den:=⟨j4.K5 _,bq.oo⟩;have JY:Hid (∀w':World,Calls prog 207 #[str (Lib.itoa p.num),str (Lib.itoa (q.den:Int))] w' (aQ (Lib.itoa (p.num * q.den)) w')):=fun w'=>Ti n1 d2 J J w'
 have JZ:Hid (∀w':World,Calls prog 207 #[str (Lib.itoa q.num),str (Lib.itoa (p.den:Int))] w' (aQ (Lib.itoa (q.num * p.den)) w')):=fun w'=>Ti n2 d1 J J w'
 have HC:Hid (∀w':World,Calls prog 242 #[str (Lib.itoa (p.num * q.den)),str (Lib.itoa (q.num * p.den))] w' (jY (cB p q) w')):=fun w'=>Zv (n1.mul d2) (n2.mul d1) J J (EC p q) w'
 clear n1 n2 d1 d2;unfold R6;generalize cB p q=z at *;generalize Lib.itoa (p.num * q.den)=l1 at *;generalize Lib.itoa (q.num * p.den)=l2 at *;generalize Lib.itoa p.num=ln at *;generalize Lib.itoa q.num=rn at *;generalize Lib.itoa (p.den:Int)=ld at *;generalize Lib.itoa (q.den:Int)=rd at *;have HR1:Hid (∀w':World,Calls prog 241 #[F5 (U9 ln ld) (.slice A n c)] w' (I7 (.int .i64 1) w')):=fun w'=>MW (U9 ln ld) A n c w'
 have HR2:Hid (∀w':World,Calls prog 241 #[F5 (U9 rn rd) (.slice A' n' c')] w' (I7 (.int .i64 1) w')):=fun w'=>MW (U9 rn rd) A' n' c' w'
 go_enter func208,ntmps208
 go_upto_region 1 with (fail)
 have jF:=Lib.hid ((y9.new w 48 (R8 (U9 ln ld) (.slice A n c))).alloc (.cells (R8 (U9 rn rd) (.slice A' n' c')) 48));have oG:=Lib.hid (y9.lT w (.cells (R8 (U9 ln ld) (.slice A n c)) 48) 48 (R8 (U9 rn rd) (.slice A' n' c')));have b0:=(aT (box w (.cells (R8 (U9 ln ld) (.slice A n c)) 48)) (.cells (R8 (U9 rn rd) (.slice A' n' c')) 48)).drew;generalize (w.alloc (.cells (R8 (U9 ln ld) (.slice A n c)) 48)).alloc (.cells (R8 (U9 rn rd) (.slice A' n' c')) 48)=W at *;have X0:=Lib.hid jF.out.drew;have Y0:=Lib.hid oG.out.drew;obtain⟨Ka,uW,Kb,Kc,Ke,Kg,Kh,Ki⟩:=jF.out.seven;obtain⟨ys0,VC,VD,VE,VF,VG,VH,VI⟩:=oG.out.seven
 go_region_held3 (fun w'=>w'.cell? ⟨w.heap.size,0,none⟩=some (.int .i64 1)∧w'.cell? ⟨w.heap.size,1,none⟩=some (str ln)∧w'.cell? ⟨w.heap.size,2,none⟩=some (str ld)∧w'.cell? ⟨w.heap.size,3,none⟩=some (str [])∧w'.cell? ⟨w.heap.size,4,none⟩=some (str [])∧w'.cell? ⟨w.heap.size,5,none⟩=some (str [])∧w'.cell? ⟨w.heap.size,6,none⟩=some (.slice A n c)∧w'.cell? ⟨w.heap.size+1,0,none⟩=some (.int .i64 1)∧w'.cell? ⟨w.heap.size+1,1,none⟩=some (str rn)∧w'.cell? ⟨w.heap.size+1,2,none⟩=some (str rd)∧w'.cell? ⟨w.heap.size+1,3,none⟩=some (str [])∧w'.cell? ⟨w.heap.size+1,4,none⟩=some (str [])∧w'.cell? ⟨w.heap.size+1,5,none⟩=some (str [])∧w'.cell? ⟨w.heap.size+1,6,none⟩=some (.slice A' n' c')) (go_keep)
  (first | (go_at_call 241;((with_reducible refine (HR1.out _).mono ?_));rintro e v1 ⟨rfl,hb1⟩;have b1:=J9 b0 hb1;have X1:=Lib.hid (X0.out.below hb1);have Y1:=Lib.hid (Y0.out.below hb1);obtain⟨Ih,Ii,Ij,Ik,Il,Im,Io,Ip⟩:=X1.out.seven;obtain⟨Sr,Su,Sv,Sw,Sz,SA,SB,SC⟩:=Y1.out.seven) | (go_at_call 241;((with_reducible refine (HR2.out _).mono ?_));rintro e v2 ⟨rfl,hb2⟩;have b2:=J9 b1 hb2;have X2:=Lib.hid (X1.out.below hb2);have Y2:=Lib.hid (Y1.out.below hb2);obtain⟨BI,BJ,BK,BL,BM,BN,BO,Iq⟩:=X2.out.seven;obtain⟨Ir,Iu,Iw,Iy,Iz,IA,IB,SE⟩:=Y2.out.seven))
 go_wp2_with fail
 refine (HR1.out _).mono ?_;rintro e v3 ⟨rfl,hb3⟩;have b3:=J9 b2 hb3;have X3:=Lib.hid (X2.out.below hb3);have Y3:=Lib.hid (Y2.out.below hb3);clear BI BJ BK BL BM BN BO Ir Iu Iw Iy Iz IA IB;obtain⟨SF,SG,SH,SI,SK,SL,SN,SQ⟩:=X3.out.seven;obtain⟨SS,SV,SX,SY,Ta,Tc,Td,Tf⟩:=Y3.out.seven
 go_upto_region 7 with (fail)
 have X4:=Lib.hid X3.out.drew;have Y4:=Lib.hid Y3.out.drew;have b4:=b3.drew
 go_region_held3 (fun w'=>w'.cell? ⟨w.heap.size,1,none⟩=some (str ln)∧w'.cell? ⟨w.heap.size,2,none⟩=some (str ld)∧w'.cell? ⟨w.heap.size+1,1,none⟩=some (str rn)∧w'.cell? ⟨w.heap.size+1,2,none⟩=some (str rd)) (go_keep)
  (first | (go_at_call 207;((with_reducible refine (JY.out _).mono ?_));rintro e v5 ⟨rfl,hb5⟩;have b5:=J9 b4 hb5;have X5:=Lib.hid (X4.out.below hb5);have Y5:=Lib.hid (Y4.out.below hb5);obtain⟨b3H,b3I,b3J,b3K,b3L,b3M,b3N,b3O⟩:=X5.out.seven;obtain⟨b3P,b3Q,b3R,b3S,b3T,b3U,b3V,b3W⟩:=Y5.out.seven) | (go_at_call 207;((with_reducible refine (JZ.out _).mono ?_));rintro e v6 ⟨rfl,hb6⟩;have b6:=J9 b5 hb6;have X6:=Lib.hid (X5.out.below hb6);have Y6:=Lib.hid (Y5.out.below hb6);obtain⟨b3X,b3Y,b3Z,b30,b31,b33,b34,b35⟩:=X6.out.seven;obtain⟨b36,b37,b38,b39,b4a,b4b,b4c,b4d⟩:=Y6.out.seven) | (go_at_call 242;((with_reducible refine (HC.out _).mono ?_));rintro e v7 ⟨rfl,U6⟩;have b7:=J9 b6 U6;have X7:=Lib.hid (X6.out.below U6);have Y7:=Lib.hid (Y6.out.below U6);obtain⟨b4e,b4f,b4g,b4h,b4i,b4j,b4k,b4l⟩:=X7.out.seven;obtain⟨b4m,b4n,b4o,b4p,b4q,b4r,b4s,b4t⟩:=Y7.out.seven))
 go_wp2;go_ret;exact⟨rfl,b7⟩
theorem Zw(a b:Ob)(p q:Rat)(hp:Val a p)(hq:Val b q){k m:Nat}(bp:Rb k p)(bq:Rb m q)(hk:k≤10000)(hm:m≤10000)(A A':Option Addr)(n n' c c':Nat)(hn:a.pair.length=n)(hn':b.pair.length=n')(w:World)(ht:Q4 w) :
  Calls prog 165 #[F5 a (.slice A n c),F5 b (.slice A' n' c')] w (I7 (.bool (decide (p < q))) w):=by
 have HF1:Hid (∀w':World,Below w.heap.size w w'→Calls prog 155 #[F5 a (.slice A n c)] w' (Ig (Lib.itoa p.num) (Lib.itoa (p.den:Int)) w')):=fun w' hb=>Fu a p hp A n c hn w' (ht.below hb)
 have kK:Hid (∀w':World,Below w.heap.size w w'→Calls prog 155 #[F5 b (.slice A' n' c')] w' (Ig (Lib.itoa q.num) (Lib.itoa (q.den:Int)) w')):=fun w' hb=>Fu b q hq A' n' c' hn' w' (ht.below hb)
 have HV:Hid (∀(w':World) (A1 A2:Option Addr) (c1 c2:Nat),Below w.heap.size w w'→Calls prog 208 #[F5 (R6 p) (.slice A1 0 c1),F5 (R6 q) (.slice A2 0 c2)] w' (I7 (.int .i64 (cB p q)) w')):=fun w' A1 A2 c1 c2 _=>XH p q bp bq hk hm A1 A2 0 0 c1 c2 w'
 unfold R6 at HV;rw[←NI];clear hp hq bp bq hk hm hn hn';generalize cB p q=z at *;generalize Lib.itoa p.num=ln at *;generalize Lib.itoa (p.den:Int)=ld at *;generalize Lib.itoa q.num=rn at *;generalize Lib.itoa (q.den:Int)=rd at *
 go_enter func165,ntmps165
 go_upto_region 1 with (fail)
 have jF:=Lib.hid ((y9.new w 48 (R8 a (.slice A n c))).alloc (.cells (R8 b (.slice A' n' c')) 48));have oG:=Lib.hid (y9.lT w (.cells (R8 a (.slice A n c)) 48) 48 (R8 b (.slice A' n' c')));have b0:=(aT (box w (.cells (R8 a (.slice A n c)) 48)) (.cells (R8 b (.slice A' n' c')) 48)).drew;generalize (w.alloc (.cells (R8 a (.slice A n c)) 48)).alloc (.cells (R8 b (.slice A' n' c')) 48)=W at *;have X0:=Lib.hid jF.out.drew;have Y0:=Lib.hid oG.out.drew;obtain⟨Ka,uW,Kb,Kc,Ke,Kg,Kh,Ki⟩:=jF.out.seven;obtain⟨ys0,VC,VD,VE,VF,VG,VH,VI⟩:=oG.out.seven
 go_region_held3 (fun w'=>w'.cell? ⟨w.heap.size,0,none⟩=some (.int .i64 a.kind)∧w'.cell? ⟨w.heap.size,1,none⟩=some (str a.num)∧w'.cell? ⟨w.heap.size,2,none⟩=some (str a.den)∧w'.cell? ⟨w.heap.size,3,none⟩=some (str a.sp)∧w'.cell? ⟨w.heap.size,4,none⟩=some (str a.sn)∧w'.cell? ⟨w.heap.size,5,none⟩=some (str a.text)∧w'.cell? ⟨w.heap.size,6,none⟩=some (.slice A n c)∧w'.cell? ⟨w.heap.size+1,0,none⟩=some (.int .i64 b.kind)∧w'.cell? ⟨w.heap.size+1,1,none⟩=some (str b.num)∧w'.cell? ⟨w.heap.size+1,2,none⟩=some (str b.den)∧w'.cell? ⟨w.heap.size+1,3,none⟩=some (str b.sp)∧w'.cell? ⟨w.heap.size+1,4,none⟩=some (str b.sn)∧w'.cell? ⟨w.heap.size+1,5,none⟩=some (str b.text)∧w'.cell? ⟨w.heap.size+1,6,none⟩=some (.slice A' n' c')) (go_keep)
  (first | (go_at_call 155;((with_reducible refine (HF1.out _ b0).mono ?_));rintro e v1 ⟨A1,c1,rfl,hb1⟩;have b1:=J9 b0 hb1;have X1:=Lib.hid (X0.out.below hb1);have Y1:=Lib.hid (Y0.out.below hb1);obtain⟨Ih,Ii,Ij,Ik,Il,Im,Io,Ip⟩:=X1.out.seven;obtain⟨Sr,Su,Sv,Sw,Sz,SA,SB,SC⟩:=Y1.out.seven) | (go_at_call 155;((with_reducible refine (kK.out _ b1).mono ?_));rintro e v2 ⟨A2,c2,rfl,hb2⟩;have b2:=J9 b1 hb2;have X2:=Lib.hid (X1.out.below hb2);have Y2:=Lib.hid (Y1.out.below hb2);obtain⟨BI,BJ,BK,BL,BM,BN,BO,Iq⟩:=X2.out.seven;obtain⟨Ir,Iu,Iw,Iy,Iz,IA,IB,SE⟩:=Y2.out.seven) | (go_at_call 208;((with_reducible refine (HV.out _ A1 A2 c1 c2 b2).mono ?_));rintro e v3 ⟨rfl,hb3⟩;have b3:=J9 b2 hb3;have X3:=Lib.hid (X2.out.below hb3);have Y3:=Lib.hid (Y2.out.below hb3);obtain⟨SF,SG,SH,SI,SK,SL,SN,SQ⟩:=X3.out.seven;obtain⟨SS,SV,SX,SY,Ta,Tc,Td,Tf⟩:=Y3.out.seven))
 go_wp2;go_ret;exact⟨rfl,b3⟩
abbrev dg(l:bi):Nat:=(j4.mag (norm l)).length
def fZ(n d:bi):Bool:=decide (Lib.itoa (V9 (j4.r9 n) (j4.r9 d))=n∧Lib.itoa (W9 (j4.r9 n) (j4.r9 d))=d∧dg n≤100∧dg d≤100)
namespace Ob
mutual
def S9:Ob→Bool
 |⟨k,n,d,p,s,t,l⟩ =>
  if k=4 then decide (n=[]∧d=[]∧p=[]∧s=[]∧t=[]∧l.length=2) && lW l
  else if k=1 then decide (p=[]∧s=[]∧t=[]∧l.length=0) && fZ n d
  else if k=2 then decide (n=[]∧d=[]∧t=[]∧l.length=0) && P7 ⟨p,s⟩
  else if k=3 then decide (n=[]∧d=[]∧p=[]∧s=[]∧t.length≤200∧l.length=0)
  else false
def lW:List Ob→Bool
 |[]=>true
 |o::r=>S9 o && lW r
end
theorem Q6(k:Int)(n d p s t:bi)(l:List Ob):S9 ⟨k,n,d,p,s,t,l⟩=(if k=4 then decide (n=[]∧d=[]∧p=[]∧s=[]∧t=[]∧l.length=2) && lW l
  else if k=1 then decide (p=[]∧s=[]∧t=[]∧l.length=0) && fZ n d
  else if k=2 then decide (n=[]∧d=[]∧t=[]∧l.length=0) && P7 ⟨p,s⟩
  else if k=3 then decide (n=[]∧d=[]∧p=[]∧s=[]∧t.length≤200∧l.length=0)
  else false):=by rw[S9]
inductive Sm:Ob→Prop
 |mk (o:Ob) (hn:o.num.length≤1100000) (hd:o.den.length≤1100000) (h:∀x∈o.pair,Sm x):Sm o
theorem Sm.kids{o x:Ob}(h:o.Sm)(hx:x∈o.pair):x.Sm:=by
 cases h with
 |mk _ _ _ h=>exact h x hx
theorem Sm.len{o:Ob}(h:o.Sm):o.num.length≤1100000∧o.den.length≤1100000:=by
 cases h with
 |mk _ a b _=>exact⟨a,b⟩
end Ob
theorem Zx(o:Ob)(A:Option Addr)(n c:Nat)(w:World):Calls prog 269 #[F5 o (.slice A n c),.bool false,.bool false,.bool false] w (I7 (.bool (decide (o.num=[]∧o.den=[]∧o.sp=[]∧o.sn=[]∧o.text=[]))) w):=by
 obtain⟨k,nm,d,p,sy,t,l⟩:=o;dsimp only;by_cases hnm:nm=[]
 case neg =>
  rw[decide_eq_false (fun h=>hnm (h.1))];have hz:(nm == [])=false:=by rw[beq_eq_false_iff_ne];exact hnm
  clear hnm
  go_enter func269,ntmps269
  go_wp2;go_ret;exact⟨rfl,box _ _⟩
 subst hnm;by_cases hd:d=[]
 case neg =>
  rw[decide_eq_false (fun h=>hd (h.2.1))];have hz:(d == [])=false:=by rw[beq_eq_false_iff_ne];exact hd
  clear hd
  go_enter func269,ntmps269
  go_wp2;go_ret;exact⟨rfl,box _ _⟩
 subst hd;by_cases hp:p=[]
 case neg =>
  rw[decide_eq_false (fun h=>hp (h.2.2.1))];have hz:(p == [])=false:=by rw[beq_eq_false_iff_ne];exact hp
  clear hp
  go_enter func269,ntmps269
  go_wp2;go_ret;exact⟨rfl,box _ _⟩
 subst hp;by_cases hsy:sy=[]
 case neg =>
  rw[decide_eq_false (fun h=>hsy (h.2.2.2.1))];have hz:(sy == [])=false:=by rw[beq_eq_false_iff_ne];exact hsy
  clear hsy
  go_enter func269,ntmps269
  go_wp2;go_ret;exact⟨rfl,box _ _⟩
 subst hsy;by_cases ht:t=[]
 case neg =>
  rw[decide_eq_false (fun h=>ht (h.2.2.2.2))];have hz:(t == [])=false:=by rw[beq_eq_false_iff_ne];exact ht
  clear ht
  go_enter func269,ntmps269
  go_wp2;go_ret;exact⟨rfl,box _ _⟩
 subst ht;rw[decide_eq_true I]
 go_enter func269,ntmps269
 go_wp2;go_ret;exact⟨rfl,box _ _⟩
theorem Zy(o:Ob)(A:Option Addr)(n c:Nat)(w:World):Calls prog 269 #[F5 o (.slice A n c),.bool true,.bool false,.bool false] w (I7 (.bool (decide (o.sp=[]∧o.sn=[]∧o.text=[]))) w):=by
 obtain⟨k,nm,d,p,sy,t,l⟩:=o;dsimp only;by_cases hp:p=[]
 case neg =>
  rw[decide_eq_false (fun h=>hp (h.1))];have hz:(p == [])=false:=by rw[beq_eq_false_iff_ne];exact hp
  clear hp
  go_enter func269,ntmps269
  go_wp2;go_ret;exact⟨rfl,box _ _⟩
 subst hp;by_cases hsy:sy=[]
 case neg =>
  rw[decide_eq_false (fun h=>hsy (h.2.1))];have hz:(sy == [])=false:=by rw[beq_eq_false_iff_ne];exact hsy
  clear hsy
  go_enter func269,ntmps269
  go_wp2;go_ret;exact⟨rfl,box _ _⟩
 subst hsy;by_cases ht:t=[]
 case neg =>
  rw[decide_eq_false (fun h=>ht (h.2.2))];have hz:(t == [])=false:=by rw[beq_eq_false_iff_ne];exact ht
  clear ht
  go_enter func269,ntmps269
  go_wp2;go_ret;exact⟨rfl,box _ _⟩
 subst ht;rw[decide_eq_true I]
 go_enter func269,ntmps269
 go_wp2;go_ret;exact⟨rfl,box _ _⟩
theorem Zz(o:Ob)(A:Option Addr)(n c:Nat)(w:World):Calls prog 269 #[F5 o (.slice A n c),.bool false,.bool true,.bool false] w (I7 (.bool (decide (o.num=[]∧o.den=[]∧o.text=[]))) w):=by
 obtain⟨k,nm,d,p,sy,t,l⟩:=o;dsimp only;by_cases hnm:nm=[]
 case neg =>
  rw[decide_eq_false (fun h=>hnm (h.1))];have hz:(nm == [])=false:=by rw[beq_eq_false_iff_ne];exact hnm
  clear hnm
  go_enter func269,ntmps269
  go_wp2;go_ret;exact⟨rfl,box _ _⟩
 subst hnm;by_cases hd:d=[]
 case neg =>
  rw[decide_eq_false (fun h=>hd (h.2.1))];have hz:(d == [])=false:=by rw[beq_eq_false_iff_ne];exact hd
  clear hd
  go_enter func269,ntmps269
  go_wp2;go_ret;exact⟨rfl,box _ _⟩
 subst hd;by_cases ht:t=[]
 case neg =>
  rw[decide_eq_false (fun h=>ht (h.2.2))];have hz:(t == [])=false:=by rw[beq_eq_false_iff_ne];exact ht
  clear ht
  go_enter func269,ntmps269
  go_wp2;go_ret;exact⟨rfl,box _ _⟩
 subst ht;rw[decide_eq_true I]
 go_enter func269,ntmps269
 go_wp2;go_ret;exact⟨rfl,box _ _⟩
theorem ZA(o:Ob)(A:Option Addr)(n c:Nat)(w:World):Calls prog 269 #[F5 o (.slice A n c),.bool false,.bool false,.bool true] w (I7 (.bool (decide (o.num=[]∧o.den=[]∧o.sp=[]∧o.sn=[]))) w):=by
 obtain⟨k,nm,d,p,sy,t,l⟩:=o;dsimp only;by_cases hnm:nm=[]
 case neg =>
  rw[decide_eq_false (fun h=>hnm (h.1))];have hz:(nm == [])=false:=by rw[beq_eq_false_iff_ne];exact hnm
  clear hnm
  go_enter func269,ntmps269
  go_wp2;go_ret;exact⟨rfl,box _ _⟩
 subst hnm;by_cases hd:d=[]
 case neg =>
  rw[decide_eq_false (fun h=>hd (h.2.1))];have hz:(d == [])=false:=by rw[beq_eq_false_iff_ne];exact hd
  clear hd
  go_enter func269,ntmps269
  go_wp2;go_ret;exact⟨rfl,box _ _⟩
 subst hd;by_cases hp:p=[]
 case neg =>
  rw[decide_eq_false (fun h=>hp (h.2.2.1))];have hz:(p == [])=false:=by rw[beq_eq_false_iff_ne];exact hp
  clear hp
  go_enter func269,ntmps269
  go_wp2;go_ret;exact⟨rfl,box _ _⟩
 subst hp;by_cases hsy:sy=[]
 case neg =>
  rw[decide_eq_false (fun h=>hsy (h.2.2.2))];have hz:(sy == [])=false:=by rw[beq_eq_false_iff_ne];exact hsy
  clear hsy
  go_enter func269,ntmps269
  go_wp2;go_ret;exact⟨rfl,box _ _⟩
 subst hsy;rw[decide_eq_true I]
 go_enter func269,ntmps269
 go_wp2;go_ret;exact⟨rfl,box _ _⟩
theorem a0C{n d:bi}(h:fZ n d=true):j4.M4 n=true∧j4.M4 d=true∧dg n≤100∧dg d≤100:=by
 unfold fZ at h;obtain⟨h1,h2,h3,h4⟩:=of_decide_eq_true h;exact⟨by rw[←h1];exact j4.Ey _,by rw[←h2];exact j4.Ey _,h3,h4⟩
theorem YL(a b:bi)(w:World)(ht:Q4 w)(ha:a.length≤1100000)(hb:b.length≤1100000):Calls prog 270 #[str a,str b] w (I7 (.bool (fZ a b)) w):=by
 have fe:Hid (∀w':World,Calls prog 274 #[str a] w' (jW (.bool (j4.M4 a)) w')):=fun w'=>jP a w' J
 have iV:Hid (∀w':World,Calls prog 274 #[str b] w' (jW (.bool (j4.M4 b)) w')):=fun w'=>jP b w' J
 have HD1:Hid (∀w':World,Calls prog 260 #[str a] w' (jW (.int .i64 (dg a:Nat)) w')):=fun w'=>vG a w' J
 have HD2:Hid (∀w':World,Calls prog 260 #[str b] w' (jW (.int .i64 (dg b:Nat)) w')):=fun w'=>vG b w' J
 have HR:Hid (∀w':World,Below w.heap.size w w'→Calls prog 258 #[str a,str b] w' (dz (Lib.itoa (V9 (j4.r9 a) (j4.r9 b))) (Lib.itoa (W9 (j4.r9 a) (j4.r9 b))) w')):=fun w' hb'=>Es a b w' ha hb (ht.below hb')
 have yO:dg a≤1100002:=by have h1:=j4.iF (norm a);have h2:=jO a;show (j4.mag (norm a)).length≤_;omega
 have yP:dg b≤1100002:=by have h1:=j4.iF (norm b);have h2:=jO b;show (j4.mag (norm b)).length≤_;omega
 have HN:Hid (∀h:¬(j4.M4 a=true∧j4.M4 b=true∧dg a≤100∧dg b≤100),fZ a b=false):=fun h=>by
  rw[Bool.eq_false_iff];exact fun e=>h (a0C e)
 have HL:Hid (fZ a b=decide (Lib.itoa (V9 (j4.r9 a) (j4.r9 b))=a∧Lib.itoa (W9 (j4.r9 a) (j4.r9 b))=b∧dg a≤100∧dg b≤100)):=rfl;generalize fZ a b=z at *;generalize Lib.itoa (V9 (j4.r9 a) (j4.r9 b))=x at *;generalize Lib.itoa (W9 (j4.r9 a) (j4.r9 b))=y at *;generalize dg a=da at *;generalize dg b=db at *;cases h1:j4.M4 a with
 |false =>
  obtain rfl:=HN.out (fun h=>by rw[h1]at h;cases h.1);rw[h1]at fe;clear HL HN h1
  go_enter func270,ntmps270
  go_wp2_with fail
  refine (fe.out _).mono ?_;rintro e w' ⟨rfl,rfl⟩;go_wp2;go_ret;exact⟨rfl,Below.refl _ _⟩
 |true =>
 rw[h1]at fe;cases h2:j4.M4 b with
 |false =>
  obtain rfl:=HN.out (fun h=>by rw[h2]at h;cases h.2.1);rw[h2]at iV;clear HL HN h1 h2
  go_enter func270,ntmps270
  go_wp2_with fail
  refine (fe.out _).mono ?_;rintro e w' ⟨rfl,rfl⟩
  go_wp2_with fail
  refine (iV.out _).mono ?_;rintro e w' ⟨rfl,rfl⟩;go_wp2;go_ret;exact⟨rfl,Below.refl _ _⟩
 |true =>
 rw[h2]at iV;have VV:Hid (j4.M4 a=true∧j4.M4 b=true):=⟨h1,h2⟩;clear h1 h2;by_cases h3:da≤100
 case neg =>
  obtain rfl:=HN.out (fun h=>h3 h.2.2.1);clear HL HN VV
  go_enter func270,ntmps270
  go_wp2_with fail
  refine (fe.out _).mono ?_;rintro e w' ⟨rfl,rfl⟩
  go_wp2_with fail
  refine (iV.out _).mono ?_;rintro e w' ⟨rfl,rfl⟩
  go_wp2_with fail
  refine (HD1.out _).mono ?_;rintro e w' ⟨rfl,rfl⟩;go_wp2;go_ret;exact⟨rfl,Below.refl _ _⟩
 by_cases h4:db≤100
 case neg =>
  obtain rfl:=HN.out (fun h=>h4 h.2.2.2);clear HL HN VV
  go_enter func270,ntmps270
  go_wp2_with fail
  refine (fe.out _).mono ?_;rintro e w' ⟨rfl,rfl⟩
  go_wp2_with fail
  refine (iV.out _).mono ?_;rintro e w' ⟨rfl,rfl⟩
  go_wp2_with fail
  refine (HD1.out _).mono ?_;rintro e w' ⟨rfl,rfl⟩
  go_wp2_with fail
  refine (HD2.out _).mono ?_;rintro e w' ⟨rfl,rfl⟩;go_wp2;go_ret;exact⟨rfl,Below.refl _ _⟩
 have HZ:Hid (z=decide (x=a∧y=b)):=by
  show z=_;rw[HL.out];exact decide_eq_decide.2 ⟨fun h=>⟨h.1,h.2.1⟩,fun h=>⟨h.1,h.2,h3,h4⟩⟩
 clear HN HL VV;by_cases h5:x=a
 ·by_cases h6:y=b
  ·obtain rfl:z=true:=by rw[HZ.out];exact decide_eq_true ⟨h5,h6⟩
   subst h5 h6;clear HZ
   go_enter func270,ntmps270
   go_wp2_with fail
   refine (fe.out _).mono ?_;rintro e w' ⟨rfl,rfl⟩
   go_wp2_with fail
   refine (iV.out _).mono ?_;rintro e w' ⟨rfl,rfl⟩
   go_wp2_with fail
   refine (HD1.out _).mono ?_;rintro e w' ⟨rfl,rfl⟩
   go_wp2_with fail
   refine (HD2.out _).mono ?_;rintro e w' ⟨rfl,rfl⟩
   go_wp2_with fail
   refine (HR.out _ (Below.refl _ _)).mono ?_;rintro e w1 ⟨rfl,hb1⟩;go_wp2;go_ret;exact⟨rfl,hb1⟩
  ·obtain rfl:z=false:=by rw[HZ.out];exact decide_eq_false (fun h=>h6 h.2)
   subst h5;have hz:(y == b)=false:=by rw[beq_eq_false_iff_ne];exact h6
   clear HZ h6
   go_enter func270,ntmps270
   go_wp2_with fail
   refine (fe.out _).mono ?_;rintro e w' ⟨rfl,rfl⟩
   go_wp2_with fail
   refine (iV.out _).mono ?_;rintro e w' ⟨rfl,rfl⟩
   go_wp2_with fail
   refine (HD1.out _).mono ?_;rintro e w' ⟨rfl,rfl⟩
   go_wp2_with fail
   refine (HD2.out _).mono ?_;rintro e w' ⟨rfl,rfl⟩
   go_wp2_with fail
   refine (HR.out _ (Below.refl _ _)).mono ?_;rintro e w1 ⟨rfl,hb1⟩;go_wp2;go_ret;exact⟨rfl,hb1⟩
 ·obtain rfl:z=false:=by rw[HZ.out];exact decide_eq_false (fun h=>h5 h.1)
  have hz:(x == a)=false:=by rw[beq_eq_false_iff_ne];exact h5
  clear HZ h5
  go_enter func270,ntmps270
  go_wp2_with fail
  refine (fe.out _).mono ?_;rintro e w' ⟨rfl,rfl⟩
  go_wp2_with fail
  refine (iV.out _).mono ?_;rintro e w' ⟨rfl,rfl⟩
  go_wp2_with fail
  refine (HD1.out _).mono ?_;rintro e w' ⟨rfl,rfl⟩
  go_wp2_with fail
  refine (HD2.out _).mono ?_;rintro e w' ⟨rfl,rfl⟩
  go_wp2_with fail
  refine (HR.out _ (Below.refl _ _)).mono ?_;rintro e w1 ⟨rfl,hb1⟩;go_wp2;go_ret;exact⟨rfl,hb1⟩
theorem YM(ok:Nat→Prop):∀(N:Nat) (o:Ob),o.size≤N→o.Wf→o.Sm→∀(A:Option Addr) (n c:Nat) (w:World),Q4 w→Rd ok w (.slice A n c) (.row (o.pair.map Ob.enc)) →
  Calls prog 239 #[F5 o (.slice A n c)] w (I7 (.bool o.S9) w):=by
 intro N
 induction N with
 |zero=>intro o h;have:=Ob.size_pos o;omega
 |succ N ih =>
  intro o hN hW hS A n c w ht hP;obtain⟨fb,bR⟩:∃fb,fb=o.S9:=⟨_,rfl⟩;rw[←bR];have VY:Hid (o.S9=fb):=bR.symm;clear bR
  go_enter func239,ntmps239
  go_wp2
  go_loopg [2] o.size (fun gx lv wr=>∃(x:Ob) (A2:Option Addr) (n2 c2:Nat),lv=.bool false∧Hid (y9 wr w.heap.size 48 (R8 x (.slice A2 n2 c2)))∧Rd ok w (.slice A2 n2 c2) (.row (x.pair.map Ob.enc))∧x.size≤N+1∧Hid x.Wf∧Hid x.Sm∧Hid (x.S9=fb)∧x.size≤gx∧Below w.heap.size w wr)
  case atStart=>exact⟨o,A,n,c,rfl,Lib.hid (y9.new w _ _),hP,hN,Lib.hid hW,Lib.hid hS,VY,Nat.le_refl _,box _ _⟩
  case round =>
   clear VY hW hS hP;obtain⟨⟨xk,xn,xd,xp,xs,xt,oH⟩,A2,n2,c2,rfl,X,hr,JX,qR,uY,HF,hgx,hb⟩:=hrel;have hlen:=hr.len;rw[List.length_map]at hlen;have hw1:=qR.out.len;have hs1:=uY.out.len;dsimp only at hlen hw1 hs1 hr X;have hn2:n2≤9223372036854775807:=by rw[←hlen];exact hw1
   obtain⟨hs1,hs2⟩:=hs1;clear hw1;obtain⟨x0,x1,x2,x3,x4,x5,x6,xl⟩:=X.out.seven;obtain⟨fq,fu,fw,fA,fB,fC,fD⟩:=X.out.bN;by_cases h4:xk=4
   ·subst h4;have aZ:Hid (∀w':World,Calls prog 269 #[F5 ⟨4,xn,xd,xp,xs,xt,oH⟩ (.slice A2 n2 c2),.bool false,.bool false,.bool false] w' (I7 (.bool (decide (xn=[]∧xd=[]∧xp=[]∧xs=[]∧xt=[]))) w')):=fun w'=>Zx ⟨4,xn,xd,xp,xs,xt,oH⟩ A2 n2 c2 w'
    by_cases h2:n2=2
    case neg =>
     obtain rfl:fb=false:=by rw[←HF.out,Ob.Q6,if_pos rfl];rw[Bool.eq_false_iff];intro h;simp only[Bool.and_eq_true,decide_eq_true_eq]at h;exact h2 (by rw[←hlen];simp[h])
     have hz:((n2:Int) != 2)=true:=by rw[bne_iff_ne];omega
     clear HF aZ hlen;go_wp2;go_ret;exact⟨rfl,hb⟩
    subst h2;by_cases hbr:xn=[]∧xd=[]∧xp=[]∧xs=[]∧xt=[]
    case neg =>
     rw[decide_eq_false hbr]at aZ;obtain rfl:fb=false:=by rw[←HF.out,Ob.Q6,if_pos rfl];rw[Bool.eq_false_iff];intro h;simp only[Bool.and_eq_true,decide_eq_true_eq]at h;exact hbr (by simp[h])
     clear HF hbr hlen
     go_wp2_with fail
     refine (aZ.out _).mono ?_;rintro e w1 ⟨rfl,hb1⟩;go_wp2;go_ret;exact⟨rfl,J9 hb hb1⟩
    rw[decide_eq_true hbr]at aZ;obtain⟨rfl,rfl,rfl,rfl,rfl⟩:=hbr;obtain⟨a,d,rfl⟩:=Ob.zS hlen;have hsa:=Ob.iI (o:=⟨4,[],[],[],[],[],[a,d]⟩) (x:=a) I;have hsd:=Ob.iI (o:=⟨4,[],[],[],[],[],[a,d]⟩) (x:=d) I;have Km:=Lib.hid (qR.out.kids (x:=a) I);have Kn:=Lib.hid (qR.out.kids (x:=d) I);have HSa:=Lib.hid (uY.out.kids (x:=a) I);have HSd:=Lib.hid (uY.out.kids (x:=d) I);have kK:Hid ((a.S9 && d.S9)=fb):=by
     show _=fb;rw[←HF.out,Ob.Q6,if_pos rfl];simp[Ob.lW]
    clear hlen HF qR uY
    go_wp2_with fail
    refine (aZ.out _).mono ?_;rintro e w1 ⟨rfl,hb1⟩;have b1:=J9 hb hb1;have X1:=Lib.hid (X.out.below hb1);clear x0 fq x1 fu x2 fw x3 fA x4 fB x5 fC x6 fD;obtain⟨y0,y1,y2,y3,y4,y5,y6,yl⟩:=X1.out.seven;obtain⟨b,q,_,A3,n3,c3',rfl,hbl,_,a0,a1,a2,a3,a4,a5,a6,ha⟩:=hr.dD b1 (i:=0) J;simp only[List.getElem_cons_zero,Nat.zero_mul,Nat.add_zero]at a0 a1 a2 a3 a4 a5 a6 ha;have xU:=Nat.lt_of_lt_of_le hbl b1.size;have HC:=Lib.hid (ih a J Km.out HSa.out A3 n3 c3' w1 (ht.below b1) (ha.under b1));generalize a.S9=ba at *
    go_wp2_with fail
    refine HC.out.mono ?_;rintro e w2 ⟨rfl,hb2⟩;have b2:=J9 b1 hb2;have X2:=Lib.hid (X1.out.below hb2);clear y0 y1 y2 y3 y4 y5 y6 a0 a1 a2 a3 a4 a5 a6;cases ba with
    |false =>
     obtain rfl:fb=false:=kK.out.symm;clear kK;go_wp2;go_ret;exact⟨rfl,b2⟩
    |true =>
     obtain⟨z0,z1,z2,z3,z4,z5,z6,zl⟩:=X2.out.seven;obtain⟨zf0,zf1,zf2,zf3,zf4,zf5,zf6⟩:=X2.out.bN;obtain⟨b',q',_,A4,n4,yS,eA,_,_,d0,d1,d2,d3,d4,d5,d6,hd⟩:=hr.dD b2 (i:=1) J;injection eA with eA
     injection eA with eb eq
     subst eb eq;simp only[List.getElem_cons_zero,List.getElem_cons_succ,Nat.one_mul]at d0 d1 d2 d3 d4 d5 d6 hd;have Ji:=Nat.lt_of_lt_of_le hbl b2.size;go_wp2
     go_roundg d.size
     case measure=>omega
     case rel=>exact⟨d,A4,n4,yS,rfl,Lib.hid X2.out.dE,hd,J,Kn,HSd,Lib.hid kK.out,Nat.le_refl _,dF b2 (Nat.le_refl _) _ _ _ _ _ _ _⟩
   have e4:(xk == 4)=false:=by rw[beq_eq_false_iff_ne];exact h4
   have HT:=Lib.hid (qR.out);by_cases h1:xk=1
   ·subst h1;clear h4 e4;have aZ:Hid (∀w':World,Calls prog 269 #[F5 ⟨1,xn,xd,xp,xs,xt,oH⟩ (.slice A2 n2 c2),.bool true,.bool false,.bool false] w' (I7 (.bool (decide (xp=[]∧xs=[]∧xt=[]))) w')):=fun w'=>Zy ⟨1,xn,xd,xp,xs,xt,oH⟩ A2 n2 c2 w'
    by_cases hbr:xp=[]∧xs=[]∧xt=[]
    case neg =>
     rw[decide_eq_false hbr]at aZ;obtain rfl:fb=false:=by rw[←HF.out,Ob.Q6];simp only[show ¬((1:Int)=4) by decide,if_false,if_true];rw[Bool.eq_false_iff];intro h;simp only[Bool.and_eq_true,decide_eq_true_eq]at h;exact hbr (by simp[h])
     clear HF hbr hlen
     go_wp2_with fail
     refine (aZ.out _).mono ?_;rintro e w1 ⟨rfl,hb1⟩;go_wp2;go_ret;exact⟨rfl,J9 hb hb1⟩
    rw[decide_eq_true hbr]at aZ;by_cases hn0:n2=0
    case neg =>
     obtain rfl:fb=false:=by rw[←HF.out,Ob.Q6];simp only[show ¬((1:Int)=4) by decide,if_false,if_true];rw[Bool.eq_false_iff];intro h;simp only[Bool.and_eq_true,decide_eq_true_eq]at h;exact hn0 (by rw[←hlen];simp[h])
     have hz:((n2:Int) == 0)=false:=by rw[beq_eq_false_iff_ne];omega
     clear HF hbr hlen
     go_wp2_with fail
     refine (aZ.out _).mono ?_;rintro e w1 ⟨rfl,hb1⟩;have X1:=Lib.hid (X.out.below hb1);clear x0 fq x1 fu x2 fw x3 fA x4 fB x5 fC x6 fD;obtain⟨y0,y1,y2,y3,y4,y5,y6,yl⟩:=X1.out.seven;go_wp2;go_ret;exact⟨rfl,J9 hb hb1⟩
    subst hn0;obtain rfl:fb=fZ xn xd:=by rw[←HF.out,Ob.Q6];simp[hbr,hlen]
    have Ko:Hid (∀w':World,Below w.heap.size w w'→Calls prog 270 #[str xn,str xd] w' (I7 (.bool (fZ xn xd)) w')):=fun w' hb'=>YL xn xd w' (ht.below hb') hs1 hs2
    generalize fZ xn xd=bl at *;clear HF hbr hlen
    go_wp2_with fail
    refine (aZ.out _).mono ?_;rintro e w1 ⟨rfl,hb1⟩;have X1:=Lib.hid (X.out.below hb1);clear x0 fq x1 fu x2 fw x3 fA x4 fB x5 fC x6 fD;obtain⟨y0,y1,y2,y3,y4,y5,y6,yl⟩:=X1.out.seven
    go_wp2_with fail
    refine (Ko.out _ (J9 hb hb1)).mono ?_;rintro e w2 ⟨rfl,hb2⟩;cases bl
    ·go_wp2;go_ret;exact⟨rfl,J9 (J9 hb hb1) hb2⟩
    ·go_wp2;go_ret;exact⟨rfl,J9 (J9 hb hb1) hb2⟩
   have e1:(xk == 1)=false:=by rw[beq_eq_false_iff_ne];exact h1
   by_cases h2:xk=2
   ·subst h2;clear h4 e4 h1 e1;have aZ:Hid (∀w':World,Calls prog 269 #[F5 ⟨2,xn,xd,xp,xs,xt,oH⟩ (.slice A2 n2 c2),.bool false,.bool true,.bool false] w' (I7 (.bool (decide (xn=[]∧xd=[]∧xt=[]))) w')):=fun w'=>Zz ⟨2,xn,xd,xp,xs,xt,oH⟩ A2 n2 c2 w'
    by_cases hbr:xn=[]∧xd=[]∧xt=[]
    case neg =>
     rw[decide_eq_false hbr]at aZ;obtain rfl:fb=false:=by rw[←HF.out,Ob.Q6];simp only[show ¬((2:Int)=4) by decide,if_false,if_true,show ¬((2:Int)=1) by decide];rw[Bool.eq_false_iff];intro h;simp only[Bool.and_eq_true,decide_eq_true_eq]at h;exact hbr (by simp[h])
     clear HF hbr hlen
     go_wp2_with fail
     refine (aZ.out _).mono ?_;rintro e w1 ⟨rfl,hb1⟩;go_wp2;go_ret;exact⟨rfl,J9 hb hb1⟩
    rw[decide_eq_true hbr]at aZ;by_cases hn0:n2=0
    case neg =>
     obtain rfl:fb=false:=by rw[←HF.out,Ob.Q6];simp only[show ¬((2:Int)=4) by decide,if_false,if_true,show ¬((2:Int)=1) by decide];rw[Bool.eq_false_iff];intro h;simp only[Bool.and_eq_true,decide_eq_true_eq]at h;exact hn0 (by rw[←hlen];simp[h])
     have hz:((n2:Int) == 0)=false:=by rw[beq_eq_false_iff_ne];omega
     clear HF hbr hlen
     go_wp2_with fail
     refine (aZ.out _).mono ?_;rintro e w1 ⟨rfl,hb1⟩;have X1:=Lib.hid (X.out.below hb1);clear x0 fq x1 fu x2 fw x3 fA x4 fB x5 fC x6 fD;obtain⟨y0,y1,y2,y3,y4,y5,y6,yl⟩:=X1.out.seven;go_wp2;go_ret;exact⟨rfl,J9 hb hb1⟩
    subst hn0;obtain rfl:fb=P7 ⟨xp,xs⟩:=by rw[←HF.out,Ob.Q6];simp[hbr,hlen]
    have Ko:Hid (∀w':World,Calls prog 271 #[.agg #[str xp,str xs]] w' (I7 (.bool (P7 ⟨xp,xs⟩)) w')):=fun w'=>Lb ⟨xp,xs⟩ w' (by cases HT.out;assumption) (by cases HT.out;assumption)
    generalize P7 ⟨xp,xs⟩=bl at *;clear HF hbr hlen
    go_wp2_with fail
    refine (aZ.out _).mono ?_;rintro e w1 ⟨rfl,hb1⟩;have X1:=Lib.hid (X.out.below hb1);clear x0 fq x1 fu x2 fw x3 fA x4 fB x5 fC x6 fD;obtain⟨y0,y1,y2,y3,y4,y5,y6,yl⟩:=X1.out.seven
    go_wp2_with fail
    refine (Ko.out _).mono ?_;rintro e w2 ⟨rfl,hb2⟩;cases bl
    ·go_wp2;go_ret;exact⟨rfl,J9 (J9 hb hb1) hb2⟩
    ·go_wp2;go_ret;exact⟨rfl,J9 (J9 hb hb1) hb2⟩
   have e2:(xk == 2)=false:=by rw[beq_eq_false_iff_ne];exact h2
   by_cases h3:xk=3
   ·subst h3;clear h4 e4 h1 e1 h2 e2;have hxt:xt.length≤9223372036854775807:=by cases HT.out;assumption
    have aZ:Hid (∀w':World,Calls prog 269 #[F5 ⟨3,xn,xd,xp,xs,xt,oH⟩ (.slice A2 n2 c2),.bool false,.bool false,.bool true] w' (I7 (.bool (decide (xn=[]∧xd=[]∧xp=[]∧xs=[]))) w')):=fun w'=>ZA ⟨3,xn,xd,xp,xs,xt,oH⟩ A2 n2 c2 w'
    by_cases hbr:xn=[]∧xd=[]∧xp=[]∧xs=[]
    case neg =>
     rw[decide_eq_false hbr]at aZ;obtain rfl:fb=false:=by rw[←HF.out,Ob.Q6];simp only[show ¬((3:Int)=4) by decide,if_false,if_true,show ¬((3:Int)=1) by decide,show ¬((3:Int)=2) by decide];rw[Bool.eq_false_iff];intro h;simp only[decide_eq_true_eq]at h;exact hbr (by simp[h])
     clear HF hbr hlen
     go_wp2_with fail
     refine (aZ.out _).mono ?_;rintro e w1 ⟨rfl,hb1⟩;go_wp2;go_ret;exact⟨rfl,J9 hb hb1⟩
    rw[decide_eq_true hbr]at aZ;by_cases hn0:n2=0
    case neg =>
     obtain rfl:fb=false:=by rw[←HF.out,Ob.Q6];simp only[show ¬((3:Int)=4) by decide,if_false,if_true,show ¬((3:Int)=1) by decide,show ¬((3:Int)=2) by decide];rw[Bool.eq_false_iff];intro h;simp only[decide_eq_true_eq]at h;exact hn0 (by rw[←hlen];simp[h])
     have hz:((n2:Int) == 0)=false:=by rw[beq_eq_false_iff_ne];omega
     clear HF hbr hlen
     go_wp2_with fail
     refine (aZ.out _).mono ?_;rintro e w1 ⟨rfl,hb1⟩;have X1:=Lib.hid (X.out.below hb1);clear x0 fq x1 fu x2 fw x3 fA x4 fB x5 fC x6 fD;obtain⟨y0,y1,y2,y3,y4,y5,y6,yl⟩:=X1.out.seven;go_wp2;go_ret;exact⟨rfl,J9 hb hb1⟩
    subst hn0;by_cases uC:xt.length≤200
    ·obtain rfl:fb=true:=by rw[←HF.out,Ob.Q6];simp[hbr,hlen,uC]
     have hd2:decide ((xt.length:Int)≤200)=true:=decide_eq_true J;clear HF hbr hlen qR uY HT
     go_wp2_with fail
     refine (aZ.out _).mono ?_;rintro e w1 ⟨rfl,hb1⟩;have X1:=Lib.hid (X.out.below hb1);clear x0 fq x1 fu x2 fw x3 fA x4 fB x5 fC x6 fD;obtain⟨y0,y1,y2,y3,y4,y5,y6,yl⟩:=X1.out.seven;go_wp2;go_ret;exact⟨rfl,J9 hb hb1⟩
    ·obtain rfl:fb=false:=by rw[←HF.out,Ob.Q6];simp[uC]
     have hd2:decide ((xt.length:Int)≤200)=false:=decide_eq_false J;clear HF hbr hlen qR uY HT
     go_wp2_with fail
     refine (aZ.out _).mono ?_;rintro e w1 ⟨rfl,hb1⟩;have X1:=Lib.hid (X.out.below hb1);clear x0 fq x1 fu x2 fw x3 fA x4 fB x5 fC x6 fD;obtain⟨y0,y1,y2,y3,y4,y5,y6,yl⟩:=X1.out.seven;go_wp2;go_ret;exact⟨rfl,J9 hb hb1⟩
   have e3:(xk == 3)=false:=by rw[beq_eq_false_iff_ne];exact h3
   obtain rfl:fb=false:=by rw[←HF.out,Ob.Q6,if_neg h4,if_neg h1,if_neg h2,if_neg h3]
   clear HF h1 h2 h3 h4;go_wp2;go_ret;exact⟨rfl,hb⟩
def Ob.jZ(o:Ob):Bool:=decide (o.nodes≤3000) && o.S9
theorem YN(ok:Nat→Prop)(o:Ob)(hW:o.Wf)(hS:o.Sm)(A:Option Addr)(n c:Nat)(w:World)(ht:Q4 w)(hP:Rd ok w (.slice A n c) (.row (o.pair.map Ob.enc))) :
  Calls prog 201 #[F5 o (.slice A n c)] w (I7 (.bool o.jZ) w):=by
 have HN:Hid (∀w':World,Below w.heap.size w w'→Calls prog 238 #[F5 o (.slice A n c)] w' (I7 (.int .i64 (R9 o)) w')):=fun w' hb=>LW ok o A n c w' (hP.under hb)
 have HF:Hid (∀w':World,Below w.heap.size w w'→Calls prog 239 #[F5 o (.slice A n c)] w' (I7 (.bool o.S9) w')):=fun w' hb=>YM ok o.size o (Nat.le_refl _) hW hS A n c w' (ht.below hb) (hP.under hb)
 unfold Ob.jZ;by_cases hk:o.nodes≤3000
 ·have hk':R9 o≤3000:=by unfold R9;split <;> omega
  rw[decide_eq_true hk,Bool.true_and];generalize o.S9=fb at *;generalize R9 o=z at *;clear hk
  go_enter func201,ntmps201
  go_wp2_with fail
  refine (HN.out _ (box _ _)).mono ?_;rintro e w1 ⟨rfl,hb1⟩;have X1:=Lib.hid (y9.via hb1);obtain⟨y0,y1,y2,y3,y4,y5,y6,yl⟩:=X1.out.seven
  go_wp2_with fail
  refine (HF.out _ (via hb1)).mono ?_;rintro e w2 ⟨rfl,hb2⟩;go_wp2;go_ret;exact⟨rfl,J9 (via hb1) hb2⟩
 ·have hk':¬R9 o≤3000:=by unfold R9;split <;> omega
  rw[decide_eq_false hk,Bool.false_and];generalize R9 o=z at *;clear hk
  go_enter func201,ntmps201
  go_wp2_with fail
  refine (HN.out _ (box _ _)).mono ?_;rintro e w1 ⟨rfl,hb1⟩;go_wp2;go_ret;exact⟨rfl,via hb1⟩
abbrev lG(s:Sy):Value:=.agg #[.int .i64 2,str [],str [],str s.pkg,str s.name,str [],.slice none 0 0]
abbrev tQ(s:Sy):Value:=.agg #[str s.pkg,str s.name]
theorem YO(s:Sy)(w:World):Calls prog 122 #[tQ s] w (I7 (lG s) w):=by
 go_enter func122,ntmps122
 go_wp2;exact bodyPost_ret (v:=lG s) (by simp[results,Tryz.results122,go_sem]) rfl ⟨rfl,aT (box _ _) _⟩
theorem Yi(s:Sy)(w:World):Calls prog 268 #[lG s,.int .i64 3001] w (I7 (.int .i64 3000) w):=by
 go_enter func268,ntmps268
 go_wp2;refine wp_loop_rounds 1 ?_;rw[rounds_succ];go_wp2;go_ret;exact⟨rfl,box _ _⟩
theorem Yj(s:Sy)(w:World):Calls prog 269 #[lG s,.bool false,.bool true,.bool false] w (I7 (.bool true) w):=by
 go_enter func269,ntmps269
 go_wp2;go_ret;exact⟨rfl,box _ _⟩
theorem XI(s:Sy)(w:World):Calls prog 238 #[lG s] w (I7 (.int .i64 1) w):=by
 go_enter func238,ntmps238
 go_wp2_with fail
 refine (Yi s _).mono ?_;rintro e w1 ⟨rfl,hb1⟩;go_wp2;go_ret;exact⟨rfl,via hb1⟩
theorem Xt(s:Sy)(w:World)(hp:s.pkg.length≤9223372036854775807)(hn:s.name.length≤9223372036854775807):Calls prog 239 #[lG s] w (I7 (.bool (P7 s)) w):=by
 go_enter func239,ntmps239
 go_wp2;refine wp_loop_rounds 1 ?_;rw[rounds_succ]
 go_wp2_with fail
 refine (Yj s _).mono ?_;rintro e w1 ⟨rfl,hb1⟩;obtain⟨c0,c1,c2,c3,c4,c5,c6,hg⟩:=(y9.via hb1).seven
 go_wp2_with fail
 refine (Lb s _ hp hn).mono ?_;rintro e w2 ⟨rfl,hb2⟩;go_wp2;go_ret;exact⟨rfl,J9 (via hb1) hb2⟩
theorem XJ(s:Sy)(w:World)(hp:s.pkg.length≤9223372036854775807)(hn:s.name.length≤9223372036854775807):Calls prog 201 #[lG s] w (I7 (.bool (P7 s)) w):=by
 have HF:Hid (∀w':World,Calls prog 239 #[lG s] w' (I7 (.bool (P7 s)) w')):=fun w'=>Xt s w' hp hn
 go_enter func201,ntmps201
 go_wp2_with fail
 refine (XI s _).mono ?_;rintro e w1 ⟨rfl,hb1⟩;obtain⟨c0,c1,c2,c3,c4,c5,c6,hg⟩:=(y9.via hb1).seven
 go_wp2_with fail
 refine (HF.out _).mono ?_;rintro e w2 ⟨rfl,hb2⟩;go_wp2;go_ret;exact⟨rfl,J9 (via hb1) hb2⟩
theorem XK(s:Sy)(w:World)(hp:s.pkg.length≤9223372036854775807)(hn:s.name.length≤9223372036854775807):Calls prog 227 #[tQ s] w (I7 (.bool (P7 s)) w):=by
 have HF:Hid (∀w':World,Calls prog 201 #[lG s] w' (I7 (.bool (P7 s)) w')):=fun w'=>XJ s w' hp hn
 go_enter func227,ntmps227
 go_wp2_with fail
 refine (YO s _).mono ?_;rintro e w1 ⟨rfl,hb1⟩
 go_wp2_with fail
 refine (HF.out _).mono ?_;rintro e w2 ⟨rfl,hb2⟩;go_wp2;go_ret;exact⟨rfl,J9 (via hb1) hb2⟩
theorem Le(s:Sy)(w:World)(hp:s.pkg.length≤9223372036854775807)(hn:s.name.length≤9223372036854775807):Calls prog 209 #[tQ s] w (I7 (.bool (P7 s)) w):=by
 obtain⟨l,m⟩:=s;have HF:Hid (∀(w':World) (b:Bool),dQ l=b→Calls prog 245 #[str l] w' (Ff (.bool b) w')):=fun w' b hb=>by
  have:=WX l w' hp
  rwa [hb]at this
 dsimp only at hp hn ⊢;cases h:dQ l with
 |false =>
  have HR:Hid (P7 ⟨l,m⟩=false):=by show _=_;unfold P7;rw[h];rfl
  have HH:=Lib.hid h;clear h
  go_enter func209,ntmps209
  go_wp2_with fail
  refine (HF.out _ _ HH.out).mono ?_;rintro e w1 ⟨rfl,rfl⟩;go_wp2;go_ret;exact⟨by rw[HR.out];rfl,box _ _⟩
 |true =>
  have HR:Hid (P7 ⟨l,m⟩=gK m):=by show _=_;unfold P7;rw[h];rfl
  have HH:=Lib.hid h;clear h;by_cases h1:1≤m.length
  ·by_cases h2:m.length≤40
   ·have HN:Hid (gK m=true):=by show _=_;unfold gK;simp;omega
    have hd:decide ((m.length:Int)≤40)=true:=by simp;omega
    go_enter func209,ntmps209
    go_wp2_with fail
    refine (HF.out _ _ HH.out).mono ?_;rintro e w1 ⟨rfl,rfl⟩;go_wp2;go_ret;exact⟨by rw[HR.out,HN.out];rfl,box _ _⟩
   ·have HN:=Lib.hid (Ac (l:=m) (.inr J));have hd:decide ((m.length:Int)≤40)=false:=by simp;omega
    go_enter func209,ntmps209
    go_wp2_with fail
    refine (HF.out _ _ HH.out).mono ?_;rintro e w1 ⟨rfl,rfl⟩;go_wp2;go_ret;exact⟨by rw[HR.out,HN.out];rfl,box _ _⟩
  ·have HN:=Lib.hid (Ac (l:=m) (.inl J));have hd:decide (1≤(m.length:Int))=false:=by simp;omega
   go_enter func209,ntmps209
   go_wp2_with fail
   refine (HF.out _ _ HH.out).mono ?_;rintro e w1 ⟨rfl,rfl⟩;go_wp2;go_ret;exact⟨by rw[HR.out,HN.out];rfl,box _ _⟩
theorem Lf(s:Sy)(w:World)(hp:s.pkg.length≤9223372036854775807)(hn:s.name.length≤9223372036854775807):Calls prog 166 #[tQ s] w (I7 (.bool (P7 s)) w):=by
 have HF:Hid (∀w':World,Calls prog 209 #[tQ s] w' (I7 (.bool (P7 s)) w')):=fun w'=>Le s w' hp hn
 go_enter func166,ntmps166
 go_wp2_with fail
 refine (HF.out _).mono ?_;rintro e w2 ⟨rfl,hb2⟩;go_wp2;go_ret;exact⟨rfl,via hb2⟩
end Go.Proofs.YtdkehabacmlegaaGreatDoor
