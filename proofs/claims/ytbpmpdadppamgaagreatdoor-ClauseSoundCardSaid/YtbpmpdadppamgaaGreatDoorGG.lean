/- lispproverref1.Divide, Gcd, Reduce. -/
import Derived.Test.YtbpmpdadppamgaaGreatDoorGF
import Derived.Test.YtbpmpdadppamgaaGreatDoorGD
import Derived.Test.YtbpmpdadppamgaaGreatDoorGE
import Derived.Deep.RegionHeld3
set_option maxRecDepth 100000
set_option maxHeartbeats 4000000
namespace Go.Proofs.YtbpmpdadppamgaaGreatDoor
open Tryz
open Go.RowKit
theorem yA{x:Int}{n:Nat}(h:(j6.limbs 10 x.natAbs).length=n):n=0↔x=0:=by
 subst h;constructor
 ·intro h;have:=(j6.mX (B:=10) J).1 (q9 h);omega
 ·rintro rfl;rfl
theorem a1Q{v n:Nat}(h:(j6.limbs 10 v).length=n)(h0:n≠0):0 < v:=by
 rcases Zaa v with e | e
 ·subst e;rw[j6.rJ]at h;simp at h;omega
 ·exact e
theorem Cs{a b n:Nat}(h:(j6.limbs 10 a).length=n):(j6.limbs 10 (a / b)).length≤n:=by
 rw[←h];exact j6.aS J (Nat.div_le_self a b)
theorem Hz{a b n:Nat}(hb:0 < b)(h:(j6.limbs 10 b).length=n):(j6.limbs 10 (a % b)).length≤n:=by
 rw[←h];exact j6.aS J (Nat.le_of_lt (Nat.mod_lt a hb))
theorem vC(ng:Bool)(A:Option Addr)(n c v:Nat)(l:lw)(w:World)(hx:Sl w .i64 A n c (j6.limbs 10 v))(hn:n≤100000000)(hv:bC ng v=l) :
  Calls prog 147 #[.bool ng,.slice A n c] w (bD l w):=by
 have:=xR ng A n c _ w hx hn (j6.N7 J v);rw[j6.H8 J,hv]at this;exact this
theorem a1R(a b:lw)(w:World)(ha:a.length≤2400000)(hb:b.length≤2400000)(hy0:j6.x9 b=0) :
  Calls prog 159 #[.string ⟨a.toArray⟩,.string ⟨b.toArray⟩] w (eu [48] (Lib.itoa (j6.x9 a)) w):=by
 have U2:Hid (∀w':World,Calls prog 144 #[.string ⟨a.toArray⟩] w' (dH (a.length+1) (j6.x9 a) w')):=fun w'=>dz a J w'
 have S9:Hid (∀w':World,Calls prog 144 #[.string ⟨b.toArray⟩] w' (dH (b.length+1) 0 w')):=fun w'=>by have:=dz b J w';rwa [hy0]at this
 clear hy0;generalize j6.x9 a=x at *;obtain⟨s,hsd⟩:∃s,s=decide (x < 0):=⟨_,rfl⟩;have dh:=WP hsd;clear hsd
 go_enter func159,ntmps159
 go_wp2_with fail
 refine (U2.out _).mono ?_;rintro e w1 ⟨A1,n1,c1,rfl,hs1,hn1,hb1⟩;rw[←dh.out]
 go_wp2_with fail
 refine (S9.out _).mono ?_;rintro e w2 ⟨A2,n2,c2,rfl,hs2,hn2,hb2⟩;have hbw2:=hb1.trans (hb2.mono hb1.size);obtain rfl:n2=0:=(yA (x:=0) hs2.len).2 rfl
 go_wp2_with fail
 refine (kr s A1 n1 c1 _ x _ (hs1.below hb2) J (by rw[dh.out];by_cases h:x < 0 <;> simp[h] <;> omega)).mono ?_;rintro e w3 ⟨rfl,hb3⟩;go_wp2;go_ret2;exact⟨rfl,hbw2.trans (hb3.mono hbw2.size)⟩
theorem Pz(a b:lw)(w:World)(ha:a.length≤2400000)(hb:b.length≤2400000)(x y:Int)(hxv:j6.x9 a=x)(hyv:j6.x9 b=y)(hy0:y≠0)(s s' z:Bool)(hsd:decide (x < 0)=s)(bn:decide (y < 0)=s')
  (hz:(!(s == s'))=z) (hcase:z=false∨x.natAbs % y.natAbs=0) (q r:lw) (HQ:Hid (bC z (x.natAbs / y.natAbs)=q)) (HR:Hid (bC s' (x.natAbs % y.natAbs)=r)) :
  Calls prog 159 #[.string ⟨a.toArray⟩,.string ⟨b.toArray⟩] w (eu q r w):=by
 have U2:Hid (∀w':World,Calls prog 144 #[.string ⟨a.toArray⟩] w' (dH (a.length+1) x w')):=fun w'=>by have:=dz a J w';rwa [hxv]at this
 have S9:Hid (∀w':World,Calls prog 144 #[.string ⟨b.toArray⟩] w' (dH (b.length+1) y w')):=fun w'=>by have:=dz b J w';rwa [hyv]at this
 have dh:=WP hsd;have gm:=WP bn;have hyp:0 < y.natAbs:=J;have zx:=WP hcase;clear hcase;clear hsd bn hxv hyv
 go_enter func159,ntmps159
 go_wp2_with fail
 refine (U2.out _).mono ?_;rintro e w1 ⟨A1,n1,c1,rfl,hs1,hn1,hb1⟩;rw[dh.out]
 go_wp2_with fail
 refine (S9.out _).mono ?_;rintro e w2 ⟨A2,n2,c2,rfl,hs2,hn2,hb2⟩;rw[gm.out];have hbw2:=hb1.trans (hb2.mono hb1.size);have EM:((n2:Int) == 0)=false:=by rw[IR];intro e;exact hy0 ((yA hs2.len).1 J)
 clear hy0;have hsA:=hs1.below hb2;have hlq:=Cs (b:=y.natAbs) hsA.len;have hlr:=Hz (a:=x.natAbs) hyp hs2.len
 go_wp2_with fail
 refine (xS A1 A2 n1 n2 c1 c2 _ _ w2 hsA hs2 J J hyp).mono ?_;rintro e w3 ⟨A3,n3,c3,A4,n4,c4,rfl,hs3,hs4,hb3⟩;have O7:=hbw2.trans (hb3.mono hbw2.size);have gG:n3≤n1:=by rw[←hs3.len];exact hlq
 have oz:n4≤n2:=by rw[←hs4.len];exact hlr
 have uf:=WP hs4.len;by_cases xB:z=true
 ·have EO:n4=0:=by
   rcases zx.out with h | h
   ·rw[h]at xB;cases xB
   ·have:=uf.out;rw[h]at this;simpa[j6.rJ] using this.symm
  subst EO;subst xB
  go_wp2_with fail
  refine (vC true A3 n3 c3 _ q _ hs3 J HQ.out).mono ?_;rintro e w4 ⟨rfl,hb4⟩;have il:=O7.trans (hb4.mono O7.size)
  go_wp2_with fail
  refine (vC s' A4 0 c4 _ r _ (hs4.below hb4) J HR.out).mono ?_;rintro e w5 ⟨rfl,hb5⟩;go_wp2;go_ret2;exact⟨rfl,il.trans (hb5.mono il.size)⟩
 ·have ND:z=false:=by cases z <;> simp_all
  subst ND
  go_wp2_with fail
  refine (vC false A3 n3 c3 _ q _ hs3 J HQ.out).mono ?_;rintro e w4 ⟨rfl,hb4⟩;have il:=O7.trans (hb4.mono O7.size)
  go_wp2_with fail
  refine (vC s' A4 n4 c4 _ r _ (hs4.below hb4) J HR.out).mono ?_;rintro e w5 ⟨rfl,hb5⟩;go_wp2;go_ret2;exact⟨rfl,il.trans (hb5.mono il.size)⟩
theorem a1S(a b:lw)(w:World)(ha:a.length≤2400000)(hb:b.length≤2400000)(x y:Int)(hxv:j6.x9 a=x)(hyv:j6.x9 b=y)(hy0:y≠0)(s s':Bool)(hsd:decide (x < 0)=s)(bn:decide (y < 0)=s')
  (hz:(!(s == s'))=true) (hcase:x.natAbs % y.natAbs≠0) (q r:lw) (HQ:Hid (bC true (x.natAbs / y.natAbs+1)=q)) (HR:Hid (bC s' (y.natAbs - x.natAbs % y.natAbs)=r)) :
  Calls prog 159 #[.string ⟨a.toArray⟩,.string ⟨b.toArray⟩] w (eu q r w):=by
 have U2:Hid (∀w':World,Calls prog 144 #[.string ⟨a.toArray⟩] w' (dH (a.length+1) x w')):=fun w'=>by have:=dz a J w';rwa [hxv]at this
 have S9:Hid (∀w':World,Calls prog 144 #[.string ⟨b.toArray⟩] w' (dH (b.length+1) y w')):=fun w'=>by have:=dz b J w';rwa [hyv]at this
 have dh:=WP hsd;have gm:=WP bn;have hyp:0 < y.natAbs:=J;have zx:=WP hcase;clear hcase;clear hsd bn hxv hyv
 go_enter func159,ntmps159
 go_wp2_with fail
 refine (U2.out _).mono ?_;rintro e w1 ⟨A1,n1,c1,rfl,hs1,hn1,hb1⟩;rw[dh.out]
 go_wp2_with fail
 refine (S9.out _).mono ?_;rintro e w2 ⟨A2,n2,c2,rfl,hs2,hn2,hb2⟩;rw[gm.out];have hbw2:=hb1.trans (hb2.mono hb1.size);have EM:((n2:Int) == 0)=false:=by rw[IR];intro e;exact hy0 ((yA hs2.len).1 J)
 clear hy0;have hsA:=hs1.below hb2;have hlq:=Cs (b:=y.natAbs) hsA.len;have hlr:=Hz (a:=x.natAbs) hyp hs2.len
 go_wp2_with fail
 refine (xS A1 A2 n1 n2 c1 c2 _ _ w2 hsA hs2 J J hyp).mono ?_;rintro e w3 ⟨A3,n3,c3,A4,n4,c4,rfl,hs3,hs4,hb3⟩;have O7:=hbw2.trans (hb3.mono hbw2.size);have gG:n3≤n1:=by rw[←hs3.len];exact hlq
 have oz:n4≤n2:=by rw[←hs4.len];exact hlr
 have uf:=WP hs4.len;have b9n:0 < n4:=by
  rcases Zaa n4 with e | e
  ·have:=(j6.mX (B:=10) J).1 (q9 (uf.out.trans e));exact absurd this zx.out
  ·exact e
 have iF:=Nat.mod_lt x.natAbs hyp;have hone:=Sl.one w3 .i64 3 1;have hbW:Below w3.heap.size w3 (w3.alloc (.cells #[.int .i64 ((1:Nat):Int)] 3)):=(Below.refl _ _).alloc (PP _) _;have hP:=Ih A3 (some ⟨w3.heap.size,0,none⟩) n3 1 c3 1 _ [1] (w3.alloc (.cells #[.int .i64 ((1:Nat):Int)] 3)) (hs3.below hbW) hone J J (j6.N7 J _) (j6.Small.cons J j6.Small.nil);rw[j6.H8 J,show j6.y8 10 [1]=1 from rfl]at hP
 have HP:=WP hP;clear hP hone
 go_wp2_with fail
 refine HP.out.mono ?_;rintro e w4 ⟨A5,n5,c5,o5,rfl,ZF,hs5,b4S,hv5,hb5,_⟩;have HV5:=WP hv5;clear hv5;have nU:=hbW.trans (hb5.mono hbW.size);have il:=O7.trans (nU.mono O7.size);have hM:=pG A2 A4 n2 n4 c2 c4 _ _ w4 ((hs2.below hb3).below nU) (hs4.below nU) J oz (j6.N7 J _) (j6.N7 J _) (by rw[j6.H8 J,j6.H8 J];omega);rw[j6.H8 J,j6.H8 J]at hM;have HM:=WP hM;clear hM;have hll:(j6.limbs 10 (y.natAbs - x.natAbs % y.natAbs)).length≤n2:=by rw[←hs2.len];exact j6.aS J J
 go_wp2_with fail
 refine HM.out.mono ?_;rintro e w6 ⟨A6,n6,c6,rfl,hs6,hb6,_⟩;have hn6:n6≤n2:=by rw[←hs6.len];exact hll
 have Yw:=il.trans (hb6.mono il.size);have hX:=xR true A5 n5 c5 o5 w6 (hs5.below hb6) J b4S;rw[HV5.out,HQ.out]at hX;have HX:=WP hX;clear hX
 go_wp2_with fail
 refine HX.out.mono ?_;rintro e w7 ⟨rfl,X9⟩;have Yx:=Yw.trans (X9.mono Yw.size)
 go_wp2_with fail
 refine (vC s' A6 n6 c6 _ r _ (hs6.below X9) J HR.out).mono ?_;rintro e w8 ⟨rfl,jf⟩;go_wp2;go_ret2;exact⟨rfl,Yx.trans (jf.mono Yx.size)⟩
theorem a2q(a b:lw)(w:World)(ha:a.length≤2400000)(hb:b.length≤2400000) :
  Calls prog 159 #[.string ⟨a.toArray⟩,.string ⟨b.toArray⟩] w (eu (Lib.itoa (qd (j6.x9 a) (j6.x9 b))) (Lib.itoa (rm (j6.x9 a) (j6.x9 b))) w):=by
 by_cases hy:j6.x9 b=0
 ·have:=a1R a b w ha hb hy;rw[hy,Tj,Tk,j6.gW];exact this
 ·generalize hx:j6.x9 a=x;generalize hyv:j6.x9 b=y at hy;cases hs:decide (y < 0) with
  |_ =>
   by_cases hd:decide (x < 0)=decide (y < 0)
   ·obtain⟨h1,h2⟩:=Tn hy (hd.trans hs) hs;exact Pz a b w ha hb x y hx hyv hy _ _ false (hd.trans hs) hs I (.inl rfl) _ _ (WP (fM (by simpa using h1))) (WP (fM h2))
   ·have hd':decide (x < 0)=!(decide (y < 0)):=by cases h1:decide (x < 0) <;> cases h2:decide (y < 0) <;> simp_all
    rw[hs]at hd';by_cases h0:x.natAbs % y.natAbs=0
    ·obtain⟨h1,h2⟩:=Rj hy hd' hs h0;exact Pz a b w ha hb x y hx hyv hy _ _ true hd' hs I (.inr h0) _ _ (WP (fM (by simpa using h1))) (WP (by rw[h0,Cu,h2,j6.gW]))
    ·obtain⟨h1,h2⟩:=Tp hy hd' hs h0;exact a1S a b w ha hb x y hx hyv hy _ _ hd' hs I h0 _ _ (WP (fM (by simpa using h1))) (WP (fM h2))
theorem a2r(a b:lw)(w:World)(ha:a.length≤2400000)(hb:b.length≤2400000) :
  Calls prog 145 #[.string ⟨a.toArray⟩,.string ⟨b.toArray⟩] w (bD (Lib.itoa (Nat.gcd (j6.x9 a).natAbs (j6.x9 b).natAbs:Nat)) w):=by
 have U2:Hid (∀w':World,Calls prog 144 #[.string ⟨a.toArray⟩] w' (dH (a.length+1) (j6.x9 a) w')):=fun w'=>dz a J w'
 have S9:Hid (∀w':World,Calls prog 144 #[.string ⟨b.toArray⟩] w' (dH (b.length+1) (j6.x9 b) w')):=fun w'=>dz b J w'
 generalize j6.x9 a=x at *;generalize j6.x9 b=y at *;generalize hG:Nat.gcd x.natAbs y.natAbs=G;have HG:=WP hG;clear hG;obtain⟨s,hsd⟩:∃s,s=decide (x < 0):=⟨_,rfl⟩;have dh:=WP hsd;clear hsd;obtain⟨s',bn⟩:∃s',s'=decide (y < 0):=⟨_,rfl⟩;have gm:=WP bn;clear bn
 go_enter func145,ntmps145
 go_wp2_with fail
 refine (U2.out _).mono ?_;rintro e w1 ⟨A1,n1,c1,rfl,hs1,hn1,hb1⟩;rw[←dh.out]
 go_wp2_with fail
 refine (S9.out _).mono ?_;rintro e w2 ⟨A2,n2,c2,rfl,hs2,hn2,hb2⟩;rw[←gm.out];have hbw2:=hb1.trans (hb2.mono hb1.size)
 go_wp2_with fail
 go_loopg [6,8] y.natAbs (fun kx s5 s6 wr=>∃(A B:Option Addr) (n c m d u v:Nat),s5=.slice A n c∧s6=.slice B m d∧Sl wr .i64 A n c (j6.limbs 10 u)∧Sl wr .i64 B m d (j6.limbs 10 v)∧n≤2400001∧m≤2400001∧v≤kx∧Hid (Nat.gcd u v=G)∧Below w.heap.size w wr)
 case atStart=>exact⟨A1,A2,n1,c1,n2,c2,_,_,rfl,rfl,hs1.below hb2,hs2,J,J,PP _,HG,hbw2⟩
 case round =>
  obtain⟨A,B,n,c,m,d,u,v,rfl,rfl,hu,hv,hn,hm,hk,AZ,hb⟩:=hrel;by_cases hm0:0 < m
  ·have hv0:0 < v:=a1Q hv.len J;have hlr:=Hz (a:=u) hv0 hv.len;have iF:=Nat.mod_lt u hv0;have NG:Hid (Nat.gcd v (u % v)=G):=by show _=_;rw[←AZ.out,Nat.gcd_comm v,←Nat.gcd_rec,Nat.gcd_comm]
   have xC:=WP (xS A B n m c d u v wr hu hv J J hv0)
   go_wp2_with (go_at_call 146;refine xC.out.mono ?_;rintro e w3 ⟨A3,n3,c3,A4,n4,c4,rfl,hs3,hs4,hb3⟩;have oz:n4≤m:=(by rw[←hs4.len];exact hlr))
   go_roundg (u % v)
   case measure=>omega
   case rel=>exact⟨B,A4,m,d,n4,c4,v,u % v,rfl,rfl,hv.below hb3,hs4,hm,J,PP _,NG,hb.trans (hb3.mono hb.size)⟩
  ·have hv0:v=0:=(j6.mX (B:=10) J).1 (q9 (by rw[hv.len];omega));subst hv0;have HE:Hid (bC false u=Lib.itoa (G:Int)):=by show _=_;rw[←AZ.out,Nat.gcd_zero_right];rfl
   go_wp2_with fail
   refine (vC false A n c u _ _ hu J HE.out).mono ?_;rintro e w3 ⟨rfl,hb3⟩;go_wp2;go_ret;exact⟨rfl,hb.trans (hb3.mono hb.size)⟩
theorem a9G{x y:Int}{z:Bool}(hy:y≠0)(hz:(!(decide (x < 0) == decide (y < 0)))=z):(if z then -((x.natAbs / Nat.gcd x.natAbs y.natAbs:Nat):Int) else ((x.natAbs / Nat.gcd x.natAbs y.natAbs:Nat):Int))=aj x y:=by
 have hg:0 < Nat.gcd x.natAbs y.natAbs:=Nat.gcd_pos_of_pos_right _ J;have hd:=Nat.gcd_dvd_left x.natAbs y.natAbs;unfold aj;rw[EQ hy];generalize Nat.gcd x.natAbs y.natAbs=g at *;obtain⟨k,hk⟩:=hd;rw[hk,Nat.mul_div_cancel_left _ hg];have xE:((g * k:Nat):Int)=(g:Int) * k:=Int.natCast_mul _ _;by_cases h1:x < 0 <;> by_cases h2:y < 0
 ·have e:jg x y=k * g+0:=by unfold jg;rw[Ch h2,Zb8,←xE];omega
  rw[(pM J e J J).1];subst hz;simp[h1,h2]
 ·have e:jg x y=(-(k:Int)) * g+0:=by unfold jg;rw[EQ h2,Int.neg_mul,Zb8,←xE];omega
  rw[(pM J e J J).1];subst hz;simp[h1,h2]
 ·have e:jg x y=(-(k:Int)) * g+0:=by unfold jg;rw[Ch h2,Int.neg_mul,Zb8,←xE];omega
  rw[(pM J e J J).1];subst hz;simp[h1,h2]
 ·have e:jg x y=k * g+0:=by unfold jg;rw[EQ h2,Zb8,←xE];omega
  rw[(pM J e J J).1];subst hz;simp[h1,h2]
theorem a9H{x y:Int}(hy:y≠0):(if false=true then -((y.natAbs / Nat.gcd x.natAbs y.natAbs:Nat):Int) else ((y.natAbs / Nat.gcd x.natAbs y.natAbs:Nat):Int))=ak x y:=by
 have hg:0 < Nat.gcd x.natAbs y.natAbs:=Nat.gcd_pos_of_pos_right _ J;have hd:=Nat.gcd_dvd_right x.natAbs y.natAbs;unfold ak;rw[EQ hy];generalize Nat.gcd x.natAbs y.natAbs=g at *;obtain⟨k,hk⟩:=hd;rw[hk,Nat.mul_div_cancel_left _ hg];have xE:((g * k:Nat):Int)=(g:Int) * k:=Int.natCast_mul _ _;have e:ug y=k * g+0:=by unfold ug;split <;> rw[Zb8,←xE] <;> omega
 rw[(pM J e J J).1];simp
theorem Ht(a b:lw)(w:World)(ha:a.length≤1100000)(hb:b.length≤1100000) :
  Calls prog 117 #[.string ⟨a.toArray⟩,.string ⟨b.toArray⟩] w (eu (Lib.itoa (aj (j6.x9 a) (j6.x9 b))) (Lib.itoa (ak (j6.x9 a) (j6.x9 b))) w):=by
 have U2:Hid (∀w':World,Calls prog 144 #[.string ⟨a.toArray⟩] w' (dH (a.length+1) (j6.x9 a) w')):=fun w'=>dz a J w'
 have S9:Hid (∀w':World,Calls prog 144 #[.string ⟨b.toArray⟩] w' (dH (b.length+1) (j6.x9 b) w')):=fun w'=>dz b J w'
 have HG:Hid (∀w':World,Calls prog 145 #[.string ⟨a.toArray⟩,.string ⟨b.toArray⟩] w' (bD (Lib.itoa (Nat.gcd (j6.x9 a).natAbs (j6.x9 b).natAbs:Nat)) w')):=fun w'=>a2r a b w' J J
 have hgl:(Lib.itoa (Nat.gcd (j6.x9 a).natAbs (j6.x9 b).natAbs:Nat)).length≤1100002:=by
  obtain⟨K,hK⟩:∃K,K=1100001:=⟨_,rfl⟩;have:=Tq (K:=K) (x:=j6.x9 a) (y:=j6.x9 b) J (jC J) (jC J);omega
 generalize j6.x9 a=x at *;generalize j6.x9 b=y at *;by_cases hy:y=0
 ·subst hy;rw[show aj x 0=0 from rfl,show ak x 0=1 from rfl,j6.gW,vB]
  go_enter func117,ntmps117
  go_wp2_with fail
  refine (S9.out _).mono ?_;rintro e w2 ⟨A2,n2,c2,rfl,hs2,hn2,hb2⟩;obtain rfl:n2=0:=(yA (x:=0) hs2.len).2 rfl;go_wp2;go_ret2;exact⟨rfl,hb2⟩
 ·obtain⟨z,hz⟩:∃z,z=(!(decide (x < 0) == decide (y < 0))):=⟨_,rfl⟩;have HN:=WP (a9G (x:=x) hy hz.symm);have HD:=WP (a9H (x:=x) hy);have hg0:0 < Nat.gcd x.natAbs y.natAbs:=Nat.gcd_pos_of_pos_right _ J;generalize Nat.gcd x.natAbs y.natAbs=g at *;have HPg:Hid (∀w':World,Calls prog 144 #[.string ⟨(Lib.itoa (g:Int)).toArray⟩] w' (dH 1100100 (g:Int) w')):=fun w'=>by
   have:=dz (Lib.itoa (g:Int)) J w';rw[j6.M7]at this;exact this.mono (by
    rintro e w'' ⟨A,n,c,h1,h2,h3,h4⟩;exact⟨A,n,c,h1,h2,J,h4⟩)
  obtain⟨s,hsd⟩:∃s,s=decide (x < 0):=⟨_,rfl⟩;obtain⟨s',bn⟩:∃s',s'=decide (y < 0):=⟨_,rfl⟩;rw[←hsd,←bn]at hz;have hz':(!(s == s'))=z:=hz.symm;have dh:=WP hsd;have gm:=WP bn;clear hsd bn hz hgl
  go_enter func117,ntmps117
  go_wp2_with fail
  refine (S9.out _).mono ?_;rintro e w2 ⟨A2,n2,c2,rfl,hs2,hn2,hb2⟩;rw[←gm.out];have EM:((n2:Int) == 0)=false:=by rw[IR];intro e;exact hy ((yA hs2.len).1 J)
  clear hy
  go_wp2_with fail
  refine (U2.out _).mono ?_;rintro e w1 ⟨A1,n1,c1,rfl,hs1,hn1,hb1⟩;rw[←dh.out];have b1:=hb2.trans (hb1.mono hb2.size);have b4T:=hs2.below hb1
  go_wp2_with fail
  refine (HG.out _).mono ?_;rintro e w3 ⟨rfl,hb3⟩;have b3:=b1.trans (hb3.mono b1.size);have b4U:=hs1.below hb3;have EN:=b4T.below hb3
  go_wp2_with fail
  refine (HPg.out _).mono ?_;rintro e w4 ⟨A4,n4,c4,rfl,hs4,oz,hb4⟩;have b4:=b3.trans (hb4.mono b3.size);have Yy:=b4U.below hb4;have Yz:=EN.below hb4;rw[show decide ((g:Int) < 0)=false from WF J]
  rw[Int.natAbs_natCast]at hs4;have hlq:=Cs (b:=g) Yy.len;have hld:=Cs (b:=g) Yz.len
  go_wp2_with fail
  refine (xS A1 A4 n1 n4 c1 c4 _ _ w4 Yy hs4 J J hg0).mono ?_;rintro e w5 ⟨A5,n5,c5,A6,n6,c6,rfl,hs5,hs6,hb5⟩;have b5:=b4.trans (hb5.mono b4.size);have ZF:n5≤n1:=by rw[←hs5.len];exact hlq
  go_wp2_with fail
  refine (xS A2 A4 n2 n4 c2 c4 _ _ w5 (Yz.below hb5) (hs4.below hb5) J J hg0).mono ?_;rintro e w7 ⟨A7,n7,c7,A8,n8,c8,rfl,hs7,ZG,X9⟩;have b7:=b5.trans (X9.mono b5.size);have hn7:n7≤n2:=by rw[←hs7.len];exact hld
  go_wp2_with fail
  refine (kr z A5 n5 c5 _ _ _ (hs5.below X9) J HN.out).mono ?_;rintro e w9 ⟨rfl,Fy⟩;have b9:=b7.trans (Fy.mono b7.size)
  go_wp2_with fail
  refine (kr false A7 n7 c7 _ _ _ (hs7.below Fy) J HD.out).mono ?_;rintro e w10 ⟨rfl,b4V⟩;go_wp2;go_ret2;exact⟨rfl,b9.trans (b4V.mono b9.size)⟩
theorem Iq(l:lw):(j6.mag (norm l)).length=max 1 (j6.limbs 10 (j6.x9 l).natAbs).length:=by
 have hm:=yw l;have hd:=IX l;have hv:=IA l;generalize norm l=s at hm hd hv;by_cases h48:s=[48]
 ·subst h48;rw[←hv];decide +kernel
 ·obtain⟨h1,h2,h3,_⟩:=hm;obtain⟨_,hh⟩:=(j6.mZ h48).1 hd;have h4:=j6.OW h1 hh;rw[h3]at h4;rw[←h4];have:(j6.fP (j6.mag s)).length=(j6.mag s).length:=by simp[j6.fP]
  rw[this];have:0 < (j6.mag s).length:=List.length_pos_iff.2 h2;omega
theorem Hq(l:lw)(w:World)(hl:l.length≤2500000) :
  Calls prog 177 #[.string ⟨l.toArray⟩] w (lV ((j6.mag (norm l)).length:Nat) w):=by
 have HD:=WP (dz l hl w);have HL:=WP (Iq l);generalize (j6.mag (norm l)).length=K at *;generalize j6.x9 l=x at *;obtain⟨s,hsd⟩:∃s,s=decide (x < 0):=⟨_,rfl⟩;have dh:=WP hsd;clear hsd
 go_enter func177,ntmps177
 go_wp2_with fail
 refine HD.out.mono ?_;rintro e w1 ⟨A1,n1,c1,rfl,hs1,hn1,hb1⟩;rw[←dh.out];have HN:=WP hs1.len;go_wp2;go_ret;refine⟨?_,hb1⟩;rw[HL.out,HN.out,show ((max 1 n1:Nat):Int)=max 1 (n1:Int) by omega]
 rfl
theorem a1T(l:lw)(w:World)(hl:l.length≤2500000)(h9:9 < (j6.mag (norm l)).length) :
  Calls prog 204 #[.string ⟨l.toArray⟩] w (CX 0 false w):=by
 have HD:=WP (dz l hl w);rw[Iq l]at h9;generalize j6.x9 l=x at *;obtain⟨s,hsd⟩:∃s,s=decide (x < 0):=⟨_,rfl⟩;have dh:=WP hsd;clear hsd
 go_enter func204,ntmps204
 go_wp2_with fail
 refine HD.out.mono ?_;rintro e w1 ⟨A1,n1,c1,rfl,hs1,hn1,hb1⟩;rw[←dh.out];have ZX:9 < n1:=by rw[hs1.len]at h9;omega
 clear h9;go_wp2;go_ret2;exact⟨rfl,hb1⟩
theorem a1u(l:lw)(w:World)(hl:l.length≤2500000)(h9:(j6.mag (norm l)).length≤9) :
  Calls prog 204 #[.string ⟨l.toArray⟩] w (CX (j6.x9 l) true w):=by
 have HD:=WP (dz l hl w);rw[Iq l]at h9;generalize j6.x9 l=x at *;have hxb:x.natAbs < 10 ^ 9:=by
  have h1:=j6.jG (B:=10) J (j6.N7 J x.natAbs);rw[j6.H8 J]at h1;exact kw h1 (Zar J J)
 have hsm:=j6.N7 (B:=10) J x.natAbs;by_cases hs:x < 0
 ·go_enter func204,ntmps204
  go_wp2_with fail
  refine HD.out.mono ?_;rintro e w1 ⟨A1,n1,c1,rfl,hs1,hn1,hb1⟩;rw[Pi hs];have ZX:n1≤9:=by rw[hs1.len]at h9;omega
  have HL:=WP hs1.len;clear h9
  go_wp2_with fail
  go_loop [6,7] (fun nv ix=>∃j:Nat,j≤n1∧ix=.int .i64 ((j:Int) - 1)∧nv=.int .i64 (j6.y8 10 ((j6.limbs 10 x.natAbs).drop j):Nat)) (fun _ ix=>(intOf ix+1).toNat)
  case atStart=>exact⟨n1,PP _,rfl,by rw[Zah (by rw[HL.out];exact PP _)];rfl⟩
  case round =>
   obtain⟨j,hj,rfl,rfl⟩:=hrel;have hvb:j6.y8 10 ((j6.limbs 10 x.natAbs).drop j) < 10 ^ 9:=by
    have h1:=j6.jG (B:=10) J (hsm.drop j);exact kw h1 (Zar J (by rw[ut,HL.out];omega))
   by_cases hj0:0 < j
   ·obtain⟨bx,ox,rfl,hbx,hcx⟩:=hs1.cells J;have aC:=hcx (j - 1) J;clear hcx;have hu:=getD_lt hsm J (j - 1);have HV:Hid (j6.y8 10 ((j6.limbs 10 x.natAbs).drop (j - 1))=(j6.limbs 10 x.natAbs).getD (j - 1) 0+10 * j6.y8 10 ((j6.limbs 10 x.natAbs).drop j)):=by
     have:=j6.pK 10 (j6.limbs 10 x.natAbs) (j - 1) (by rw[HL.out];omega);rw[show j - 1+1=j by omega]at this
     exact this
    generalize (j6.limbs 10 x.natAbs).getD (j - 1) 0=u at aC hu HV;generalize j6.y8 10 ((j6.limbs 10 x.natAbs).drop j)=V at hvb HV;have hi1:(0:Int)≤(j:Int) - 1:=J;have hi2:(j:Int) - 1 < n1:=J;have hi3:((j:Int) - 1).toNat=j - 1:=J;go_wp2
    go_round
    case rel=>exact⟨j - 1,J,by go_num,by rw[HV.out];go_num⟩
    case measure=>simp only[intOf];omega
   ·obtain rfl:j=0:=J;have HV:Hid (j6.y8 10 ((j6.limbs 10 x.natAbs).drop 0)=x.natAbs):=by rw[ZaZ];exact j6.H8 J _
    generalize j6.y8 10 ((j6.limbs 10 x.natAbs).drop 0)=V at hvb HV;go_wp2;go_ret2;refine⟨?_,hb1⟩;have e:-(V:Int)=x:=by have:=HV.out;omega
    rw[←e];rfl
 ·go_enter func204,ntmps204
  go_wp2_with fail
  refine HD.out.mono ?_;rintro e w1 ⟨A1,n1,c1,rfl,hs1,hn1,hb1⟩;rw[WF J];have ZX:n1≤9:=by rw[hs1.len]at h9;omega
  have HL:=WP hs1.len;clear h9
  go_wp2_with fail
  go_loop [6,7] (fun nv ix=>∃j:Nat,j≤n1∧ix=.int .i64 ((j:Int) - 1)∧nv=.int .i64 (j6.y8 10 ((j6.limbs 10 x.natAbs).drop j):Nat)) (fun _ ix=>(intOf ix+1).toNat)
  case atStart=>exact⟨n1,PP _,rfl,by rw[Zah (by rw[HL.out];exact PP _)];rfl⟩
  case round =>
   obtain⟨j,hj,rfl,rfl⟩:=hrel;have hvb:j6.y8 10 ((j6.limbs 10 x.natAbs).drop j) < 10 ^ 9:=by
    have h1:=j6.jG (B:=10) J (hsm.drop j);exact kw h1 (Zar J (by rw[ut,HL.out];omega))
   by_cases hj0:0 < j
   ·obtain⟨bx,ox,rfl,hbx,hcx⟩:=hs1.cells J;have aC:=hcx (j - 1) J;clear hcx;have hu:=getD_lt hsm J (j - 1);have HV:Hid (j6.y8 10 ((j6.limbs 10 x.natAbs).drop (j - 1))=(j6.limbs 10 x.natAbs).getD (j - 1) 0+10 * j6.y8 10 ((j6.limbs 10 x.natAbs).drop j)):=by
     have:=j6.pK 10 (j6.limbs 10 x.natAbs) (j - 1) (by rw[HL.out];omega);rw[show j - 1+1=j by omega]at this
     exact this
    generalize (j6.limbs 10 x.natAbs).getD (j - 1) 0=u at aC hu HV;generalize j6.y8 10 ((j6.limbs 10 x.natAbs).drop j)=V at hvb HV;have hi1:(0:Int)≤(j:Int) - 1:=J;have hi2:(j:Int) - 1 < n1:=J;have hi3:((j:Int) - 1).toNat=j - 1:=J;go_wp2
    go_round
    case rel=>exact⟨j - 1,J,by go_num,by rw[HV.out];go_num⟩
    case measure=>simp only[intOf];omega
   ·obtain rfl:j=0:=J;have HV:Hid (j6.y8 10 ((j6.limbs 10 x.natAbs).drop 0)=x.natAbs):=by rw[ZaZ];exact j6.H8 J _
    generalize j6.y8 10 ((j6.limbs 10 x.natAbs).drop 0)=V at hvb HV;go_wp2;go_ret2;refine⟨?_,hb1⟩;have e:(V:Int)=x:=by have:=HV.out;omega
    rw[←e];rfl
theorem Cx(n:Int):Rat.divInt n 1=(n:Rat):=by
 have:=Rat.num_divInt_den (n:Rat)
 rwa [Rat.num_intCast,Rat.den_intCast]at this
theorem QA(l:lw)(w:World):Calls prog 34 #[str l] w (J7 (.agg #[str o9,str l]) w):=by
 go_enter func34,ntmps34
 go_wp2;exact bodyPost_ret (v:=.agg #[str o9,str l]) (by simp[results,Tryz.results34,go_sem]) rfl ⟨rfl,box _ _⟩
theorem OV(n:Int)(w:World)(ht:R9 w)(h0:-9223372036854775808≤n)(h1:n≤9223372036854775807) :
  Calls prog 78 #[.int .i64 n] w (bD (Lib.itoa n) w):=by
 have HI:=WP (vz n w ht h0 h1);clear h0 h1
 go_enter func78,ntmps78
 go_wp2_with fail
 refine HI.out.mono ?_;rintro e w1 ⟨rfl,hb⟩;go_wp2;go_ret;exact⟨rfl,hb⟩
theorem Jd(w:World):Calls prog 40 #[] w (Y9 K8 w):=by
 go_enter func40,ntmps40
 go_wp2_with fail
 refine (QA R8 _).mono ?_;rintro e w1 ⟨rfl,hb⟩
 go_wp2_with fail
 refine (Ig _ o9 R8).mono ?_;rintro e w2 ⟨rfl,hb2⟩;have HB:=WP ((D5.via hb).below hb2);obtain⟨u0,u1,u2,u3,u4,u5,u6,ul⟩:=HB.out.seven;obtain⟨ZY,ZZ,uf2,uf3,uf4,uf5,uf6⟩:=HB.out.dx;go_wp2;exact fQ Tryz.results40 rfl HB.out.eH rfl ⟨rfl,eO (L6 (via hb) hb2) (PP _) _ _ _ _ _ _ _⟩
theorem a9I(w:World):Calls prog 52 #[] w (Y9 tO w):=by
 go_enter func52,ntmps52
 go_wp2_with fail
 refine (QA [116] _).mono ?_;rintro e w1 ⟨rfl,hb⟩
 go_wp2_with fail
 refine (Ig _ o9 [116]).mono ?_;rintro e w2 ⟨rfl,hb2⟩;have HB:=WP ((D5.via hb).below hb2);obtain⟨u0,u1,u2,u3,u4,u5,u6,ul⟩:=HB.out.seven;obtain⟨ZY,ZZ,uf2,uf3,uf4,uf5,uf6⟩:=HB.out.dx;go_wp2;exact fQ Tryz.results52 rfl HB.out.eH rfl ⟨rfl,eO (L6 (via hb) hb2) (PP _) _ _ _ _ _ _ _⟩
theorem a1g(a b:lw)(w:World)(ha:a.length≤1100000)(hb:b.length≤1100000):Calls prog 77 #[str a,str b] w (Y9 (Z4 (Lib.itoa (aj (j6.x9 a) (j6.x9 b))) (Lib.itoa (ak (j6.x9 a) (j6.x9 b)))) w):=by
 have HF:=WP (fun w' (_:Below w.heap.size w w')=>Ht a b w' ha hb);clear ha hb;generalize Lib.itoa (aj (j6.x9 a) (j6.x9 b))=n at *;generalize Lib.itoa (ak (j6.x9 a) (j6.x9 b))=d at *
 go_enter func77,ntmps77
 go_wp2_with fail
 refine (HF.out _ (box _ _)).mono ?_;rintro e w1 ⟨rfl,hb⟩;have HB:=WP (D5.via hb);obtain⟨u0,u1,u2,u3,u4,u5,u6,hu⟩:=HB.out.seven;obtain⟨f0,f1,f2,f3,f4,f5,f6⟩:=HB.out.dx;go_wp2;exact fQ Tryz.results77 rfl HB.out.eH rfl ⟨rfl,eO (via hb) (PP _) _ _ _ _ _ _ _⟩
theorem PV(a b:lw)(w:World)(ha:a.length≤1100000)(hb:b.length≤1100000):Calls prog 77 #[str a,str b] w (Y9 (U4 (Rat.divInt (j6.x9 a) (j6.x9 b))) w):=by
 have:=a1g a b w ha hb
 rwa [(vW _ _).1,(vW _ _).2]at this
theorem QB(ok:Nat→Prop)(a d:Ob)(A A':Option Addr)(n n' c c':Nat)(w:World)(ha:Rd ok w (.slice A n c) (.row (a.pair.map Ob.enc)))(hd:Rd ok w (.slice A' n' c') (.row (d.pair.map Ob.enc))) :
  Calls prog 81 #[G6 a (.slice A n c),G6 d (.slice A' n' c')] w (kH ok (dW a d) w):=by
 go_enter func81,ntmps81
 go_wp2;exact fQ Tryz.results81 rfl ((D5.Yr w _ _ _ _).alloc _) rfl (Rn ok a d A A' n n' c c' w ha hd)
theorem a1U(o:Ob)(A:Option Addr)(n c:Nat)(w:World)(hn:n≤9223372036854775807) :
  Calls prog 112 #[G6 o (.slice A n c)] w (J7 (.bool (decide (o.kind=4∧n=2))) w):=by
 by_cases hk:o.kind=4
 ·by_cases h2:n=2
  ·rw[Pi ⟨hk,h2⟩];obtain⟨k,nm,d,p,s,t,l⟩:=o;dsimp only at hk;subst hk h2
   go_enter func112,ntmps112
   go_wp2;go_ret;exact⟨rfl,box _ _⟩
  ·rw[WF (fun h=>h2 h.2)];obtain⟨k,nm,d,p,s,t,l⟩:=o;dsimp only at hk;subst hk;have hn2:((n:Int) == 2)=false:=by rw[IR];omega
   clear h2
   go_enter func112,ntmps112
   go_wp2;go_ret;exact⟨rfl,box _ _⟩
 ·rw[WF (fun h=>hk h.1)];obtain⟨k,nm,d,p,s,t,l⟩:=o;dsimp only at hk;have hn2:(k == 4)=false:=by rw[IR];exact hk
  clear hk
  go_enter func112,ntmps112
  go_wp2;go_ret;exact⟨rfl,box _ _⟩
theorem Rs(n:Int)(w:World)(ht:R9 w)(h0:-9223372036854775808≤n)(h1:n≤9223372036854775807):Calls prog 55 #[.int .i64 n] w (Y9 (U4 (n:Rat)) w):=by
 have HF:=WP (fun w' (hb:Below w.heap.size w w')=>OV n w' (ht.below hb) h0 h1);have hl:(Lib.itoa n).length≤20:=iP n (k:=19) J J;have HR:Hid (∀w':World,Calls prog 77 #[str (Lib.itoa n),str [49]] w' (Y9 (U4 (n:Rat)) w')):=fun w'=>by
  have:=PV (Lib.itoa n) [49] w' J O
  rwa [j6.M7,show j6.x9 [49]=1 by decide +kernel,Cx]at this
 unfold U4 at HR ⊢;clear h0 h1 hl;generalize Lib.itoa (n:Rat).num=l1 at *;generalize Lib.itoa ((n:Rat).den:Int)=l2 at *;generalize Lib.itoa n=ln at *
 go_enter func55,ntmps55
 go_wp2_with fail
 refine (HF.out _ (box _ _)).mono ?_;rintro e w1 ⟨rfl,hb⟩
 go_wp2_with fail
 refine (HR.out _).mono ?_;rintro e w2 ⟨rfl,hb2⟩;have HB:=WP ((D5.via hb).below hb2);obtain⟨u0,u1,u2,u3,u4,u5,u6,ul⟩:=HB.out.seven;obtain⟨ZY,ZZ,uf2,uf3,uf4,uf5,uf6⟩:=HB.out.dx;go_wp2;exact fQ Tryz.results55 rfl HB.out.eH rfl ⟨rfl,eO (L6 (via hb) hb2) (PP _) _ _ _ _ _ _ _⟩
theorem a3a(ok:Nat→Prop)(l:List Ob)(A:Option Addr)(n c:Nat)(w:World)(h:Rd ok w (.slice A n c) (.row (l.map Ob.enc)))(hn:n≤1000000) :
  Calls prog 83 #[.slice A n c] w (kH ok (sO l) w):=by
 have HL:=WP h.len
 go_enter func83,ntmps83
 go_wp2_with fail
 refine (Jd _).mono ?_;rintro e w1 ⟨rfl,hb1⟩;have R1:=WP (D5.via hb1);have b1:Below w.heap.size w w1:=via hb1;have hsz:=R1.out.lt;clear hb1;go_wp2
 go_loopw [4] (fun ix wr=>∃(j:Nat) (o:Ob) (Ao:Option Addr) (no co:Nat),j≤n∧ix=.int .i64 ((j:Int) - 1)∧Hid (o=sO (l.drop j))∧Hid (D5 wr w.heap.size 45 zeroCells)∧Hid (D5 wr w1.heap.size 45 (U7 o (.slice Ao no co)))∧Rd (fun b=>(ok b∧b < w.heap.size)∨w1.heap.size < b) wr (.slice Ao no co) (.row (o.pair.map Ob.enc))∧Below w.heap.size w wr) (fun ix _=>(intOf ix+1).toNat)
 case atStart=>exact⟨n,K8,none,0,0,PP _,rfl,WP (by rw[Zah (by have:=HL.out;rw[Cc]at this;omega)];rfl),WP (R1.out.alloc _),WP (D5.new w1 _ _),.nil _ _,bH b1 _⟩
 case round =>
  obtain⟨j,o,Ao,no,co,hj,rfl,HO,R,X,hr,hb⟩:=hrel;clear b1 R1;have hgs:=X.out.lt;obtain⟨x0,x1,x2,x3,x4,x5,x6,xl⟩:=X.out.seven;obtain⟨gH,gI,gJ,gK,gL,gM,gN⟩:=X.out.dx;rcases Zaa j with h0 | h0
  ·subst h0;obtain⟨r0,r1,r2,r3,r4,r5,r6,rl⟩:=R.out.seven;obtain⟨NY,rf1,rf2,rf3,rf4,rf5,rf6⟩:=R.out.dx;go_wp2;have e:o=sO l:=by rw[HO.out];rfl
   refine fQ Tryz.results83 rfl R.out.eH rfl ⟨Ao,no,co,by rw[←e],?_,eO hb (PP _) _ _ _ _ _ _ _⟩;rw[←e];refine Rd.mono (hr.sZ (g:=w.heap.size) (fun b hb'=>J) _ _ _ _ _ _ _) (fun b hb' _=>?_);rcases hb' with h1 | h1
   ·exact .inl h1.1
   ·exact .inr J
  ·obtain⟨b,q,hil,A3,n3,c3,rfl,hbl,hok,a0,a1,a2,a3,a4,a5,a6,ha⟩:=h.eG hb (i:=j - 1) J;have Ad:=kw hbl hb.size;have HS:=WP (drop_cons hil);have hi1:(0:Int)≤(j:Int) - 1:=J;have hi2:(j:Int) - 1 < n:=J;have hi3:((j:Int) - 1).toNat=j - 1:=J;have ha':Rd (fun b=>(ok b∧b < w.heap.size)∨w1.heap.size < b) wr.drew (.slice A3 n3 c3) (.row ((l[j - 1]).pair.map Ob.enc)):=(((ha.mono fun b h1 h2=>⟨h1,h2⟩:Rd (fun b=>ok b∧b < w.heap.size) w _ _).under hb).mono fun b h1 _=>.inl h1).drew;have HC:=WP (QB (fun b=>(ok b∧b < w.heap.size)∨w1.heap.size < b) l[j - 1] o A3 Ao n3 no c3 co wr.drew ha' hr.drew);have hbd:=hb.drew
   go_upto_region 5 with (fail)
   go_still_tail 5,(by kernel_rfl)
   go_wp2_with fail
   refine HC.out.mono ?_;rintro e v ⟨A5,n5,c5,rfl,hr5,hb5⟩;have X5:=WP (X.out.drew.below hb5);have R5:=WP (R.out.drew.below hb5);have hv:=hb5.size;have b4W:=L6 hbd hb5;clear x0 gH x1 gI x2 gJ x3 gK x4 gL x5 gM x6 gN a0 a1 a2 a3 a4 a5 a6;obtain⟨y0,y1,y2,y3,y4,y5,y6,yl⟩:=X5.out.seven;obtain⟨yf0,yf1,yf2,yf3,yf4,yf5,yf6⟩:=X5.out.dx;go_wp2
   go_roundw
   case rel =>
    refine⟨j - 1,dW l[j - 1] o,A5,n5,c5,J,by go_num,WP ?_,WP (R5.out.sZ J _ _ _ _ _ _ _),WP X5.out.eH,?_,eO b4W J _ _ _ _ _ _ _⟩
    ·have:=HS.out;rw[Nat.sub_add_cancel h0,←HO.out]at this;exact this.symm
    ·refine (hr5.mono (fun b h1 _=>?_)).sZ (fun b h1=>J) _ _ _ _ _ _ _;rcases h1 with h1 | h1
     ·exact h1
     ·right;have:wr.drew.heap.size=wr.heap.size:=rfl;omega
   case measure=>simp only[intOf];omega
theorem all_eq{l m:List Ob}{n:Nat}(hl:l.length=n)(hm:m.length=n)(h:∀j (h1:j < l.length) (h2:j < m.length),j < n→l[j]=m[j]):l=m:=by
 apply List.ext_getElem J;intro i h1 h2;exact h i h1 h2 J
theorem Ir(ok ok':Nat→Prop):∀(N:Nat) (a b:Ob),a.size≤N→a.Wf→∀(A A':Option Addr) (n n' c c':Nat) (w:World),Rd ok w (.slice A n c) (.row (a.pair.map Ob.enc))→Rd ok' w (.slice A' n' c') (.row (b.pair.map Ob.enc)) →
  Calls prog 49 #[G6 a (.slice A n c),G6 b (.slice A' n' c')] w (ik (a=b) w):=by
 intro N
 induction N with
 |zero=>intro a b h;have:=Ob.size_pos a;omega
 |succ N ih =>
  intro a b hN hW A A' n n' c c' w hx hy;obtain⟨P,HP⟩:∃P:Prop,Hid (P↔a=b):=⟨_,WP Iff.rfl⟩;rw[show (a=b)=P from propext HP.out.symm]
  obtain⟨xk,xn,xd,xp,xs,xt,xl⟩:=a;obtain⟨yk,yn,yd,yp,ys,yt,yl⟩:=b;have hxl:=hx.len;have hyl:=hy.len;rw[Cc]at hxl hyl;have hw1:=hW.len;dsimp only at hxl hyl hw1;by_cases hk:xk=yk
  case neg =>
   have hz:(xk != yk)=true:=by rw[bne_iff_ne];exact hk
   have HF:Hid (¬P):=fun e=>hk (by have e1:=HP.out.1 e;injection e1)
   clear hk hxl hyl
   go_enter func49,ntmps49
   go_wp2;go_ret;exact⟨false,rfl,fw HF.out,bH (box _ _) _⟩
  subst hk;by_cases hn:xn=yn
  case neg =>
   have hz:(xn == yn)=false:=by rw[IR];exact hn
   have HF:Hid (¬P):=fun e=>hn (by have e1:=HP.out.1 e;injection e1)
   clear hn hxl hyl
   go_enter func49,ntmps49
   go_wp2;go_ret;exact⟨false,rfl,fw HF.out,bH (box _ _) _⟩
  subst hn;by_cases hd:xd=yd
  case neg =>
   have hz:(xd == yd)=false:=by rw[IR];exact hd
   have HF:Hid (¬P):=fun e=>hd (by have e1:=HP.out.1 e;injection e1)
   clear hd hxl hyl
   go_enter func49,ntmps49
   go_wp2;go_ret;exact⟨false,rfl,fw HF.out,bH (box _ _) _⟩
  subst hd;by_cases hp:xp=yp
  case neg =>
   have hz:(xp == yp)=false:=by rw[IR];exact hp
   have HF:Hid (¬P):=fun e=>hp (by have e1:=HP.out.1 e;injection e1)
   clear hp hxl hyl
   go_enter func49,ntmps49
   go_wp2;go_ret;exact⟨false,rfl,fw HF.out,bH (box _ _) _⟩
  subst hp;by_cases hs:xs=ys
  case neg =>
   have hz:(xs == ys)=false:=by rw[IR];exact hs
   have HF:Hid (¬P):=fun e=>hs (by have e1:=HP.out.1 e;injection e1)
   clear hs hxl hyl
   go_enter func49,ntmps49
   go_wp2;go_ret;exact⟨false,rfl,fw HF.out,bH (box _ _) _⟩
  subst hs;by_cases ht:xt=yt
  case neg =>
   have hz:(xt == yt)=false:=by rw[IR];exact ht
   have HF:Hid (¬P):=fun e=>ht (by have e1:=HP.out.1 e;injection e1)
   clear ht hxl hyl
   go_enter func49,ntmps49
   go_wp2;go_ret;exact⟨false,rfl,fw HF.out,bH (box _ _) _⟩
  subst ht;by_cases hl:n=n'
  case neg =>
   have hz:((n:Int) != (n':Int))=true:=by rw[bne_iff_ne];omega
   have HF:Hid (¬P):=fun e=>hl (by have e1:=HP.out.1 e;injection e1 with _ _ _ _ _ _ e2;rw[←hxl,←hyl,e2])
   clear hl hxl hyl
   go_enter func49,ntmps49
   go_wp2;go_ret;exact⟨false,rfl,fw HF.out,bH (box _ _) _⟩
  subst hl;have FK:=WP hxl;have FL:=WP hyl;rw[hxl]at hw1;clear hxl hyl
  go_enter func49,ntmps49
  go_wp2
  go_loopw [5] (fun ix wq=>∃i:Nat,i≤n∧ix=.int .i64 i∧Hid (∀j (h1:j < xl.length) (h2:j < yl.length),j < i→xl[j]=yl[j])∧Hid (D5 wq w.heap.size 45 (U7 ⟨xk,xn,xd,xp,xs,xt,xl⟩ (.slice A n c)))∧Hid (D5 wq (w.heap.size+1) 45 (U7 ⟨xk,xn,xd,xp,xs,xt,yl⟩ (.slice A' n c')))∧Below w.heap.size w wq) (fun ix _=>n - (intOf ix).toNat)
  case atStart=>exact⟨0,Ci _,rfl,WP (fun j _ _ h=>absurd h J),WP ((D5.new w _ _).alloc _),WP (D5.nT w _ _ _),bH (box _ _) _⟩
  case round =>
   obtain⟨i,hi,rfl,HJ,HX,HY,hb⟩:=hrel;obtain⟨u0,u1,u2,u3,u4,u5,u6,hu⟩:=HX.out.seven;obtain⟨v0,v1,v2,v3,v4,v5,v6,hv⟩:=HY.out.seven;by_cases hin:i < n
   ·obtain⟨p1,q1,hil,A4,n4,c4,rfl,hp1,_,a0,a1,a2,a3,a4,a5,a6,ha⟩:=hx.eG hb (i:=i) hin;obtain⟨p2,q2,Yt,A5,n5,c5,rfl,hp2,_,b0,b1,b2,b3,b4,b5,b6,hb'⟩:=hy.eG hb (i:=i) hin;have hp1':=kw hp1 hb.size;have Yu:=kw hp2 hb.size;have hsz:=Ob.jD (o:=⟨xk,xn,xd,xp,xs,xt,xl⟩) (x:=xl[i]) (Zaj hil);have hwf:=hW.kids (x:=xl[i]) (Zaj hil);have HC:Hid (∀wd:World,Below w.heap.size w wd→Calls prog 49 #[G6 xl[i] (.slice A4 n4 c4),G6 yl[i] (.slice A5 n5 c5)] wd (ik (xl[i]=yl[i]) wd)):=fun wd hd=>ih xl[i] yl[i] J hwf A4 A5 n4 n5 c4 c5 wd (ha.under hd) (hb'.under hd)
    have hi1:(0:Int)≤(i:Int):=J;have hi2:(i:Int) < n:=J;have hbd:=hb.drew
    go_upto_region 6 with (fail)
    go_still_tail 10,(by kernel_rfl)
    go_wp2_with fail
    refine (HC.out _ hbd).mono ?_;rintro e w1 ⟨bb,rfl,hbb,hb1⟩;have fZ:=L6 hbd hb1;cases bb with
    |false =>
     have HF:Hid (¬P):=fun e=>by
      have e1:=HP.out.1 e;injection e1 with _ _ _ _ _ _ e2
      have:=hbb.2 (by subst e2;rfl);cases this
     clear hbb;go_wp2;go_ret;exact⟨false,rfl,fw HF.out,fZ⟩
    |true =>
     have HE:=WP (hbb.1 rfl);clear hbb;go_wp2
     go_roundw
     case rel=>exact⟨i+1,J,by go_num,WP (fun j h1 h2 h=>by
      rcases Za5 j i with h3 | h3
      ·exact HJ.out j h1 h2 h3
      ·obtain rfl:j=i:=J;exact HE.out),WP (HX.out.drew.below hb1),WP (HY.out.drew.below hb1),fZ⟩
     case measure=>simp only[intOf];omega
   ·obtain rfl:i=n:=J;have HT:Hid P:=HP.out.2 (by
     rw[all_eq FK.out FL.out HJ.out])
    go_wp2;go_ret;exact⟨true,rfl,Tu HT.out,hb⟩
theorem PW(ok:Nat→Prop)(o:Ob)(hw:o.Wf)(A:Option Addr)(n c:Nat)(w:World)(h:Rd ok w (.slice A n c) (.row (o.pair.map Ob.enc))):Calls prog 21 #[G6 o (.slice A n c)] w (ik (o=K8) w):=by
 have HE:Hid (∀w':World,Below w.heap.size w w'→Calls prog 49 #[G6 o (.slice A n c),G6 K8 (.slice none 0 0)] w' (ik (o=K8) w')):=fun w' hb=>Ir ok (fun _=>True) o.size o K8 (PP _) hw A none n 0 c 0 w' (h.under hb) (.nil _ _)
 generalize (o=K8)=P at *
 go_enter func21,ntmps21
 go_upto_region 1 with (fail)
 have kZ:=WP (D5.new w 45 (U7 o (.slice A n c)));have b0:=(box w (.cells (U7 o (.slice A n c)) 45)).drew;generalize w.alloc (.cells (U7 o (.slice A n c)) 45)=W at *;have X0:=WP kZ.out.drew;obtain⟨NM,xD,NN,NP,NQ,NR,NT,NU⟩:=kZ.out.seven
 go_region_held3 (fun w'=>w'.cell? ⟨w.heap.size,0,none⟩=some (.int .i64 o.kind)∧w'.cell? ⟨w.heap.size,1,none⟩=some (str o.num)∧w'.cell? ⟨w.heap.size,2,none⟩=some (str o.den)∧w'.cell? ⟨w.heap.size,3,none⟩=some (str o.sp)∧w'.cell? ⟨w.heap.size,4,none⟩=some (str o.sn)∧w'.cell? ⟨w.heap.size,5,none⟩=some (str o.text)∧w'.cell? ⟨w.heap.size,6,none⟩=some (.slice A n c)) (go_keep)
  (first | (go_at_call 40;((with_reducible refine (Jd _).mono ?_));rintro e v1 ⟨rfl,hb1⟩;have b1:=L6 b0 hb1;have X1:=WP (X0.out.below hb1);obtain⟨Li,Lj,Ll,Lm,Lr,Ls,Lt,Lu⟩:=X1.out.seven) | (go_at_call 49;((with_reducible refine (HE.out _ b1).mono ?_));rintro e v2 ⟨bb,rfl,hbb,hb2⟩;have b2:=L6 b1 hb2;have X2:=WP (X1.out.below hb2);obtain⟨El,Em,Eo,Ep,Er,Es,Et,Lv⟩:=X2.out.seven))
 go_wp2;go_ret;exact⟨bb,rfl,hbb,b2⟩
theorem Je(o:Ob)(q:Rat)(hv:Val o q)(A:Option Addr)(n c:Nat)(hn:o.pair.length=n)(w:World)(ht:R9 w):Calls prog 154 #[G6 o (.slice A n c)] w (qc q w):=by
 rcases hv with⟨hk,rfl⟩ | ⟨hk,rfl⟩
 ·obtain rfl:n=0:=by rw[←hn];rfl
  clear hk hn;generalize Lib.itoa q.num=ln at *;generalize Lib.itoa (q.den:Int)=ld at *
  go_enter func154,ntmps154
  go_wp2;exact fQ Tryz.results154 rfl (D5.nT w _ _ _) rfl ⟨A,c,rfl,bH (box _ _) _⟩
 ·obtain⟨k,nm,d,p,s,t,l⟩:=o;dsimp only at hk;have hz:(k == 1)=false:=by rw[IR];exact hk
  clear hk hn;have HI:Hid (∀w':World,Below w.heap.size w w'→Calls prog 55 #[.int .i64 0] w' (Y9 (Z4 (Lib.itoa (0:Rat).num) (Lib.itoa ((0:Rat).den:Int))) w')):=fun w' hb=>by
   exact Rs 0 w' (ht.below hb) J J
  unfold qc;generalize Lib.itoa (0:Rat).num=ln at *;generalize Lib.itoa ((0:Rat).den:Int)=ld at *
  go_enter func154,ntmps154
  go_wp2_with fail
  refine (HI.out _ (bH (box _ _) _)).mono ?_;rintro e w1 ⟨rfl,hb⟩;have HB:=WP ((D5.nT w _ _ _).below hb);obtain⟨u0,u1,u2,u3,u4,u5,u6,hu⟩:=HB.out.seven;obtain⟨f0,f1,f2,f3,f4,f5,f6⟩:=HB.out.dx;go_wp2;exact fQ Tryz.results154 rfl HB.out.eH rfl ⟨none,0,rfl,eO (via (via hb)) (Nat.le_succ _) _ _ _ _ _ _ _⟩
def rkI(k:Int):Int:=if k=1 then 0 else if k=3 then 1 else if k=2 then 2 else 3
theorem Xj{k m:Nat}{l r:lw}{X Y:Int}(h:Num k l X)(h':Num m r Y)(hk:k≤100000)(hm:m≤100000)(w:World) :
  Calls prog 206 #[str l,str r] w (bD (Lib.itoa (X * Y)) w):=by
 have:=PU l r w (by have:=h.len;omega) (by have:=h'.len;omega)
 rwa [h.val,h'.val]at this
theorem a3b{k m:Nat}{l r:lw}{X Y V:Int}(h:Num k l X)(h':Num m r Y)(hk:k≤100000)(hm:m≤100000)(hv:fF X Y=V)(w:World) :
  Calls prog 241 #[str l,str r] w (lV V w):=by
 have:=a04 l r w (by have:=h.len;omega) (by have:=h'.len;omega)
 rwa [h.val,h'.val,hv]at this
theorem QC(o:Ob)(A:Option Addr)(n c:Nat)(w:World):Calls prog 240 #[G6 o (.slice A n c)] w (J7 (.int .i64 (rkI o.kind+1)) w):=by
 obtain⟨k,nm,d,p,t,x,l⟩:=o;unfold rkI;dsimp only;by_cases h1:k=1
 ·subst h1
  go_enter func240,ntmps240
  go_wp2;go_ret;exact⟨rfl,box _ _⟩
 have e1:(k == 1)=false:=by rw[IR];exact h1
 rw[EQ h1];by_cases h3:k=3
 ·subst h3
  go_enter func240,ntmps240
  go_wp2;go_ret;exact⟨rfl,box _ _⟩
 have e3:(k == 3)=false:=by rw[IR];exact h3
 rw[EQ h3];by_cases h2:k=2
 ·subst h2
  go_enter func240,ntmps240
  go_wp2;go_ret;exact⟨rfl,box _ _⟩
 have e2:(k == 2)=false:=by rw[IR];exact h2
 rw[EQ h2];clear h1 h2 h3
 go_enter func240,ntmps240
 go_wp2;go_ret;exact⟨rfl,box _ _⟩
theorem a1v(p q:Rat){k m:Nat}(bp:Rb k p)(bq:Rb m q)(hk:k≤10000)(hm:m≤10000)(A A':Option Addr)(n n' c c':Nat)(w:World) :
  Calls prog 207 #[G6 (U4 p) (.slice A n c),G6 (U4 q) (.slice A' n' c')] w (J7 (.int .i64 (dL p q)) w):=by
 have n1:Num (k+1) (Lib.itoa p.num) p.num:=⟨j6.M7 _,bp.nV⟩;have d1:Num (k+1) (Lib.itoa (p.den:Int)) p.den:=⟨j6.M7 _,bp.qy⟩;have n2:Num (m+1) (Lib.itoa q.num) q.num:=⟨j6.M7 _,bq.nV⟩;have d2:Num (m+1) (Lib.itoa (q.den:Int)) q.den:=⟨j6.M7 _,bq.qy⟩;have NK:Hid (∀w':World,Calls prog 206 #[str (Lib.itoa p.num),str (Lib.itoa (q.den:Int))] w' (bD (Lib.itoa (p.num * q.den)) w')):=fun w'=>Xj n1 d2 J J w'
 have NL:Hid (∀w':World,Calls prog 206 #[str (Lib.itoa q.num),str (Lib.itoa (p.den:Int))] w' (bD (Lib.itoa (q.num * p.den)) w')):=fun w'=>Xj n2 d1 J J w'
 have HC:Hid (∀w':World,Calls prog 241 #[str (Lib.itoa (p.num * q.den)),str (Lib.itoa (q.num * p.den))] w' (lV (dL p q) w')):=fun w'=>a3b (n1.mul d2) (n2.mul d1) J J (Ip p q) w'
 clear n1 n2 d1 d2;unfold U4;generalize dL p q=z at *;generalize Lib.itoa (p.num * q.den)=l1 at *;generalize Lib.itoa (q.num * p.den)=l2 at *;generalize Lib.itoa p.num=ln at *;generalize Lib.itoa q.num=rn at *;generalize Lib.itoa (p.den:Int)=ld at *;generalize Lib.itoa (q.den:Int)=rd at *;have HR1:Hid (∀w':World,Calls prog 240 #[G6 (Z4 ln ld) (.slice A n c)] w' (J7 (.int .i64 1) w')):=fun w'=>QC (Z4 ln ld) A n c w'
 have HR2:Hid (∀w':World,Calls prog 240 #[G6 (Z4 rn rd) (.slice A' n' c')] w' (J7 (.int .i64 1) w')):=fun w'=>QC (Z4 rn rd) A' n' c' w'
 go_enter func207,ntmps207
 go_upto_region 1 with (fail)
 have kZ:=WP ((D5.new w 45 (U7 (Z4 ln ld) (.slice A n c))).alloc (.cells (U7 (Z4 rn rd) (.slice A' n' c')) 45));have qG:=WP (D5.nT w (.cells (U7 (Z4 ln ld) (.slice A n c)) 45) 45 (U7 (Z4 rn rd) (.slice A' n' c')));have b0:=(bH (box w (.cells (U7 (Z4 ln ld) (.slice A n c)) 45)) (.cells (U7 (Z4 rn rd) (.slice A' n' c')) 45)).drew;generalize (w.alloc (.cells (U7 (Z4 ln ld) (.slice A n c)) 45)).alloc (.cells (U7 (Z4 rn rd) (.slice A' n' c')) 45)=W at *;have X0:=WP kZ.out.drew;have Y0:=WP qG.out.drew;obtain⟨NM,xD,NN,NP,NQ,NR,NT,NU⟩:=kZ.out.seven;obtain⟨ys0,ZK,ZL,ZM,ZN,ZO,ZP,ZQ⟩:=qG.out.seven
 go_region_held3 (fun w'=>w'.cell? ⟨w.heap.size,0,none⟩=some (.int .i64 1)∧w'.cell? ⟨w.heap.size,1,none⟩=some (str ln)∧w'.cell? ⟨w.heap.size,2,none⟩=some (str ld)∧w'.cell? ⟨w.heap.size,3,none⟩=some (str [])∧w'.cell? ⟨w.heap.size,4,none⟩=some (str [])∧w'.cell? ⟨w.heap.size,5,none⟩=some (str [])∧w'.cell? ⟨w.heap.size,6,none⟩=some (.slice A n c)∧w'.cell? ⟨w.heap.size+1,0,none⟩=some (.int .i64 1)∧w'.cell? ⟨w.heap.size+1,1,none⟩=some (str rn)∧w'.cell? ⟨w.heap.size+1,2,none⟩=some (str rd)∧w'.cell? ⟨w.heap.size+1,3,none⟩=some (str [])∧w'.cell? ⟨w.heap.size+1,4,none⟩=some (str [])∧w'.cell? ⟨w.heap.size+1,5,none⟩=some (str [])∧w'.cell? ⟨w.heap.size+1,6,none⟩=some (.slice A' n' c')) (go_keep)
  (first | (go_at_call 240;((with_reducible refine (HR1.out _).mono ?_));rintro e v1 ⟨rfl,hb1⟩;have b1:=L6 b0 hb1;have X1:=WP (X0.out.below hb1);have Y1:=WP (Y0.out.below hb1);obtain⟨Li,Lj,Ll,Lm,Lr,Ls,Lt,Lu⟩:=X1.out.seven;obtain⟨WI,WJ,WK,WL,WM,WN,WO,WQ⟩:=Y1.out.seven) | (go_at_call 240;((with_reducible refine (HR2.out _).mono ?_));rintro e v2 ⟨rfl,hb2⟩;have b2:=L6 b1 hb2;have X2:=WP (X1.out.below hb2);have Y2:=WP (Y1.out.below hb2);obtain⟨El,Em,Eo,Ep,Er,Es,Et,Lv⟩:=X2.out.seven;obtain⟨Lx,LB,LC,LD,LF,LG,LH,WR⟩:=Y2.out.seven))
 go_wp2_with fail
 refine (HR1.out _).mono ?_;rintro e v3 ⟨rfl,hb3⟩;have b3:=L6 b2 hb3;have X3:=WP (X2.out.below hb3);have Y3:=WP (Y2.out.below hb3);clear El Em Eo Ep Er Es Et Lx LB LC LD LF LG LH;obtain⟨WS,WT,WU,WV,WW,WX,WY,WZ⟩:=X3.out.seven;obtain⟨Xa,Xb,Xc,Xd,Xe,Xf,Xg,Xh⟩:=Y3.out.seven
 go_upto_region 7 with (fail)
 have X4:=WP X3.out.drew;have Y4:=WP Y3.out.drew;have b4:=b3.drew
 go_region_held3 (fun w'=>w'.cell? ⟨w.heap.size,1,none⟩=some (str ln)∧w'.cell? ⟨w.heap.size,2,none⟩=some (str ld)∧w'.cell? ⟨w.heap.size+1,1,none⟩=some (str rn)∧w'.cell? ⟨w.heap.size+1,2,none⟩=some (str rd)) (go_keep)
  (first | (go_at_call 206;((with_reducible refine (NK.out _).mono ?_));rintro e v5 ⟨rfl,hb5⟩;have b5:=L6 b4 hb5;have X5:=WP (X4.out.below hb5);have Y5:=WP (Y4.out.below hb5);obtain⟨b8u,b8v,b8w,b8x,b8y,b8z,b8A,b8B⟩:=X5.out.seven;obtain⟨b8C,b8D,b8E,b8F,b8G,b8H,b8I,b8J⟩:=Y5.out.seven) | (go_at_call 206;((with_reducible refine (NL.out _).mono ?_));rintro e v6 ⟨rfl,hb6⟩;have b6:=L6 b5 hb6;have X6:=WP (X5.out.below hb6);have Y6:=WP (Y5.out.below hb6);obtain⟨b8K,b8L,b8M,b8N,b8O,b8P,b8Q,b8R⟩:=X6.out.seven;obtain⟨b8S,b8T,b8U,b8V,b8W,b8X,b8Y,b8Z⟩:=Y6.out.seven) | (go_at_call 241;((with_reducible refine (HC.out _).mono ?_));rintro e v7 ⟨rfl,X9⟩;have b7:=L6 b6 X9;have X7:=WP (X6.out.below X9);have Y7:=WP (Y6.out.below X9);obtain⟨b80,b81,b82,b83,b84,b85,b86,b87⟩:=X7.out.seven;obtain⟨b88,b89,b9a,b9b,b9c,b9d,b9e,b9f⟩:=Y7.out.seven))
 go_wp2;go_ret;exact⟨rfl,b7⟩
theorem a3c(a b:Ob)(p q:Rat)(hp:Val a p)(hq:Val b q){k m:Nat}(bp:Rb k p)(bq:Rb m q)(hk:k≤10000)(hm:m≤10000)(A A':Option Addr)(n n' c c':Nat)(hn:a.pair.length=n)(hn':b.pair.length=n')(w:World)(ht:R9 w) :
  Calls prog 164 #[G6 a (.slice A n c),G6 b (.slice A' n' c')] w (J7 (.bool (decide (p < q))) w):=by
 have HF1:Hid (∀w':World,Below w.heap.size w w'→Calls prog 154 #[G6 a (.slice A n c)] w' (Lh (Lib.itoa p.num) (Lib.itoa (p.den:Int)) w')):=fun w' hb=>Je a p hp A n c hn w' (ht.below hb)
 have mG:Hid (∀w':World,Below w.heap.size w w'→Calls prog 154 #[G6 b (.slice A' n' c')] w' (Lh (Lib.itoa q.num) (Lib.itoa (q.den:Int)) w')):=fun w' hb=>Je b q hq A' n' c' hn' w' (ht.below hb)
 have HV:Hid (∀(w':World) (A1 A2:Option Addr) (c1 c2:Nat),Below w.heap.size w w'→Calls prog 207 #[G6 (U4 p) (.slice A1 0 c1),G6 (U4 q) (.slice A2 0 c2)] w' (J7 (.int .i64 (dL p q)) w')):=fun w' A1 A2 c1 c2 _=>a1v p q bp bq hk hm A1 A2 0 0 c1 c2 w'
 unfold U4 at HV;rw[←Ro];clear hp hq bp bq hk hm hn hn';generalize dL p q=z at *;generalize Lib.itoa p.num=ln at *;generalize Lib.itoa (p.den:Int)=ld at *;generalize Lib.itoa q.num=rn at *;generalize Lib.itoa (q.den:Int)=rd at *
 go_enter func164,ntmps164
 go_upto_region 1 with (fail)
 have kZ:=WP ((D5.new w 45 (U7 a (.slice A n c))).alloc (.cells (U7 b (.slice A' n' c')) 45));have qG:=WP (D5.nT w (.cells (U7 a (.slice A n c)) 45) 45 (U7 b (.slice A' n' c')));have b0:=(bH (box w (.cells (U7 a (.slice A n c)) 45)) (.cells (U7 b (.slice A' n' c')) 45)).drew;generalize (w.alloc (.cells (U7 a (.slice A n c)) 45)).alloc (.cells (U7 b (.slice A' n' c')) 45)=W at *;have X0:=WP kZ.out.drew;have Y0:=WP qG.out.drew;obtain⟨NM,xD,NN,NP,NQ,NR,NT,NU⟩:=kZ.out.seven;obtain⟨ys0,ZK,ZL,ZM,ZN,ZO,ZP,ZQ⟩:=qG.out.seven
 go_region_held3 (fun w'=>w'.cell? ⟨w.heap.size,0,none⟩=some (.int .i64 a.kind)∧w'.cell? ⟨w.heap.size,1,none⟩=some (str a.num)∧w'.cell? ⟨w.heap.size,2,none⟩=some (str a.den)∧w'.cell? ⟨w.heap.size,3,none⟩=some (str a.sp)∧w'.cell? ⟨w.heap.size,4,none⟩=some (str a.sn)∧w'.cell? ⟨w.heap.size,5,none⟩=some (str a.text)∧w'.cell? ⟨w.heap.size,6,none⟩=some (.slice A n c)∧w'.cell? ⟨w.heap.size+1,0,none⟩=some (.int .i64 b.kind)∧w'.cell? ⟨w.heap.size+1,1,none⟩=some (str b.num)∧w'.cell? ⟨w.heap.size+1,2,none⟩=some (str b.den)∧w'.cell? ⟨w.heap.size+1,3,none⟩=some (str b.sp)∧w'.cell? ⟨w.heap.size+1,4,none⟩=some (str b.sn)∧w'.cell? ⟨w.heap.size+1,5,none⟩=some (str b.text)∧w'.cell? ⟨w.heap.size+1,6,none⟩=some (.slice A' n' c')) (go_keep)
  (first | (go_at_call 154;((with_reducible refine (HF1.out _ b0).mono ?_));rintro e v1 ⟨A1,c1,rfl,hb1⟩;have b1:=L6 b0 hb1;have X1:=WP (X0.out.below hb1);have Y1:=WP (Y0.out.below hb1);obtain⟨Li,Lj,Ll,Lm,Lr,Ls,Lt,Lu⟩:=X1.out.seven;obtain⟨WI,WJ,WK,WL,WM,WN,WO,WQ⟩:=Y1.out.seven) | (go_at_call 154;((with_reducible refine (mG.out _ b1).mono ?_));rintro e v2 ⟨A2,c2,rfl,hb2⟩;have b2:=L6 b1 hb2;have X2:=WP (X1.out.below hb2);have Y2:=WP (Y1.out.below hb2);obtain⟨El,Em,Eo,Ep,Er,Es,Et,Lv⟩:=X2.out.seven;obtain⟨Lx,LB,LC,LD,LF,LG,LH,WR⟩:=Y2.out.seven) | (go_at_call 207;((with_reducible refine (HV.out _ A1 A2 c1 c2 b2).mono ?_));rintro e v3 ⟨rfl,hb3⟩;have b3:=L6 b2 hb3;have X3:=WP (X2.out.below hb3);have Y3:=WP (Y2.out.below hb3);obtain⟨WS,WT,WU,WV,WW,WX,WY,WZ⟩:=X3.out.seven;obtain⟨Xa,Xb,Xc,Xd,Xe,Xf,Xg,Xh⟩:=Y3.out.seven))
 go_wp2;go_ret;exact⟨rfl,b3⟩
end Go.Proofs.YtbpmpdadppamgaaGreatDoor
