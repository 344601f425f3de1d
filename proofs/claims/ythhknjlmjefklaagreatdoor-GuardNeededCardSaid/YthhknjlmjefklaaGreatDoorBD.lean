/- number.Divide whole; number.Gcd; number.Reduce. -/
import Derived.Test.YthhknjlmjefklaaGreatDoorBC
import Derived.Deep.LoopGhost
import Derived.Test.YthhknjlmjefklaaGreatDoorBB
import Derived.Deep.RegionHeld3
import Derived.Deep.RegionLaw
import Derived.Deep.DeepCutAuto
import Derived.StillTailTactics
import Derived.Deep.QuietTactic
import Derived.BigQuiet
import Derived.Lib.Bytealg
import Derived.BigRegion
import Derived.IntWalk
set_option maxRecDepth 100000
set_option maxHeartbeats 4000000
namespace Go.Proofs.YthhknjlmjefklaaGreatDoor
open Tryz
open Go.RowKit
theorem CE(a b:aa0)(w:World)(ha:a.length≤2400000)(hb:b.length≤2400000)(ht:Tab w) :
  Calls prog 216 #[.string ⟨a.toArray⟩,.string ⟨b.toArray⟩] w (iW (Lib.itoa (qd (l9.D5 a) (l9.D5 b))) (Lib.itoa (rm (l9.D5 a) (l9.D5 b))) w):=by
 by_cases hy:l9.D5 b=0
 ·have:=a6E a b w ha hb hy;rw[hy,Yq,Yr,l9.jR];exact this
 ·generalize hx:l9.D5 a=x;generalize hyv:l9.D5 b=y at hy;cases hs:decide (y < 0) with
  |_ =>
   by_cases hd:decide (x < 0)=decide (y < 0)
   ·obtain⟨h1,h2⟩:=Yu hy (hd.trans hs) hs;exact Wv a b w ha hb ht x y hx hyv hy _ _ false (hd.trans hs) hs I (.inl rfl) _ _ (WP (jk (by simpa using h1))) (WP (jk h2))
   ·have hd':decide (x < 0)=!(decide (y < 0)):=by cases h1:decide (x < 0) <;> cases h2:decide (y < 0) <;> simp_all
    rw[hs]at hd';by_cases h0:x.natAbs % y.natAbs=0
    ·obtain⟨h1,h2⟩:=Xf hy hd' hs h0;exact Wv a b w ha hb ht x y hx hyv hy _ _ true hd' hs I (.inr h0) _ _ (WP (jk (by simpa using h1))) (WP (by rw[h0,Gz,h2,l9.jR]))
    ·obtain⟨h1,h2⟩:=Yv hy hd' hs h0;exact a6F a b w ha hb ht x y hx hyv hy _ _ true hd' hs I ⟨rfl,h0⟩ _ _ (WP (jk (by simpa using h1))) (WP (jk h2))
theorem a5A(s:Bool)(A:Option Addr)(n c:Nat)(w:World):(Instr.field 269 (.agg #[.bool s,.slice A n c]) 1).run prog w=.ok (.slice A n c) w:=by kernel_rfl
theorem Xg(a b:aa0)(w:World)(ha:a.length≤2400000)(hb:b.length≤2400000)(ht:Tab w) :
  Calls prog 270 #[.string ⟨a.toArray⟩,.string ⟨b.toArray⟩] w (dG (Lib.itoa (Nat.gcd (l9.D5 a).natAbs (l9.D5 b).natAbs:Nat)) w):=by
 have aj:Hid (∀w',Calls prog 243 #[.string ⟨a.toArray⟩] w' (jV (a.length+1) (l9.D5 a) w')):=fun w'=>parse_any a w' J
 have HP2:Hid (∀w',Calls prog 243 #[.string ⟨b.toArray⟩] w' (jV (b.length+1) (l9.D5 b) w')):=fun w'=>parse_any b w' J
 generalize l9.D5 a=x at *;generalize l9.D5 b=y at *;generalize hG:Nat.gcd x.natAbs y.natAbs=G;have HG:=WP hG;clear hG;have hfl:=a5A
 go_enter func270,ntmps270
 go_wp2_with fail
 refine (aj.out _).mono ?_;rintro e w1 ⟨A1,n1,c1,rfl,hs1,hn1,hb1⟩
 go_wp2_with fail
 refine (HP2.out _).mono ?_;rintro e w2 ⟨A2,n2,c2,rfl,hs2,hn2,hb2⟩;have hbw2:=hb1.trans (hb2.mono hb1.size)
 go_wp2_with fail
 go_loopg [5,6] y.natAbs (fun kx s5 s6 wr=>∃(A B:Option Addr) (n c m d u v:Nat),s5=.slice A n c∧s6=.slice B m d∧Sl wr .u32 A n c (l9.limbs 1000000000 u)∧Sl wr .u32 B m d (l9.limbs 1000000000 v)∧n≤2400001∧m≤2400001∧v≤kx∧Hid (Nat.gcd u v=G)∧Below w.heap.size w wr)
 case atStart=>exact⟨A1,A2,n1,c1,n2,c2,_,_,rfl,rfl,hs1.below hb2,hs2,J,J,NE _,HG,hbw2⟩
 case round =>
  obtain⟨A,B,n,c,m,d,u,v,rfl,rfl,hu,hv,hn,hm,hk,EZ,hb⟩:=hrel;by_cases hm0:0 < m
  ·have hv0:0 < v:=by
    rcases Zas v with e | e
    ·subst e;have:=hv.len;rw[l9.wE]at this;simp at this;omega
    ·exact e
   have hlr:=MG (a:=u) hv0 hv.len;have hml:=Nat.mod_lt u hv0;have TK:Hid (Nat.gcd v (u % v)=G):=by show _=_;rw[←EZ.out,Nat.gcd_comm v,←Nat.gcd_rec,Nat.gcd_comm]
   have Bj:=WP (Np A B n m c d u v wr hu hv J J hv0)
   go_wp2_with (go_at_call 249;refine Bj.out.mono ?_;rintro e w3 ⟨A3,n3,c3,A4,n4,c4,rfl,hs3,hs4,hb3⟩;have hn4:n4≤m:=(by rw[←hs4.len];exact hlr))
   go_roundg (u % v)
   case measure=>omega
   case rel=>exact⟨B,A4,m,d,n4,c4,v,u % v,rfl,rfl,hv.below hb3,hs4,hm,J,NE _,TK,hb.trans (hb3.mono hb.size)⟩
  ·have hv0:v=0:=(l9.qR (B:=1000000000) J).1 (Za9 (by rw[hv.len];omega));subst hv0;have HE:Hid (dF false u=Lib.itoa (G:Int)):=by show _=_;rw[←EZ.out,Nat.gcd_zero_right];rfl
   go_wp2_with fail
   refine (wG false A n c u _ hu J (ht.below hb)).mono ?_;rintro e w3 ⟨rfl,hb3⟩;rw[HE.out];go_wp2;go_ret;exact⟨rfl,hb.trans (hb3.mono hb.size)⟩
def lI(x y:Int):Int:=if y < 0 then -x else x
def xW(y:Int):Int:=if y < 0 then -y else y
def bu(x y:Int):Int:=if y=0 then 0 else qd (lI x y) (Nat.gcd x.natAbs y.natAbs:Nat)
def bz(x y:Int):Int:=if y=0 then 1 else qd (xW y) (Nat.gcd x.natAbs y.natAbs:Nat)
theorem zJ(x:Int):qd x 1=x:=by simp[qd]
theorem zi:Lib.itoa 1=[49]:=by decide +kernel
theorem GG{v:Int}:(Lib.itoa v == [49])=decide (v=1):=by
 rw[←zi];by_cases h:v=1
 ·subst h;simp
 ·rw[WF h,IR];exact fun e=>h (l9.yZ e)
theorem Wx(l:aa0):(Lib.itoa (l9.D5 l)).length≤l.length+1:=by rw[←norm_eq];exact pq l
theorem Yw{K:Nat}{x y:Int}(hK:1≤K)(hx:x.natAbs < 10 ^ K)(hy:y.natAbs < 10 ^ K):(Lib.itoa (Nat.gcd x.natAbs y.natAbs:Nat)).length≤K+1:=by
 have h:Nat.gcd x.natAbs y.natAbs < 10 ^ K:=by
  rcases Zas x.natAbs with h1 | h1
  ·rw[h1,Nat.gcd_zero_left];exact hy
  ·exact Nat.lt_of_le_of_lt (Nat.gcd_le_left _ h1) hx
 exact kQ ((Nat.gcd x.natAbs y.natAbs:Nat):Int) hK (by rw[Int.natAbs_natCast];exact h)
theorem Vp(a b:aa0)(w:World)(ha:a.length≤1100000)(hb:b.length≤1100000)(ht:Tab w) :
    Calls prog 245 #[.string ⟨a.toArray⟩,.string ⟨b.toArray⟩] w (iW (Lib.itoa (bu (l9.D5 a) (l9.D5 b))) (Lib.itoa (bz (l9.D5 a) (l9.D5 b))) w):=by
  have Fa:=wz a w J;have Fb:∀w',Calls prog 239 #[.string ⟨b.toArray⟩] w' fun e w''=>e=.returned (.string ⟨(norm b).toArray⟩)∧w'=w'':=fun w'=>wz b w' J
  rw[norm_eq]at Fa;simp only[norm_eq]at Fb;have hla:=Wx a;have hlb:=Wx b;have hba:=lY (l:=a) (k:=a.length+b.length+1) J;have hbb:=lY (l:=b) (k:=a.length+b.length+1) J;generalize l9.D5 a=x at *;generalize l9.D5 b=y at *;have a2p:(Lib.itoa (Nat.gcd x.natAbs y.natAbs:Nat)).length≤2300000:=by have:=Yw J hba hbb;omega
  have hnx:=kQ (-x) (k:=a.length+b.length+1) J (by rw[Int.natAbs_neg];exact hba);have hny:=kQ (-y) (k:=a.length+b.length+1) J (by rw[Int.natAbs_neg];exact hbb);have HA:=WP Fa;have HB:=WP Fb;clear Fa Fb hba hbb;by_cases hy0:y=0
  · subst hy0
    have sF:Hid (bu x 0=0):=rfl;have lJ:Hid (bz x 0=1):=rfl;have hz:=l9.jR;rw[hz]at HB;clear hz
    go_enter func245,ntmps245
    go_wp2_with fail
    refine HA.out.mono ?_;rintro e w' ⟨rfl,rfl⟩
    go_wp2_with fail
    refine (HB.out _).mono ?_;rintro e w' ⟨rfl,rfl⟩;go_wp2;go_ret2;exact⟨by rw[sF.out,lJ.out,l9.jR,zi];rfl,Below.refl _ _⟩
  obtain⟨D1,hD1⟩:∃D1:ByteArray,D1=⟨(Lib.itoa x).toArray⟩:=⟨_,rfl⟩;obtain⟨D2,hD2⟩:∃D2:ByteArray,D2=⟨(Lib.itoa y).toArray⟩:=⟨_,rfl⟩;rw[←hD1]at HA;rw[←hD2]at HB;have HT2:Hid (D2.data.toList=Lib.itoa y):=by rw[hD2];exact (rfl:(Lib.itoa y).toArray.toList=_)
  have HD1:=WP hD1;have HD2:=WP hD2;clear hD1 hD2;have hE0:(D2.toList == [48])=false:=by rw[Zb2,HT2.out];simpa using Vd hy0
  by_cases hy1:y=1
  · subst hy1
    have hE1:(D2.toList == [49])=true:=by rw[Zb2,HT2.out,zi];rfl
    have sF:Hid (bu x 1=x):=by show _=_;simp[bu,lI,zJ]
    have lJ:Hid (bz x 1=1):=by show _=_;simp[bz,xW,zJ]
    go_enter func245,ntmps245
    go_wp2_with fail
    refine HA.out.mono ?_;rintro e w' ⟨rfl,rfl⟩
    go_wp2_with fail
    refine (HB.out _).mono ?_;rintro e w' ⟨rfl,rfl⟩;go_wp2;go_ret2;exact⟨by rw[sF.out,lJ.out,←HD1.out,←HD2.out];rfl,Below.refl _ _⟩
  have hE1:(D2.toList == [49])=false:=by rw[Zb2,HT2.out,GG,WF hy1]
  by_cases hn:y < 0
  · obtain⟨hp,e0⟩:=GR (HT2.out.trans (wC hn))
    have rO:((D2[0].toNat:Int) == 45)=true:=by rw[e0];rfl
    have HN1:Hid (∀w',Calls prog 248 #[.string D1] w' (uw (.string ⟨(Lib.itoa (-x)).toArray⟩) w')):=fun w'=>by
      have:=Nq (Lib.itoa x) w' J;rw[l9.P9]at this;rw[HD1.out];exact this
    have HN2:Hid (∀w',Calls prog 248 #[.string D2] w' (uw (.string ⟨(Lib.itoa (-y)).toArray⟩) w')):=fun w'=>by
      have:=Nq (Lib.itoa y) w' J;rw[l9.P9]at this;rw[HD2.out];exact this
    have SC:Hid (bu x y=qd (-x) (Nat.gcd x.natAbs y.natAbs:Nat)):=by show _=_;simp[bu,lI,hy0,hn]
    have SE:Hid (bz x y=qd (-y) (Nat.gcd x.natAbs y.natAbs:Nat)):=by show _=_;simp[bz,xW,hy0,hn]
    have SG:Hid (Nat.gcd (-x).natAbs (-y).natAbs=Nat.gcd x.natAbs y.natAbs):=by show _=_;rw[Int.natAbs_neg,Int.natAbs_neg]
    have Fe:(Lib.itoa (-x)).length≤2400000:=J;have Ff:(Lib.itoa (-y)).length≤2400000:=J;clear e0 hy0 hy1 hn;generalize -x=X at *;generalize -y=Y at *;have qy:=WP (Xg (Lib.itoa X) (Lib.itoa Y) w Fe Ff ht);rw[l9.P9,l9.P9]at qy;have HGE:Hid (Nat.gcd X.natAbs Y.natAbs=Nat.gcd x.natAbs y.natAbs):=SG;rw[HGE.out]at qy;have hgl:(Lib.itoa (Nat.gcd x.natAbs y.natAbs:Nat)).length≤2300000:=a2p;have hone:=GG (v:=(Nat.gcd x.natAbs y.natAbs:Nat));have TL:Hid (∀w',Tab w'→Calls prog 216 #[.string ⟨(Lib.itoa X).toArray⟩,.string ⟨(Lib.itoa (Nat.gcd x.natAbs y.natAbs:Nat)).toArray⟩] w' (iW (Lib.itoa (qd X (Nat.gcd x.natAbs y.natAbs:Nat))) (Lib.itoa (rm X (Nat.gcd x.natAbs y.natAbs:Nat))) w')):=fun w' ht'=>by
      have:=CE (Lib.itoa X) (Lib.itoa (Nat.gcd x.natAbs y.natAbs:Nat)) w' Fe J ht'
      rwa [l9.P9,l9.P9]at this
    have TM:Hid (∀w',Tab w'→Calls prog 216 #[.string ⟨(Lib.itoa Y).toArray⟩,.string ⟨(Lib.itoa (Nat.gcd x.natAbs y.natAbs:Nat)).toArray⟩] w' (iW (Lib.itoa (qd Y (Nat.gcd x.natAbs y.natAbs:Nat))) (Lib.itoa (rm Y (Nat.gcd x.natAbs y.natAbs:Nat))) w')):=fun w' ht'=>by
      have:=CE (Lib.itoa Y) (Lib.itoa (Nat.gcd x.natAbs y.natAbs:Nat)) w' Ff J ht'
      rwa [l9.P9,l9.P9]at this
    have sF:Hid (bu x y=qd X (Nat.gcd x.natAbs y.natAbs:Nat)):=SC;have lJ:Hid (bz x y=qd Y (Nat.gcd x.natAbs y.natAbs:Nat)):=SE;generalize Nat.gcd x.natAbs y.natAbs=G at *;by_cases hG1:(G:Int)=1
    · have SH:Hid (bu x y=X):=by show _=_;rw[sF.out,hG1,zJ]
      have SI:Hid (bz x y=Y):=by show _=_;rw[lJ.out,hG1,zJ]
      rw[UV hG1]at hone;clear hG1
      go_enter func245,ntmps245
      go_wp2_with fail
      refine HA.out.mono ?_;rintro e w' ⟨rfl,rfl⟩
      go_wp2_with fail
      refine (HB.out _).mono ?_;rintro e w' ⟨rfl,rfl⟩
      go_wp2_with fail
      refine (HN1.out _).mono ?_;rintro e w' ⟨rfl,rfl⟩
      go_wp2_with fail
      refine (HN2.out _).mono ?_;rintro e w' ⟨rfl,rfl⟩
      go_wp2_with fail
      refine qy.out.mono ?_;rintro e w1 ⟨rfl,hb1⟩;go_wp2;go_ret2;exact⟨by rw[SH.out,SI.out];rfl,hb1⟩
    · rw[WF hG1]at hone
      clear hG1
      go_enter func245,ntmps245
      go_wp2_with fail
      refine HA.out.mono ?_;rintro e w' ⟨rfl,rfl⟩
      go_wp2_with fail
      refine (HB.out _).mono ?_;rintro e w' ⟨rfl,rfl⟩
      go_wp2_with fail
      refine (HN1.out _).mono ?_;rintro e w' ⟨rfl,rfl⟩
      go_wp2_with fail
      refine (HN2.out _).mono ?_;rintro e w' ⟨rfl,rfl⟩
      go_wp2_with fail
      refine qy.out.mono ?_;rintro e w1 ⟨rfl,hb1⟩
      go_wp2_with fail
      refine (TL.out _ (ht.below hb1)).mono ?_;rintro e w2 ⟨rfl,hb2⟩;have hbw2:=hb1.trans (hb2.mono hb1.size)
      go_wp2_with fail
      refine (TM.out _ (ht.below hbw2)).mono ?_;rintro e w3 ⟨rfl,hb3⟩;go_wp2;go_ret2;exact⟨by rw[sF.out,lJ.out];rfl,hbw2.trans (hb3.mono hbw2.size)⟩
  · obtain⟨c,r,hcr,_⟩:=l9.yL (u:=y.natAbs) J
    have hD3:D2.data.toList=c::r:=by rw[HT2.out,yP J,hcr]
    obtain⟨hp,e0⟩:=GR hD3;have h45:c≠45:=l9.BX (r:=r) (by rw[←hcr];exact l9.wu _);have rO:((D2[0].toNat:Int) == 45)=false:=by
      rw[e0,IR];intro e;exact h45 (UInt8.toNat_inj.1 (by
                                       have:c.toNat=45:=J;simpa using this))
    have SC:Hid (bu x y=qd x (Nat.gcd x.natAbs y.natAbs:Nat)):=by show _=_;simp[bu,lI,hy0,hn]
    have SE:Hid (bz x y=qd y (Nat.gcd x.natAbs y.natAbs:Nat)):=by show _=_;simp[bz,xW,hy0,hn]
    have SG:Hid (Nat.gcd x.natAbs y.natAbs=Nat.gcd x.natAbs y.natAbs):=(rfl:Nat.gcd x.natAbs y.natAbs=_);have Fe:(Lib.itoa x).length≤2400000:=J;have Ff:(Lib.itoa y).length≤2400000:=J;clear e0 hy0 hy1 hn hD3 h45 hcr;have qy:=WP (Xg (Lib.itoa x) (Lib.itoa y) w Fe Ff ht);rw[l9.P9,l9.P9]at qy;have HGE:Hid (Nat.gcd x.natAbs y.natAbs=Nat.gcd x.natAbs y.natAbs):=SG;have qy:=WP (show Calls prog 270 #[.string D1,.string D2] w (dG (Lib.itoa (Nat.gcd x.natAbs y.natAbs:Nat)) w) by rw[HD1.out,HD2.out];exact qy.out);have hgl:(Lib.itoa (Nat.gcd x.natAbs y.natAbs:Nat)).length≤2300000:=a2p;have hone:=GG (v:=(Nat.gcd x.natAbs y.natAbs:Nat));have TL:Hid (∀w',Tab w'→Calls prog 216 #[.string D1,.string ⟨(Lib.itoa (Nat.gcd x.natAbs y.natAbs:Nat)).toArray⟩] w' (iW (Lib.itoa (qd x (Nat.gcd x.natAbs y.natAbs:Nat))) (Lib.itoa (rm x (Nat.gcd x.natAbs y.natAbs:Nat))) w')):=fun w' ht'=>by
      have:=CE (Lib.itoa x) (Lib.itoa (Nat.gcd x.natAbs y.natAbs:Nat)) w' Fe J ht';rw[l9.P9,l9.P9]at this;rw[HD1.out];exact this
    have TM:Hid (∀w',Tab w'→Calls prog 216 #[.string D2,.string ⟨(Lib.itoa (Nat.gcd x.natAbs y.natAbs:Nat)).toArray⟩] w' (iW (Lib.itoa (qd y (Nat.gcd x.natAbs y.natAbs:Nat))) (Lib.itoa (rm y (Nat.gcd x.natAbs y.natAbs:Nat))) w')):=fun w' ht'=>by
      have:=CE (Lib.itoa y) (Lib.itoa (Nat.gcd x.natAbs y.natAbs:Nat)) w' Ff J ht';rw[l9.P9,l9.P9]at this;rw[HD2.out];exact this
    have sF:Hid (bu x y=qd x (Nat.gcd x.natAbs y.natAbs:Nat)):=SC;have lJ:Hid (bz x y=qd y (Nat.gcd x.natAbs y.natAbs:Nat)):=SE;generalize Nat.gcd x.natAbs y.natAbs=G at *;by_cases hG1:(G:Int)=1
    · have SH:Hid (bu x y=x):=by show _=_;rw[sF.out,hG1,zJ]
      have SI:Hid (bz x y=y):=by show _=_;rw[lJ.out,hG1,zJ]
      rw[UV hG1]at hone;clear hG1
      go_enter func245,ntmps245
      go_wp2_with fail
      refine HA.out.mono ?_;rintro e w' ⟨rfl,rfl⟩
      go_wp2_with fail
      refine (HB.out _).mono ?_;rintro e w' ⟨rfl,rfl⟩
      go_wp2_with fail
      refine qy.out.mono ?_;rintro e w1 ⟨rfl,hb1⟩;go_wp2;go_ret2;exact⟨by rw[SH.out,SI.out,←HD1.out,←HD2.out];rfl,hb1⟩
    · rw[WF hG1]at hone
      clear hG1
      go_enter func245,ntmps245
      go_wp2_with fail
      refine HA.out.mono ?_;rintro e w' ⟨rfl,rfl⟩
      go_wp2_with fail
      refine (HB.out _).mono ?_;rintro e w' ⟨rfl,rfl⟩
      go_wp2_with fail
      refine qy.out.mono ?_;rintro e w1 ⟨rfl,hb1⟩
      go_wp2_with fail
      refine (TL.out _ (ht.below hb1)).mono ?_;rintro e w2 ⟨rfl,hb2⟩;have hbw2:=hb1.trans (hb2.mono hb1.size)
      go_wp2_with fail
      refine (TM.out _ (ht.below hbw2)).mono ?_;rintro e w3 ⟨rfl,hb3⟩;go_wp2;go_ret2;exact⟨by rw[sF.out,lJ.out];rfl,hbw2.trans (hb3.mono hbw2.size)⟩
structure Num (k:Nat) (l:aa0) (X:Int):Prop where
 val:l9.D5 l=X
 len:l.length≤k
theorem Num.abs{k:Nat}{l:aa0}{X:Int}(h:Num k l X):X.natAbs < 10 ^ k:=by rw[←h.val];exact lY h.len
theorem Num.mul{k m:Nat}{l r:aa0}{X Y:Int}(h:Num k l X)(h':Num m r Y):Num (k+m+2) (Lib.itoa (X * Y)) (X * Y):=by
 refine⟨l9.P9 _,kQ _ (k:=k+m+1) J ?_⟩;rw[Int.natAbs_mul,Zb0,Nat.pow_add];have h1:=h.abs;have h2:=h'.abs;have:X.natAbs * Y.natAbs≤10 ^ k * 10 ^ m:=Nat.mul_le_mul J J;have:0 < 10 ^ k * 10 ^ m:=Nat.mul_pos (Nat.pow_pos J) (Nat.pow_pos J);omega
theorem a2q{k m:Nat}{l r:aa0}{X Y:Int}(h:Num k l X)(h':Num m r Y)(hk:k≤100000)(hm:m≤100000)(w:World)(ht:Tab w) :
  Calls prog 209 #[.string ⟨l.toArray⟩,.string ⟨r.toArray⟩] w (dG (Lib.itoa (X * Y)) w):=by
 have:=Xe l r w (by have:=h.len;omega) (by have:=h'.len;omega) ht
 rwa [h.val,h'.val]at this
theorem Xh{k m:Nat}{l r:aa0}{X Y V:Int}(h:Num k l X)(h':Num m r Y)(hk:k≤100000)(hm:m≤100000)(hv:jd X Y=V)(w:World) :
  Calls prog 247 #[.string ⟨l.toArray⟩,.string ⟨r.toArray⟩] w (pR V w):=by
 have:=a5c l r w (by have:=h.len;omega) (by have:=h'.len;omega)
 rwa [h.val,h'.val,hv]at this
theorem Ve:∀(l:aa0) (a:Nat),l9.V3 l=true→Lib.decFrom a l=some (l.foldl (fun a c=>a * 10+(c.toNat - 48)) a)
 |[],_,_=>rfl
 |c::r,a,h=>by
  simp only[l9.V3,List.all_cons,AC,l9.dm,Za3]at h;have hd:Lib.digitVal c=some (c.toNat - 48):=by simp[Lib.digitVal,h.1]
  simp only[Lib.decFrom,hd,List.foldl_cons];exact Ve r _ (by simp only[l9.V3];exact h.2)
theorem a5B{l:aa0}(h:l9.V3 l=true)(h0:l≠[]):Lib.decNat l=some (l9.U5 l):=by
 have:l.isEmpty=false:=by cases l with
  |nil=>exact absurd rfl h0
  |cons=>rfl
 simp only[Lib.decNat,this,ZaY,ZaM];exact Ve l 0 h
theorem a6G(l:aa0):Lib.atoi (norm l)=some (l9.D5 l):=by
 have h1:=(zg l).1;have h2:=(zg l).2.1;have hd:=Ho l;rw[←Nz l];generalize norm l=s at h1 h2 hd;have hn:=a5B h1 h2;simp only[l9.D5,hd,ZaP];cases iI:l9.neg s with
 |true =>
  have he:=l9.Gy iI;generalize l9.mag s=m at he hn;subst he;simp[Lib.atoi,hn]
 |false =>
  have he:=l9.yR iI;rw[he]at hn h1 h2 ⊢
  cases s with
  |nil=>exact absurd rfl h2
  |cons c r =>
   have h45:c≠45:=l9.BX h1;have h43:c≠43:=by
    rintro rfl;simp[l9.V3,l9.dm]at h1
   simp[Lib.atoi,hn,h45,h43]
theorem Vf(l:aa0):(norm l).length≤(l9.mag (norm l)).length+1:=by
 cases h:l9.neg (norm l) with
 |true=>have:=congrArg List.length (l9.Gy h);simp only[Za1]at this;omega
 |false=>rw[l9.yR h];omega
def Hr(n:Int)(b:Bool)(w:World)(e:Ending)(w':World):Prop:=e=.returned (.tuple #[.int .i64 n,.bool b])∧Below w.heap.size w w'
theorem a7D(l:aa0)(w:World)(hl:l.length≤2500000)(h9:9 < (l9.mag (norm l)).length) :
  Calls prog 204 #[.string ⟨l.toArray⟩] w (Hr 0 false w):=by
 have HD:=WP (GV l w hl);have hnl:=pq l;have hml:=l9.lV (norm l);generalize (l9.mag (norm l)).length=k at HD h9 hml
 go_enter func204,ntmps204
 go_wp2_with fail
 refine HD.out.mono ?_;rintro e w' ⟨rfl,rfl⟩;go_wp2;go_ret2;exact⟨rfl,Below.refl _ _⟩
theorem a6H(l:aa0)(w:World)(hl:l.length≤2500000)(h9:(l9.mag (norm l)).length≤9) :
  Calls prog 204 #[.string ⟨l.toArray⟩] w (Hr (l9.D5 l) true w):=by
 have HD:=WP (GV l w hl);have HE:=WP (wz l w J);have hln:=Vf l;have HA:=WP (Tryz.strconv_Atoi ⟨(norm l).toArray⟩ (l9.D5 l) (by rw[Zar];show (norm l).length≤_;omega) (a6G l) w);generalize (l9.mag (norm l)).length=k at HD h9
 go_enter func204,ntmps204
 go_wp2_with fail
 refine HD.out.mono ?_;rintro e w' ⟨rfl,rfl⟩
 go_wp2_with fail
 refine HE.out.mono ?_;rintro e w' ⟨rfl,rfl⟩
 go_wp2_with fail
 refine HA.out.mono ?_;rintro e w' ⟨rfl,t,rfl⟩;go_wp2;go_ret2;exact⟨rfl,Lib.bytesWorld_below _ _ _⟩
structure Ob where
 kind:Int
 num:aa0
 den:aa0
 sp:aa0
 sn:aa0
 text:aa0
 pair:List Ob
namespace Ob
mutual
def enc:Ob→List Dt
 |⟨k,n,d,p,s,t,l⟩=>[.val (.int .i64 k),.val (str n),.val (str d),.val (str p),.val (str s),.val (str t),.row (D9 l)]
def D9:List Ob→aa1
 |[]=>[]
 |o::r=>enc o::D9 r
end
mutual
def size:Ob→Nat
 |⟨_,_,_,_,_,_,l⟩=>eQ l+1
def eQ:List Ob→Nat
 |[]=>0
 |o::r=>size o+eQ r
end
theorem Oc(l:List Ob):D9 l=l.map enc:=by
 induction l with
 |nil=>rfl
 |cons o r ih=>rw[D9,ih];rfl
theorem pO(o:Ob):o.enc=[.val (.int .i64 o.kind),.val (str o.num),.val (str o.den),.val (str o.sp),.val (str o.sn),.val (str o.text),.row (o.pair.map enc)]:=by
 cases o;rw[enc,Oc]
theorem nJ(o:Ob):o.enc.length=7:=by rw[pO];rfl
theorem size_pos(o:Ob):0 < o.size:=by cases o;rw[size];omega
theorem NC{l:List Ob}{o:Ob}(h:o∈l):o.size≤eQ l:=by
 induction l with
 |nil=>cases h
 |cons x r ih =>
  rw[eQ];rcases Zao.1 h with rfl | h
  ·omega
  ·have:=ih h;omega
theorem pF{o x:Ob}(h:x∈o.pair):x.size < o.size:=by
 cases o with
 |mk k n d p s t l =>
  rw[size];have:=NC (l:=l) h;omega
theorem ind{motive:Ob→Prop}(step:∀o,(∀x∈o.pair,motive x)→motive o)(o:Ob):motive o:=by
 have:∀n (o:Ob),o.size≤n→motive o:=by
  intro n
  induction n with
  |zero=>intro o h;have:=size_pos o;omega
  |succ n ih=>intro o h;exact step o fun x hx=>ih x (by have:=pF hx;omega)
 exact this o.size o (NE _)
inductive Wf:Ob→Prop
 |mk (o:Ob) (hk0:-9223372036854775808≤o.kind) (hk1:o.kind≤9223372036854775807) (hn:o.num.length≤9223372036854775807) (hd:o.den.length≤9223372036854775807) (hp:o.sp.length≤9223372036854775807) (hs:o.sn.length≤9223372036854775807) (ht:o.text.length≤9223372036854775807) (hl:o.pair.length≤9223372036854775807) (h:∀x∈o.pair,Wf x):Wf o
theorem Wf.kids{o x:Ob}(h:o.Wf)(hx:x∈o.pair):x.Wf:=by
 cases h with
 |mk _ _ _ _ _ _ _ _ _ h=>exact h x hx
theorem Wf.len{o:Ob}(h:o.Wf):o.pair.length≤9223372036854775807:=by
 cases h with
 |mk _ _ _ _ _ _ _ _ hl _=>exact hl
end Ob
abbrev N7(o:Ob)(P:Value):Value:=.agg #[.int .i64 o.kind,str o.num,str o.den,str o.sp,str o.sn,str o.text,P]
abbrev aB(o:Ob)(P:Value):Array Value:=#[.int .i64 o.kind,str o.num,str o.den,str o.sp,str o.sn,str o.text,P]
theorem Rd.jD{ok:Nat→Prop}{w wr:World}{A:Option Addr}{n c:Nat}{l:List Ob}(h:Rd ok w (.slice A n c) (.row (l.map Ob.enc)))(hbr:Below w.heap.size w wr){i:Nat}(hi:i < n) :
  ∃(b o:Nat) (hl:i < l.length) (A':Option Addr) (n' c':Nat),A=some ⟨b,o,none⟩∧b < w.heap.size∧ok b ∧
   wr.cell? ⟨b,o+i * 7,none⟩=some (.int .i64 (l[i]).kind)∧wr.cell? ⟨b,o+i * 7+1,none⟩=some (str (l[i]).num)∧wr.cell? ⟨b,o+i * 7+2,none⟩=some (str (l[i]).den)∧wr.cell? ⟨b,o+i * 7+3,none⟩=some (str (l[i]).sp) ∧
   wr.cell? ⟨b,o+i * 7+4,none⟩=some (str (l[i]).sn)∧wr.cell? ⟨b,o+i * 7+5,none⟩=some (str (l[i]).text)∧wr.cell? ⟨b,o+i * 7+6,none⟩=some (.slice A' n' c')∧Rd ok w (.slice A' n' c') (.row ((l[i]).pair.map Ob.enc)):=by
 have hlen:=h.len;rw[EQ]at hlen;obtain⟨b,o,k,rfl,hb,hok,hk,hf⟩:=h.cells J;have e:(l.map Ob.enc)[i]'(by rw[EQ];omega)=(l[i]'J).enc:=List.getElem_map _;have hk':=hk i (by rw[EQ];omega);rw[e,Ob.nJ]at hk';subst hk';have hf':∀j (hj:j < 7),∃u,w.cell? ⟨b,o+i * 7+j,none⟩=some u∧Rd ok w u ((l[i]'J).enc[j]'(by rw[Ob.nJ];exact hj)):=fun j hj=>by
  obtain⟨u,h1,h2⟩:=hf i j (by rw[EQ];omega) (by rw[e,Ob.nJ];exact hj);simp only[e]at h2;exact⟨u,h1,h2⟩
 simp only[Ob.pO]at hf';obtain⟨u0,h0,r0⟩:=hf' 0 J;obtain⟨u1,h1,r1⟩:=hf' 1 J;obtain⟨u2,h2,r2⟩:=hf' 2 J;obtain⟨u3,h3,r3⟩:=hf' 3 J;obtain⟨u4,h4,r4⟩:=hf' 4 J;obtain⟨u5,h5,r5⟩:=hf' 5 J;obtain⟨u6,h6,r6⟩:=hf' 6 J;simp only[ZaW,List.getElem_cons_succ]at r0 r1 r2 r3 r4 r5 r6;rw[r0.Z9]at h0;rw[r1.Z9]at h1;rw[r2.Z9]at h2;rw[r3.Z9]at h3;rw[r4.Z9]at h4;rw[r5.Z9]at h5;obtain⟨A',n',c',rfl,_⟩:=r6.slice;exact⟨b,o,J,A',n',c',rfl,hb,hok,(hbr.cell (p:=⟨b,o+i * 7,none⟩) hb).trans h0,(hbr.cell (p:=⟨b,o+i * 7+1,none⟩) hb).trans h1,(hbr.cell (p:=⟨b,o+i * 7+2,none⟩) hb).trans h2,(hbr.cell (p:=⟨b,o+i * 7+3,none⟩) hb).trans h3,(hbr.cell (p:=⟨b,o+i * 7+4,none⟩) hb).trans h4,(hbr.cell (p:=⟨b,o+i * 7+5,none⟩) hb).trans h5,(hbr.cell (p:=⟨b,o+i * 7+6,none⟩) hb).trans h6,r6⟩
theorem F5.je{w:World}{g:Nat}{t:TypeId}{c0 c1 c2 c3 c4 c5 c6 v0 v1 v2 v3 v4 v5 v6:Value}(h:F5 w g t #[c0,c1,c2,c3,c4,c5,c6]) :
  F5 (((((((w.setCell ⟨g,0,none⟩ v0).setCell ⟨g,1,none⟩ v1).setCell ⟨g,2,none⟩ v2).setCell ⟨g,3,none⟩ v3).setCell ⟨g,4,none⟩ v4).setCell ⟨g,5,none⟩ v5).setCell ⟨g,6,none⟩ v6) g t #[v0,v1,v2,v3,v4,v5,v6]:=by
 have:=((((((h.jb 0 v0).jb 1 v1).jb 2 v2).jb 3 v3).jb 4 v4).jb 5 v5).jb 6 v6;simpa using this
theorem F5.xy{w:World}{g g':Nat}{t:TypeId}{cs:Array Value}(h:F5 w g t cs)(hg:g≠g')(v0 v1 v2 v3 v4 v5 v6:Value) :
  F5 (((((((w.setCell ⟨g',0,none⟩ v0).setCell ⟨g',1,none⟩ v1).setCell ⟨g',2,none⟩ v2).setCell ⟨g',3,none⟩ v3).setCell ⟨g',4,none⟩ v4).setCell ⟨g',5,none⟩ v5).setCell ⟨g',6,none⟩ v6) g t cs :=
 ((((((h.far (p:=⟨g',0,none⟩) hg _).far (p:=⟨g',1,none⟩) hg _).far (p:=⟨g',2,none⟩) hg _).far (p:=⟨g',3,none⟩) hg _).far (p:=⟨g',4,none⟩) hg _).far (p:=⟨g',5,none⟩) hg _).far (p:=⟨g',6,none⟩) hg _
theorem jf{a w:World}(h0:Below a.heap.size a w){g:Nat}(hg:a.heap.size≤g)(v0 v1 v2 v3 v4 v5 v6:Value) :
  Below a.heap.size a (((((((w.setCell ⟨g,0,none⟩ v0).setCell ⟨g,1,none⟩ v1).setCell ⟨g,2,none⟩ v2).setCell ⟨g,3,none⟩ v3).setCell ⟨g,4,none⟩ v4).setCell ⟨g,5,none⟩ v5).setCell ⟨g,6,none⟩ v6) :=
 set2 (set2 (set2 (set2 (set2 (set2 (set2 h0 hg _) hg _) hg _) hg _) hg _) hg _) hg _
theorem F5.gy{w:World}{g:Nat}{t:TypeId}{cs:Array Value}(h:F5 w g t cs):w.frozen? ⟨g,0,none⟩=false∧w.frozen? ⟨g,1,none⟩=false∧w.frozen? ⟨g,2,none⟩=false∧w.frozen? ⟨g,3,none⟩=false∧w.frozen? ⟨g,4,none⟩=false∧w.frozen? ⟨g,5,none⟩=false∧w.frozen? ⟨g,6,none⟩=false :=
 ⟨h.frozen 0,h.frozen 1,h.frozen 2,h.frozen 3,h.frozen 4,h.frozen 5,h.frozen 6⟩
namespace Ob
mutual
def nodes:Ob→Nat
 |⟨_,_,_,_,_,_,l⟩=>if l.length=2 then Qc l+1 else 1
def Qc:List Ob→Nat
 |[]=>0
 |o::r=>nodes o+Qc r
end
theorem NF{o a d:Ob}(h:o.pair=[a,d]):o.nodes=a.nodes+d.nodes+1:=by
 obtain⟨k,n,e,p,s,t,l⟩:=o;simp only at h;subst h;simp only[nodes,Qc,Za1,List.length_nil,ZaP];omega
theorem He{o:Ob}(h:o.pair.length≠2):o.nodes=1:=by
 obtain⟨k,n,e,p,s,t,l⟩:=o;rw[nodes,lw h]
theorem wI(o:Ob):1≤o.nodes:=by
 by_cases h:o.pair.length=2
 ·obtain⟨k,n,e,p,s,t,l⟩:=o;rw[nodes,Za0 h];omega
 ·rw[He h];omega
theorem Gv{l:List Ob}(h:l.length=2):∃a d,l=[a,d]:=by
 match l,h with
 |[a,d],_=>exact⟨a,d,rfl⟩
end Ob
def nT(ok:Nat→Prop)(o:Ob)(w:World)(e:Ending)(w':World):Prop :=
 ∃A n c,e=.returned (N7 o (.slice A n c))∧Rd (fun b=>ok b∨w.heap.size≤b) w' (.slice A n c) (.row (o.pair.map Ob.enc))∧Below w.heap.size w w'
def aI(o:Ob)(w:World)(e:Ending)(w':World):Prop:=e=.returned (N7 o (.slice none 0 0))∧Below w.heap.size w w'
theorem aI.obj{ok:Nat→Prop}{o:Ob}{w w':World}{e:Ending}(h:aI o w e w')(hp:o.pair=[]):nT ok o w e w' :=
 ⟨none,0,0,h.1,by rw[hp];exact .nil _ _,h.2⟩
theorem F5.a2r(w:World)(o o':Obj)(t:TypeId)(cs:Array Value):F5 (((w.alloc o).alloc o').alloc (.cells cs t)) (w.heap.size+1+1) t cs:=by
 have:=F5.new ((w.alloc o).alloc o') t cs;simpa using this
abbrev zeroCells:Array Value:=#[.int .i64 0,.string ⟨#[]⟩,.string ⟨#[]⟩,.string ⟨#[]⟩,.string ⟨#[]⟩,.string ⟨#[]⟩,.slice none 0 0]
abbrev x8:aa0:=[108,105,115,112]
abbrev aQ:aa0:=[110,105,108]
abbrev ou(p s:aa0):Ob:=⟨2,[],[],p,s,[],[]⟩
abbrev U6:Ob:=ou x8 aQ
abbrev tO:Ob:=ou x8 [116]
abbrev numO(n d:aa0):Ob:=⟨1,n,d,[],[],[],[]⟩
abbrev rP(t:aa0):Ob:=⟨3,[],[],[],[],t,[]⟩
abbrev jY(a d:Ob):Ob:=⟨4,[],[],[],[],[],[a,d]⟩
theorem jo{fn:Func}{a:Act}{g r:Nat}{w:World}{t:TypeId}{c0 c1 c2 c3 c4 c5 c6:Value}{R:Ending→World→Prop}(hf:fn.results=#[.cell r 37])(ht:a.tmps[r]?=some (.pointer (some ⟨g,0,none⟩)))(hB:F5 w g t #[c0,c1,c2,c3,c4,c5,c6])(hd:a.defers=[])(hR:R (.returned (.agg #[c0,c1,c2,c3,c4,c5,c6])) w):bodyPost prog fn R .ret a w:=by
 obtain⟨h0,h1,h2,h3,h4,h5,h6,_⟩:=hB.seven;refine bodyPost_ret (v:=.agg #[c0,c1,c2,c3,c4,c5,c6]) ?_ hd hR;simp[results,hf,ht,go_sem,h0,h1,h2,h3,h4,h5,h6]
theorem Na(w:World)(p s:aa0):Calls prog 82 #[.agg #[str p,str s]] w (aI (ou p s) w):=by
 go_enter func82,ntmps82
 go_wp2;exact bodyPost_ret (v:=N7 (ou p s) (.slice none 0 0)) (by simp[results,Tryz.results82,go_sem]) rfl ⟨rfl,dH (box _ _) _⟩
theorem a6I(w:World)(t:aa0):Calls prog 170 #[str t] w (aI (rP t) w):=by
 go_enter func170,ntmps170
 go_wp2;exact bodyPost_ret (v:=N7 (rP t) (.slice none 0 0)) (by simp[results,Tryz.results170,go_sem]) rfl ⟨rfl,box _ _⟩
theorem Nb(w:World)(p s:aa0):Calls prog 59 #[.agg #[str p,str s]] w (aI (ou p s) w):=by
 go_enter func59,ntmps59
 go_wp2;exact bodyPost_ret (v:=N7 (ou p s) (.slice none 0 0)) (by simp[results,Tryz.results59,go_sem]) rfl ⟨rfl,dH (box _ _) _⟩
theorem a6J(w:World)(t:aa0):Calls prog 68 #[str t] w (aI (rP t) w):=by
 go_enter func68,ntmps68
 go_wp2;exact bodyPost_ret (v:=N7 (rP t) (.slice none 0 0)) (by simp[results,Tryz.results68,go_sem]) rfl ⟨rfl,box _ _⟩
def rq(o:Ob)(left r:Int):Prop:=((o.nodes:Int)≤left→r=left - o.nodes)∧(left < o.nodes→r < 0)∧r < left∧(0≤left→-left - 1≤r)∧(left < 0→r=left - 1)
def a90(o:Ob)(left:Int)(w:World)(e:Ending)(w':World):Prop:=∃r:Int,e=.returned (.int .i64 r)∧rq o left r∧Below w.heap.size w w'
theorem rest_end{x:Ob}{m:Int}(h:¬(0 < m∧x.pair.length=2)):rq x m (m - 1):=by
 have hp:=x.wI;refine⟨fun h1=>?_,fun h1=>?_,J,fun h1=>J,fun _=>rfl⟩
 ·have:x.pair.length≠2:=fun e=>h ⟨J,e⟩
  rw[Ob.He this];rfl
 ·rcases Int.lt_or_le 0 m with h2 | h2
  ·have:x.pair.length≠2:=fun e=>h ⟨h2,e⟩
   rw[Ob.He this]at h1;omega
  ·omega
theorem rest_step{x a d:Ob}{m r1 r:Int}(hx:x.pair=[a,d])(hm:0 < m)(h1:rq a (m - 1) r1)(h2:rq d r1 r):rq x m r:=by
 have hn:=Ob.NF hx;have pa:=a.wI;have pd:=d.wI;obtain⟨a1,a2,a3,a4,a5⟩:=h1;obtain⟨b1,b2,b3,b4,b5⟩:=h2;have a4':=a4 J;refine⟨fun h=>?_,fun h=>?_,J,fun _=>?_,fun h=>J⟩
 ·have e1:=a1 J;have e2:=b1 J;omega
 ·by_cases h3:m - 1 < a.nodes
  ·have e1:=a2 h3;have e2:=b5 e1;omega
  ·have e1:=a1 J;exact b2 J
 ·by_cases h3:r1 < 0
  ·have:=b5 h3;omega
  ·have:=b4 J;omega
theorem a7E(ok:Nat→Prop):∀(N:Nat) (o:Ob),o.size≤N→∀(A:Option Addr) (n c:Nat) (left:Int) (w:World),Rd ok w (.slice A n c) (.row (o.pair.map Ob.enc))→-10≤left→left≤3001 →
  Calls prog 252 #[N7 o (.slice A n c),.int .i64 left] w (a90 o left w):=by
 intro N
 induction N with
 |zero=>intro o h;have:=Ob.size_pos o;omega
 |succ N ih =>
  intro o hN A n c left w hP hl0 hl1
  go_enter func252,ntmps252
  go_wp2
  go_loopg [1] o.size (fun gx lv wr=>∃(x:Ob) (m:Int) (A2:Option Addr) (n2 c2:Nat),lv=.int .i64 m∧Hid (F5 wr w.heap.size 37 (aB x (.slice A2 n2 c2)))∧Rd ok w (.slice A2 n2 c2) (.row (x.pair.map Ob.enc))∧x.size≤N+1∧-4000≤m∧m≤3001∧Hid (∀r,rq x m r→rq o left r)∧x.size≤gx∧Below w.heap.size w wr)
  case atStart=>exact⟨o,left,A,n,c,rfl,WP (F5.new w _ _),hP,hN,J,hl1,WP (fun _ h=>h),NE _,box _ _⟩
  case round =>
   obtain⟨x,m,A2,n2,c2,rfl,HB,hr,hxN,hm0,hm1,HR,hg,hb⟩:=hrel;obtain⟨c0,c1,c3,c4,c5,c6,c7,hlt⟩:=HB.out.seven;obtain⟨f0,f1,f2,f3,f4,f5,f6⟩:=HB.out.gy;have hlen:=hr.len;rw[EQ]at hlen;by_cases hc:0 < m∧n2=2
   ·obtain⟨hmp,hn2⟩:=hc;subst hn2;obtain⟨a,d,had⟩:=Ob.Gv hlen;have HST:=WP (fun r1 r=>rest_step (r1:=r1) (r:=r) had hmp);have hsa:=Ob.pF (o:=x) (x:=a) (by rw[had];simp);have hsd:=Ob.pF (o:=x) (x:=d) (by rw[had];simp);rw[had]at hr;clear hlen had;obtain⟨b,q,_,A3,n3,c3',rfl,hbl,_,a0,a1,a2,a3,a4,a5,a6,ha⟩:=hr.jD hb (i:=0) J;simp only[ZaW,Nat.zero_mul,Nat.add_zero]at a0 a1 a2 a3 a4 a5 a6 ha;have JU:=Zaa hbl hb.size;have HC:=WP (ih a J A3 n3 c3' (m - 1) wr (ha.under hb) J J)
    go_wp2_with fail
    refine HC.out.mono ?_;rintro e w1 ⟨r1,rfl,hr1,hb1⟩;have jB:=U3 hb hb1;have HB1:=WP (HB.out.below hb1);clear c0 c1 c3 c4 c5 c6 c7 f0 f1 f2 f3 f4 f5 f6 a0 a1 a2 a3 a4 a5 a6;obtain⟨c0,c1,c3,c4,c5,c6,c7,hlt1⟩:=HB1.out.seven;obtain⟨f0,f1,f2,f3,f4,f5,f6⟩:=HB1.out.gy;obtain⟨b',q',_,A4,n4,TN,eA,_,_,d0,d1,d2,d3,d4,d5,d6,hd⟩:=hr.jD jB (i:=1) J;injection eA with eA
    injection eA with eb eq
    subst eb eq;simp only[ZaW,List.getElem_cons_succ,Nat.one_mul]at d0 d1 d2 d3 d4 d5 d6 hd;have c1W:=Zaa hbl jB.size;have hb4:=hr1.2.2.1;have hb5:=hr1.2.2.2.1 J;have HR1:=WP hr1;clear hr1;go_wp2
    go_roundg d.size
    case measure=>omega
    case rel=>exact⟨d,r1,A4,n4,TN,rfl,WP HB1.out.je,hd,J,J,J,WP (fun r h=>HR.out r (HST.out r1 r HR1.out h)),NE _,jf jB (NE _) _ _ _ _ _ _ _⟩
   ·have HE:Hid (rq o left (m - 1)):=HR.out _ (rest_end (by rw[hlen];exact hc));by_cases hmp:0 < m
    ·have hn2:((n2:Int) == 2)=false:=by rw[IR];omega
     clear hlen hc;go_wp2;go_ret;exact⟨m - 1,rfl,HE.out,hb⟩
    ·clear hlen hc;go_wp2;go_ret;exact⟨m - 1,rfl,HE.out,hb⟩
theorem a7F{o:Ob}{r:Int}(h:rq o 3001 r):3001 - max 0 r=if o.nodes≤3001 then (o.nodes:Int) else 3001:=by
 obtain⟨h1,h2,h3,_,_⟩:=h;have:=o.wI;split
 ·have:=h1 J;omega
 ·have:=h2 J;omega
def aC(o:Ob):Int:=if o.nodes≤3001 then (o.nodes:Int) else 3001
theorem a5Y(ok:Nat→Prop)(o:Ob)(A:Option Addr)(n c:Nat)(w:World)(hP:Rd ok w (.slice A n c) (.row (o.pair.map Ob.enc))) :
  Calls prog 217 #[N7 o (.slice A n c)] w (P6 (.int .i64 (aC o)) w):=by
 go_enter func217,ntmps217
 go_wp2_with fail
 refine (a7E ok o.size o (NE _) A n c 3001 _ (hP.under (box _ _)) J J).mono ?_;rintro e w1 ⟨r,rfl,hr,hb1⟩;have HN:=WP (a7F hr);have h1:=hr.2.2.1;have h2:=hr.2.2.2.1 J;clear hr;by_cases h0:0 < r
 ·have HM:Hid (3001 - r=aC o):=by show _=_;have:=HN.out;unfold aC;omega
  go_wp2;go_ret;exact⟨by first | (rw[←HM.out];rfl) | (rw[show aC o=3001 - max 0 r from HN.out.symm];rfl),via hb1⟩
 ·have HM:Hid (3001=aC o):=by show _=_;have:=HN.out;unfold aC;omega
  go_wp2;go_ret;exact⟨by first | (rw[←HM.out];rfl) | (rw[show aC o=3001 - max 0 r from HN.out.symm];rfl),via hb1⟩
theorem ZP{x:Int}{g:Nat}(h:0 < g):qd x (g:Int)=x / g:=by
 unfold qd;rw[lw J,Za0 J]
theorem zK(x y:Int):bu x y=(Rat.divInt x y).num∧bz x y=((Rat.divInt x y).den:Int):=by
 rw[Rat.num_divInt,Rat.den_divInt];by_cases hy:y=0
 ·subst hy;simp[bu,bz]
 ·have hg:0 < Nat.gcd x.natAbs y.natAbs:=Nat.gcd_pos_of_pos_right _ J;have e:y.gcd x=Nat.gcd x.natAbs y.natAbs:=Nat.gcd_comm _ _;unfold bu bz;rw[lw hy,lw hy,lw hy,ZP hg,ZP hg,e];refine⟨?_,?_⟩
  ·congr 1;unfold lI;split
   ·rw[Int.sign_eq_neg_one_of_neg (by assumption)];omega
   ·rw[Int.sign_eq_one_of_pos J];omega
  ·unfold xW;rw[Int.natCast_ediv];congr 1;split <;> omega
structure Rb (k:Nat) (q:Rat):Prop where
 num:q.num.natAbs < 10 ^ k
 den:q.den < 10 ^ k
 pos:1≤k
theorem Rb.mk'{k:Nat}{x y:Int}(hk:1≤k)(hx:x.natAbs < 10 ^ k)(hy:y.natAbs < 10 ^ k):Rb k (Rat.divInt x y):=by
 refine⟨?_,?_,hk⟩
 ·rw[Rat.num_divInt];refine Nat.lt_of_le_of_lt (Za6 (Int.natAbs_ediv_le_natAbs _ _) ?_) hx;rw[Int.natAbs_mul];rcases Int.lt_trichotomy y 0 with h | h | h
  ·rw[Int.sign_eq_neg_one_of_neg h];simp
  ·subst h;simp
  ·rw[Int.sign_eq_one_of_pos h];simp
 ·rw[Rat.den_divInt];split
  ·exact Nat.one_lt_pow J J
  ·exact Nat.lt_of_le_of_lt (Nat.div_le_self _ _) hy
theorem Rb.mono{k m:Nat}{q:Rat}(h:Rb k q)(hm:k≤m):Rb m q :=
 ⟨Zaa h.num (ZaF J hm),Zaa h.den (ZaF J hm),by have:=h.pos;omega⟩
theorem Rat.add_div(p q:Rat):p+q=Rat.divInt (p.num * q.den+q.num * p.den) (p.den * q.den):=by
 rw[Rat.add_def',←Rat.divInt_ofNat,Int.natCast_mul]
theorem Rat.mul_div(p q:Rat):p * q=Rat.divInt (p.num * q.num) (p.den * q.den):=by
 rw[Rat.mul_def',←Rat.divInt_ofNat,Int.natCast_mul]
theorem BQ{a b k m:Nat}(ha:a < 10 ^ k)(hb:b < 10 ^ m):a * b < 10 ^ (k+m):=by
 rw[Nat.pow_add];exact Nat.mul_lt_mul'' ha hb
theorem Rb.add{k m:Nat}{p q:Rat}(h:Rb k p)(h':Rb m q):Rb (k+m+1) (p+q):=by
 rw[Rat.add_div];have h1:=BQ h.num h'.den;have h2:=BQ h.den h'.num;have h3:=BQ h.den h'.den;have h4:10 ^ (k+m+1)=10 ^ (k+m) * 10:=Zb0 _ _;refine Rb.mk' J ?_ ?_
 ·have e1:(p.num * (q.den:Int)).natAbs=p.num.natAbs * q.den:=by rw[Int.natAbs_mul,Int.natAbs_natCast]
  have e2:(q.num * (p.den:Int)).natAbs=p.den * q.num.natAbs:=by rw[Int.natAbs_mul,Int.natAbs_natCast,Zbb]
  omega
 ·rw[Int.natAbs_mul,Int.natAbs_natCast,Int.natAbs_natCast];omega
theorem Rb.mul{k m:Nat}{p q:Rat}(h:Rb k p)(h':Rb m q):Rb (k+m) (p * q):=by
 rw[Rat.mul_div];have:=h.pos;refine Rb.mk' J ?_ ?_
 ·rw[Int.natAbs_mul];exact BQ h.num h'.num
 ·rw[Int.natAbs_mul,Int.natAbs_natCast,Int.natAbs_natCast];exact BQ h.den h'.den
theorem Rb.neg{k:Nat}{p:Rat}(h:Rb k p):Rb k (-p):=⟨by rw[Rat.neg_num,Int.natAbs_neg];exact h.num,by rw[Rat.neg_den];exact h.den,h.pos⟩
theorem Rb.inv{k:Nat}{p:Rat}(h:Rb k p):Rb k p⁻¹:=by
 rw[Rat.inv_def];exact Rb.mk' h.pos (by rw[Int.natAbs_natCast];exact h.den) h.num
theorem Rb.zero:Rb 1 0:=⟨O,O,O⟩
theorem Rb.rQ{k:Nat}{q:Rat}(h:Rb k q):(Lib.itoa q.num).length≤k+1:=kQ _ h.pos h.num
theorem Rb.uS{k:Nat}{q:Rat}(h:Rb k q):(Lib.itoa (q.den:Int)).length≤k+1:=kQ _ h.pos (by rw[Int.natAbs_natCast];exact h.den)
abbrev ax(q:Rat):Ob:=numO (Lib.itoa q.num) (Lib.itoa (q.den:Int))
theorem a7G{p q:Rat}:ax p=ax q↔p=q:=by
 refine⟨fun h=>?_,fun h=>by rw[h]⟩;injection h with _ h1 h2
 exact Rat.ext (l9.yZ h1) (by have:=l9.yZ h2;omega)
theorem Og(n:Int):ax (n:Rat)=numO (Lib.itoa n) [49]:=by
 have:Lib.itoa 1=[49]:=zi;rw[ax,Rat.num_intCast,Rat.den_intCast];show numO _ (Lib.itoa 1)=_;rw[this]
def Val(o:Ob)(q:Rat):Prop:=(o.kind=1∧o=ax q)∨(o.kind≠1∧q=0)
theorem Val.rat(q:Rat):Val (ax q) q:=.inl ⟨rfl,rfl⟩
def QT(n d:aa0)(w:World)(e:Ending)(w':World):Prop:=∃(A:Option Addr) (c:Nat),e=.returned (N7 (numO n d) (.slice A 0 c))∧Below w.heap.size w w'
abbrev uD(q:Rat)(w:World)(e:Ending)(w':World):Prop:=QT (Lib.itoa q.num) (Lib.itoa (q.den:Int)) w e w'
def gK(p q:Rat):Int:=if p < q then -1 else if q < p then 1 else 0
theorem Nr(p q:Rat):jd (p.num * q.den) (q.num * p.den)=gK p q:=by
 unfold jd gK;simp only[Rat.lt_iff]
theorem a7H{p q:Rat}(h:p.den=q.den):jd p.num q.num=gK p q:=by
 rw[←Nr,h];have hp:0 < (q.den:Int):=by have:=q.den_nz;omega
 unfold jd;simp only[Int.mul_lt_mul_right hp]
theorem a7I(w:World):Calls prog 48 #[] w (aI U6 w):=by
 go_enter func48,ntmps48
 go_wp2_with fail
 refine (Na _ x8 aQ).mono ?_;rintro e w1 ⟨rfl,hb⟩;have HB:=WP (F5.via hb);obtain⟨u0,u1,u2,u3,u4,u5,u6,hu⟩:=HB.out.seven;obtain⟨f0,f1,f2,f3,f4,f5,f6⟩:=HB.out.gy;go_wp2;exact jo Tryz.results48 rfl HB.out.je rfl ⟨rfl,jf (via hb) (NE _) _ _ _ _ _ _ _⟩
theorem b2F(w:World):Calls prog 47 #[] w (aI tO w):=by
 go_enter func47,ntmps47
 go_wp2_with fail
 refine (Na _ x8 [116]).mono ?_;rintro e w1 ⟨rfl,hb⟩;have HB:=WP (F5.via hb);obtain⟨u0,u1,u2,u3,u4,u5,u6,hu⟩:=HB.out.seven;obtain⟨f0,f1,f2,f3,f4,f5,f6⟩:=HB.out.gy;go_wp2;exact jo Tryz.results47 rfl HB.out.je rfl ⟨rfl,jf (via hb) (NE _) _ _ _ _ _ _ _⟩
theorem Vg(a:aa0)(w:World):Calls prog 80 #[str a] w (aI (numO a [49]) w):=by
 go_enter func80,ntmps80
 go_wp2
 go_outline
 exact bodyPost_ret (v:=N7 (numO a [49]) (.slice none 0 0)) (by simp[results,Tryz.results80,go_sem]) rfl ⟨rfl,box _ _⟩
theorem Xi(n:Int)(w:World)(ht:Tab w)(h0:-9223372036854775808≤n)(h1:n≤9223372036854775807):Calls prog 46 #[.int .i64 n] w (aI (numO (Lib.itoa n) [49]) w):=by
 have HF:=WP (fun w' (hb:Below w.heap.size w w')=>a5z n w' (ht.below hb) h0 h1);clear h0 h1
 go_enter func46,ntmps46
 go_wp2_with fail
 refine (HF.out _ (box _ _)).mono ?_;rintro e w1 ⟨rfl,hb⟩
 go_wp2_with fail
 refine (Vg _ _).mono ?_;rintro e w2 ⟨rfl,hb2⟩;have HB:=WP ((F5.via hb).below hb2);obtain⟨u0,u1,u2,u3,u4,u5,u6,hu⟩:=HB.out.seven;obtain⟨f0,f1,f2,f3,f4,f5,f6⟩:=HB.out.gy;go_wp2;exact jo Tryz.results46 rfl HB.out.je rfl ⟨rfl,jf (U3 (via hb) hb2) (NE _) _ _ _ _ _ _ _⟩
theorem a4Q(a b:aa0)(w:World)(ha:a.length≤1100000)(hb:b.length≤1100000)(ht:Tab w):Calls prog 208 #[str a,str b] w (aI (numO (Lib.itoa (bu (l9.D5 a) (l9.D5 b))) (Lib.itoa (bz (l9.D5 a) (l9.D5 b)))) w):=by
 have HF:=WP (fun w' (hw:Below w.heap.size w w')=>Vp a b w' ha hb (ht.below hw));clear ha hb;generalize Lib.itoa (bu (l9.D5 a) (l9.D5 b))=n at *;generalize Lib.itoa (bz (l9.D5 a) (l9.D5 b))=d at *
 go_enter func208,ntmps208
 go_wp2_with fail
 refine (HF.out _ (box _ _)).mono ?_;rintro e w1 ⟨rfl,hb⟩;have HB:=WP (F5.via hb);obtain⟨u0,u1,u2,u3,u4,u5,u6,hu⟩:=HB.out.seven;obtain⟨f0,f1,f2,f3,f4,f5,f6⟩:=HB.out.gy;go_wp2;exact jo Tryz.results208 rfl HB.out.je rfl ⟨rfl,jf (via hb) (NE _) _ _ _ _ _ _ _⟩
theorem a94{ok:Nat→Prop}{a d:Ob}{A A':Option Addr}{n n' c c':Nat}{w:World}{g:Nat}{t:TypeId}(hB:F5 w g t #[.int .i64 a.kind,str a.num,str a.den,str a.sp,str a.sn,str a.text,.slice A n c,.int .i64 d.kind,str d.num,str d.den,str d.sp,str d.sn,str d.text,.slice A' n' c'])
  (hg:ok g) (ha:Rd ok w (.slice A n c) (.row (a.pair.map Ob.enc))) (hd:Rd ok w (.slice A' n' c') (.row (d.pair.map Ob.enc))):Rd ok w (.slice (some ⟨g,0,none⟩) 2 2) (.row ([a,d].map Ob.enc)):=by
 refine Rd.mk (k:=7) rfl (NE _) hB.lt hg (fun i hi=>?_) (fun i j hi hj=>?_)
 ·rw[List.getElem_map,Ob.nJ]
 ·simp only[List.getElem_map,Ob.nJ]at hj;have hi':i < 2:=hi;rw[hB.cell];rcases i with _ | _ | i
  ·rcases j with _ | _ | _ | _ | _ | _ | _ | j
   all_goals first | omega | skip
   all_goals simp only[ZaC,ZaW,Ob.pO,List.getElem_cons_succ]
   all_goals first | exact⟨_,rfl,.val _⟩ | exact⟨_,rfl,ha⟩
  ·rcases j with _ | _ | _ | _ | _ | _ | _ | j
   all_goals first | omega | skip
   all_goals simp only[ZaC,ZaW,Ob.pO,List.getElem_cons_succ]
   all_goals first | exact⟨_,rfl,.val _⟩ | exact⟨_,rfl,hd⟩
  ·omega
theorem Xj(ok:Nat→Prop)(a d:Ob)(A A':Option Addr)(n n' c c':Nat)(w:World){b1 b2 b3:Obj}{t:TypeId}(ha:Rd ok w (.slice A n c) (.row (a.pair.map Ob.enc)))(hd:Rd ok w (.slice A' n' c') (.row (d.pair.map Ob.enc))) :
  nT ok (jY a d) w (.returned (N7 (jY a d) (.slice (some ⟨w.heap.size+1+1+1,0,none⟩) 2 2))) ((((w.alloc b1).alloc b2).alloc b3).alloc (.cells #[.int .i64 a.kind,str a.num,str a.den,str a.sp,str a.sn,str a.text,.slice A n c,.int .i64 d.kind,str d.num,str d.den,str d.sp,str d.sn,str d.text,.slice A' n' c'] t)):=by
 have hb:Below w.heap.size w (((w.alloc b1).alloc b2).alloc b3):=dH (dH (box _ _) _) _;refine⟨_,2,2,rfl,?_,dH hb _⟩;have hB:=F5.new (((w.alloc b1).alloc b2).alloc b3) t #[.int .i64 a.kind,str a.num,str a.den,str a.sp,str a.sn,str a.text,.slice A n c,.int .i64 d.kind,str d.num,str d.den,str d.sp,str d.sn,str d.text,.slice A' n' c'];have e:(((w.alloc b1).alloc b2).alloc b3).heap.size=w.heap.size+1+1+1:=I;rw[e]at hB;exact a94 hB (.inr J) ((ha.under (dH hb _)).mono fun _ h _=>.inl h) ((hd.under (dH hb _)).mono fun _ h _=>.inl h)
theorem a6K(ok:Nat→Prop)(a d:Ob)(A A':Option Addr)(n n' c c':Nat)(w:World)(ha:Rd ok w (.slice A n c) (.row (a.pair.map Ob.enc)))(hd:Rd ok w (.slice A' n' c') (.row (d.pair.map Ob.enc))) :
  Calls prog 167 #[N7 a (.slice A n c),N7 d (.slice A' n' c')] w (nT ok (jY a d) w):=by
 go_enter func167,ntmps167
 go_wp2;exact jo Tryz.results167 rfl ((F5.a2r w _ _ _ _).alloc _) rfl (Xj ok a d A A' n n' c c' w ha hd)
theorem a5Z(a b:aa0)(w:World)(ha:a.length≤1100000)(hb:b.length≤1100000)(ht:Tab w):Calls prog 208 #[str a,str b] w (aI (ax (Rat.divInt (l9.D5 a) (l9.D5 b))) w):=by
 have:=a4Q a b w ha hb ht
 rwa [(zK _ _).1,(zK _ _).2]at this
theorem a7J(o:Ob)(q:Rat)(hv:Val o q)(A:Option Addr)(n c:Nat)(hn:o.pair.length=n)(w:World)(ht:Tab w):Calls prog 206 #[N7 o (.slice A n c)] w (uD q w):=by
 rcases hv with⟨hk,rfl⟩ | ⟨hk,rfl⟩
 ·obtain rfl:n=0:=by rw[←hn];rfl
  clear hk hn;generalize Lib.itoa q.num=ln at *;generalize Lib.itoa (q.den:Int)=ld at *
  go_enter func206,ntmps206
  go_wp2;exact jo Tryz.results206 rfl (F5.rM w _ _ _) rfl ⟨A,c,rfl,dH (box _ _) _⟩
 ·obtain⟨k,nm,d,p,s,t,l⟩:=o;dsimp only at hk;have hz:(k == 1)=false:=by rw[IR];exact hk
  clear hk hn;have HI:Hid (∀w':World,Below w.heap.size w w'→Calls prog 46 #[.int .i64 0] w' (aI (numO (Lib.itoa (0:Rat).num) (Lib.itoa ((0:Rat).den:Int))) w')):=fun w' hb=>by
   have:=Xi 0 w' (ht.below hb) J J
   rwa [←Og]at this
  unfold uD;generalize Lib.itoa (0:Rat).num=ln at *;generalize Lib.itoa ((0:Rat).den:Int)=ld at *
  go_enter func206,ntmps206
  go_wp2_with fail
  refine (HI.out _ (dH (box _ _) _)).mono ?_;rintro e w1 ⟨rfl,hb⟩;have HB:=WP ((F5.rM w _ _ _).below hb);obtain⟨u0,u1,u2,u3,u4,u5,u6,hu⟩:=HB.out.seven;obtain⟨f0,f1,f2,f3,f4,f5,f6⟩:=HB.out.gy;go_wp2;exact jo Tryz.results206 rfl HB.out.je rfl ⟨none,0,rfl,jf (via (via hb)) (Nat.le_succ _) _ _ _ _ _ _ _⟩
theorem a6a(p q:Rat){k m:Nat}(bp:Rb k p)(bq:Rb m q)(hk:k≤10000)(hm:m≤10000)(A A':Option Addr)(n n' c c':Nat)(w:World)(ht:Tab w) :
  Calls prog 211 #[N7 (ax p) (.slice A n c),N7 (ax q) (.slice A' n' c')] w (pR (gK p q) w):=by
 have n1:Num (k+1) (Lib.itoa p.num) p.num:=⟨l9.P9 _,bp.rQ⟩;have d1:Num (k+1) (Lib.itoa (p.den:Int)) p.den:=⟨l9.P9 _,bp.uS⟩;have n2:Num (m+1) (Lib.itoa q.num) q.num:=⟨l9.P9 _,bq.rQ⟩;have d2:Num (m+1) (Lib.itoa (q.den:Int)) q.den:=⟨l9.P9 _,bq.uS⟩;by_cases hd:p.den=q.den
 ·have HC:=fun w'=>WP (Xh n1 n2 J J (a7H hd) w')
  have hd':Lib.itoa (p.den:Int)=Lib.itoa (q.den:Int):=by rw[hd]
  unfold ax;rw[hd'];clear n1 n2 d1 d2 hd hd';generalize Lib.itoa p.num=ln at *;generalize Lib.itoa q.num=rn at *;generalize Lib.itoa (q.den:Int)=rd at *
  go_enter func211,ntmps211
  go_wp2_with fail
  refine (HC _).out.mono ?_;rintro e w1 ⟨rfl,hb⟩;go_wp2;go_ret;exact⟨rfl,via (via hb)⟩
 ·have hd':(Lib.itoa (p.den:Int) == Lib.itoa (q.den:Int))=false:=by rw[IR];exact fun e=>hd (by have:=l9.yZ e;omega)
  have TP:Hid (∀w':World,Below w.heap.size w w'→Calls prog 209 #[str (Lib.itoa p.num),str (Lib.itoa (q.den:Int))] w' (dG (Lib.itoa (p.num * q.den)) w')):=fun w' hb=>a2q n1 d2 J J w' (ht.below hb)
  have TQ:Hid (∀w':World,Below w.heap.size w w'→Calls prog 209 #[str (Lib.itoa q.num),str (Lib.itoa (p.den:Int))] w' (dG (Lib.itoa (q.num * p.den)) w')):=fun w' hb=>a2q n2 d1 J J w' (ht.below hb)
  have HC:Hid (∀w':World,Calls prog 247 #[str (Lib.itoa (p.num * q.den)),str (Lib.itoa (q.num * p.den))] w' (pR (gK p q) w')):=fun w'=>Xh (n1.mul d2) (n2.mul d1) J J (Nr p q) w'
  clear n1 n2 d1 d2 hd;unfold ax;generalize Lib.itoa (p.num * q.den)=l1 at *;generalize Lib.itoa (q.num * p.den)=l2 at *;generalize Lib.itoa p.num=ln at *;generalize Lib.itoa q.num=rn at *;generalize Lib.itoa (p.den:Int)=ld at *;generalize Lib.itoa (q.den:Int)=rd at *
  go_enter func211,ntmps211
  go_wp2_with fail
  have oM:=WP ((F5.new w 37 (aB (numO ln ld) (.slice A n c))).alloc (.cells (aB (numO rn rd) (.slice A' n' c')) 37));have vg:=WP (F5.rM w (.cells (aB (numO ln ld) (.slice A n c)) 37) 37 (aB (numO rn rd) (.slice A' n' c')));have b0:=(dH (box w (.cells (aB (numO ln ld) (.slice A n c)) 37)) (.cells (aB (numO rn rd) (.slice A' n' c')) 37)).drew;generalize (w.alloc (.cells (aB (numO ln ld) (.slice A n c)) 37)).alloc (.cells (aB (numO rn rd) (.slice A' n' c')) 37)=W at *;have X0:=WP oM.out.drew;have Y0:=WP vg.out.drew;obtain⟨TR,Bo,TS,TT,TU,TV,TW,TY⟩:=oM.out.seven;obtain⟨ys0,ys1,ys2,ys3,ys4,ys5,ys6,ysl⟩:=vg.out.seven
  go_region_held3 (fun w'=>w'.cell? ⟨w.heap.size,1,none⟩=some (str ln)∧w'.cell? ⟨w.heap.size,2,none⟩=some (str ld)∧w'.cell? ⟨w.heap.size+1,1,none⟩=some (str rn)∧w'.cell? ⟨w.heap.size+1,2,none⟩=some (str rd)) (go_keep)
   (first | (go_at_call 209;((with_reducible refine (TP.out _ b0).mono ?_));rintro e v1 ⟨rfl,hb1⟩;have b1:=U3 b0 hb1;have X1:=WP (X0.out.below hb1);have Y1:=WP (Y0.out.below hb1);obtain⟨QU,QV,QW,QX,QY,QZ,Rf,Rh⟩:=X1.out.seven;obtain⟨a0X,a0Y,a0Z,a02,a03,a04,a05,a06⟩:=Y1.out.seven) | (go_at_call 209;((with_reducible refine (TQ.out _ b1).mono ?_));rintro e v2 ⟨rfl,hb2⟩;have b2:=U3 b1 hb2;have X2:=WP (X1.out.below hb2);have Y2:=WP (Y1.out.below hb2);obtain⟨Jj,Jk,Jl,Jm,Jn,Jo,Jp,Ri⟩:=X2.out.seven;obtain⟨Rj,Rk,Rl,Rn,Ro,Rq,Rt,a07⟩:=Y2.out.seven) | (go_at_call 247;((with_reducible refine (HC.out _).mono ?_));rintro e v3 ⟨rfl,hb3⟩;have b3:=U3 b2 hb3;have X3:=WP (X2.out.below hb3);have Y3:=WP (Y2.out.below hb3);obtain⟨a08,a09,a1a,a1b,a1c,a1d,a1e,a1f⟩:=X3.out.seven;obtain⟨a1g,a1h,a1i,a1j,a1k,a1l,a1m,a1n⟩:=Y3.out.seven))
  go_wp2;go_ret;exact⟨rfl,b3⟩
theorem xy(w:World){g g':Nat}(hg:g≠g')(i:Nat)(v0 v1 v2 v3 v4 v5 v6:Value) :
  (((((((w.setCell ⟨g',0,none⟩ v0).setCell ⟨g',1,none⟩ v1).setCell ⟨g',2,none⟩ v2).setCell ⟨g',3,none⟩ v3).setCell ⟨g',4,none⟩ v4).setCell ⟨g',5,none⟩ v5).setCell ⟨g',6,none⟩ v6).cell? ⟨g,i,none⟩=w.cell? ⟨g,i,none⟩:=by
 have e:∀(w:World) (j:Nat) (v:Value),(w.setCell ⟨g',j,none⟩ v).cell? ⟨g,i,none⟩=w.cell? ⟨g,i,none⟩:=fun w j v=>World.cell?_of_block (Below.heap_setCell w ⟨g',j,none⟩ v g hg)
 rw[e,e,e,e,e,e,e]
theorem Xk(p q:Rat):decide (gK p q < 0)=decide (p < q):=by
 unfold gK;split
 ·simp[*]
 ·split <;> simp[*]
theorem a6b(o:Ob)(A:Option Addr)(n c:Nat)(w:World):Calls prog 119 #[N7 o (.slice A n c)] w (P6 (.bool (decide (o.kind=2∧o.sp=x8∧o.sn=aQ))) w):=by
 obtain⟨k,nm,d,p,s,t,l⟩:=o;dsimp only;by_cases hk:k=2
 ·subst hk;by_cases h1:p=x8
  ·subst h1;by_cases h2:s=aQ
   ·subst h2;rw[UV ⟨rfl,rfl,rfl⟩]
    go_enter func119,ntmps119
    go_wp2;go_ret;exact⟨rfl,box _ _⟩
   ·rw[WF (fun h=>h2 h.2.2)];have hz:(s == aQ)=false:=by rw[IR];exact h2
    clear h2
    go_enter func119,ntmps119
    go_wp2;go_ret;exact⟨rfl,box _ _⟩
  ·rw[WF (fun h=>h1 h.2.1)];have hz:(p == x8)=false:=by rw[IR];exact h1
   clear h1
   go_enter func119,ntmps119
   go_wp2;go_ret;exact⟨rfl,box _ _⟩
 ·rw[WF (fun h=>hk h.1)];have hz:(k == 2)=false:=by rw[IR];exact hk
  clear hk
  go_enter func119,ntmps119
  go_wp2;go_ret;exact⟨rfl,box _ _⟩
def wZ:List Ob→Ob
 |[]=>U6
 |a::r=>jY a (wZ r)
theorem Rd.xy{ok:Nat→Prop}{w:World}{v:Value}{d:Dt}{g:Nat}(h:Rd ok w v d)(hg:∀b,ok b→b≠g)(v0 v1 v2 v3 v4 v5 v6:Value) :
  Rd ok (((((((w.setCell ⟨g,0,none⟩ v0).setCell ⟨g,1,none⟩ v1).setCell ⟨g,2,none⟩ v2).setCell ⟨g,3,none⟩ v3).setCell ⟨g,4,none⟩ v4).setCell ⟨g,5,none⟩ v5).setCell ⟨g,6,none⟩ v6) v d :=
 ((((((h.far (p:=⟨g,0,none⟩) hg _).far (p:=⟨g,1,none⟩) hg _).far (p:=⟨g,2,none⟩) hg _).far (p:=⟨g,3,none⟩) hg _).far (p:=⟨g,4,none⟩) hg _).far (p:=⟨g,5,none⟩) hg _).far (p:=⟨g,6,none⟩) hg _
theorem drop_cons{l:List Ob}{j:Nat}(h:j < l.length):wZ (l.drop j)=jY l[j] (wZ (l.drop (j+1))):=by
 rw[ZaT h];rfl
structure b7p {α:Type} (f:α→α→Int):Prop where
 rng:∀a b,f a b=-1∨f a b=0∨f a b=1
 swap:∀a b,f b a=- f a b
 zero:∀a b,f a b=0↔a=b
 trans:∀a b c,f a b≤0→f b c≤0→f a c≤0
abbrev Am:aa0→aa0→Int:=Lib.compareBytes
theorem Hf:∀a b:aa0,Am a b=0↔a=b
 |[],[]=>⟨fun _=>rfl,fun _=>rfl⟩
 |[],_::_=>⟨(fun h=>by cases h),(fun h=>by cases h)⟩
 |_::_,[]=>⟨(fun h=>by cases h),(fun h=>by cases h)⟩
 |a::x,b::y=>by
  unfold Am Lib.compareBytes;have:=Hf x y;unfold Am at this;by_cases h1:a < b
  ·rw[Za0 h1];exact⟨(fun h=>by cases h),fun h=>by injection h with h _;subst h;rw[UInt8.lt_iff_toNat_lt]at h1;omega⟩
  ·by_cases h2:b < a
   ·rw[lw h1,Za0 h2];exact⟨(fun h=>by cases h),fun h=>by injection h with h _;subst h;exact absurd h2 h1⟩
   ·rw[lw h1,lw h2,this];have e:a=b:=by
     rw[UInt8.lt_iff_toNat_lt]at h1 h2;exact UInt8.toNat_inj.1 J
    subst e;exact⟨fun h=>by rw[h],fun h=>by injection h⟩
theorem a95:b7p gK where
 rng a b:=by unfold gK;split <;> (try split) <;> simp
 swap a b:=by
  unfold gK;by_cases h1:a < b
  ·have h2:¬b < a:=by grind
   simp only[Za0 h1,lw h2];rfl
  ·by_cases h2:b < a
   ·simp only[lw h1,Za0 h2]
   ·simp only[lw h1,lw h2];rfl
 zero a b:=by
  unfold gK;by_cases h1:a < b
  ·simp only[Za0 h1];exact⟨(fun h=>by cases h),fun h=>by grind⟩
  ·by_cases h2:b < a
   ·simp only[lw h1,Za0 h2];exact⟨(fun h=>by cases h),fun h=>by grind⟩
   ·simp only[lw h1,lw h2];exact⟨fun _=>by grind,fun _=>trivial⟩
 trans a b c:=by
  unfold gK;intro h1 h2;have e1:¬b < a:=fun h=>by
   have:¬a < b:=by grind
   rw[lw this,Za0 h]at h1;omega
  have e2:¬c < b:=fun h=>by
   have:¬b < c:=by grind
   rw[lw this,Za0 h]at h2;omega
  have e3:¬c < a:=by grind
  rw[lw e3];split <;> decide
def Ap(x y:Int):Int:=if x=0 then y else x
theorem Wy{x y:Int}:Ap x y=0↔x=0∧y=0:=by
 unfold Ap;split <;> omega
inductive Tr where
 |num (q:Rat)
 |txt (t:aa0)
 |sym (p s:aa0)
 |cons (a d:Tr)
namespace Tr
def ob:Tr→Ob
 |.num q=>ax q
 |.txt t=>rP t
 |.sym p s=>ou p s
 |.cons a d=>jY a.ob d.ob
def size:Tr→Nat
 |.cons a d=>a.size+d.size+1
 |_=>1
theorem size_pos(t:Tr):1≤t.size:=by cases t <;> simp[size]
theorem IC:∀{a b:Tr},a.ob=b.ob→a=b
 |.num p,.num q,h=>by rw[a7G.1 h]
 |.txt s,.txt t,h=>by injection h with _ _ _ _ _ h;rw[h]
 |.sym p s,.sym p' s',h=>by injection h with _ _ _ h1 h2;rw[h1,h2]
 |.cons a d,.cons a' d',h=>by
  injection h with _ _ _ _ _ _ h
  injection h with h1 h2
  injection h2 with h2
  rw[IC h1,IC h2]
 |.num _,.txt _,h=>by injection h with h;cases h
 |.num _,.sym _ _,h=>by injection h with h;cases h
 |.num _,.cons _ _,h=>by injection h with h;cases h
 |.txt _,.num _,h=>by injection h with h;cases h
 |.txt _,.sym _ _,h=>by injection h with h;cases h
 |.txt _,.cons _ _,h=>by injection h with h;cases h
 |.sym _ _,.num _,h=>by injection h with h;cases h
 |.sym _ _,.txt _,h=>by injection h with h;cases h
 |.sym _ _,.cons _ _,h=>by injection h with h;cases h
 |.cons _ _,.num _,h=>by injection h with h;cases h
 |.cons _ _,.txt _,h=>by injection h with h;cases h
 |.cons _ _,.sym _ _,h=>by injection h with h;cases h
theorem Dx{a b:Tr}:a.ob=b.ob↔a=b:=⟨IC,fun h=>by rw[h]⟩
def Ok(k:Nat):Tr→Prop
 |.num q=>Rb k q
 |.txt t=>t.length≤100000
 |.sym p s=>p.length≤100000∧s.length≤100000
 |.cons a d=>a.Ok k∧d.Ok k
theorem Ok.mono{k m:Nat}(hm:k≤m):∀{t:Tr},t.Ok k→t.Ok m
 |.num _,h=>Rb.mono h hm
 |.txt _,h=>h
 |.sym _ _,h=>h
 |.cons _ _,h=>⟨Ok.mono hm h.1,Ok.mono hm h.2⟩
theorem Ok.wf{k:Nat}(hk:k≤100000):∀{t:Tr},t.Ok k→t.ob.Wf
 |.num q,h=>by
  have h1:=Rb.rQ h;have h2:=Rb.uS h;exact .mk (ax q) (by show (-9223372036854775808:Int)≤1;omega) (by show (1:Int)≤_;omega) (by show (Lib.itoa q.num).length≤_;omega) (by show (Lib.itoa (q.den:Int)).length≤_;omega) (ww _) (ww _) (ww _) (ww _) (fun x hx=>by cases hx)
 |.txt t,h=>by
  have h':t.length≤100000:=h;exact .mk (rP t) (by show (-9223372036854775808:Int)≤3;omega) (by show (3:Int)≤_;omega) (ww _) (ww _) (ww _) (ww _) (by show t.length≤_;omega) (ww _) (fun x hx=>by cases hx)
 |.sym p s,h=>by
  obtain⟨h1,h2⟩:=h;exact .mk (ou p s) (by show (-9223372036854775808:Int)≤2;omega) (by show (2:Int)≤_;omega) (ww _) (ww _) (by show p.length≤_;omega) (by show s.length≤_;omega) (ww _) (ww _) (fun x hx=>by cases hx)
 |.cons a d,h=>by
  have h1:=Ok.wf hk h.1;have h2:=Ok.wf hk h.2;exact .mk (jY a.ob d.ob) (by show (-9223372036854775808:Int)≤4;omega) (by show (4:Int)≤_;omega) (ww _) (ww _) (ww _) (ww _) (ww _) (by show 2≤9223372036854775807;omega) (fun x hx=>by
   simp only[Zao,ZaO,or_false]at hx;rcases hx with rfl | rfl <;> assumption)
def val:Tr→Rat
 |.num q=>q
 |_=>0
theorem IE(t:Tr):Val t.ob t.val:=by
 cases t with
 |num q=>exact Val.rat q
 |txt t=>exact .inr ⟨by show (3:Int)≠1;decide,rfl⟩
 |sym p s=>exact .inr ⟨by show (2:Int)≠1;decide,rfl⟩
 |cons a d=>exact .inr ⟨by show (4:Int)≠1;decide,rfl⟩
theorem Ok.val{k:Nat}{t:Tr}(h:t.Ok k)(hk:1≤k):Rb k t.val:=by
 cases t with
 |num q=>exact h
 |_=>exact Rb.zero.mono hk
def rank:Tr→Int
 |.num _=>0
 |.txt _=>1
 |.sym _ _=>2
 |.cons _ _=>3
def cmp:Tr→Tr→Int
 |.num p,.num q=>gK p q
 |.txt s,.txt t=>Am s t
 |.sym p s,.sym p' s'=>Ap (Am s s') (Am p p')
 |.cons a d,.cons a' d'=>Ap (cmp a a') (cmp d d')
 |x,y=>if x.rank < y.rank then -1 else 1
theorem Oh:∀a b:Tr,cmp a b=0↔a=b
 |.num p,.num q=>(a95.zero p q).trans ⟨fun h=>by rw[h],fun h=>by injection h⟩
 |.txt s,.txt t=>(Hf s t).trans ⟨fun h=>by rw[h],fun h=>by injection h⟩
 |.sym p s,.sym p' s'=>by
  show Ap _ _=0↔_;rw[Wy,Hf,Hf];exact⟨fun h=>by rw[h.1,h.2],fun h=>by injection h with h1 h2;exact⟨h2,h1⟩⟩
 |.cons a d,.cons a' d'=>by
  show Ap _ _=0↔_;rw[Wy,Oh a a',Oh d d'];exact⟨fun h=>by rw[h.1,h.2],fun h=>by injection h with h1 h2;exact⟨h1,h2⟩⟩
 |.num _,.txt _=>⟨(fun h=>by cases h),(fun h=>by cases h)⟩
 |.num _,.sym _ _=>⟨(fun h=>by cases h),(fun h=>by cases h)⟩
 |.num _,.cons _ _=>⟨(fun h=>by cases h),(fun h=>by cases h)⟩
 |.txt _,.num _=>⟨(fun h=>by cases h),(fun h=>by cases h)⟩
 |.txt _,.sym _ _=>⟨(fun h=>by cases h),(fun h=>by cases h)⟩
 |.txt _,.cons _ _=>⟨(fun h=>by cases h),(fun h=>by cases h)⟩
 |.sym _ _,.num _=>⟨(fun h=>by cases h),(fun h=>by cases h)⟩
 |.sym _ _,.txt _=>⟨(fun h=>by cases h),(fun h=>by cases h)⟩
 |.sym _ _,.cons _ _=>⟨(fun h=>by cases h),(fun h=>by cases h)⟩
 |.cons _ _,.num _=>⟨(fun h=>by cases h),(fun h=>by cases h)⟩
 |.cons _ _,.txt _=>⟨(fun h=>by cases h),(fun h=>by cases h)⟩
 |.cons _ _,.sym _ _=>⟨(fun h=>by cases h),(fun h=>by cases h)⟩
def list:List Tr→Tr
 |[]=>.sym x8 aQ
 |a::r=>.cons a (list r)
theorem Yx:∀l:List Tr,(list l).ob=wZ (l.map ob)
 |[]=>rfl
 |a::r=>by show jY a.ob (list r).ob=_;rw[Yx r];rfl
end Tr
def jZ(p:Prop)(w:World)(e:Ending)(w':World):Prop:=∃b:Bool,e=.returned (.bool b)∧(b=true↔p)∧Below w.heap.size w w'
theorem iY{p:Prop}(h:¬p):(false=true)↔p:=⟨(fun e=>by cases e),fun e=>absurd e h⟩
theorem Yy{p:Prop}(h:p):(true=true)↔p:=⟨fun _=>h,fun _=>rfl⟩
theorem Dx(k:Int)(n d p s t:aa0)(l m:List Ob):l=m↔(⟨k,n,d,p,s,t,l⟩:Ob)=⟨k,n,d,p,s,t,m⟩:=⟨fun e=>by rw[e],fun e=>by injection e⟩
theorem a6L{l m:List Ob}{n:Nat}(hl:l.length=n)(hm:m.length=n)(h0:0 < n)(h:∀j (h1:j < l.length) (h2:j < m.length),j < n - 1→l[j]=m[j]):(l[n - 1]'J=m[n - 1]'J)↔l=m:=by
 constructor
 ·intro e;apply List.ext_getElem J;intro i h1 h2;by_cases hi:i < n - 1
  ·exact h i h1 h2 hi
  ·obtain rfl:i=n - 1:=J;exact e
 ·intro e;subst e;rfl
theorem VE(ok ok':Nat→Prop):∀(N:Nat) (a b:Ob),a.size≤N→a.Wf→∀(A A':Option Addr) (n n' c c':Nat) (w:World),Rd ok w (.slice A n c) (.row (a.pair.map Ob.enc))→Rd ok' w (.slice A' n' c') (.row (b.pair.map Ob.enc)) →
  Calls prog 112 #[N7 a (.slice A n c),N7 b (.slice A' n' c')] w (jZ (a=b) w):=by
 intro N
 induction N with
 |zero=>intro a b h;have:=Ob.size_pos a;omega
 |succ N ih =>
  intro a b hN hW A A' n n' c c' w hA hB
  go_enter func112,ntmps112
  go_wp2
  go_loopg [5] a.size (fun gx _ wr=>∃(x y:Ob) (A2 A3:Option Addr) (n2 n3 c2 c3:Nat),Hid (F5 wr w.heap.size 37 (aB x (.slice A2 n2 c2)))∧Hid (F5 wr (w.heap.size+1) 37 (aB y (.slice A3 n3 c3)))∧Rd ok w (.slice A2 n2 c2) (.row (x.pair.map Ob.enc))∧Rd ok' w (.slice A3 n3 c3) (.row (y.pair.map Ob.enc))∧x.size≤N+1∧x.Wf∧Hid (x=y↔a=b)∧x.size≤gx∧Below w.heap.size w wr)
  case atStart=>exact⟨a,b,A,A',n,n',c,c',WP ((F5.new w _ _).alloc _),WP (F5.rM w _ _ _),hA,hB,hN,hW,WP Iff.rfl,NE _,dH (box _ _) _⟩
  case round =>
   obtain⟨⟨xk,xn,xd,xp,xs,xt,xl⟩,⟨yk,yn,yd,yp,ys,yt,yl⟩,A2,A3,n2,n3,c2,c3,HX,HY,hx,hy,hxN,TZ,HI,hg,hb⟩:=hrel;obtain⟨u0,u1,u2,u3,u4,u5,u6,hu⟩:=HX.out.seven;obtain⟨v0,v1,v2,v3,v4,v5,v6,hv⟩:=HY.out.seven;have hxl:=hx.len;have hyl:=hy.len;rw[EQ]at hxl hyl;have hw1:=TZ.len;dsimp only at hxl hyl hw1 u0 u1 u2 u3 u4 u5 u6 v0 v1 v2 v3 v4 v5 v6;have HN:=fun (h:¬((Ob.mk xk xn xd xp xs xt xl)=(Ob.mk yk yn yd yp ys yt yl)))=>WP (fun e=>h (HI.out.2 e))
   by_cases hk:xk=yk
   case neg =>
    have hz:(xk != yk)=true:=by rw[bne_iff_ne];exact hk
    have HF:=HN (fun e=>hk (by injection e));clear HN hk hxl hyl;go_wp2;go_ret;exact⟨false,rfl,iY HF.out,hb⟩
   subst hk;by_cases hn:xn=yn
   case neg =>
    have hz:(xn == yn)=false:=by rw[IR];exact hn
    have HF:=HN (fun e=>hn (by injection e));clear HN hn hxl hyl;go_wp2;go_ret;exact⟨false,rfl,iY HF.out,hb⟩
   subst hn;by_cases hd:xd=yd
   case neg =>
    have hz:(xd == yd)=false:=by rw[IR];exact hd
    have HF:=HN (fun e=>hd (by injection e));clear HN hd hxl hyl;go_wp2;go_ret;exact⟨false,rfl,iY HF.out,hb⟩
   subst hd;by_cases hp:xp=yp
   case neg =>
    have hz:(xp == yp)=false:=by rw[IR];exact hp
    have HF:=HN (fun e=>hp (by injection e));clear HN hp hxl hyl;go_wp2;go_ret;exact⟨false,rfl,iY HF.out,hb⟩
   subst hp;by_cases hs:xs=ys
   case neg =>
    have hz:(xs == ys)=false:=by rw[IR];exact hs
    have HF:=HN (fun e=>hs (by injection e));clear HN hs hxl hyl;go_wp2;go_ret;exact⟨false,rfl,iY HF.out,hb⟩
   subst hs;by_cases ht:xt=yt
   case neg =>
    have hz:(xt == yt)=false:=by rw[IR];exact ht
    have HF:=HN (fun e=>ht (by injection e));clear HN ht hxl hyl;go_wp2;go_ret;exact⟨false,rfl,iY HF.out,hb⟩
   subst ht;by_cases hl:n2=n3
   case neg =>
    have hz:((n2:Int) != (n3:Int))=true:=by rw[bne_iff_ne];omega
    have HF:=HN (fun e=>hl (by injection e with _ _ _ _ _ _ e;rw[←hxl,←hyl,e]));clear HN hl hxl hyl;go_wp2;go_ret;exact⟨false,rfl,iY HF.out,hb⟩
   subst hl;clear HN;have KL:=WP hxl;have KN:=WP hyl;rw[hxl]at hw1;clear hxl hyl;by_cases h0:n2=0
   ·subst h0;have HT:Hid (a=b):=HI.out.1 (by rw[Za9 KL.out,Za9 KN.out]);go_wp2;go_ret;exact⟨true,rfl,Yy HT.out,hb⟩
   ·have hz0:((n2:Int) == 0)=false:=by rw[IR];omega
    go_wp2;clear u0 u1 u2 u3 u4 u5 u6 hu v0 v1 v2 v3 v4 v5 v6 hv
    go_loopw [56] (fun ix wq=>∃i:Nat,i≤n2 - 1∧ix=.int .i64 i∧Hid (∀j (h1:j < xl.length) (h2:j < yl.length),j < i→xl[j]=yl[j])∧Hid (F5 wq w.heap.size 37 (aB ⟨xk,xn,xd,xp,xs,xt,xl⟩ (.slice A2 n2 c2)))∧Hid (F5 wq (w.heap.size+1) 37 (aB ⟨xk,xn,xd,xp,xs,xt,yl⟩ (.slice A3 n2 c3)))∧Below w.heap.size w wq) (fun ix _=>n2 - 1 - (intOf ix).toNat)
    case atStart=>exact⟨0,ww _,rfl,WP (fun j _ _ h=>absurd h J),HX,HY,hb⟩
    case round =>
     clear HX HY hb;obtain⟨i,hi,rfl,HJ,HX,HY,hb⟩:=hrel;obtain⟨u0,u1,u2,u3,u4,u5,u6,hu⟩:=HX.out.seven;obtain⟨v0,v1,v2,v3,v4,v5,v6,hv⟩:=HY.out.seven;obtain⟨f0,f1,f2,f3,f4,f5,f6⟩:=HX.out.gy;obtain⟨g0,g1,g2,g3,g4,g5,g6⟩:=HY.out.gy;by_cases hin:i < n2 - 1
     ·obtain⟨p1,q1,hil,A4,n4,c4,rfl,hp1,_,a0,a1,a2,a3,a4,a5,a6,ha⟩:=hx.jD hb (i:=i) J;obtain⟨p2,q2,a2s,A5,n5,c5,rfl,hp2,_,b0,b1,b2,b3,b4,b5,b6,hb'⟩:=hy.jD hb (i:=i) J;have hp1':=Zaa hp1 hb.size;have hp2':=Zaa hp2 hb.size;have hsz:=Ob.pF (o:=⟨xk,xn,xd,xp,xs,xt,xl⟩) (x:=xl[i]) (Zay hil);have hwf:=TZ.kids (x:=xl[i]) (Zay hil);have HC:Hid (∀wd:World,Below w.heap.size w wd→Calls prog 112 #[N7 xl[i] (.slice A4 n4 c4),N7 yl[i] (.slice A5 n5 c5)] wd (jZ (xl[i]=yl[i]) wd)):=fun wd hd=>ih xl[i] yl[i] J hwf A4 A5 n4 n5 c4 c5 wd (ha.under hd) (hb'.under hd)
      have hi1:(0:Int)≤(i:Int):=J;have hi2:(i:Int) < n2:=J;have hi3:i < n2:=J;have hbd:=hb.drew
      go_upto_region 9 with (fail)
      go_still_tail 10,(by kernel_rfl)
      go_wp2_with fail
      refine (HC.out _ hbd).mono ?_;rintro e w1 ⟨bb,rfl,hbb,hb1⟩;have jB:=U3 hbd hb1;cases bb with
      |false =>
       have HF:Hid (¬a=b):=fun e=>by
        have e2:=HI.out.2 e;injection e2 with _ _ _ _ _ _ e2
        have:=hbb.2 (by subst e2;rfl);cases this
       clear hbb;go_wp2;go_ret;exact⟨false,rfl,iY HF.out,jB⟩
      |true =>
       have HE:=WP (hbb.1 rfl);clear hbb;go_wp2
       go_roundw
       case rel=>exact⟨i+1,J,by go_num,WP (fun j h1 h2 h=>by
        rcases Zai j i with h3 | h3
        ·exact HJ.out j h1 h2 h3
        ·obtain rfl:j=i:=J;exact HE.out),WP (HX.out.drew.below hb1),WP (HY.out.drew.below hb1),jB⟩
       case measure=>simp only[intOf];omega
     ·obtain rfl:i=n2 - 1:=J;obtain⟨p1,q1,hil,A4,n4,c4,rfl,hp1,_,a0,a1,a2,a3,a4,a5,a6,ha⟩:=hx.jD hb (i:=n2 - 1) J;obtain⟨p2,q2,a2s,A5,n5,c5,rfl,hp2,_,b0,b1,b2,b3,b4,b5,b6,hb'⟩:=hy.jD hb (i:=n2 - 1) J;have hp1':=Zaa hp1 hb.size;have hp2':=Zaa hp2 hb.size;have hsz:=Ob.pF (o:=⟨xk,xn,xd,xp,xs,xt,xl⟩) (x:=xl[n2 - 1]) (Zay hil);have hwf:=TZ.kids (x:=xl[n2 - 1]) (Zay hil);have HL:=WP (a6L KL.out KN.out J HJ.out);have hi1:(0:Int)≤(n2:Int) - 1:=J;have hi2:(n2:Int) - 1 < n2:=J;have hi3:((n2:Int) - 1).toNat=n2 - 1:=J;have hbd:=hb.drew
      go_upto_region 12 with (fail)
      have w1:IntKind.i64.wrap ((n2:Int) - 1)=(n2:Int) - 1:=IntWalk.i64_in _ J
      go_region
      clear w1;go_wp2
      go_roundg (xl[n2 - 1].size)
      case measure=>omega
      case rel =>
       exact⟨xl[n2 - 1],yl[n2 - 1],A4,A5,n4,n5,c4,c5,WP ((HX.out.je.xy J _ _ _ _ _ _ _).drew),WP ((HY.out.xy J _ _ _ _ _ _ _).je.drew),ha,hb',J,hwf,WP (HL.out.trans ((Dx xk xn xd xp xs xt xl yl).trans HI.out)),NE _,(jf (jf hb (NE _) _ _ _ _ _ _ _) (Nat.le_succ _) _ _ _ _ _ _ _).drew⟩
def sn(q:Rat):aa0:=Lib.itoa q.num
def sd(q:Rat):aa0:=Lib.itoa (q.den:Int)
abbrev nv(q:Rat)(A:Option Addr)(c:Nat):Value:=N7 (numO (sn q) (sd q)) (.slice A 0 c)
end Go.Proofs.YthhknjlmjefklaaGreatDoor
