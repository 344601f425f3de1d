/- number.Divide whole; number.Gcd; number.Reduce. -/
import Derived.Test.YtdkehabacmlegaaGreatDoorVC
import Derived.Deep.LoopGhost
import Derived.Test.YtdkehabacmlegaaGreatDoorVB
import Derived.Deep.RegionHeld3
import Derived.Deep.RegionLaw
import Derived.Deep.DeepCutAuto
import Derived.StillTailTactics
import Derived.Deep.QuietTactic
import Derived.BigQuiet
import Derived.Lib.Bytealg
import Derived.BigRegion
import Derived.IntWalk
set_option maxRecDepth 100000
set_option maxHeartbeats 4000000
namespace Go.Proofs.YtdkehabacmlegaaGreatDoor
open Tryz
open Go.RowKit
theorem vX(a b:bi)(w:World)(ha:a.length≤2400000)(hb:b.length≤2400000)(ht:Q4 w) :
  Calls prog 236 #[.string ⟨a.toArray⟩,.string ⟨b.toArray⟩] w (dz (Lib.itoa (qd (j4.r9 a) (j4.r9 b))) (Lib.itoa (rm (j4.r9 a) (j4.r9 b))) w):=by
 by_cases hy:j4.r9 b=0
 ·have:=Zi a b w ha hb hy;rw[hy,Pe,Pf,j4.fI];exact this
 ·generalize hx:j4.r9 a=x;generalize hyv:j4.r9 b=y at hy;cases hs:decide (y < 0) with
  |_ =>
   by_cases hd:decide (x < 0)=decide (y < 0)
   ·obtain⟨h1,h2⟩:=Ph hy (hd.trans hs) hs;exact MP a b w ha hb ht x y hx hyv hy _ _ false (hd.trans hs) hs I (.inl rfl) _ _ (Lib.hid (dZ (by simpa using h1))) (Lib.hid (dZ h2))
   ·have hd':decide (x < 0)=!(decide (y < 0)):=by cases h1:decide (x < 0) <;> cases h2:decide (y < 0) <;> simp_all
    rw[hs]at hd';by_cases h0:x.natAbs % y.natAbs=0
    ·obtain⟨h1,h2⟩:=NC hy hd' hs h0;exact MP a b w ha hb ht x y hx hyv hy _ _ true hd' hs I (.inr h0) _ _ (Lib.hid (dZ (by simpa using h1))) (Lib.hid (by rw[h0,zW,h2,j4.fI]))
    ·obtain⟨h1,h2⟩:=Pj hy hd' hs h0;exact Zj a b w ha hb ht x y hx hyv hy _ _ true hd' hs I ⟨rfl,h0⟩ _ _ (Lib.hid (dZ (by simpa using h1))) (Lib.hid (dZ h2))
theorem XY(s:Bool)(A:Option Addr)(n c:Nat)(w:World):(Instr.field 279 (.agg #[.bool s,.slice A n c]) 1).run prog w=.ok (.slice A n c) w:=by kernel_rfl
theorem ND(a b:bi)(w:World)(ha:a.length≤2400000)(hb:b.length≤2400000)(ht:Q4 w) :
  Calls prog 283 #[.string ⟨a.toArray⟩,.string ⟨b.toArray⟩] w (aQ (Lib.itoa (Nat.gcd (j4.r9 a).natAbs (j4.r9 b).natAbs:Nat)) w):=by
 have Q8:Hid (∀w',Calls prog 256 #[.string ⟨a.toArray⟩] w' (fM (a.length+1) (j4.r9 a) w')):=fun w'=>fJ a w' J
 have Q5:Hid (∀w',Calls prog 256 #[.string ⟨b.toArray⟩] w' (fM (b.length+1) (j4.r9 b) w')):=fun w'=>fJ b w' J
 generalize j4.r9 a=x at *;generalize j4.r9 b=y at *;generalize hG:Nat.gcd x.natAbs y.natAbs=G;have HG:=Lib.hid hG;clear hG;have hfl:=XY
 go_enter func283,ntmps283
 go_wp2_with fail
 refine (Q8.out _).mono ?_;rintro e w1 ⟨A1,n1,c1,rfl,hs1,hn1,hb1⟩
 go_wp2_with fail
 refine (Q5.out _).mono ?_;rintro e w2 ⟨A2,n2,c2,rfl,hs2,hn2,hb2⟩;have hbw2:=hb1.trans (hb2.mono hb1.size)
 go_wp2_with fail
 go_loopg [5,6] y.natAbs (fun kx s5 s6 wr=>∃(A B:Option Addr) (n c m d u v:Nat),s5=.slice A n c∧s6=.slice B m d∧Sl wr .u32 A n c (j4.limbs 1000000000 u)∧Sl wr .u32 B m d (j4.limbs 1000000000 v)∧n≤2400001∧m≤2400001∧v≤kx∧Hid (Nat.gcd u v=G)∧Below w.heap.size w wr)
 case atStart=>exact⟨A1,A2,n1,c1,n2,c2,_,_,rfl,rfl,hs1.below hb2,hs2,J,J,Nat.le_refl _,HG,hbw2⟩
 case round =>
  obtain⟨A,B,n,c,m,d,u,v,rfl,rfl,hu,hv,hn,hm,hk,yN,hb⟩:=hrel;by_cases hm0:0 < m
  ·have hv0:0 < v:=by
    rcases Nat.eq_zero_or_pos v with e | e
    ·subst e;have:=hv.len;rw[j4.pM]at this;simp at this;omega
    ·exact e
   have hlr:=Ea (a:=u) hv0 hv.len;have gy:=Nat.mod_lt u hv0;have JU:Hid (Nat.gcd v (u % v)=G):=by show _=_;rw[←yN.out,Nat.gcd_comm v,←Nat.gcd_rec,Nat.gcd_comm]
   have uV:=Lib.hid (EA A B n m c d u v wr hu hv J J hv0)
   go_wp2_with (go_at_call 265;refine uV.out.mono ?_;rintro e w3 ⟨A3,n3,c3,A4,n4,c4,rfl,hs3,hs4,hb3⟩;have mh:n4≤m:=(by rw[←hs4.len];exact hlr))
   go_roundg (u % v)
   case measure=>omega
   case rel=>exact⟨B,A4,m,d,n4,c4,v,u % v,rfl,rfl,hv.below hb3,hs4,hm,J,Nat.le_refl _,JU,hb.trans (hb3.mono hb.size)⟩
  ·have hv0:v=0:=(j4.kW (B:=1000000000) J).1 (List.eq_nil_of_length_eq_zero (by rw[hv.len];omega));subst hv0;have HE:Hid (aP false u=Lib.itoa (G:Int)):=by show _=_;rw[←yN.out,Nat.gcd_zero_right];rfl
   go_wp2_with fail
   refine (pQ false A n c u _ hu J (ht.below hb)).mono ?_;rintro e w3 ⟨rfl,hb3⟩;rw[HE.out];go_wp2;go_ret;exact⟨rfl,hb.trans (hb3.mono hb.size)⟩
def ib(x y:Int):Int:=if y < 0 then -x else x
def qQ(y:Int):Int:=if y < 0 then -y else y
def V9(x y:Int):Int:=if y=0 then 0 else qd (ib x y) (Nat.gcd x.natAbs y.natAbs:Nat)
def W9(x y:Int):Int:=if y=0 then 1 else qd (qQ y) (Nat.gcd x.natAbs y.natAbs:Nat)
theorem tL(x:Int):qd x 1=x:=by simp[qd]
theorem sI:Lib.itoa 1=[49]:=by decide +kernel
theorem zX{v:Int}:(Lib.itoa v == [49])=decide (v=1):=by
 rw[←sI];by_cases h:v=1
 ·subst h;simp
 ·rw[decide_eq_false h,beq_eq_false_iff_ne];exact fun e=>h (j4.vU e)
theorem MQ(l:bi):(Lib.itoa (j4.r9 l)).length≤l.length+1:=by rw[←norm_eq];exact jO l
theorem Pk{K:Nat}{x y:Int}(hK:1≤K)(hx:x.natAbs < 10 ^ K)(hy:y.natAbs < 10 ^ K):(Lib.itoa (Nat.gcd x.natAbs y.natAbs:Nat)).length≤K+1:=by
 have h:Nat.gcd x.natAbs y.natAbs < 10 ^ K:=by
  rcases Nat.eq_zero_or_pos x.natAbs with h1 | h1
  ·rw[h1,Nat.gcd_zero_left];exact hy
  ·exact Nat.lt_of_le_of_lt (Nat.gcd_le_left _ h1) hx
 exact gG ((Nat.gcd x.natAbs y.natAbs:Nat):Int) hK (by rw[Int.natAbs_natCast];exact h)
theorem Es(a b:bi)(w:World)(ha:a.length≤1100000)(hb:b.length≤1100000)(ht:Q4 w) :
    Calls prog 258 #[.string ⟨a.toArray⟩,.string ⟨b.toArray⟩] w (dz (Lib.itoa (V9 (j4.r9 a) (j4.r9 b))) (Lib.itoa (W9 (j4.r9 a) (j4.r9 b))) w):=by
  have yO:=pJ a w J;have yP:∀w',Calls prog 262 #[.string ⟨b.toArray⟩] w' fun e w''=>e=.returned (.string ⟨(norm b).toArray⟩)∧w'=w'':=fun w'=>pJ b w' J
  rw[norm_eq]at yO;simp only[norm_eq]at yP;have hla:=MQ a;have hlb:=MQ b;have oF:=iH (l:=a) (k:=a.length+b.length+1) J;have hbb:=iH (l:=b) (k:=a.length+b.length+1) J;generalize j4.r9 a=x at *;generalize j4.r9 b=y at *;have Ul:(Lib.itoa (Nat.gcd x.natAbs y.natAbs:Nat)).length≤2300000:=by have:=Pk J oF hbb;omega
  have hnx:=gG (-x) (k:=a.length+b.length+1) J (by rw[Int.natAbs_neg];exact oF);have hny:=gG (-y) (k:=a.length+b.length+1) J (by rw[Int.natAbs_neg];exact hbb);have HA:=Lib.hid yO;have HB:=Lib.hid yP;clear yO yP oF hbb;by_cases hy0:y=0
  · subst hy0
    have mi:Hid (V9 x 0=0):=rfl;have ic:Hid (W9 x 0=1):=rfl;have hz:=j4.fI;rw[hz]at HB;clear hz
    go_enter func258,ntmps258
    go_wp2_with fail
    refine HA.out.mono ?_;rintro e w' ⟨rfl,rfl⟩
    go_wp2_with fail
    refine (HB.out _).mono ?_;rintro e w' ⟨rfl,rfl⟩;go_wp2;go_ret2;exact⟨by rw[mi.out,ic.out,j4.fI,sI];rfl,Below.refl _ _⟩
  obtain⟨D1,hD1⟩:∃D1:ByteArray,D1=⟨(Lib.itoa x).toArray⟩:=⟨_,rfl⟩;obtain⟨D2,hD2⟩:∃D2:ByteArray,D2=⟨(Lib.itoa y).toArray⟩:=⟨_,rfl⟩;rw[←hD1]at HA;rw[←hD2]at HB;have HT2:Hid (D2.data.toList=Lib.itoa y):=by rw[hD2];exact (rfl:(Lib.itoa y).toArray.toList=_)
  have HD1:=Lib.hid hD1;have HD2:=Lib.hid hD2;clear hD1 hD2;have hE0:(D2.toList == [48])=false:=by rw[Lib.toList_data,HT2.out];simpa using Lm hy0
  by_cases hy1:y=1
  · subst hy1
    have hE1:(D2.toList == [49])=true:=by rw[Lib.toList_data,HT2.out,sI];rfl
    have mi:Hid (V9 x 1=x):=by show _=_;simp[V9,ib,tL]
    have ic:Hid (W9 x 1=1):=by show _=_;simp[W9,qQ,tL]
    go_enter func258,ntmps258
    go_wp2_with fail
    refine HA.out.mono ?_;rintro e w' ⟨rfl,rfl⟩
    go_wp2_with fail
    refine (HB.out _).mono ?_;rintro e w' ⟨rfl,rfl⟩;go_wp2;go_ret2;exact⟨by rw[mi.out,ic.out,←HD1.out,←HD2.out];rfl,Below.refl _ _⟩
  have hE1:(D2.toList == [49])=false:=by rw[Lib.toList_data,HT2.out,zX,decide_eq_false hy1]
  by_cases hn:y < 0
  · obtain⟨hp,e0⟩:=Ad (HT2.out.trans (pK hn))
    have lU:((D2[0].toNat:Int) == 45)=true:=by rw[e0];rfl
    have Vz:Hid (∀w',Calls prog 264 #[.string D1] w' (jW (.string ⟨(Lib.itoa (-x)).toArray⟩) w')):=fun w'=>by
      have:=EB (Lib.itoa x) w' J;rw[j4.K5]at this;rw[HD1.out];exact this
    have VA:Hid (∀w',Calls prog 264 #[.string D2] w' (jW (.string ⟨(Lib.itoa (-y)).toArray⟩) w')):=fun w'=>by
      have:=EB (Lib.itoa y) w' J;rw[j4.K5]at this;rw[HD2.out];exact this
    have Jd:Hid (V9 x y=qd (-x) (Nat.gcd x.natAbs y.natAbs:Nat)):=by show _=_;simp[V9,ib,hy0,hn]
    have Je:Hid (W9 x y=qd (-y) (Nat.gcd x.natAbs y.natAbs:Nat)):=by show _=_;simp[W9,qQ,hy0,hn]
    have Jf:Hid (Nat.gcd (-x).natAbs (-y).natAbs=Nat.gcd x.natAbs y.natAbs):=by show _=_;rw[Int.natAbs_neg,Int.natAbs_neg]
    have yQ:(Lib.itoa (-x)).length≤2400000:=J;have yR:(Lib.itoa (-y)).length≤2400000:=J;clear e0 hy0 hy1 hn;generalize -x=X at *;generalize -y=Y at *;have kJ:=Lib.hid (ND (Lib.itoa X) (Lib.itoa Y) w yQ yR ht);rw[j4.K5,j4.K5]at kJ;have VB:Hid (Nat.gcd X.natAbs Y.natAbs=Nat.gcd x.natAbs y.natAbs):=Jf;rw[VB.out]at kJ;have hgl:(Lib.itoa (Nat.gcd x.natAbs y.natAbs:Nat)).length≤2300000:=Ul;have hone:=zX (v:=(Nat.gcd x.natAbs y.natAbs:Nat));have JV:Hid (∀w',Q4 w'→Calls prog 236 #[.string ⟨(Lib.itoa X).toArray⟩,.string ⟨(Lib.itoa (Nat.gcd x.natAbs y.natAbs:Nat)).toArray⟩] w' (dz (Lib.itoa (qd X (Nat.gcd x.natAbs y.natAbs:Nat))) (Lib.itoa (rm X (Nat.gcd x.natAbs y.natAbs:Nat))) w')):=fun w' ht'=>by
      have:=vX (Lib.itoa X) (Lib.itoa (Nat.gcd x.natAbs y.natAbs:Nat)) w' yQ J ht'
      rwa [j4.K5,j4.K5]at this
    have JW:Hid (∀w',Q4 w'→Calls prog 236 #[.string ⟨(Lib.itoa Y).toArray⟩,.string ⟨(Lib.itoa (Nat.gcd x.natAbs y.natAbs:Nat)).toArray⟩] w' (dz (Lib.itoa (qd Y (Nat.gcd x.natAbs y.natAbs:Nat))) (Lib.itoa (rm Y (Nat.gcd x.natAbs y.natAbs:Nat))) w')):=fun w' ht'=>by
      have:=vX (Lib.itoa Y) (Lib.itoa (Nat.gcd x.natAbs y.natAbs:Nat)) w' yR J ht'
      rwa [j4.K5,j4.K5]at this
    have mi:Hid (V9 x y=qd X (Nat.gcd x.natAbs y.natAbs:Nat)):=Jd;have ic:Hid (W9 x y=qd Y (Nat.gcd x.natAbs y.natAbs:Nat)):=Je;generalize Nat.gcd x.natAbs y.natAbs=G at *;by_cases hG1:(G:Int)=1
    · have Jg:Hid (V9 x y=X):=by show _=_;rw[mi.out,hG1,tL]
      have Jh:Hid (W9 x y=Y):=by show _=_;rw[ic.out,hG1,tL]
      rw[decide_eq_true hG1]at hone;clear hG1
      go_enter func258,ntmps258
      go_wp2_with fail
      refine HA.out.mono ?_;rintro e w' ⟨rfl,rfl⟩
      go_wp2_with fail
      refine (HB.out _).mono ?_;rintro e w' ⟨rfl,rfl⟩
      go_wp2_with fail
      refine (Vz.out _).mono ?_;rintro e w' ⟨rfl,rfl⟩
      go_wp2_with fail
      refine (VA.out _).mono ?_;rintro e w' ⟨rfl,rfl⟩
      go_wp2_with fail
      refine kJ.out.mono ?_;rintro e w1 ⟨rfl,hb1⟩;go_wp2;go_ret2;exact⟨by rw[Jg.out,Jh.out];rfl,hb1⟩
    · rw[decide_eq_false hG1]at hone
      clear hG1
      go_enter func258,ntmps258
      go_wp2_with fail
      refine HA.out.mono ?_;rintro e w' ⟨rfl,rfl⟩
      go_wp2_with fail
      refine (HB.out _).mono ?_;rintro e w' ⟨rfl,rfl⟩
      go_wp2_with fail
      refine (Vz.out _).mono ?_;rintro e w' ⟨rfl,rfl⟩
      go_wp2_with fail
      refine (VA.out _).mono ?_;rintro e w' ⟨rfl,rfl⟩
      go_wp2_with fail
      refine kJ.out.mono ?_;rintro e w1 ⟨rfl,hb1⟩
      go_wp2_with fail
      refine (JV.out _ (ht.below hb1)).mono ?_;rintro e w2 ⟨rfl,hb2⟩;have hbw2:=hb1.trans (hb2.mono hb1.size)
      go_wp2_with fail
      refine (JW.out _ (ht.below hbw2)).mono ?_;rintro e w3 ⟨rfl,hb3⟩;go_wp2;go_ret2;exact⟨by rw[mi.out,ic.out];rfl,hbw2.trans (hb3.mono hbw2.size)⟩
  · obtain⟨c,r,hcr,_⟩:=j4.rU (u:=y.natAbs) J
    have hD3:D2.data.toList=c::r:=by rw[HT2.out,rY J,hcr]
    obtain⟨hp,e0⟩:=Ad hD3;have h45:c≠45:=j4.vL (r:=r) (by rw[←hcr];exact j4.pI _);have lU:((D2[0].toNat:Int) == 45)=false:=by
      rw[e0,beq_eq_false_iff_ne];intro e;exact h45 (UInt8.toNat_inj.1 (by
                                       have:c.toNat=45:=J;simpa using this))
    have Jd:Hid (V9 x y=qd x (Nat.gcd x.natAbs y.natAbs:Nat)):=by show _=_;simp[V9,ib,hy0,hn]
    have Je:Hid (W9 x y=qd y (Nat.gcd x.natAbs y.natAbs:Nat)):=by show _=_;simp[W9,qQ,hy0,hn]
    have Jf:Hid (Nat.gcd x.natAbs y.natAbs=Nat.gcd x.natAbs y.natAbs):=(rfl:Nat.gcd x.natAbs y.natAbs=_);have yQ:(Lib.itoa x).length≤2400000:=J;have yR:(Lib.itoa y).length≤2400000:=J;clear e0 hy0 hy1 hn hD3 h45 hcr;have kJ:=Lib.hid (ND (Lib.itoa x) (Lib.itoa y) w yQ yR ht);rw[j4.K5,j4.K5]at kJ;have VB:Hid (Nat.gcd x.natAbs y.natAbs=Nat.gcd x.natAbs y.natAbs):=Jf;have kJ:=Lib.hid (show Calls prog 283 #[.string D1,.string D2] w (aQ (Lib.itoa (Nat.gcd x.natAbs y.natAbs:Nat)) w) by rw[HD1.out,HD2.out];exact kJ.out);have hgl:(Lib.itoa (Nat.gcd x.natAbs y.natAbs:Nat)).length≤2300000:=Ul;have hone:=zX (v:=(Nat.gcd x.natAbs y.natAbs:Nat));have JV:Hid (∀w',Q4 w'→Calls prog 236 #[.string D1,.string ⟨(Lib.itoa (Nat.gcd x.natAbs y.natAbs:Nat)).toArray⟩] w' (dz (Lib.itoa (qd x (Nat.gcd x.natAbs y.natAbs:Nat))) (Lib.itoa (rm x (Nat.gcd x.natAbs y.natAbs:Nat))) w')):=fun w' ht'=>by
      have:=vX (Lib.itoa x) (Lib.itoa (Nat.gcd x.natAbs y.natAbs:Nat)) w' yQ J ht';rw[j4.K5,j4.K5]at this;rw[HD1.out];exact this
    have JW:Hid (∀w',Q4 w'→Calls prog 236 #[.string D2,.string ⟨(Lib.itoa (Nat.gcd x.natAbs y.natAbs:Nat)).toArray⟩] w' (dz (Lib.itoa (qd y (Nat.gcd x.natAbs y.natAbs:Nat))) (Lib.itoa (rm y (Nat.gcd x.natAbs y.natAbs:Nat))) w')):=fun w' ht'=>by
      have:=vX (Lib.itoa y) (Lib.itoa (Nat.gcd x.natAbs y.natAbs:Nat)) w' yR J ht';rw[j4.K5,j4.K5]at this;rw[HD2.out];exact this
    have mi:Hid (V9 x y=qd x (Nat.gcd x.natAbs y.natAbs:Nat)):=Jd;have ic:Hid (W9 x y=qd y (Nat.gcd x.natAbs y.natAbs:Nat)):=Je;generalize Nat.gcd x.natAbs y.natAbs=G at *;by_cases hG1:(G:Int)=1
    · have Jg:Hid (V9 x y=x):=by show _=_;rw[mi.out,hG1,tL]
      have Jh:Hid (W9 x y=y):=by show _=_;rw[ic.out,hG1,tL]
      rw[decide_eq_true hG1]at hone;clear hG1
      go_enter func258,ntmps258
      go_wp2_with fail
      refine HA.out.mono ?_;rintro e w' ⟨rfl,rfl⟩
      go_wp2_with fail
      refine (HB.out _).mono ?_;rintro e w' ⟨rfl,rfl⟩
      go_wp2_with fail
      refine kJ.out.mono ?_;rintro e w1 ⟨rfl,hb1⟩;go_wp2;go_ret2;exact⟨by rw[Jg.out,Jh.out,←HD1.out,←HD2.out];rfl,hb1⟩
    · rw[decide_eq_false hG1]at hone
      clear hG1
      go_enter func258,ntmps258
      go_wp2_with fail
      refine HA.out.mono ?_;rintro e w' ⟨rfl,rfl⟩
      go_wp2_with fail
      refine (HB.out _).mono ?_;rintro e w' ⟨rfl,rfl⟩
      go_wp2_with fail
      refine kJ.out.mono ?_;rintro e w1 ⟨rfl,hb1⟩
      go_wp2_with fail
      refine (JV.out _ (ht.below hb1)).mono ?_;rintro e w2 ⟨rfl,hb2⟩;have hbw2:=hb1.trans (hb2.mono hb1.size)
      go_wp2_with fail
      refine (JW.out _ (ht.below hbw2)).mono ?_;rintro e w3 ⟨rfl,hb3⟩;go_wp2;go_ret2;exact⟨by rw[mi.out,ic.out];rfl,hbw2.trans (hb3.mono hbw2.size)⟩
structure Num (k:Nat) (l:bi) (X:Int):Prop where
 val:j4.r9 l=X
 len:l.length≤k
theorem Num.abs{k:Nat}{l:bi}{X:Int}(h:Num k l X):X.natAbs < 10 ^ k:=by rw[←h.val];exact iH h.len
theorem Num.mul{k m:Nat}{l r:bi}{X Y:Int}(h:Num k l X)(h':Num m r Y):Num (k+m+2) (Lib.itoa (X * Y)) (X * Y):=by
 refine⟨j4.K5 _,gG _ (k:=k+m+1) J ?_⟩;rw[Int.natAbs_mul,Nat.pow_succ,Nat.pow_add];have h1:=h.abs;have h2:=h'.abs;have:X.natAbs * Y.natAbs≤10 ^ k * 10 ^ m:=Nat.mul_le_mul J J;have:0 < 10 ^ k * 10 ^ m:=Nat.mul_pos (Nat.pow_pos J) (Nat.pow_pos J);omega
theorem Um{k m:Nat}{l r:bi}{X Y:Int}(h:Num k l X)(h':Num m r Y)(hk:k≤100000)(hm:m≤100000)(w:World)(ht:Q4 w) :
  Calls prog 226 #[.string ⟨l.toArray⟩,.string ⟨r.toArray⟩] w (aQ (Lib.itoa (X * Y)) w):=by
 have:=NB l r w (by have:=h.len;omega) (by have:=h'.len;omega) ht
 rwa [h.val,h'.val]at this
theorem NF{k m:Nat}{l r:bi}{X Y V:Int}(h:Num k l X)(h':Num m r Y)(hk:k≤100000)(hm:m≤100000)(hv:dV X Y=V)(w:World) :
  Calls prog 263 #[.string ⟨l.toArray⟩,.string ⟨r.toArray⟩] w (jY V w):=by
 have:=XA l r w (by have:=h.len;omega) (by have:=h'.len;omega)
 rwa [h.val,h'.val,hv]at this
theorem Lr:∀(l:bi) (a:Nat),j4.O4 l=true→Lib.decFrom a l=some (l.foldl (fun a c=>a * 10+(c.toNat - 48)) a)
 |[],_,_=>rfl
 |c::r,a,h=>by
  simp only[j4.O4,List.all_cons,Bool.and_eq_true,j4.aD,decide_eq_true_eq]at h;have hd:Lib.digitVal c=some (c.toNat - 48):=by simp[Lib.digitVal,h.1]
  simp only[Lib.decFrom,hd,List.foldl_cons];exact Lr r _ (by simp only[j4.O4];exact h.2)
theorem XZ{l:bi}(h:j4.O4 l=true)(h0:l≠[]):Lib.decNat l=some (j4.M6 l):=by
 have:l.isEmpty=false:=by cases l with
  |nil=>exact absurd rfl h0
  |cons=>rfl
 simp only[Lib.decNat,this,Bool.false_eq_true,if_false];exact Lr l 0 h
theorem Zk(l:bi):Lib.atoi (norm l)=some (j4.r9 l):=by
 have h1:=(vV l).1;have h2:=(vV l).2.1;have hd:=Fe l;rw[←EI l];generalize norm l=s at h1 h2 hd;have hn:=XZ h1 h2;simp only[j4.r9,hd,if_true];cases dI:j4.neg s with
 |true =>
  have he:=j4.zV dI;generalize j4.mag s=m at he hn;subst he;simp[Lib.atoi,hn]
 |false =>
  have he:=j4.si dI;rw[he]at hn h1 h2 ⊢
  cases s with
  |nil=>exact absurd rfl h2
  |cons c r =>
   have h45:c≠45:=j4.vL h1;have h43:c≠43:=by
    rintro rfl;simp[j4.O4,j4.aD]at h1
   simp[Lib.atoi,hn,h45,h43]
theorem Ls(l:bi):(norm l).length≤(j4.mag (norm l)).length+1:=by
 cases h:j4.neg (norm l) with
 |true=>have:=congrArg List.length (j4.zV h);simp only[List.length_cons]at this;omega
 |false=>rw[j4.si h];omega
def Aq(n:Int)(b:Bool)(w:World)(e:Ending)(w':World):Prop:=e=.returned (.tuple #[.int .i64 n,.bool b])∧Below w.heap.size w w'
theorem a0q(l:bi)(w:World)(hl:l.length≤2500000)(h9:9 < (j4.mag (norm l)).length) :
  Calls prog 229 #[.string ⟨l.toArray⟩] w (Aq 0 false w):=by
 have HD:=Lib.hid (vG l w hl);have hnl:=jO l;have gy:=j4.iF (norm l);generalize (j4.mag (norm l)).length=k at HD h9 gy
 go_enter func229,ntmps229
 go_wp2_with fail
 refine HD.out.mono ?_;rintro e w' ⟨rfl,rfl⟩;go_wp2;go_ret2;exact⟨rfl,Below.refl _ _⟩
theorem Zl(l:bi)(w:World)(hl:l.length≤2500000)(h9:(j4.mag (norm l)).length≤9) :
  Calls prog 229 #[.string ⟨l.toArray⟩] w (Aq (j4.r9 l) true w):=by
 have HD:=Lib.hid (vG l w hl);have HE:=Lib.hid (pJ l w J);have hln:=Ls l;have HA:=Lib.hid (Tryz.strconv_Atoi ⟨(norm l).toArray⟩ (j4.r9 l) (by rw[Lib.size_eq];show (norm l).length≤_;omega) (Zk l) w);generalize (j4.mag (norm l)).length=k at HD h9
 go_enter func229,ntmps229
 go_wp2_with fail
 refine HD.out.mono ?_;rintro e w' ⟨rfl,rfl⟩
 go_wp2_with fail
 refine HE.out.mono ?_;rintro e w' ⟨rfl,rfl⟩
 go_wp2_with fail
 refine HA.out.mono ?_;rintro e w' ⟨rfl,t,rfl⟩;go_wp2;go_ret2;exact⟨rfl,Lib.bytesWorld_below _ _ _⟩
structure Ob where
 kind:Int
 num:bi
 den:bi
 sp:bi
 sn:bi
 text:bi
 pair:List Ob
namespace Ob
mutual
def enc:Ob→List Dt
 |⟨k,n,d,p,s,t,l⟩=>[.val (.int .i64 k),.val (str n),.val (str d),.val (str p),.val (str s),.val (str t),.row (y8 l)]
def y8:List Ob→bv
 |[]=>[]
 |o::r=>enc o::y8 r
end
mutual
def size:Ob→Nat
 |⟨_,_,_,_,_,_,l⟩=>dC l+1
def dC:List Ob→Nat
 |[]=>0
 |o::r=>size o+dC r
end
theorem Fg(l:List Ob):y8 l=l.map enc:=by
 induction l with
 |nil=>rfl
 |cons o r ih=>rw[y8,ih];rfl
theorem lD(o:Ob):o.enc=[.val (.int .i64 o.kind),.val (str o.num),.val (str o.den),.val (str o.sp),.val (str o.sn),.val (str o.text),.row (o.pair.map enc)]:=by
 cases o;rw[enc,Fg]
theorem jV(o:Ob):o.enc.length=7:=by rw[lD];rfl
theorem size_pos(o:Ob):0 < o.size:=by cases o;rw[size];omega
theorem EJ{l:List Ob}{o:Ob}(h:o∈l):o.size≤dC l:=by
 induction l with
 |nil=>cases h
 |cons x r ih =>
  rw[dC];rcases List.mem_cons.1 h with rfl | h
  ·omega
  ·have:=ih h;omega
theorem iI{o x:Ob}(h:x∈o.pair):x.size < o.size:=by
 cases o with
 |mk k n d p s t l =>
  rw[size];have:=EJ (l:=l) h;omega
theorem ind{motive:Ob→Prop}(step:∀o,(∀x∈o.pair,motive x)→motive o)(o:Ob):motive o:=by
 have:∀n (o:Ob),o.size≤n→motive o:=by
  intro n
  induction n with
  |zero=>intro o h;have:=size_pos o;omega
  |succ n ih=>intro o h;exact step o fun x hx=>ih x (by have:=iI hx;omega)
 exact this o.size o (Nat.le_refl _)
inductive Wf:Ob→Prop
 |mk (o:Ob) (hk0:-9223372036854775808≤o.kind) (hk1:o.kind≤9223372036854775807) (hn:o.num.length≤9223372036854775807) (hd:o.den.length≤9223372036854775807) (hp:o.sp.length≤9223372036854775807) (hs:o.sn.length≤9223372036854775807) (ht:o.text.length≤9223372036854775807) (hl:o.pair.length≤9223372036854775807) (h:∀x∈o.pair,Wf x):Wf o
theorem Wf.kids{o x:Ob}(h:o.Wf)(hx:x∈o.pair):x.Wf:=by
 cases h with
 |mk _ _ _ _ _ _ _ _ _ h=>exact h x hx
theorem Wf.len{o:Ob}(h:o.Wf):o.pair.length≤9223372036854775807:=by
 cases h with
 |mk _ _ _ _ _ _ _ _ hl _=>exact hl
end Ob
abbrev F5(o:Ob)(P:Value):Value:=.agg #[.int .i64 o.kind,str o.num,str o.den,str o.sp,str o.sn,str o.text,P]
abbrev R8(o:Ob)(P:Value):Array Value:=#[.int .i64 o.kind,str o.num,str o.den,str o.sp,str o.sn,str o.text,P]
theorem Rd.dD{ok:Nat→Prop}{w wr:World}{A:Option Addr}{n c:Nat}{l:List Ob}(h:Rd ok w (.slice A n c) (.row (l.map Ob.enc)))(hbr:Below w.heap.size w wr){i:Nat}(hi:i < n) :
  ∃(b o:Nat) (hl:i < l.length) (A':Option Addr) (n' c':Nat),A=some ⟨b,o,none⟩∧b < w.heap.size∧ok b ∧
   wr.cell? ⟨b,o+i * 7,none⟩=some (.int .i64 (l[i]).kind)∧wr.cell? ⟨b,o+i * 7+1,none⟩=some (str (l[i]).num)∧wr.cell? ⟨b,o+i * 7+2,none⟩=some (str (l[i]).den)∧wr.cell? ⟨b,o+i * 7+3,none⟩=some (str (l[i]).sp) ∧
   wr.cell? ⟨b,o+i * 7+4,none⟩=some (str (l[i]).sn)∧wr.cell? ⟨b,o+i * 7+5,none⟩=some (str (l[i]).text)∧wr.cell? ⟨b,o+i * 7+6,none⟩=some (.slice A' n' c')∧Rd ok w (.slice A' n' c') (.row ((l[i]).pair.map Ob.enc)):=by
 have hlen:=h.len;rw[List.length_map]at hlen;obtain⟨b,o,k,rfl,hb,hok,hk,hf⟩:=h.cells J;have e:(l.map Ob.enc)[i]'(by rw[List.length_map];omega)=(l[i]'J).enc:=List.getElem_map _;have hk':=hk i (by rw[List.length_map];omega);rw[e,Ob.jV]at hk';subst hk';have hf':∀j (hj:j < 7),∃u,w.cell? ⟨b,o+i * 7+j,none⟩=some u∧Rd ok w u ((l[i]'J).enc[j]'(by rw[Ob.jV];exact hj)):=fun j hj=>by
  obtain⟨u,h1,h2⟩:=hf i j (by rw[List.length_map];omega) (by rw[e,Ob.jV];exact hj);simp only[e]at h2;exact⟨u,h1,h2⟩
 simp only[Ob.lD]at hf';obtain⟨u0,h0,r0⟩:=hf' 0 J;obtain⟨u1,h1,r1⟩:=hf' 1 J;obtain⟨u2,h2,r2⟩:=hf' 2 J;obtain⟨u3,h3,r3⟩:=hf' 3 J;obtain⟨u4,h4,r4⟩:=hf' 4 J;obtain⟨u5,h5,r5⟩:=hf' 5 J;obtain⟨u6,h6,r6⟩:=hf' 6 J;simp only[List.getElem_cons_zero,List.getElem_cons_succ]at r0 r1 r2 r3 r4 r5 r6;rw[r0.Q9]at h0;rw[r1.Q9]at h1;rw[r2.Q9]at h2;rw[r3.Q9]at h3;rw[r4.Q9]at h4;rw[r5.Q9]at h5;obtain⟨A',n',c',rfl,_⟩:=r6.slice;exact⟨b,o,J,A',n',c',rfl,hb,hok,(hbr.cell (p:=⟨b,o+i * 7,none⟩) hb).trans h0,(hbr.cell (p:=⟨b,o+i * 7+1,none⟩) hb).trans h1,(hbr.cell (p:=⟨b,o+i * 7+2,none⟩) hb).trans h2,(hbr.cell (p:=⟨b,o+i * 7+3,none⟩) hb).trans h3,(hbr.cell (p:=⟨b,o+i * 7+4,none⟩) hb).trans h4,(hbr.cell (p:=⟨b,o+i * 7+5,none⟩) hb).trans h5,(hbr.cell (p:=⟨b,o+i * 7+6,none⟩) hb).trans h6,r6⟩
theorem y9.dE{w:World}{g:Nat}{t:TypeId}{c0 c1 c2 c3 c4 c5 c6 v0 v1 v2 v3 v4 v5 v6:Value}(h:y9 w g t #[c0,c1,c2,c3,c4,c5,c6]) :
  y9 (((((((w.setCell ⟨g,0,none⟩ v0).setCell ⟨g,1,none⟩ v1).setCell ⟨g,2,none⟩ v2).setCell ⟨g,3,none⟩ v3).setCell ⟨g,4,none⟩ v4).setCell ⟨g,5,none⟩ v5).setCell ⟨g,6,none⟩ v6) g t #[v0,v1,v2,v3,v4,v5,v6]:=by
 have:=((((((h.dS 0 v0).dS 1 v1).dS 2 v2).dS 3 v3).dS 4 v4).dS 5 v5).dS 6 v6;simpa using this
theorem y9.qB{w:World}{g g':Nat}{t:TypeId}{cs:Array Value}(h:y9 w g t cs)(hg:g≠g')(v0 v1 v2 v3 v4 v5 v6:Value) :
  y9 (((((((w.setCell ⟨g',0,none⟩ v0).setCell ⟨g',1,none⟩ v1).setCell ⟨g',2,none⟩ v2).setCell ⟨g',3,none⟩ v3).setCell ⟨g',4,none⟩ v4).setCell ⟨g',5,none⟩ v5).setCell ⟨g',6,none⟩ v6) g t cs :=
 ((((((h.far (p:=⟨g',0,none⟩) hg _).far (p:=⟨g',1,none⟩) hg _).far (p:=⟨g',2,none⟩) hg _).far (p:=⟨g',3,none⟩) hg _).far (p:=⟨g',4,none⟩) hg _).far (p:=⟨g',5,none⟩) hg _).far (p:=⟨g',6,none⟩) hg _
theorem dF{a w:World}(h0:Below a.heap.size a w){g:Nat}(hg:a.heap.size≤g)(v0 v1 v2 v3 v4 v5 v6:Value) :
  Below a.heap.size a (((((((w.setCell ⟨g,0,none⟩ v0).setCell ⟨g,1,none⟩ v1).setCell ⟨g,2,none⟩ v2).setCell ⟨g,3,none⟩ v3).setCell ⟨g,4,none⟩ v4).setCell ⟨g,5,none⟩ v5).setCell ⟨g,6,none⟩ v6) :=
 set2 (set2 (set2 (set2 (set2 (set2 (set2 h0 hg _) hg _) hg _) hg _) hg _) hg _) hg _
theorem y9.bN{w:World}{g:Nat}{t:TypeId}{cs:Array Value}(h:y9 w g t cs):w.frozen? ⟨g,0,none⟩=false∧w.frozen? ⟨g,1,none⟩=false∧w.frozen? ⟨g,2,none⟩=false∧w.frozen? ⟨g,3,none⟩=false∧w.frozen? ⟨g,4,none⟩=false∧w.frozen? ⟨g,5,none⟩=false∧w.frozen? ⟨g,6,none⟩=false :=
 ⟨h.frozen 0,h.frozen 1,h.frozen 2,h.frozen 3,h.frozen 4,h.frozen 5,h.frozen 6⟩
namespace Ob
mutual
def nodes:Ob→Nat
 |⟨_,_,_,_,_,_,l⟩=>if l.length=2 then GJ l+1 else 1
def GJ:List Ob→Nat
 |[]=>0
 |o::r=>nodes o+GJ r
end
theorem EM{o a d:Ob}(h:o.pair=[a,d]):o.nodes=a.nodes+d.nodes+1:=by
 obtain⟨k,n,e,p,s,t,l⟩:=o;simp only at h;subst h;simp only[nodes,GJ,List.length_cons,List.length_nil,if_true];omega
theorem Ai{o:Ob}(h:o.pair.length≠2):o.nodes=1:=by
 obtain⟨k,n,e,p,s,t,l⟩:=o;rw[nodes,if_neg h]
theorem pU(o:Ob):1≤o.nodes:=by
 by_cases h:o.pair.length=2
 ·obtain⟨k,n,e,p,s,t,l⟩:=o;rw[nodes,if_pos h];omega
 ·rw[Ai h];omega
theorem zS{l:List Ob}(h:l.length=2):∃a d,l=[a,d]:=by
 match l,h with
 |[a,d],_=>exact⟨a,d,rfl⟩
end Ob
def ji(ok:Nat→Prop)(o:Ob)(w:World)(e:Ending)(w':World):Prop :=
 ∃A n c,e=.returned (F5 o (.slice A n c))∧Rd (fun b=>ok b∨w.heap.size≤b) w' (.slice A n c) (.row (o.pair.map Ob.enc))∧Below w.heap.size w w'
def U8(o:Ob)(w:World)(e:Ending)(w':World):Prop:=e=.returned (F5 o (.slice none 0 0))∧Below w.heap.size w w'
theorem U8.obj{ok:Nat→Prop}{o:Ob}{w w':World}{e:Ending}(h:U8 o w e w')(hp:o.pair=[]):ji ok o w e w' :=
 ⟨none,0,0,h.1,by rw[hp];exact .nil _ _,h.2⟩
theorem y9.Un(w:World)(o o':Obj)(t:TypeId)(cs:Array Value):y9 (((w.alloc o).alloc o').alloc (.cells cs t)) (w.heap.size+1+1) t cs:=by
 have:=y9.new ((w.alloc o).alloc o') t cs;simpa using this
abbrev zeroCells:Array Value:=#[.int .i64 0,.string ⟨#[]⟩,.string ⟨#[]⟩,.string ⟨#[]⟩,.string ⟨#[]⟩,.string ⟨#[]⟩,.slice none 0 0]
abbrev o6:bi:=[108,105,115,112]
abbrev R4:bi:=[110,105,108]
abbrev gT(p s:bi):Ob:=⟨2,[],[],p,s,[],[]⟩
abbrev M5:Ob:=gT o6 R4
abbrev tO:Ob:=gT o6 [116]
abbrev U9(n d:bi):Ob:=⟨1,n,d,[],[],[],[]⟩
abbrev jw(t:bi):Ob:=⟨3,[],[],[],[],t,[]⟩
abbrev dh(a d:Ob):Ob:=⟨4,[],[],[],[],[],[a,d]⟩
theorem eB{fn:Func}{a:Act}{g r:Nat}{w:World}{t:TypeId}{c0 c1 c2 c3 c4 c5 c6:Value}{R:Ending→World→Prop}(hf:fn.results=#[.cell r 48])(ht:a.tmps[r]?=some (.pointer (some ⟨g,0,none⟩)))(hB:y9 w g t #[c0,c1,c2,c3,c4,c5,c6])(hd:a.defers=[])(hR:R (.returned (.agg #[c0,c1,c2,c3,c4,c5,c6])) w):bodyPost prog fn R .ret a w:=by
 obtain⟨h0,h1,h2,h3,h4,h5,h6,_⟩:=hB.seven;refine bodyPost_ret (v:=.agg #[c0,c1,c2,c3,c4,c5,c6]) ?_ hd hR;simp[results,hf,ht,go_sem,h0,h1,h2,h3,h4,h5,h6]
theorem Et(w:World)(p s:bi):Calls prog 122 #[.agg #[str p,str s]] w (U8 (gT p s) w):=by
 go_enter func122,ntmps122
 go_wp2;exact bodyPost_ret (v:=F5 (gT p s) (.slice none 0 0)) (by simp[results,Tryz.results122,go_sem]) rfl ⟨rfl,aT (box _ _) _⟩
theorem Zm(w:World)(t:bi):Calls prog 194 #[str t] w (U8 (jw t) w):=by
 go_enter func194,ntmps194
 go_wp2;exact bodyPost_ret (v:=F5 (jw t) (.slice none 0 0)) (by simp[results,Tryz.results194,go_sem]) rfl ⟨rfl,box _ _⟩
theorem Eu(w:World)(p s:bi):Calls prog 73 #[.agg #[str p,str s]] w (U8 (gT p s) w):=by
 go_enter func73,ntmps73
 go_wp2;exact bodyPost_ret (v:=F5 (gT p s) (.slice none 0 0)) (by simp[results,Tryz.results73,go_sem]) rfl ⟨rfl,aT (box _ _) _⟩
theorem Zn(w:World)(t:bi):Calls prog 77 #[str t] w (U8 (jw t) w):=by
 go_enter func77,ntmps77
 go_wp2;exact bodyPost_ret (v:=F5 (jw t) (.slice none 0 0)) (by simp[results,Tryz.results77,go_sem]) rfl ⟨rfl,box _ _⟩
def lF(o:Ob)(left r:Int):Prop:=((o.nodes:Int)≤left→r=left - o.nodes)∧(left < o.nodes→r < 0)∧r < left∧(0≤left→-left - 1≤r)∧(left < 0→r=left - 1)
def a2I(o:Ob)(left:Int)(w:World)(e:Ending)(w':World):Prop:=∃r:Int,e=.returned (.int .i64 r)∧lF o left r∧Below w.heap.size w w'
theorem rest_end{x:Ob}{m:Int}(h:¬(0 < m∧x.pair.length=2)):lF x m (m - 1):=by
 have hp:=x.pU;refine⟨fun h1=>?_,fun h1=>?_,J,fun h1=>J,fun _=>rfl⟩
 ·have:x.pair.length≠2:=fun e=>h ⟨J,e⟩
  rw[Ob.Ai this];rfl
 ·rcases Int.lt_or_le 0 m with h2 | h2
  ·have:x.pair.length≠2:=fun e=>h ⟨h2,e⟩
   rw[Ob.Ai this]at h1;omega
  ·omega
theorem rest_step{x a d:Ob}{m r1 r:Int}(hx:x.pair=[a,d])(hm:0 < m)(h1:lF a (m - 1) r1)(h2:lF d r1 r):lF x m r:=by
 have hn:=Ob.EM hx;have pa:=a.pU;have pd:=d.pU;obtain⟨a1,a2,a3,a4,a5⟩:=h1;obtain⟨b1,b2,b3,b4,b5⟩:=h2;have a4':=a4 J;refine⟨fun h=>?_,fun h=>?_,J,fun _=>?_,fun h=>J⟩
 ·have e1:=a1 J;have e2:=b1 J;omega
 ·by_cases h3:m - 1 < a.nodes
  ·have e1:=a2 h3;have e2:=b5 e1;omega
  ·have e1:=a1 J;exact b2 J
 ·by_cases h3:r1 < 0
  ·have:=b5 h3;omega
  ·have:=b4 J;omega
theorem a0r(ok:Nat→Prop):∀(N:Nat) (o:Ob),o.size≤N→∀(A:Option Addr) (n c:Nat) (left:Int) (w:World),Rd ok w (.slice A n c) (.row (o.pair.map Ob.enc))→-10≤left→left≤3001 →
  Calls prog 268 #[F5 o (.slice A n c),.int .i64 left] w (a2I o left w):=by
 intro N
 induction N with
 |zero=>intro o h;have:=Ob.size_pos o;omega
 |succ N ih =>
  intro o hN A n c left w hP hl0 hl1
  go_enter func268,ntmps268
  go_wp2
  go_loopg [1] o.size (fun gx lv wr=>∃(x:Ob) (m:Int) (A2:Option Addr) (n2 c2:Nat),lv=.int .i64 m∧Hid (y9 wr w.heap.size 48 (R8 x (.slice A2 n2 c2)))∧Rd ok w (.slice A2 n2 c2) (.row (x.pair.map Ob.enc))∧x.size≤N+1∧-4000≤m∧m≤3001∧Hid (∀r,lF x m r→lF o left r)∧x.size≤gx∧Below w.heap.size w wr)
  case atStart=>exact⟨o,left,A,n,c,rfl,Lib.hid (y9.new w _ _),hP,hN,J,hl1,Lib.hid (fun _ h=>h),Nat.le_refl _,box _ _⟩
  case round =>
   obtain⟨x,m,A2,n2,c2,rfl,HB,hr,JX,hm0,hm1,HR,hg,hb⟩:=hrel;obtain⟨c0,c1,c3,c4,c5,c6,c7,hlt⟩:=HB.out.seven;obtain⟨f0,f1,f2,f3,f4,f5,f6⟩:=HB.out.bN;have hlen:=hr.len;rw[List.length_map]at hlen;by_cases hc:0 < m∧n2=2
   ·obtain⟨hmp,hn2⟩:=hc;subst hn2;obtain⟨a,d,had⟩:=Ob.zS hlen;have HST:=Lib.hid (fun r1 r=>rest_step (r1:=r1) (r:=r) had hmp);have hsa:=Ob.iI (o:=x) (x:=a) (by rw[had];simp);have hsd:=Ob.iI (o:=x) (x:=d) (by rw[had];simp);rw[had]at hr;clear hlen had;obtain⟨b,q,_,A3,n3,c3',rfl,hbl,_,a0,a1,a2,a3,a4,a5,a6,ha⟩:=hr.dD hb (i:=0) J;simp only[List.getElem_cons_zero,Nat.zero_mul,Nat.add_zero]at a0 a1 a2 a3 a4 a5 a6 ha;have xU:=Nat.lt_of_lt_of_le hbl hb.size;have HC:=Lib.hid (ih a J A3 n3 c3' (m - 1) wr (ha.under hb) J J)
    go_wp2_with fail
    refine HC.out.mono ?_;rintro e w1 ⟨r1,rfl,hr1,hb1⟩;have eH:=J9 hb hb1;have HB1:=Lib.hid (HB.out.below hb1);clear c0 c1 c3 c4 c5 c6 c7 f0 f1 f2 f3 f4 f5 f6 a0 a1 a2 a3 a4 a5 a6;obtain⟨c0,c1,c3,c4,c5,c6,c7,hlt1⟩:=HB1.out.seven;obtain⟨f0,f1,f2,f3,f4,f5,f6⟩:=HB1.out.bN;obtain⟨b',q',_,A4,n4,yS,eA,_,_,d0,d1,d2,d3,d4,d5,d6,hd⟩:=hr.dD eH (i:=1) J;injection eA with eA
    injection eA with eb eq
    subst eb eq;simp only[List.getElem_cons_zero,List.getElem_cons_succ,Nat.one_mul]at d0 d1 d2 d3 d4 d5 d6 hd;have b4z:=Nat.lt_of_lt_of_le hbl eH.size;have hb4:=hr1.2.2.1;have hb5:=hr1.2.2.2.1 J;have HR1:=Lib.hid hr1;clear hr1;go_wp2
    go_roundg d.size
    case measure=>omega
    case rel=>exact⟨d,r1,A4,n4,yS,rfl,Lib.hid HB1.out.dE,hd,J,J,J,Lib.hid (fun r h=>HR.out r (HST.out r1 r HR1.out h)),Nat.le_refl _,dF eH (Nat.le_refl _) _ _ _ _ _ _ _⟩
   ·have HE:Hid (lF o left (m - 1)):=HR.out _ (rest_end (by rw[hlen];exact hc));by_cases hmp:0 < m
    ·have hn2:((n2:Int) == 2)=false:=by rw[beq_eq_false_iff_ne];omega
     clear hlen hc;go_wp2;go_ret;exact⟨m - 1,rfl,HE.out,hb⟩
    ·clear hlen hc;go_wp2;go_ret;exact⟨m - 1,rfl,HE.out,hb⟩
theorem a0s{o:Ob}{r:Int}(h:lF o 3001 r):3001 - max 0 r=if o.nodes≤3001 then (o.nodes:Int) else 3001:=by
 obtain⟨h1,h2,h3,_,_⟩:=h;have:=o.pU;split
 ·have:=h1 J;omega
 ·have:=h2 J;omega
def R9(o:Ob):Int:=if o.nodes≤3001 then (o.nodes:Int) else 3001
theorem LW(ok:Nat→Prop)(o:Ob)(A:Option Addr)(n c:Nat)(w:World)(hP:Rd ok w (.slice A n c) (.row (o.pair.map Ob.enc))) :
  Calls prog 238 #[F5 o (.slice A n c)] w (I7 (.int .i64 (R9 o)) w):=by
 go_enter func238,ntmps238
 go_wp2_with fail
 refine (a0r ok o.size o (Nat.le_refl _) A n c 3001 _ (hP.under (box _ _)) J J).mono ?_;rintro e w1 ⟨r,rfl,hr,hb1⟩;have HN:=Lib.hid (a0s hr);have h1:=hr.2.2.1;have h2:=hr.2.2.2.1 J;clear hr;by_cases h0:0 < r
 ·have HM:Hid (3001 - r=R9 o):=by show _=_;have:=HN.out;unfold R9;omega
  go_wp2;go_ret;exact⟨by first | (rw[←HM.out];rfl) | (rw[show R9 o=3001 - max 0 r from HN.out.symm];rfl),via hb1⟩
 ·have HM:Hid (3001=R9 o):=by show _=_;have:=HN.out;unfold R9;omega
  go_wp2;go_ret;exact⟨by first | (rw[←HM.out];rfl) | (rw[show R9 o=3001 - max 0 r from HN.out.symm];rfl),via hb1⟩
theorem QS{x:Int}{g:Nat}(h:0 < g):qd x (g:Int)=x / g:=by
 unfold qd;rw[if_neg J,if_pos J]
theorem tN(x y:Int):V9 x y=(Rat.divInt x y).num∧W9 x y=((Rat.divInt x y).den:Int):=by
 rw[Rat.num_divInt,Rat.den_divInt];by_cases hy:y=0
 ·subst hy;simp[V9,W9]
 ·have hg:0 < Nat.gcd x.natAbs y.natAbs:=Nat.gcd_pos_of_pos_right _ J;have e:y.gcd x=Nat.gcd x.natAbs y.natAbs:=Nat.gcd_comm _ _;unfold V9 W9;rw[if_neg hy,if_neg hy,if_neg hy,QS hg,QS hg,e];refine⟨?_,?_⟩
  ·congr 1;unfold ib;split
   ·rw[Int.sign_eq_neg_one_of_neg (by assumption)];omega
   ·rw[Int.sign_eq_one_of_pos J];omega
  ·unfold qQ;rw[Int.natCast_ediv];congr 1;split <;> omega
structure Rb (k:Nat) (q:Rat):Prop where
 num:q.num.natAbs < 10 ^ k
 den:q.den < 10 ^ k
 pos:1≤k
theorem Rb.mk'{k:Nat}{x y:Int}(hk:1≤k)(hx:x.natAbs < 10 ^ k)(hy:y.natAbs < 10 ^ k):Rb k (Rat.divInt x y):=by
 refine⟨?_,?_,hk⟩
 ·rw[Rat.num_divInt];refine Nat.lt_of_le_of_lt (Nat.le_trans (Int.natAbs_ediv_le_natAbs _ _) ?_) hx;rw[Int.natAbs_mul];rcases Int.lt_trichotomy y 0 with h | h | h
  ·rw[Int.sign_eq_neg_one_of_neg h];simp
  ·subst h;simp
  ·rw[Int.sign_eq_one_of_pos h];simp
 ·rw[Rat.den_divInt];split
  ·exact Nat.one_lt_pow J J
  ·exact Nat.lt_of_le_of_lt (Nat.div_le_self _ _) hy
theorem Rb.mono{k m:Nat}{q:Rat}(h:Rb k q)(hm:k≤m):Rb m q :=
 ⟨Nat.lt_of_lt_of_le h.num (Nat.pow_le_pow_right J hm),Nat.lt_of_lt_of_le h.den (Nat.pow_le_pow_right J hm),by have:=h.pos;omega⟩
theorem Rat.add_div(p q:Rat):p+q=Rat.divInt (p.num * q.den+q.num * p.den) (p.den * q.den):=by
 rw[Rat.add_def',←Rat.divInt_ofNat,Int.natCast_mul]
theorem Rat.mul_div(p q:Rat):p * q=Rat.divInt (p.num * q.num) (p.den * q.den):=by
 rw[Rat.mul_def',←Rat.divInt_ofNat,Int.natCast_mul]
theorem vH{a b k m:Nat}(ha:a < 10 ^ k)(hb:b < 10 ^ m):a * b < 10 ^ (k+m):=by
 rw[Nat.pow_add];exact Nat.mul_lt_mul'' ha hb
theorem Rb.add{k m:Nat}{p q:Rat}(h:Rb k p)(h':Rb m q):Rb (k+m+1) (p+q):=by
 rw[Rat.add_div];have h1:=vH h.num h'.den;have h2:=vH h.den h'.num;have h3:=vH h.den h'.den;have h4:10 ^ (k+m+1)=10 ^ (k+m) * 10:=Nat.pow_succ _ _;refine Rb.mk' J ?_ ?_
 ·have e1:(p.num * (q.den:Int)).natAbs=p.num.natAbs * q.den:=by rw[Int.natAbs_mul,Int.natAbs_natCast]
  have e2:(q.num * (p.den:Int)).natAbs=p.den * q.num.natAbs:=by rw[Int.natAbs_mul,Int.natAbs_natCast,Nat.mul_comm]
  omega
 ·rw[Int.natAbs_mul,Int.natAbs_natCast,Int.natAbs_natCast];omega
theorem Rb.mul{k m:Nat}{p q:Rat}(h:Rb k p)(h':Rb m q):Rb (k+m) (p * q):=by
 rw[Rat.mul_div];have:=h.pos;refine Rb.mk' J ?_ ?_
 ·rw[Int.natAbs_mul];exact vH h.num h'.num
 ·rw[Int.natAbs_mul,Int.natAbs_natCast,Int.natAbs_natCast];exact vH h.den h'.den
theorem Rb.neg{k:Nat}{p:Rat}(h:Rb k p):Rb k (-p):=⟨by rw[Rat.neg_num,Int.natAbs_neg];exact h.num,by rw[Rat.neg_den];exact h.den,h.pos⟩
theorem Rb.inv{k:Nat}{p:Rat}(h:Rb k p):Rb k p⁻¹:=by
 rw[Rat.inv_def];exact Rb.mk' h.pos (by rw[Int.natAbs_natCast];exact h.den) h.num
theorem Rb.zero:Rb 1 0:=⟨O,O,O⟩
theorem Rb.lV{k:Nat}{q:Rat}(h:Rb k q):(Lib.itoa q.num).length≤k+1:=gG _ h.pos h.num
theorem Rb.oo{k:Nat}{q:Rat}(h:Rb k q):(Lib.itoa (q.den:Int)).length≤k+1:=gG _ h.pos (by rw[Int.natAbs_natCast];exact h.den)
abbrev R6(q:Rat):Ob:=U9 (Lib.itoa q.num) (Lib.itoa (q.den:Int))
theorem a0t{p q:Rat}:R6 p=R6 q↔p=q:=by
 refine⟨fun h=>?_,fun h=>by rw[h]⟩;injection h with _ h1 h2
 exact Rat.ext (j4.vU h1) (by have:=j4.vU h2;omega)
theorem Fj(n:Int):R6 (n:Rat)=U9 (Lib.itoa n) [49]:=by
 have:Lib.itoa 1=[49]:=sI;rw[R6,Rat.num_intCast,Rat.den_intCast];show U9 _ (Lib.itoa 1)=_;rw[this]
def Val(o:Ob)(q:Rat):Prop:=(o.kind=1∧o=R6 q)∨(o.kind≠1∧q=0)
theorem Val.rat(q:Rat):Val (R6 q) q:=.inl ⟨rfl,rfl⟩
def Ig(n d:bi)(w:World)(e:Ending)(w':World):Prop:=∃(A:Option Addr) (c:Nat),e=.returned (F5 (U9 n d) (.slice A 0 c))∧Below w.heap.size w w'
abbrev nQ(q:Rat)(w:World)(e:Ending)(w':World):Prop:=Ig (Lib.itoa q.num) (Lib.itoa (q.den:Int)) w e w'
def cB(p q:Rat):Int:=if p < q then -1 else if q < p then 1 else 0
theorem EC(p q:Rat):dV (p.num * q.den) (q.num * p.den)=cB p q:=by
 unfold dV cB;simp only[Rat.lt_iff]
theorem a0u{p q:Rat}(h:p.den=q.den):dV p.num q.num=cB p q:=by
 rw[←EC,h];have hp:0 < (q.den:Int):=by have:=q.den_nz;omega
 unfold dV;simp only[Int.mul_lt_mul_right hp]
theorem a0v(w:World):Calls prog 91 #[] w (U8 M5 w):=by
 go_enter func91,ntmps91
 go_wp2_with fail
 refine (Et _ o6 R4).mono ?_;rintro e w1 ⟨rfl,hb⟩;have HB:=Lib.hid (y9.via hb);obtain⟨u0,u1,u2,u3,u4,u5,u6,hu⟩:=HB.out.seven;obtain⟨f0,f1,f2,f3,f4,f5,f6⟩:=HB.out.bN;go_wp2;exact eB Tryz.results91 rfl HB.out.dE rfl ⟨rfl,dF (via hb) (Nat.le_refl _) _ _ _ _ _ _ _⟩
theorem a5s(w:World):Calls prog 90 #[] w (U8 tO w):=by
 go_enter func90,ntmps90
 go_wp2_with fail
 refine (Et _ o6 [116]).mono ?_;rintro e w1 ⟨rfl,hb⟩;have HB:=Lib.hid (y9.via hb);obtain⟨u0,u1,u2,u3,u4,u5,u6,hu⟩:=HB.out.seven;obtain⟨f0,f1,f2,f3,f4,f5,f6⟩:=HB.out.bN;go_wp2;exact eB Tryz.results90 rfl HB.out.dE rfl ⟨rfl,dF (via hb) (Nat.le_refl _) _ _ _ _ _ _ _⟩
theorem Lt(a:bi)(w:World):Calls prog 223 #[str a] w (U8 (U9 a [49]) w):=by
 go_enter func223,ntmps223
 go_wp2
 go_outline
 exact bodyPost_ret (v:=F5 (U9 a [49]) (.slice none 0 0)) (by simp[results,Tryz.results223,go_sem]) rfl ⟨rfl,box _ _⟩
theorem NG(n:Int)(w:World)(ht:Q4 w)(h0:-9223372036854775808≤n)(h1:n≤9223372036854775807):Calls prog 197 #[.int .i64 n] w (U8 (U9 (Lib.itoa n) [49]) w):=by
 have HF:=Lib.hid (fun w' (hb:Below w.heap.size w w')=>XX n w' (ht.below hb) h0 h1);clear h0 h1
 go_enter func197,ntmps197
 go_wp2_with fail
 refine (HF.out _ (box _ _)).mono ?_;rintro e w1 ⟨rfl,hb⟩
 go_wp2_with fail
 refine (Lt _ _).mono ?_;rintro e w2 ⟨rfl,hb2⟩;have HB:=Lib.hid ((y9.via hb).below hb2);obtain⟨u0,u1,u2,u3,u4,u5,u6,hu⟩:=HB.out.seven;obtain⟨f0,f1,f2,f3,f4,f5,f6⟩:=HB.out.bN;go_wp2;exact eB Tryz.results197 rfl HB.out.dE rfl ⟨rfl,dF (J9 (via hb) hb2) (Nat.le_refl _) _ _ _ _ _ _ _⟩
theorem Xn(a b:bi)(w:World)(ha:a.length≤1100000)(hb:b.length≤1100000)(ht:Q4 w):Calls prog 225 #[str a,str b] w (U8 (U9 (Lib.itoa (V9 (j4.r9 a) (j4.r9 b))) (Lib.itoa (W9 (j4.r9 a) (j4.r9 b)))) w):=by
 have HF:=Lib.hid (fun w' (hw:Below w.heap.size w w')=>Es a b w' ha hb (ht.below hw));clear ha hb;generalize Lib.itoa (V9 (j4.r9 a) (j4.r9 b))=n at *;generalize Lib.itoa (W9 (j4.r9 a) (j4.r9 b))=d at *
 go_enter func225,ntmps225
 go_wp2_with fail
 refine (HF.out _ (box _ _)).mono ?_;rintro e w1 ⟨rfl,hb⟩;have HB:=Lib.hid (y9.via hb);obtain⟨u0,u1,u2,u3,u4,u5,u6,hu⟩:=HB.out.seven;obtain⟨f0,f1,f2,f3,f4,f5,f6⟩:=HB.out.bN;go_wp2;exact eB Tryz.results225 rfl HB.out.dE rfl ⟨rfl,dF (via hb) (Nat.le_refl _) _ _ _ _ _ _ _⟩
theorem a2J{ok:Nat→Prop}{a d:Ob}{A A':Option Addr}{n n' c c':Nat}{w:World}{g:Nat}{t:TypeId}(hB:y9 w g t #[.int .i64 a.kind,str a.num,str a.den,str a.sp,str a.sn,str a.text,.slice A n c,.int .i64 d.kind,str d.num,str d.den,str d.sp,str d.sn,str d.text,.slice A' n' c'])
  (hg:ok g) (ha:Rd ok w (.slice A n c) (.row (a.pair.map Ob.enc))) (hd:Rd ok w (.slice A' n' c') (.row (d.pair.map Ob.enc))):Rd ok w (.slice (some ⟨g,0,none⟩) 2 2) (.row ([a,d].map Ob.enc)):=by
 refine Rd.mk (k:=7) rfl (Nat.le_refl _) hB.lt hg (fun i hi=>?_) (fun i j hi hj=>?_)
 ·rw[List.getElem_map,Ob.jV]
 ·simp only[List.getElem_map,Ob.jV]at hj;have hi':i < 2:=hi;rw[hB.cell];rcases i with _ | _ | i
  ·rcases j with _ | _ | _ | _ | _ | _ | _ | j
   all_goals first | omega | skip
   all_goals simp only[List.map_cons,List.getElem_cons_zero,Ob.lD,List.getElem_cons_succ]
   all_goals first | exact⟨_,rfl,.val _⟩ | exact⟨_,rfl,ha⟩
  ·rcases j with _ | _ | _ | _ | _ | _ | _ | j
   all_goals first | omega | skip
   all_goals simp only[List.map_cons,List.getElem_cons_zero,Ob.lD,List.getElem_cons_succ]
   all_goals first | exact⟨_,rfl,.val _⟩ | exact⟨_,rfl,hd⟩
  ·omega
theorem NH(ok:Nat→Prop)(a d:Ob)(A A':Option Addr)(n n' c c':Nat)(w:World){b1 b2 b3:Obj}{t:TypeId}(ha:Rd ok w (.slice A n c) (.row (a.pair.map Ob.enc)))(hd:Rd ok w (.slice A' n' c') (.row (d.pair.map Ob.enc))) :
  ji ok (dh a d) w (.returned (F5 (dh a d) (.slice (some ⟨w.heap.size+1+1+1,0,none⟩) 2 2))) ((((w.alloc b1).alloc b2).alloc b3).alloc (.cells #[.int .i64 a.kind,str a.num,str a.den,str a.sp,str a.sn,str a.text,.slice A n c,.int .i64 d.kind,str d.num,str d.den,str d.sp,str d.sn,str d.text,.slice A' n' c'] t)):=by
 have hb:Below w.heap.size w (((w.alloc b1).alloc b2).alloc b3):=aT (aT (box _ _) _) _;refine⟨_,2,2,rfl,?_,aT hb _⟩;have hB:=y9.new (((w.alloc b1).alloc b2).alloc b3) t #[.int .i64 a.kind,str a.num,str a.den,str a.sp,str a.sn,str a.text,.slice A n c,.int .i64 d.kind,str d.num,str d.den,str d.sp,str d.sn,str d.text,.slice A' n' c'];have e:(((w.alloc b1).alloc b2).alloc b3).heap.size=w.heap.size+1+1+1:=I;rw[e]at hB;exact a2J hB (.inr J) ((ha.under (aT hb _)).mono fun _ h _=>.inl h) ((hd.under (aT hb _)).mono fun _ h _=>.inl h)
theorem Zo(ok:Nat→Prop)(a d:Ob)(A A':Option Addr)(n n' c c':Nat)(w:World)(ha:Rd ok w (.slice A n c) (.row (a.pair.map Ob.enc)))(hd:Rd ok w (.slice A' n' c') (.row (d.pair.map Ob.enc))) :
  Calls prog 191 #[F5 a (.slice A n c),F5 d (.slice A' n' c')] w (ji ok (dh a d) w):=by
 go_enter func191,ntmps191
 go_wp2;exact eB Tryz.results191 rfl ((y9.Un w _ _ _ _).alloc _) rfl (NH ok a d A A' n n' c c' w ha hd)
theorem YA(a b:bi)(w:World)(ha:a.length≤1100000)(hb:b.length≤1100000)(ht:Q4 w):Calls prog 225 #[str a,str b] w (U8 (R6 (Rat.divInt (j4.r9 a) (j4.r9 b))) w):=by
 have:=Xn a b w ha hb ht
 rwa [(tN _ _).1,(tN _ _).2]at this
theorem a0w(o:Ob)(q:Rat)(hv:Val o q)(A:Option Addr)(n c:Nat)(hn:o.pair.length=n)(w:World)(ht:Q4 w):Calls prog 222 #[F5 o (.slice A n c)] w (nQ q w):=by
 rcases hv with⟨hk,rfl⟩ | ⟨hk,rfl⟩
 ·obtain rfl:n=0:=by rw[←hn];rfl
  clear hk hn;generalize Lib.itoa q.num=ln at *;generalize Lib.itoa (q.den:Int)=ld at *
  go_enter func222,ntmps222
  go_wp2;exact eB Tryz.results222 rfl (y9.lT w _ _ _) rfl ⟨A,c,rfl,aT (box _ _) _⟩
 ·obtain⟨k,nm,d,p,s,t,l⟩:=o;dsimp only at hk;have hz:(k == 1)=false:=by rw[beq_eq_false_iff_ne];exact hk
  clear hk hn;have HI:Hid (∀w':World,Below w.heap.size w w'→Calls prog 197 #[.int .i64 0] w' (U8 (U9 (Lib.itoa (0:Rat).num) (Lib.itoa ((0:Rat).den:Int))) w')):=fun w' hb=>by
   have:=NG 0 w' (ht.below hb) J J
   rwa [←Fj]at this
  unfold nQ;generalize Lib.itoa (0:Rat).num=ln at *;generalize Lib.itoa ((0:Rat).den:Int)=ld at *
  go_enter func222,ntmps222
  go_wp2_with fail
  refine (HI.out _ (aT (box _ _) _)).mono ?_;rintro e w1 ⟨rfl,hb⟩;have HB:=Lib.hid ((y9.lT w _ _ _).below hb);obtain⟨u0,u1,u2,u3,u4,u5,u6,hu⟩:=HB.out.seven;obtain⟨f0,f1,f2,f3,f4,f5,f6⟩:=HB.out.bN;go_wp2;exact eB Tryz.results222 rfl HB.out.dE rfl ⟨none,0,rfl,dF (via (via hb)) (Nat.le_succ _) _ _ _ _ _ _ _⟩
theorem YB(p q:Rat){k m:Nat}(bp:Rb k p)(bq:Rb m q)(hk:k≤10000)(hm:m≤10000)(A A':Option Addr)(n n' c c':Nat)(w:World)(ht:Q4 w) :
  Calls prog 231 #[F5 (R6 p) (.slice A n c),F5 (R6 q) (.slice A' n' c')] w (jY (cB p q) w):=by
 have n1:Num (k+1) (Lib.itoa p.num) p.num:=⟨j4.K5 _,bp.lV⟩;have d1:Num (k+1) (Lib.itoa (p.den:Int)) p.den:=⟨j4.K5 _,bp.oo⟩;have n2:Num (m+1) (Lib.itoa q.num) q.num:=⟨j4.K5 _,bq.lV⟩;have d2:Num (m+1) (Lib.itoa (q.den:Int)) q.den:=⟨j4.K5 _,bq.oo⟩;by_cases hd:p.den=q.den
 ·have HC:=fun w'=>Lib.hid (NF n1 n2 J J (a0u hd) w')
  have hd':Lib.itoa (p.den:Int)=Lib.itoa (q.den:Int):=by rw[hd]
  unfold R6;rw[hd'];clear n1 n2 d1 d2 hd hd';generalize Lib.itoa p.num=ln at *;generalize Lib.itoa q.num=rn at *;generalize Lib.itoa (q.den:Int)=rd at *
  go_enter func231,ntmps231
  go_wp2_with fail
  refine (HC _).out.mono ?_;rintro e w1 ⟨rfl,hb⟩;go_wp2;go_ret;exact⟨rfl,via (via hb)⟩
 ·have hd':(Lib.itoa (p.den:Int) == Lib.itoa (q.den:Int))=false:=by rw[beq_eq_false_iff_ne];exact fun e=>hd (by have:=j4.vU e;omega)
  have JY:Hid (∀w':World,Below w.heap.size w w'→Calls prog 226 #[str (Lib.itoa p.num),str (Lib.itoa (q.den:Int))] w' (aQ (Lib.itoa (p.num * q.den)) w')):=fun w' hb=>Um n1 d2 J J w' (ht.below hb)
  have JZ:Hid (∀w':World,Below w.heap.size w w'→Calls prog 226 #[str (Lib.itoa q.num),str (Lib.itoa (p.den:Int))] w' (aQ (Lib.itoa (q.num * p.den)) w')):=fun w' hb=>Um n2 d1 J J w' (ht.below hb)
  have HC:Hid (∀w':World,Calls prog 263 #[str (Lib.itoa (p.num * q.den)),str (Lib.itoa (q.num * p.den))] w' (jY (cB p q) w')):=fun w'=>NF (n1.mul d2) (n2.mul d1) J J (EC p q) w'
  clear n1 n2 d1 d2 hd;unfold R6;generalize Lib.itoa (p.num * q.den)=l1 at *;generalize Lib.itoa (q.num * p.den)=l2 at *;generalize Lib.itoa p.num=ln at *;generalize Lib.itoa q.num=rn at *;generalize Lib.itoa (p.den:Int)=ld at *;generalize Lib.itoa (q.den:Int)=rd at *
  go_enter func231,ntmps231
  go_wp2_with fail
  have jF:=Lib.hid ((y9.new w 48 (R8 (U9 ln ld) (.slice A n c))).alloc (.cells (R8 (U9 rn rd) (.slice A' n' c')) 48));have oG:=Lib.hid (y9.lT w (.cells (R8 (U9 ln ld) (.slice A n c)) 48) 48 (R8 (U9 rn rd) (.slice A' n' c')));have b0:=(aT (box w (.cells (R8 (U9 ln ld) (.slice A n c)) 48)) (.cells (R8 (U9 rn rd) (.slice A' n' c')) 48)).drew;generalize (w.alloc (.cells (R8 (U9 ln ld) (.slice A n c)) 48)).alloc (.cells (R8 (U9 rn rd) (.slice A' n' c')) 48)=W at *;have X0:=Lib.hid jF.out.drew;have Y0:=Lib.hid oG.out.drew;obtain⟨Ka,uW,Kb,Kc,Ke,Kg,Kh,Ki⟩:=jF.out.seven;obtain⟨ys0,VC,VD,VE,VF,VG,VH,VI⟩:=oG.out.seven
  go_region_held3 (fun w'=>w'.cell? ⟨w.heap.size,1,none⟩=some (str ln)∧w'.cell? ⟨w.heap.size,2,none⟩=some (str ld)∧w'.cell? ⟨w.heap.size+1,1,none⟩=some (str rn)∧w'.cell? ⟨w.heap.size+1,2,none⟩=some (str rd)) (go_keep)
   (first | (go_at_call 226;((with_reducible refine (JY.out _ b0).mono ?_));rintro e v1 ⟨rfl,hb1⟩;have b1:=J9 b0 hb1;have X1:=Lib.hid (X0.out.below hb1);have Y1:=Lib.hid (Y0.out.below hb1);obtain⟨Ih,Ii,Ij,Ik,Il,Im,Io,Ip⟩:=X1.out.seven;obtain⟨Sr,Su,Sv,Sw,Sz,SA,SB,SC⟩:=Y1.out.seven) | (go_at_call 226;((with_reducible refine (JZ.out _ b1).mono ?_));rintro e v2 ⟨rfl,hb2⟩;have b2:=J9 b1 hb2;have X2:=Lib.hid (X1.out.below hb2);have Y2:=Lib.hid (Y1.out.below hb2);obtain⟨BI,BJ,BK,BL,BM,BN,BO,Iq⟩:=X2.out.seven;obtain⟨Ir,Iu,Iw,Iy,Iz,IA,IB,SE⟩:=Y2.out.seven) | (go_at_call 263;((with_reducible refine (HC.out _).mono ?_));rintro e v3 ⟨rfl,hb3⟩;have b3:=J9 b2 hb3;have X3:=Lib.hid (X2.out.below hb3);have Y3:=Lib.hid (Y2.out.below hb3);obtain⟨SF,SG,SH,SI,SK,SL,SN,SQ⟩:=X3.out.seven;obtain⟨SS,SV,SX,SY,Ta,Tc,Td,Tf⟩:=Y3.out.seven))
  go_wp2;go_ret;exact⟨rfl,b3⟩
theorem qB(w:World){g g':Nat}(hg:g≠g')(i:Nat)(v0 v1 v2 v3 v4 v5 v6:Value) :
  (((((((w.setCell ⟨g',0,none⟩ v0).setCell ⟨g',1,none⟩ v1).setCell ⟨g',2,none⟩ v2).setCell ⟨g',3,none⟩ v3).setCell ⟨g',4,none⟩ v4).setCell ⟨g',5,none⟩ v5).setCell ⟨g',6,none⟩ v6).cell? ⟨g,i,none⟩=w.cell? ⟨g,i,none⟩:=by
 have e:∀(w:World) (j:Nat) (v:Value),(w.setCell ⟨g',j,none⟩ v).cell? ⟨g,i,none⟩=w.cell? ⟨g,i,none⟩:=fun w j v=>World.cell?_of_block (Below.heap_setCell w ⟨g',j,none⟩ v g hg)
 rw[e,e,e,e,e,e,e]
theorem NI(p q:Rat):decide (cB p q < 0)=decide (p < q):=by
 unfold cB;split
 ·simp[*]
 ·split <;> simp[*]
theorem LX(o:Ob)(A:Option Addr)(n c:Nat)(w:World):Calls prog 41 #[F5 o (.slice A n c)] w (I7 (.bool (decide (o.kind=2∧o.sp=o6∧o.sn=R4))) w):=by
 obtain⟨k,nm,d,p,s,t,l⟩:=o;dsimp only;by_cases hk:k=2
 ·subst hk;by_cases h1:p=o6
  ·subst h1;by_cases h2:s=R4
   ·subst h2;rw[decide_eq_true ⟨rfl,rfl,rfl⟩]
    go_enter func41,ntmps41
    go_wp2;go_ret;exact⟨rfl,box _ _⟩
   ·rw[decide_eq_false (fun h=>h2 h.2.2)];have hz:(s == R4)=false:=by rw[beq_eq_false_iff_ne];exact h2
    clear h2
    go_enter func41,ntmps41
    go_wp2;go_ret;exact⟨rfl,box _ _⟩
  ·rw[decide_eq_false (fun h=>h1 h.2.1)];have hz:(p == o6)=false:=by rw[beq_eq_false_iff_ne];exact h1
   clear h1
   go_enter func41,ntmps41
   go_wp2;go_ret;exact⟨rfl,box _ _⟩
 ·rw[decide_eq_false (fun h=>hk h.1)];have hz:(k == 2)=false:=by rw[beq_eq_false_iff_ne];exact hk
  clear hk
  go_enter func41,ntmps41
  go_wp2;go_ret;exact⟨rfl,box _ _⟩
def qw:List Ob→Ob
 |[]=>M5
 |a::r=>dh a (qw r)
theorem Rd.qB{ok:Nat→Prop}{w:World}{v:Value}{d:Dt}{g:Nat}(h:Rd ok w v d)(hg:∀b,ok b→b≠g)(v0 v1 v2 v3 v4 v5 v6:Value) :
  Rd ok (((((((w.setCell ⟨g,0,none⟩ v0).setCell ⟨g,1,none⟩ v1).setCell ⟨g,2,none⟩ v2).setCell ⟨g,3,none⟩ v3).setCell ⟨g,4,none⟩ v4).setCell ⟨g,5,none⟩ v5).setCell ⟨g,6,none⟩ v6) v d :=
 ((((((h.far (p:=⟨g,0,none⟩) hg _).far (p:=⟨g,1,none⟩) hg _).far (p:=⟨g,2,none⟩) hg _).far (p:=⟨g,3,none⟩) hg _).far (p:=⟨g,4,none⟩) hg _).far (p:=⟨g,5,none⟩) hg _).far (p:=⟨g,6,none⟩) hg _
theorem drop_cons{l:List Ob}{j:Nat}(h:j < l.length):qw (l.drop j)=dh l[j] (qw (l.drop (j+1))):=by
 rw[List.drop_eq_getElem_cons h];rfl
theorem Zp(a d:Ob)(A:Option Addr)(n c:Nat)(w:World):Calls prog 269 #[F5 (dh a d) (.slice A n c),.bool false,.bool false,.bool false] w (I7 (.bool true) w):=by
 go_enter func269,ntmps269
 go_wp2;go_ret;exact⟨rfl,box _ _⟩
theorem a0x(l r:bi)(A:Option Addr)(n c:Nat)(w:World):Calls prog 269 #[F5 (U9 l r) (.slice A n c),.bool true,.bool false,.bool false] w (I7 (.bool true) w):=by
 go_enter func269,ntmps269
 go_wp2;go_ret;exact⟨rfl,box _ _⟩
theorem a0y(l r:bi)(A:Option Addr)(n c:Nat)(w:World):Calls prog 269 #[F5 (gT l r) (.slice A n c),.bool false,.bool true,.bool false] w (I7 (.bool true) w):=by
 go_enter func269,ntmps269
 go_wp2;go_ret;exact⟨rfl,box _ _⟩
theorem a0z(l:bi)(A:Option Addr)(n c:Nat)(w:World):Calls prog 269 #[F5 (jw l) (.slice A n c),.bool false,.bool false,.bool true] w (I7 (.bool true) w):=by
 go_enter func269,ntmps269
 go_wp2;go_ret;exact⟨rfl,box _ _⟩
theorem YC(w:World)(ht:Q4 w):Calls prog 270 #[str [49],str [49]] w (I7 (.bool true) w):=by
 have HV:Hid (∀w':World,Calls prog 274 #[str [49]] w' (jW (.bool true) w')):=fun w'=>by
  have:=jP [49] w' O
  rwa [show j4.M4 [49]=true by decide]at this
 have HD:Hid (∀w':World,Calls prog 260 #[str [49]] w' (jW (.int .i64 1) w')):=fun w'=>by
  have:=vG [49] w' O
  rwa [show ((j4.mag (norm [49])).length:Nat)=1 by decide +kernel]at this
 have HR:Hid (∀w':World,Below w.heap.size w w'→Calls prog 258 #[str [49],str [49]] w' (dz [49] [49] w')):=fun w' hb=>by
  have:=Es [49] [49] w' O O (ht.below hb)
  rwa [show Lib.itoa (V9 (j4.r9 [49]) (j4.r9 [49]))=[49] by decide +kernel,show Lib.itoa (W9 (j4.r9 [49]) (j4.r9 [49]))=[49] by decide +kernel]at this
 go_enter func270,ntmps270
 go_wp2_with (first | (go_at_call 274;refine (HV.out _).mono ?_;rintro e w' ⟨rfl,rfl⟩) | (go_at_call 260;refine (HD.out _).mono ?_;rintro e w' ⟨rfl,rfl⟩) | (go_at_call 258;refine (HR.out _ (Below.refl _ _)).mono ?_;rintro e w1 ⟨rfl,hb1⟩))
 go_ret;exact⟨rfl,hb1⟩
theorem YD(w:World):Calls prog 271 #[.agg #[str o6,str R4]] w (I7 (.bool true) w):=by
 go_enter func271,ntmps271
 go_wp2
 go_loopw [31] (fun ix wr=>∃i:Nat,i≤4∧ix=.int .i64 i∧Hid (y9 wr w.heap.size 45 #[str o6,str R4])∧Below w.heap.size w wr) (fun ix _=>4 - (intOf ix).toNat)
 case atStart=>exact⟨0,J,rfl,Lib.hid (y9.new w _ _),box _ _⟩
 case round =>
  obtain⟨i,hi,rfl,X,hb⟩:=hrel;obtain⟨x0,x1,_,_,hlt⟩:=X.out.two;have hc:i=0∨i=1∨i=2∨i=3∨i=4:=J;rcases hc with rfl | rfl | rfl | rfl | rfl
  ·go_wp2
   go_roundw
   case rel=>exact⟨1,J,by go_num,X,hb⟩
   case measure=>simp only[intOf];omega
  ·go_wp2
   go_roundw
   case rel=>exact⟨2,J,by go_num,X,hb⟩
   case measure=>simp only[intOf];omega
  ·go_wp2
   go_roundw
   case rel=>exact⟨3,J,by go_num,X,hb⟩
   case measure=>simp only[intOf];omega
  ·go_wp2
   go_roundw
   case rel=>exact⟨4,J,by go_num,X,hb⟩
   case measure=>simp only[intOf];omega
  ·go_wp2;go_ret;exact⟨rfl,hb⟩
inductive Good:Ob→Prop
 |one:Good (U9 [49] [49])
 |nil:Good M5
 |txt:Good (jw [97])
 |cons {a d:Ob} (ha:Good a) (hd:Good d):Good (dh a d)
theorem Ya(ok:Nat→Prop):∀(N:Nat) (o:Ob),o.size≤N→Good o→∀(A:Option Addr) (n c:Nat) (w:World),Q4 w→Rd ok w (.slice A n c) (.row (o.pair.map Ob.enc)) →
  Calls prog 239 #[F5 o (.slice A n c)] w (I7 (.bool true) w):=by
 intro N
 induction N with
 |zero=>intro o h;have:=Ob.size_pos o;omega
 |succ N ih =>
  intro o hN hG A n c w ht hP
  go_enter func239,ntmps239
  go_wp2
  go_loopg [2] o.size (fun gx lv wr=>∃(x:Ob) (A2:Option Addr) (n2 c2:Nat),lv=.bool false∧Hid (y9 wr w.heap.size 48 (R8 x (.slice A2 n2 c2)))∧Rd ok w (.slice A2 n2 c2) (.row (x.pair.map Ob.enc))∧x.size≤N+1∧Good x∧x.size≤gx∧Below w.heap.size w wr)
  case atStart=>exact⟨o,A,n,c,rfl,Lib.hid (y9.new w _ _),hP,hN,hG,Nat.le_refl _,box _ _⟩
  case round =>
   obtain⟨x,A2,n2,c2,rfl,X,hr,JX,hg,hgx,hb⟩:=hrel;have hlen:=hr.len;rw[List.length_map]at hlen;obtain⟨x0,x1,x2,x3,x4,x5,x6,xl⟩:=X.out.seven;obtain⟨fq,fu,fw,fA,fB,fC,fD⟩:=X.out.bN;cases hg with
   |one =>
    obtain rfl:n2=0:=hlen.symm
    go_wp2_with fail
    refine (a0x [49] [49] A2 0 c2 _).mono ?_;rintro e w1 ⟨rfl,hb1⟩;have X1:=Lib.hid (X.out.below hb1);clear x0 fq x1 fu x2 fw x3 fA x4 fB x5 fC x6 fD;obtain⟨y0,y1,y2,y3,y4,y5,y6,yl⟩:=X1.out.seven
    go_wp2_with fail
    refine (YC _ (ht.below (J9 hb hb1))).mono ?_;rintro e w2 ⟨rfl,hb2⟩;go_wp2;go_ret;exact⟨rfl,J9 (J9 hb hb1) hb2⟩
   |nil =>
    obtain rfl:n2=0:=hlen.symm
    go_wp2_with fail
    refine (a0y o6 R4 A2 0 c2 _).mono ?_;rintro e w1 ⟨rfl,hb1⟩;have X1:=Lib.hid (X.out.below hb1);clear x0 fq x1 fu x2 fw x3 fA x4 fB x5 fC x6 fD;obtain⟨y0,y1,y2,y3,y4,y5,y6,yl⟩:=X1.out.seven
    go_wp2_with fail
    refine (YD _).mono ?_;rintro e w2 ⟨rfl,hb2⟩;go_wp2;go_ret;exact⟨rfl,J9 (J9 hb hb1) hb2⟩
   |txt =>
    obtain rfl:n2=0:=hlen.symm
    go_wp2_with fail
    refine (a0z [97] A2 0 c2 _).mono ?_;rintro e w1 ⟨rfl,hb1⟩;have X1:=Lib.hid (X.out.below hb1);clear x0 fq x1 fu x2 fw x3 fA x4 fB x5 fC x6 fD;obtain⟨y0,y1,y2,y3,y4,y5,y6,yl⟩:=X1.out.seven;go_wp2;go_ret;exact⟨rfl,J9 hb hb1⟩
   |cons ga gd =>
    rename_i a d;obtain rfl:n2=2:=hlen.symm;have hsa:=Ob.iI (o:=dh a d) (x:=a) I;have hsd:=Ob.iI (o:=dh a d) (x:=d) I;clear hlen
    go_wp2_with fail
    refine (Zp a d A2 2 c2 _).mono ?_;rintro e w1 ⟨rfl,hb1⟩;have b1:=J9 hb hb1;have X1:=Lib.hid (X.out.below hb1);clear x0 fq x1 fu x2 fw x3 fA x4 fB x5 fC x6 fD;obtain⟨y0,y1,y2,y3,y4,y5,y6,yl⟩:=X1.out.seven;obtain⟨b,q,_,A3,n3,c3',rfl,hbl,_,a0,a1,a2,a3,a4,a5,a6,ha⟩:=hr.dD b1 (i:=0) J;simp only[List.getElem_cons_zero,Nat.zero_mul,Nat.add_zero]at a0 a1 a2 a3 a4 a5 a6 ha;have xU:=Nat.lt_of_lt_of_le hbl b1.size
    go_wp2_with fail
    refine (ih a J ga A3 n3 c3' _ (ht.below b1) (ha.under b1)).mono ?_;rintro e w2 ⟨rfl,hb2⟩;have b2:=J9 b1 hb2;have X2:=Lib.hid (X1.out.below hb2);clear y0 y1 y2 y3 y4 y5 y6 a0 a1 a2 a3 a4 a5 a6;obtain⟨z0,z1,z2,z3,z4,z5,z6,zl⟩:=X2.out.seven;obtain⟨zf0,zf1,zf2,zf3,zf4,zf5,zf6⟩:=X2.out.bN;obtain⟨b',q',_,A4,n4,yS,eA,_,_,d0,d1,d2,d3,d4,d5,d6,hd⟩:=hr.dD b2 (i:=1) J;injection eA with eA
    injection eA with eb eq
    subst eb eq;simp only[List.getElem_cons_zero,List.getElem_cons_succ,Nat.one_mul]at d0 d1 d2 d3 d4 d5 d6 hd;have Ji:=Nat.lt_of_lt_of_le hbl b2.size;go_wp2
    go_roundg d.size
    case measure=>omega
    case rel=>exact⟨d,A4,n4,yS,rfl,Lib.hid X2.out.dE,hd,J,gd,Nat.le_refl _,dF b2 (Nat.le_refl _) _ _ _ _ _ _ _⟩
theorem iG(ok:Nat→Prop)(o:Ob)(hG:Good o)(hn:o.nodes≤3000)(A:Option Addr)(n c:Nat)(w:World)(ht:Q4 w)(hP:Rd ok w (.slice A n c) (.row (o.pair.map Ob.enc))) :
  Calls prog 201 #[F5 o (.slice A n c)] w (I7 (.bool true) w):=by
 have HN:Hid (∀w':World,Below w.heap.size w w'→Calls prog 238 #[F5 o (.slice A n c)] w' (I7 (.int .i64 (o.nodes:Int)) w')):=fun w' hb=>by
  have:=LW ok o A n c w' (hP.under hb)
  rwa [R9,if_pos J]at this
 have HF:Hid (∀w':World,Below w.heap.size w w'→Calls prog 239 #[F5 o (.slice A n c)] w' (I7 (.bool true) w')):=fun w' hb=>Ya ok o.size o (Nat.le_refl _) hG A n c w' (ht.below hb) (hP.under hb)
 generalize o.nodes=k at *
 go_enter func201,ntmps201
 go_wp2_with fail
 refine (HN.out _ (box _ _)).mono ?_;rintro e w1 ⟨rfl,hb1⟩;have X1:=Lib.hid (y9.via hb1);obtain⟨y0,y1,y2,y3,y4,y5,y6,yl⟩:=X1.out.seven;have hk:(k:Int)≤3000:=J
 go_wp2_with fail
 refine (HF.out _ (via hb1)).mono ?_;rintro e w2 ⟨rfl,hb2⟩;go_wp2;go_ret;exact⟨rfl,J9 (via hb1) hb2⟩
structure a90 {α:Type} (f:α→α→Int):Prop where
 rng:∀a b,f a b=-1∨f a b=0∨f a b=1
 swap:∀a b,f b a=- f a b
 zero:∀a b,f a b=0↔a=b
 trans:∀a b c,f a b≤0→f b c≤0→f a c≤0
abbrev uA:bi→bi→Int:=Lib.compareBytes
theorem Aj:∀a b:bi,uA a b=0↔a=b
 |[],[]=>⟨fun _=>rfl,fun _=>rfl⟩
 |[],_::_=>⟨(fun h=>by cases h),(fun h=>by cases h)⟩
 |_::_,[]=>⟨(fun h=>by cases h),(fun h=>by cases h)⟩
 |a::x,b::y=>by
  unfold uA Lib.compareBytes;have:=Aj x y;unfold uA at this;by_cases h1:a < b
  ·rw[if_pos h1];exact⟨(fun h=>by cases h),fun h=>by injection h with h _;subst h;rw[UInt8.lt_iff_toNat_lt]at h1;omega⟩
  ·by_cases h2:b < a
   ·rw[if_neg h1,if_pos h2];exact⟨(fun h=>by cases h),fun h=>by injection h with h _;subst h;exact absurd h2 h1⟩
   ·rw[if_neg h1,if_neg h2,this];have e:a=b:=by
     rw[UInt8.lt_iff_toNat_lt]at h1 h2;exact UInt8.toNat_inj.1 J
    subst e;exact⟨fun h=>by rw[h],fun h=>by injection h⟩
theorem a2K:a90 cB where
 rng a b:=by unfold cB;split <;> (try split) <;> simp
 swap a b:=by
  unfold cB;by_cases h1:a < b
  ·have h2:¬b < a:=by grind
   simp only[if_pos h1,if_neg h2];rfl
  ·by_cases h2:b < a
   ·simp only[if_neg h1,if_pos h2]
   ·simp only[if_neg h1,if_neg h2];rfl
 zero a b:=by
  unfold cB;by_cases h1:a < b
  ·simp only[if_pos h1];exact⟨(fun h=>by cases h),fun h=>by grind⟩
  ·by_cases h2:b < a
   ·simp only[if_neg h1,if_pos h2];exact⟨(fun h=>by cases h),fun h=>by grind⟩
   ·simp only[if_neg h1,if_neg h2];exact⟨fun _=>by grind,fun _=>trivial⟩
 trans a b c:=by
  unfold cB;intro h1 h2;have e1:¬b < a:=fun h=>by
   have:¬a < b:=by grind
   rw[if_neg this,if_pos h]at h1;omega
  have e2:¬c < b:=fun h=>by
   have:¬b < c:=by grind
   rw[if_neg this,if_pos h]at h2;omega
  have e3:¬c < a:=by grind
  rw[if_neg e3];split <;> decide
def uB(x y:Int):Int:=if x=0 then y else x
theorem MR{x y:Int}:uB x y=0↔x=0∧y=0:=by
 unfold uB;split <;> omega
inductive Tr where
 |num (q:Rat)
 |txt (t:bi)
 |sym (p s:bi)
 |cons (a d:Tr)
namespace Tr
def ob:Tr→Ob
 |.num q=>R6 q
 |.txt t=>jw t
 |.sym p s=>gT p s
 |.cons a d=>dh a.ob d.ob
def size:Tr→Nat
 |.cons a d=>a.size+d.size+1
 |_=>1
theorem size_pos(t:Tr):1≤t.size:=by cases t <;> simp[size]
theorem Bc:∀{a b:Tr},a.ob=b.ob→a=b
 |.num p,.num q,h=>by rw[a0t.1 h]
 |.txt s,.txt t,h=>by injection h with _ _ _ _ _ h;rw[h]
 |.sym p s,.sym p' s',h=>by injection h with _ _ _ h1 h2;rw[h1,h2]
 |.cons a d,.cons a' d',h=>by
  injection h with _ _ _ _ _ _ h
  injection h with h1 h2
  injection h2 with h2
  rw[Bc h1,Bc h2]
 |.num _,.txt _,h=>by injection h with h;cases h
 |.num _,.sym _ _,h=>by injection h with h;cases h
 |.num _,.cons _ _,h=>by injection h with h;cases h
 |.txt _,.num _,h=>by injection h with h;cases h
 |.txt _,.sym _ _,h=>by injection h with h;cases h
 |.txt _,.cons _ _,h=>by injection h with h;cases h
 |.sym _ _,.num _,h=>by injection h with h;cases h
 |.sym _ _,.txt _,h=>by injection h with h;cases h
 |.sym _ _,.cons _ _,h=>by injection h with h;cases h
 |.cons _ _,.num _,h=>by injection h with h;cases h
 |.cons _ _,.txt _,h=>by injection h with h;cases h
 |.cons _ _,.sym _ _,h=>by injection h with h;cases h
theorem wO{a b:Tr}:a.ob=b.ob↔a=b:=⟨Bc,fun h=>by rw[h]⟩
def Ok(k:Nat):Tr→Prop
 |.num q=>Rb k q
 |.txt t=>t.length≤100000
 |.sym p s=>p.length≤100000∧s.length≤100000
 |.cons a d=>a.Ok k∧d.Ok k
theorem Ok.mono{k m:Nat}(hm:k≤m):∀{t:Tr},t.Ok k→t.Ok m
 |.num _,h=>Rb.mono h hm
 |.txt _,h=>h
 |.sym _ _,h=>h
 |.cons _ _,h=>⟨Ok.mono hm h.1,Ok.mono hm h.2⟩
theorem Ok.wf{k:Nat}(hk:k≤100000):∀{t:Tr},t.Ok k→t.ob.Wf
 |.num q,h=>by
  have h1:=Rb.lV h;have h2:=Rb.oo h;exact .mk (R6 q) (by show (-9223372036854775808:Int)≤1;omega) (by show (1:Int)≤_;omega) (by show (Lib.itoa q.num).length≤_;omega) (by show (Lib.itoa (q.den:Int)).length≤_;omega) (Nat.zero_le _) (Nat.zero_le _) (Nat.zero_le _) (Nat.zero_le _) (fun x hx=>by cases hx)
 |.txt t,h=>by
  have h':t.length≤100000:=h;exact .mk (jw t) (by show (-9223372036854775808:Int)≤3;omega) (by show (3:Int)≤_;omega) (Nat.zero_le _) (Nat.zero_le _) (Nat.zero_le _) (Nat.zero_le _) (by show t.length≤_;omega) (Nat.zero_le _) (fun x hx=>by cases hx)
 |.sym p s,h=>by
  obtain⟨h1,h2⟩:=h;exact .mk (gT p s) (by show (-9223372036854775808:Int)≤2;omega) (by show (2:Int)≤_;omega) (Nat.zero_le _) (Nat.zero_le _) (by show p.length≤_;omega) (by show s.length≤_;omega) (Nat.zero_le _) (Nat.zero_le _) (fun x hx=>by cases hx)
 |.cons a d,h=>by
  have h1:=Ok.wf hk h.1;have h2:=Ok.wf hk h.2;exact .mk (dh a.ob d.ob) (by show (-9223372036854775808:Int)≤4;omega) (by show (4:Int)≤_;omega) (Nat.zero_le _) (Nat.zero_le _) (Nat.zero_le _) (Nat.zero_le _) (Nat.zero_le _) (by show 2≤9223372036854775807;omega) (fun x hx=>by
   simp only[List.mem_cons,List.not_mem_nil,or_false]at hx;rcases hx with rfl | rfl <;> assumption)
def val:Tr→Rat
 |.num q=>q
 |_=>0
theorem Be(t:Tr):Val t.ob t.val:=by
 cases t with
 |num q=>exact Val.rat q
 |txt t=>exact .inr ⟨by show (3:Int)≠1;decide,rfl⟩
 |sym p s=>exact .inr ⟨by show (2:Int)≠1;decide,rfl⟩
 |cons a d=>exact .inr ⟨by show (4:Int)≠1;decide,rfl⟩
theorem Ok.val{k:Nat}{t:Tr}(h:t.Ok k)(hk:1≤k):Rb k t.val:=by
 cases t with
 |num q=>exact h
 |_=>exact Rb.zero.mono hk
def rank:Tr→Int
 |.num _=>0
 |.txt _=>1
 |.sym _ _=>2
 |.cons _ _=>3
def cmp:Tr→Tr→Int
 |.num p,.num q=>cB p q
 |.txt s,.txt t=>uA s t
 |.sym p s,.sym p' s'=>uB (uA s s') (uA p p')
 |.cons a d,.cons a' d'=>uB (cmp a a') (cmp d d')
 |x,y=>if x.rank < y.rank then -1 else 1
theorem Fq:∀a b:Tr,cmp a b=0↔a=b
 |.num p,.num q=>(a2K.zero p q).trans ⟨fun h=>by rw[h],fun h=>by injection h⟩
 |.txt s,.txt t=>(Aj s t).trans ⟨fun h=>by rw[h],fun h=>by injection h⟩
 |.sym p s,.sym p' s'=>by
  show uB _ _=0↔_;rw[MR,Aj,Aj];exact⟨fun h=>by rw[h.1,h.2],fun h=>by injection h with h1 h2;exact⟨h2,h1⟩⟩
 |.cons a d,.cons a' d'=>by
  show uB _ _=0↔_;rw[MR,Fq a a',Fq d d'];exact⟨fun h=>by rw[h.1,h.2],fun h=>by injection h with h1 h2;exact⟨h1,h2⟩⟩
 |.num _,.txt _=>⟨(fun h=>by cases h),(fun h=>by cases h)⟩
 |.num _,.sym _ _=>⟨(fun h=>by cases h),(fun h=>by cases h)⟩
 |.num _,.cons _ _=>⟨(fun h=>by cases h),(fun h=>by cases h)⟩
 |.txt _,.num _=>⟨(fun h=>by cases h),(fun h=>by cases h)⟩
 |.txt _,.sym _ _=>⟨(fun h=>by cases h),(fun h=>by cases h)⟩
 |.txt _,.cons _ _=>⟨(fun h=>by cases h),(fun h=>by cases h)⟩
 |.sym _ _,.num _=>⟨(fun h=>by cases h),(fun h=>by cases h)⟩
 |.sym _ _,.txt _=>⟨(fun h=>by cases h),(fun h=>by cases h)⟩
 |.sym _ _,.cons _ _=>⟨(fun h=>by cases h),(fun h=>by cases h)⟩
 |.cons _ _,.num _=>⟨(fun h=>by cases h),(fun h=>by cases h)⟩
 |.cons _ _,.txt _=>⟨(fun h=>by cases h),(fun h=>by cases h)⟩
 |.cons _ _,.sym _ _=>⟨(fun h=>by cases h),(fun h=>by cases h)⟩
def list:List Tr→Tr
 |[]=>.sym o6 R4
 |a::r=>.cons a (list r)
theorem Pm:∀l:List Tr,(list l).ob=qw (l.map ob)
 |[]=>rfl
 |a::r=>by show dh a.ob (list r).ob=_;rw[Pm r];rfl
end Tr
def fT(p:Prop)(w:World)(e:Ending)(w':World):Prop:=∃b:Bool,e=.returned (.bool b)∧(b=true↔p)∧Below w.heap.size w w'
theorem dO{p:Prop}(h:¬p):(false=true)↔p:=⟨(fun e=>by cases e),fun e=>absurd e h⟩
theorem Pn{p:Prop}(h:p):(true=true)↔p:=⟨fun _=>h,fun _=>rfl⟩
theorem wO(k:Int)(n d p s t:bi)(l m:List Ob):l=m↔(⟨k,n,d,p,s,t,l⟩:Ob)=⟨k,n,d,p,s,t,m⟩:=⟨fun e=>by rw[e],fun e=>by injection e⟩
theorem Zq{l m:List Ob}{n:Nat}(hl:l.length=n)(hm:m.length=n)(h0:0 < n)(h:∀j (h1:j < l.length) (h2:j < m.length),j < n - 1→l[j]=m[j]):(l[n - 1]'J=m[n - 1]'J)↔l=m:=by
 constructor
 ·intro e;apply List.ext_getElem J;intro i h1 h2;by_cases hi:i < n - 1
  ·exact h i h1 h2 hi
  ·obtain rfl:i=n - 1:=J;exact e
 ·intro e;subst e;rfl
theorem LY(ok ok':Nat→Prop):∀(N:Nat) (a b:Ob),a.size≤N→a.Wf→∀(A A':Option Addr) (n n' c c':Nat) (w:World),Rd ok w (.slice A n c) (.row (a.pair.map Ob.enc))→Rd ok' w (.slice A' n' c') (.row (b.pair.map Ob.enc)) →
  Calls prog 105 #[F5 a (.slice A n c),F5 b (.slice A' n' c')] w (fT (a=b) w):=by
 intro N
 induction N with
 |zero=>intro a b h;have:=Ob.size_pos a;omega
 |succ N ih =>
  intro a b hN hW A A' n n' c c' w hA hB
  go_enter func105,ntmps105
  go_wp2
  go_loopg [5] a.size (fun gx _ wr=>∃(x y:Ob) (A2 A3:Option Addr) (n2 n3 c2 c3:Nat),Hid (y9 wr w.heap.size 48 (R8 x (.slice A2 n2 c2)))∧Hid (y9 wr (w.heap.size+1) 48 (R8 y (.slice A3 n3 c3)))∧Rd ok w (.slice A2 n2 c2) (.row (x.pair.map Ob.enc))∧Rd ok' w (.slice A3 n3 c3) (.row (y.pair.map Ob.enc))∧x.size≤N+1∧x.Wf∧Hid (x=y↔a=b)∧x.size≤gx∧Below w.heap.size w wr)
  case atStart=>exact⟨a,b,A,A',n,n',c,c',Lib.hid ((y9.new w _ _).alloc _),Lib.hid (y9.lT w _ _ _),hA,hB,hN,hW,Lib.hid Iff.rfl,Nat.le_refl _,aT (box _ _) _⟩
  case round =>
   obtain⟨⟨xk,xn,xd,xp,xs,xt,xl⟩,⟨yk,yn,yd,yp,ys,yt,yl⟩,A2,A3,n2,n3,c2,c3,HX,HY,hx,hy,JX,Kj,HI,hg,hb⟩:=hrel;obtain⟨u0,u1,u2,u3,u4,u5,u6,hu⟩:=HX.out.seven;obtain⟨v0,v1,v2,v3,v4,v5,v6,hv⟩:=HY.out.seven;have hxl:=hx.len;have hyl:=hy.len;rw[List.length_map]at hxl hyl;have hw1:=Kj.len;dsimp only at hxl hyl hw1 u0 u1 u2 u3 u4 u5 u6 v0 v1 v2 v3 v4 v5 v6;have HN:=fun (h:¬((Ob.mk xk xn xd xp xs xt xl)=(Ob.mk yk yn yd yp ys yt yl)))=>Lib.hid (fun e=>h (HI.out.2 e))
   by_cases hk:xk=yk
   case neg =>
    have hz:(xk != yk)=true:=by rw[bne_iff_ne];exact hk
    have HF:=HN (fun e=>hk (by injection e));clear HN hk hxl hyl;go_wp2;go_ret;exact⟨false,rfl,dO HF.out,hb⟩
   subst hk;by_cases hn:xn=yn
   case neg =>
    have hz:(xn == yn)=false:=by rw[beq_eq_false_iff_ne];exact hn
    have HF:=HN (fun e=>hn (by injection e));clear HN hn hxl hyl;go_wp2;go_ret;exact⟨false,rfl,dO HF.out,hb⟩
   subst hn;by_cases hd:xd=yd
   case neg =>
    have hz:(xd == yd)=false:=by rw[beq_eq_false_iff_ne];exact hd
    have HF:=HN (fun e=>hd (by injection e));clear HN hd hxl hyl;go_wp2;go_ret;exact⟨false,rfl,dO HF.out,hb⟩
   subst hd;by_cases hp:xp=yp
   case neg =>
    have hz:(xp == yp)=false:=by rw[beq_eq_false_iff_ne];exact hp
    have HF:=HN (fun e=>hp (by injection e));clear HN hp hxl hyl;go_wp2;go_ret;exact⟨false,rfl,dO HF.out,hb⟩
   subst hp;by_cases hs:xs=ys
   case neg =>
    have hz:(xs == ys)=false:=by rw[beq_eq_false_iff_ne];exact hs
    have HF:=HN (fun e=>hs (by injection e));clear HN hs hxl hyl;go_wp2;go_ret;exact⟨false,rfl,dO HF.out,hb⟩
   subst hs;by_cases ht:xt=yt
   case neg =>
    have hz:(xt == yt)=false:=by rw[beq_eq_false_iff_ne];exact ht
    have HF:=HN (fun e=>ht (by injection e));clear HN ht hxl hyl;go_wp2;go_ret;exact⟨false,rfl,dO HF.out,hb⟩
   subst ht;by_cases hl:n2=n3
   case neg =>
    have hz:((n2:Int) != (n3:Int))=true:=by rw[bne_iff_ne];omega
    have HF:=HN (fun e=>hl (by injection e with _ _ _ _ _ _ e;rw[←hxl,←hyl,e]));clear HN hl hxl hyl;go_wp2;go_ret;exact⟨false,rfl,dO HF.out,hb⟩
   subst hl;clear HN;have CR:=Lib.hid hxl;have CU:=Lib.hid hyl;rw[hxl]at hw1;clear hxl hyl;by_cases h0:n2=0
   ·subst h0;have HT:Hid (a=b):=HI.out.1 (by rw[List.eq_nil_of_length_eq_zero CR.out,List.eq_nil_of_length_eq_zero CU.out]);go_wp2;go_ret;exact⟨true,rfl,Pn HT.out,hb⟩
   ·have hz0:((n2:Int) == 0)=false:=by rw[beq_eq_false_iff_ne];omega
    go_wp2;clear u0 u1 u2 u3 u4 u5 u6 hu v0 v1 v2 v3 v4 v5 v6 hv
    go_loopw [56] (fun ix wq=>∃i:Nat,i≤n2 - 1∧ix=.int .i64 i∧Hid (∀j (h1:j < xl.length) (h2:j < yl.length),j < i→xl[j]=yl[j])∧Hid (y9 wq w.heap.size 48 (R8 ⟨xk,xn,xd,xp,xs,xt,xl⟩ (.slice A2 n2 c2)))∧Hid (y9 wq (w.heap.size+1) 48 (R8 ⟨xk,xn,xd,xp,xs,xt,yl⟩ (.slice A3 n2 c3)))∧Below w.heap.size w wq) (fun ix _=>n2 - 1 - (intOf ix).toNat)
    case atStart=>exact⟨0,Nat.zero_le _,rfl,Lib.hid (fun j _ _ h=>absurd h J),HX,HY,hb⟩
    case round =>
     clear HX HY hb;obtain⟨i,hi,rfl,HJ,HX,HY,hb⟩:=hrel;obtain⟨u0,u1,u2,u3,u4,u5,u6,hu⟩:=HX.out.seven;obtain⟨v0,v1,v2,v3,v4,v5,v6,hv⟩:=HY.out.seven;obtain⟨f0,f1,f2,f3,f4,f5,f6⟩:=HX.out.bN;obtain⟨g0,g1,g2,g3,g4,g5,g6⟩:=HY.out.bN;by_cases hin:i < n2 - 1
     ·obtain⟨p1,q1,hil,A4,n4,c4,rfl,hp1,_,a0,a1,a2,a3,a4,a5,a6,ha⟩:=hx.dD hb (i:=i) J;obtain⟨p2,q2,Uo,A5,n5,c5,rfl,hp2,_,b0,b1,b2,b3,b4,b5,b6,hb'⟩:=hy.dD hb (i:=i) J;have hp1':=Nat.lt_of_lt_of_le hp1 hb.size;have Uq:=Nat.lt_of_lt_of_le hp2 hb.size;have hsz:=Ob.iI (o:=⟨xk,xn,xd,xp,xs,xt,xl⟩) (x:=xl[i]) (List.getElem_mem hil);have hwf:=Kj.kids (x:=xl[i]) (List.getElem_mem hil);have HC:Hid (∀wd:World,Below w.heap.size w wd→Calls prog 105 #[F5 xl[i] (.slice A4 n4 c4),F5 yl[i] (.slice A5 n5 c5)] wd (fT (xl[i]=yl[i]) wd)):=fun wd hd=>ih xl[i] yl[i] J hwf A4 A5 n4 n5 c4 c5 wd (ha.under hd) (hb'.under hd)
      have hi1:(0:Int)≤(i:Int):=J;have hi2:(i:Int) < n2:=J;have hi3:i < n2:=J;have hbd:=hb.drew
      go_upto_region 9 with (fail)
      go_still_tail 10,(by kernel_rfl)
      go_wp2_with fail
      refine (HC.out _ hbd).mono ?_;rintro e w1 ⟨bb,rfl,hbb,hb1⟩;have eH:=J9 hbd hb1;cases bb with
      |false =>
       have HF:Hid (¬a=b):=fun e=>by
        have e2:=HI.out.2 e;injection e2 with _ _ _ _ _ _ e2
        have:=hbb.2 (by subst e2;rfl);cases this
       clear hbb;go_wp2;go_ret;exact⟨false,rfl,dO HF.out,eH⟩
      |true =>
       have HE:=Lib.hid (hbb.1 rfl);clear hbb;go_wp2
       go_roundw
       case rel=>exact⟨i+1,J,by go_num,Lib.hid (fun j h1 h2 h=>by
        rcases Nat.lt_or_ge j i with h3 | h3
        ·exact HJ.out j h1 h2 h3
        ·obtain rfl:j=i:=J;exact HE.out),Lib.hid (HX.out.drew.below hb1),Lib.hid (HY.out.drew.below hb1),eH⟩
       case measure=>simp only[intOf];omega
     ·obtain rfl:i=n2 - 1:=J;obtain⟨p1,q1,hil,A4,n4,c4,rfl,hp1,_,a0,a1,a2,a3,a4,a5,a6,ha⟩:=hx.dD hb (i:=n2 - 1) J;obtain⟨p2,q2,Uo,A5,n5,c5,rfl,hp2,_,b0,b1,b2,b3,b4,b5,b6,hb'⟩:=hy.dD hb (i:=n2 - 1) J;have hp1':=Nat.lt_of_lt_of_le hp1 hb.size;have Uq:=Nat.lt_of_lt_of_le hp2 hb.size;have hsz:=Ob.iI (o:=⟨xk,xn,xd,xp,xs,xt,xl⟩) (x:=xl[n2 - 1]) (List.getElem_mem hil);have hwf:=Kj.kids (x:=xl[n2 - 1]) (List.getElem_mem hil);have HL:=Lib.hid (Zq CR.out CU.out J HJ.out);have hi1:(0:Int)≤(n2:Int) - 1:=J;have hi2:(n2:Int) - 1 < n2:=J;have hi3:((n2:Int) - 1).toNat=n2 - 1:=J;have hbd:=hb.drew
      go_upto_region 12 with (fail)
      have w1:IntKind.i64.wrap ((n2:Int) - 1)=(n2:Int) - 1:=IntWalk.i64_in _ J
      go_region
      clear w1;go_wp2
      go_roundg (xl[n2 - 1].size)
      case measure=>omega
      case rel =>
       exact⟨xl[n2 - 1],yl[n2 - 1],A4,A5,n4,n5,c4,c5,Lib.hid ((HX.out.dE.qB J _ _ _ _ _ _ _).drew),Lib.hid ((HY.out.qB J _ _ _ _ _ _ _).dE.drew),ha,hb',J,hwf,Lib.hid (HL.out.trans ((wO xk xn xd xp xs xt xl yl).trans HI.out)),Nat.le_refl _,(dF (dF hb (Nat.le_refl _) _ _ _ _ _ _ _) (Nat.le_succ _) _ _ _ _ _ _ _).drew⟩
def sn(q:Rat):bi:=Lib.itoa q.num
def sd(q:Rat):bi:=Lib.itoa (q.den:Int)
abbrev nv(q:Rat)(A:Option Addr)(c:Nat):Value:=F5 (U9 (sn q) (sd q)) (.slice A 0 c)
end Go.Proofs.YtdkehabacmlegaaGreatDoor
