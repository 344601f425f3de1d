/- The reference's count, Nodes, formed, Valid, for any object. -/
import Derived.Test.YthhknjlmjefklaaGreatDoorBF
import Derived.Test.YthhknjlmjefklaaGreatDoorBD
import Derived.Test.YthhknjlmjefklaaGreatDoorBB
import Derived.Lib.SmallJoins
import Derived.Test.YthhknjlmjefklaaGreatDoorCards
import Derived.Test.YthhknjlmjefklaaGreatDoorTie
import Derived.ProofKit
import Derived.OpenShut
import Derived.ShutString
import Derived.Deep.DeepHandedRow
import Derived.Deep.DeepWitnessRowRef
import Derived.Lib.ItoaNum
import Derived.Lib.LaidTab
import Derived.LaidSub
import Derived.Orders
import Derived.Laws.CopyRow
import Derived.Laws.Cells
set_option maxRecDepth 100000
set_option maxHeartbeats 4000000
namespace Go.Proofs.YthhknjlmjefklaaGreatDoor
open Go.Proofs.Tryz
open Go.RowKit
theorem count_any(ok:Nat→Prop):∀(N:Nat) (o:Ob),o.size≤N→o.Wf→∀(A:Option Addr) (n c L:Nat) (w:World),Rd ok w (.slice A n c) (.row (o.pair.map Ob.enc))→1≤L→L≤3001 →
  Calls prog 128 #[N7 o (.slice A n c),.int .i64 L] w (P6 (.int .i64 (min o.nodes L:Nat)) w):=by
 intro N
 induction N with
 |zero=>intro o h;have:=Ob.size_pos o;omega
 |succ N ih =>
  intro o hN hW A n c L w hP hL0 hL1;have hlen:=hP.len;rw[EQ]at hlen;have hn:n≤9223372036854775807:=by rw[←hlen];exact hW.len
  by_cases h2:n=2
  case neg =>
   have hz:((n:Int) != 2)=true:=by rw[bne_iff_ne];omega
   have e:min o.nodes L=1:=by rw[Ob.He J];omega
   rw[e];clear hlen e h2
   go_enter func128,ntmps128
   go_wp2;go_ret;exact⟨rfl,box _ _⟩
  subst h2;by_cases h1:L≤1
  ·have e:min o.nodes L=1:=by have:=o.wI;omega
   rw[e];clear hlen e
   go_enter func128,ntmps128
   go_wp2;go_ret;exact⟨rfl,box _ _⟩
  obtain⟨a,d,had⟩:=Ob.Gv hlen;have hsa:=Ob.pF (o:=o) (x:=a) (by rw[had];simp);have hsd:=Ob.pF (o:=o) (x:=d) (by rw[had];simp);have Ub:=WP (hW.kids (x:=a) (by rw[had];simp));have Uc:=WP (hW.kids (x:=d) (by rw[had];simp));have KP:=WP (Ob.NF had);have pa:=a.wI;have pd:=d.wI;obtain⟨z,hz⟩:∃z:Nat,z=min o.nodes L:=⟨_,rfl⟩;rw[←hz];have HZ:=WP hz;clear hz;rw[had]at hP;have b0:=box w (.cells (aB o (.slice A 2 c)) 37);obtain⟨b,q,_,A3,n3,c3,rfl,hbl,_,a0,a1,a2,a3,a4,a5,a6,ha⟩:=hP.jD b0 (i:=0) J;simp only[ZaW,Nat.zero_mul,Nat.add_zero]at a0 a1 a2 a3 a4 a5 a6 ha;have JU:=Zaa hbl b0.size;have HC:Hid (∀w':World,Below w.heap.size w w'→Calls prog 128 #[N7 a (.slice A3 n3 c3),.int .i64 ((L:Int) - 1)] w' (P6 (.int .i64 (min a.nodes (L - 1):Nat)) w')):=fun w' hb=>by
   have:=ih a J Ub.out A3 n3 c3 (L - 1) w' (ha.under hb) J J
   rwa [show ((L - 1:Nat):Int)=(L:Int) - 1 by omega]at this
  have X0:=WP (F5.new w 37 (aB o (.slice (some ⟨b,q,none⟩) 2 c)));clear hlen
  go_enter func128,ntmps128
  go_wp2_with fail
  refine (HC.out _ b0).mono ?_;rintro e w1 ⟨rfl,hb1⟩;have b1:=U3 b0 hb1;have X1:=WP (X0.out.below hb1);clear a0 a1 a2 a3 a4 a5 a6 X0;by_cases h3:L - 1≤a.nodes
  ·have e1:min a.nodes (L - 1)=L - 1:=J;obtain rfl:z=L:=by rw[HZ.out,KP.out];omega
   have e3:((z - 1:Nat):Int)=(z:Int) - 1:=J;rw[e1,e3];clear e1 e3 HZ KP;go_wp2;go_ret;exact⟨by go_num,b1⟩
  ·have e1:min a.nodes (L - 1)=a.nodes:=J;obtain⟨md,hmd⟩:∃md,md=min d.nodes (L - (1+a.nodes)):=⟨_,rfl⟩;obtain rfl:z=a.nodes+1+md:=by rw[HZ.out,KP.out];omega
   rw[e1];clear e1 HZ KP;obtain⟨y0,y1,y2,y3,y4,y5,y6,yl⟩:=X1.out.seven;obtain⟨b',q',_,A4,n4,c4,eA,_,_,d0,d1,d2,d3,d4,d5,d6,hd⟩:=hP.jD b1 (i:=1) J;injection eA with eA
   injection eA with eb eq
   subst eb eq;simp only[ZaW,List.getElem_cons_succ,Nat.one_mul]at d0 d1 d2 d3 d4 d5 d6 hd;have a2y:=Zaa hbl b1.size;have HC2:Hid (Calls prog 128 #[N7 d (.slice A4 n4 c4),.int .i64 ((L:Int) - (1+(a.nodes:Int)))] w1 (P6 (.int .i64 (min d.nodes (L - (1+a.nodes)):Nat)) w1)):=by
    have:=ih d J Uc.out A4 n4 c4 (L - (1+a.nodes)) w1 (hd.under b1) J J
    rwa [show ((L - (1+a.nodes):Nat):Int)=(L:Int) - (1+(a.nodes:Int)) by omega]at this
   have hm:md≤3001:=J;rw[←hmd]at HC2;clear pd hmd;generalize a.nodes=na at *
   go_wp2_with fail
   refine HC2.out.mono ?_;rintro e w2 ⟨rfl,hb2⟩;go_wp2;go_ret;exact⟨by go_num,U3 b1 hb2⟩
theorem VJ(ok:Nat→Prop)(o:Ob)(hW:o.Wf)(A:Option Addr)(n c:Nat)(w:World)(hP:Rd ok w (.slice A n c) (.row (o.pair.map Ob.enc))) :
  Calls prog 101 #[N7 o (.slice A n c)] w (P6 (.int .i64 (aC o)) w):=by
 have HC:Hid (∀w':World,Below w.heap.size w w'→Calls prog 128 #[N7 o (.slice A n c),.int .i64 3001] w' (P6 (.int .i64 (aC o)) w')):=fun w' hb=>by
  have:=count_any ok o.size o (NE _) hW A n c 3001 w' (hP.under hb) J J
  rwa [show ((min o.nodes 3001:Nat):Int)=aC o by unfold aC;split <;> omega]at this
 generalize aC o=z at *
 go_enter func101,ntmps101
 go_wp2_with fail
 refine (HC.out _ (box _ _)).mono ?_;rintro e w1 ⟨rfl,hb⟩;go_wp2;go_ret;exact⟨rfl,via hb⟩
theorem a5L(xn xd xp xs xt:aa0)(xl:List Ob)(A:Option Addr)(n c:Nat)(w:World)(hlen:xl.length=n)(hn:n≤9223372036854775807)(h1:xn.length≤1100000)(h2:xd.length≤1100000) :
  Calls prog 156 #[N7 ⟨1,xn,xd,xp,xs,xt,xl⟩ (.slice A n c)] w (P6 (.bool (Ob.az ⟨1,xn,xd,xp,xs,xt,xl⟩)) w):=by
 have HR:Hid (∀w':World,Calls prog 72 #[str xn,str xd] w' (iW (Lib.itoa (bu (l9.D5 xn) (l9.D5 xd))) (Lib.itoa (bz (l9.D5 xn) (l9.D5 xd))) w')):=fun w'=>MP xn xd w' h1 h2
 have HD1:Hid (∀w':World,Calls prog 186 #[str xn] w' (pR (dg xn:Nat) w')):=fun w'=>MN xn w' J
 have HD2:Hid (∀w':World,Calls prog 186 #[str xd] w' (pR (dg xd:Nat) w')):=fun w'=>MN xd w' J
 have Fa:dg xn≤1100002:=by have h1:=l9.lV (norm xn);have h2:=pq xn;show (l9.mag (norm xn)).length≤_;omega
 have Fb:dg xd≤1100002:=by have h1:=l9.lV (norm xd);have h2:=pq xd;show (l9.mag (norm xd)).length≤_;omega
 obtain⟨fb,hfb⟩:∃fb,fb=Ob.az ⟨1,xn,xd,xp,xs,xt,xl⟩:=⟨_,rfl⟩;rw[←hfb];have HF:Hid (Ob.az ⟨1,xn,xd,xp,xs,xt,xl⟩=fb):=hfb.symm;clear hfb;have HL:Hid (kD xn xd=decide (Lib.itoa (bu (l9.D5 xn) (l9.D5 xd))=xn∧Lib.itoa (bz (l9.D5 xn) (l9.D5 xd))=xd∧dg xn≤100∧dg xd≤100)):=rfl;generalize Lib.itoa (bu (l9.D5 xn) (l9.D5 xd))=x at *;generalize Lib.itoa (bz (l9.D5 xn) (l9.D5 xd))=y at *;generalize dg xn=da at *;generalize dg xd=db at *;by_cases hxp:xp=[]
 case neg =>
  obtain rfl:fb=false:=by rw[←HF.out,Ob.ah];simp only[show ¬((1:Int)=4) by decide,ZaM,ZaP];rw[Zal];intro h;simp only[AC,Za3]at h;exact hxp (by simp[h])
  have hz:(xp == [])=false:=by rw[IR];exact hxp
  clear HF hxp hlen
  go_enter func156,ntmps156
  go_wp2_with fail
  refine (HR.out _).mono ?_;rintro e w1 ⟨rfl,hb1⟩;have X1:=WP (F5.via hb1);obtain⟨x0,x1,x2,x3,x4,x5,x6,xl⟩:=X1.out.seven;go_wp2;go_ret;exact⟨rfl,via hb1⟩
 subst hxp;by_cases hxs:xs=[]
 case neg =>
  obtain rfl:fb=false:=by rw[←HF.out,Ob.ah];simp only[show ¬((1:Int)=4) by decide,ZaM,ZaP];rw[Zal];intro h;simp only[AC,Za3]at h;exact hxs (by simp[h])
  have hz:(xs == [])=false:=by rw[IR];exact hxs
  clear HF hxs hlen
  go_enter func156,ntmps156
  go_wp2_with fail
  refine (HR.out _).mono ?_;rintro e w1 ⟨rfl,hb1⟩;have X1:=WP (F5.via hb1);obtain⟨x0,x1,x2,x3,x4,x5,x6,xl⟩:=X1.out.seven;go_wp2;go_ret;exact⟨rfl,via hb1⟩
 subst hxs;by_cases hxt:xt=[]
 case neg =>
  obtain rfl:fb=false:=by rw[←HF.out,Ob.ah];simp only[show ¬((1:Int)=4) by decide,ZaM,ZaP];rw[Zal];intro h;simp only[AC,Za3]at h;exact hxt (by simp[h])
  have hz:(xt == [])=false:=by rw[IR];exact hxt
  clear HF hxt hlen
  go_enter func156,ntmps156
  go_wp2_with fail
  refine (HR.out _).mono ?_;rintro e w1 ⟨rfl,hb1⟩;have X1:=WP (F5.via hb1);obtain⟨x0,x1,x2,x3,x4,x5,x6,xl⟩:=X1.out.seven;go_wp2;go_ret;exact⟨rfl,via hb1⟩
 subst hxt;by_cases hn0:n=0
 case neg =>
  obtain rfl:fb=false:=by rw[←HF.out,Ob.ah];simp only[show ¬((1:Int)=4) by decide,ZaM,ZaP];rw[Zal];intro h;simp only[AC,Za3]at h;exact hn0 (by rw[←hlen];simp[h])
  have hz:((n:Int) == 0)=false:=by rw[IR];omega
  clear HF hn0 hlen
  go_enter func156,ntmps156
  go_wp2_with fail
  refine (HR.out _).mono ?_;rintro e w1 ⟨rfl,hb1⟩;have X1:=WP (F5.via hb1);obtain⟨x0,x1,x2,x3,x4,x5,x6,xl⟩:=X1.out.seven;go_wp2;go_ret;exact⟨rfl,via hb1⟩
 subst hn0;have HZ:Hid (fb=decide (x=xn∧y=xd∧da≤100∧db≤100)):=by
  show fb=_;rw[←HF.out,Ob.ah,←HL.out];simp[hlen]
 clear HF HL hlen;by_cases e1:x=xn
 case neg =>
  obtain rfl:fb=false:=by rw[HZ.out];exact WF (fun h=>e1 h.1)
  have hz:(x == xn)=false:=by rw[IR];exact e1
  clear e1;clear HZ
  go_enter func156,ntmps156
  go_wp2_with fail
  refine (HR.out _).mono ?_;rintro e w1 ⟨rfl,hb1⟩;have X1:=WP (F5.via hb1);obtain⟨x0,x1,x2,x3,x4,x5,x6,xl⟩:=X1.out.seven;go_wp2;go_ret;exact⟨rfl,via hb1⟩
 subst e1;by_cases e2:y=xd
 case neg =>
  obtain rfl:fb=false:=by rw[HZ.out];exact WF (fun h=>e2 h.2.1)
  have hz:(y == xd)=false:=by rw[IR];exact e2
  clear e2;clear HZ
  go_enter func156,ntmps156
  go_wp2_with fail
  refine (HR.out _).mono ?_;rintro e w1 ⟨rfl,hb1⟩;have X1:=WP (F5.via hb1);obtain⟨x0,x1,x2,x3,x4,x5,x6,xl⟩:=X1.out.seven;go_wp2;go_ret;exact⟨rfl,via hb1⟩
 subst e2;by_cases e3:da≤100
 case neg =>
  obtain rfl:fb=false:=by rw[HZ.out];exact WF (fun h=>e3 h.2.2.1)
  have hd3:decide ((da:Int)≤100)=false:=WF J;clear HZ
  go_enter func156,ntmps156
  go_wp2_with fail
  refine (HR.out _).mono ?_;rintro e w1 ⟨rfl,hb1⟩;have X1:=WP (F5.via hb1);obtain⟨x0,x1,x2,x3,x4,x5,x6,xl⟩:=X1.out.seven
  go_wp2_with fail
  refine (HD1.out _).mono ?_;rintro e w2 ⟨rfl,hb2⟩;go_wp2;go_ret;exact⟨rfl,U3 (via hb1) hb2⟩
 have hd3:decide ((da:Int)≤100)=true:=UV J;by_cases e4:db≤100
 case neg =>
  obtain rfl:fb=false:=by rw[HZ.out];exact WF (fun h=>e4 h.2.2.2)
  have hd4:decide ((db:Int)≤100)=false:=WF J;clear HZ
  go_enter func156,ntmps156
  go_wp2_with fail
  refine (HR.out _).mono ?_;rintro e w1 ⟨rfl,hb1⟩;have X1:=WP (F5.via hb1);obtain⟨x0,x1,x2,x3,x4,x5,x6,xl⟩:=X1.out.seven
  go_wp2_with fail
  refine (HD1.out _).mono ?_;rintro e w2 ⟨rfl,hb2⟩
  go_wp2_with fail
  refine (HD2.out _).mono ?_;rintro e w3 ⟨rfl,hb3⟩;go_wp2;go_ret;exact⟨rfl,U3 (U3 (via hb1) hb2) hb3⟩
 have hd4:decide ((db:Int)≤100)=true:=UV J;obtain rfl:fb=true:=by rw[HZ.out];exact UV ⟨rfl,rfl,e3,e4⟩
 clear HZ
 go_enter func156,ntmps156
 go_wp2_with fail
 refine (HR.out _).mono ?_;rintro e w1 ⟨rfl,hb1⟩;have X1:=WP (F5.via hb1);obtain⟨x0,x1,x2,x3,x4,x5,x6,xl⟩:=X1.out.seven
 go_wp2_with fail
 refine (HD1.out _).mono ?_;rintro e w2 ⟨rfl,hb2⟩
 go_wp2_with fail
 refine (HD2.out _).mono ?_;rintro e w3 ⟨rfl,hb3⟩;go_wp2;go_ret;exact⟨rfl,U3 (U3 (via hb1) hb2) hb3⟩
theorem a5M(xn xd xp xs xt:aa0)(xl:List Ob)(A:Option Addr)(n c:Nat)(w:World)(hlen:xl.length=n)(hn:n≤9223372036854775807)(h1:xp.length≤9223372036854775807)(h2:xs.length≤9223372036854775807) :
  Calls prog 156 #[N7 ⟨2,xn,xd,xp,xs,xt,xl⟩ (.slice A n c)] w (P6 (.bool (Ob.az ⟨2,xn,xd,xp,xs,xt,xl⟩)) w):=by
 have HS:Hid (∀w':World,Calls prog 202 #[.agg #[str xp,str xs]] w' (P6 (.bool (Y8 ⟨xp,xs⟩)) w')):=fun w'=>UW ⟨xp,xs⟩ w' h1 h2
 obtain⟨fb,hfb⟩:∃fb,fb=Ob.az ⟨2,xn,xd,xp,xs,xt,xl⟩:=⟨_,rfl⟩;rw[←hfb];have HF:Hid (Ob.az ⟨2,xn,xd,xp,xs,xt,xl⟩=fb):=hfb.symm;clear hfb h1 h2;cases hb:Y8 ⟨xp,xs⟩ with
 |false =>
  obtain rfl:fb=false:=by rw[←HF.out,Ob.ah];simp[hb]
  rw[hb]at HS;clear HF hlen hb;by_cases hxp:xp=[]
  ·subst hxp;by_cases hxs:xs=[]
   ·subst hxs
    go_enter func156,ntmps156
    go_wp2_with fail
    refine (HS.out _).mono ?_;rintro e w1 ⟨rfl,hb1⟩;go_wp2;go_ret;exact⟨rfl,via hb1⟩
   ·have hz':(xs == [])=false:=by rw[IR];exact hxs
    clear hxs
    go_enter func156,ntmps156
    go_wp2_with fail
    refine (HS.out _).mono ?_;rintro e w1 ⟨rfl,hb1⟩;go_wp2;go_ret;exact⟨rfl,via hb1⟩
  ·have hz':(xp == [])=false:=by rw[IR];exact hxp
   clear hxp
   go_enter func156,ntmps156
   go_wp2_with fail
   refine (HS.out _).mono ?_;rintro e w1 ⟨rfl,hb1⟩;go_wp2;go_ret;exact⟨rfl,via hb1⟩
 |true =>
 have HB:=WP hb;rw[hb]at HS;have hzp:(xp == [])=false:=by
  rw[IR];intro e;subst e;have h3:Y8 ⟨[],xs⟩=false:=by unfold Y8;rw[show ja []=false by decide];rfl
  rw[h3]at hb;cases hb
 clear hb;by_cases kK:xn=[]
 case neg =>
  obtain rfl:fb=false:=by rw[←HF.out,Ob.ah];simp only[show ¬((2:Int)=4) by decide,show ¬((2:Int)=1) by decide,ZaM,ZaP];rw[Zal];intro h;simp only[AC,Za3]at h;exact kK (by simp[h])
  have hz:(xn == [])=false:=by rw[IR];exact kK
  clear HF kK hlen
  go_enter func156,ntmps156
  go_wp2_with fail
  refine (HS.out _).mono ?_;rintro e w1 ⟨rfl,hb1⟩;have X1:=WP (F5.via hb1);obtain⟨x0,x1,x2,x3,x4,x5,x6,xl⟩:=X1.out.seven;go_wp2;go_ret;exact⟨rfl,via hb1⟩
 subst kK;by_cases hxd:xd=[]
 case neg =>
  obtain rfl:fb=false:=by rw[←HF.out,Ob.ah];simp only[show ¬((2:Int)=4) by decide,show ¬((2:Int)=1) by decide,ZaM,ZaP];rw[Zal];intro h;simp only[AC,Za3]at h;exact hxd (by simp[h])
  have hz:(xd == [])=false:=by rw[IR];exact hxd
  clear HF hxd hlen
  go_enter func156,ntmps156
  go_wp2_with fail
  refine (HS.out _).mono ?_;rintro e w1 ⟨rfl,hb1⟩;have X1:=WP (F5.via hb1);obtain⟨x0,x1,x2,x3,x4,x5,x6,xl⟩:=X1.out.seven;go_wp2;go_ret;exact⟨rfl,via hb1⟩
 subst hxd;by_cases hxt:xt=[]
 case neg =>
  obtain rfl:fb=false:=by rw[←HF.out,Ob.ah];simp only[show ¬((2:Int)=4) by decide,show ¬((2:Int)=1) by decide,ZaM,ZaP];rw[Zal];intro h;simp only[AC,Za3]at h;exact hxt (by simp[h])
  have hz:(xt == [])=false:=by rw[IR];exact hxt
  clear HF hxt hlen
  go_enter func156,ntmps156
  go_wp2_with fail
  refine (HS.out _).mono ?_;rintro e w1 ⟨rfl,hb1⟩;have X1:=WP (F5.via hb1);obtain⟨x0,x1,x2,x3,x4,x5,x6,xl⟩:=X1.out.seven;go_wp2;go_ret;exact⟨rfl,via hb1⟩
 subst hxt;by_cases hn0:n=0
 case neg =>
  obtain rfl:fb=false:=by rw[←HF.out,Ob.ah];simp only[show ¬((2:Int)=4) by decide,show ¬((2:Int)=1) by decide,ZaM,ZaP];rw[Zal];intro h;simp only[AC,Za3]at h;exact hn0 (by rw[←hlen];simp[h])
  have hz:((n:Int) == 0)=false:=by rw[IR];omega
  clear HF hn0 hlen
  go_enter func156,ntmps156
  go_wp2_with fail
  refine (HS.out _).mono ?_;rintro e w1 ⟨rfl,hb1⟩;have X1:=WP (F5.via hb1);obtain⟨x0,x1,x2,x3,x4,x5,x6,xl⟩:=X1.out.seven;go_wp2;go_ret;exact⟨rfl,via hb1⟩
 subst hn0;obtain rfl:fb=true:=by rw[←HF.out,Ob.ah];simp[hlen,HB.out]
 clear HF hlen
 go_enter func156,ntmps156
 go_wp2_with fail
 refine (HS.out _).mono ?_;rintro e w1 ⟨rfl,hb1⟩;have X1:=WP (F5.via hb1);obtain⟨x0,x1,x2,x3,x4,x5,x6,xl⟩:=X1.out.seven;go_wp2;go_ret;exact⟨rfl,via hb1⟩
theorem a5N(xn xd xp xs xt:aa0)(xl:List Ob)(A:Option Addr)(n c:Nat)(w:World)(hlen:xl.length=n)(hn:n≤9223372036854775807)(h1:xt.length≤9223372036854775807) :
  Calls prog 156 #[N7 ⟨3,xn,xd,xp,xs,xt,xl⟩ (.slice A n c)] w (P6 (.bool (Ob.az ⟨3,xn,xd,xp,xs,xt,xl⟩)) w):=by
 obtain⟨fb,hfb⟩:∃fb,fb=Ob.az ⟨3,xn,xd,xp,xs,xt,xl⟩:=⟨_,rfl⟩;rw[←hfb];have HF:Hid (Ob.az ⟨3,xn,xd,xp,xs,xt,xl⟩=fb):=hfb.symm;clear hfb;by_cases hxp:xp=[]
 case neg =>
  obtain rfl:fb=false:=by rw[←HF.out,Ob.ah];simp only[show ¬((3:Int)=4) by decide,show ¬((3:Int)=1) by decide,show ¬((3:Int)=2) by decide,ZaM,ZaP];rw[Zal];intro h;simp only[Za3]at h;exact hxp (by simp[h])
  have hz:(xp == [])=false:=by rw[IR];exact hxp
  clear HF hxp hlen
  go_enter func156,ntmps156
  go_wp2;go_ret;exact⟨rfl,box _ _⟩
 subst hxp;by_cases hxs:xs=[]
 case neg =>
  obtain rfl:fb=false:=by rw[←HF.out,Ob.ah];simp only[show ¬((3:Int)=4) by decide,show ¬((3:Int)=1) by decide,show ¬((3:Int)=2) by decide,ZaM,ZaP];rw[Zal];intro h;simp only[Za3]at h;exact hxs (by simp[h])
  have hz:(xs == [])=false:=by rw[IR];exact hxs
  clear HF hxs hlen
  go_enter func156,ntmps156
  go_wp2;go_ret;exact⟨rfl,box _ _⟩
 subst hxs;by_cases kK:xn=[]
 case neg =>
  obtain rfl:fb=false:=by rw[←HF.out,Ob.ah];simp only[show ¬((3:Int)=4) by decide,show ¬((3:Int)=1) by decide,show ¬((3:Int)=2) by decide,ZaM,ZaP];rw[Zal];intro h;simp only[Za3]at h;exact kK (by simp[h])
  have hz:(xn == [])=false:=by rw[IR];exact kK
  clear HF kK hlen
  go_enter func156,ntmps156
  go_wp2;go_ret;exact⟨rfl,box _ _⟩
 subst kK;by_cases hxd:xd=[]
 case neg =>
  obtain rfl:fb=false:=by rw[←HF.out,Ob.ah];simp only[show ¬((3:Int)=4) by decide,show ¬((3:Int)=1) by decide,show ¬((3:Int)=2) by decide,ZaM,ZaP];rw[Zal];intro h;simp only[Za3]at h;exact hxd (by simp[h])
  have hz:(xd == [])=false:=by rw[IR];exact hxd
  clear HF hxd hlen
  go_enter func156,ntmps156
  go_wp2;go_ret;exact⟨rfl,box _ _⟩
 subst hxd;by_cases Aq:xt.length≤200
 case neg =>
  obtain rfl:fb=false:=by rw[←HF.out,Ob.ah];simp only[show ¬((3:Int)=4) by decide,show ¬((3:Int)=1) by decide,show ¬((3:Int)=2) by decide,ZaM,ZaP];rw[Zal];intro h;simp only[Za3]at h;exact Aq (by simp[h])
  have hd2:decide ((xt.length:Int)≤200)=false:=WF J;clear HF hlen
  go_enter func156,ntmps156
  go_wp2;go_ret;exact⟨rfl,box _ _⟩
 have hd2:decide ((xt.length:Int)≤200)=true:=UV J;by_cases hn0:n=0
 case neg =>
  obtain rfl:fb=false:=by rw[←HF.out,Ob.ah];simp only[show ¬((3:Int)=4) by decide,show ¬((3:Int)=1) by decide,show ¬((3:Int)=2) by decide,ZaM,ZaP];rw[Zal];intro h;simp only[Za3]at h;exact hn0 (by rw[←hlen];simp[h])
  have hz:((n:Int) == 0)=false:=by rw[IR];omega
  clear HF hn0 hlen
  go_enter func156,ntmps156
  go_wp2;go_ret;exact⟨rfl,box _ _⟩
 subst hn0;obtain rfl:fb=true:=by rw[←HF.out,Ob.ah];simp[hlen,Aq]
 clear HF hlen
 go_enter func156,ntmps156
 go_wp2;go_ret;exact⟨rfl,box _ _⟩
theorem a5n(ok:Nat→Prop)(xn xd xp xs xt:aa0)(xl:List Ob)(A:Option Addr)(n c:Nat)(w:World)(hP:Rd ok w (.slice A n c) (.row (xl.map Ob.enc)))(hn:n≤9223372036854775807)
  (H:∀x∈xl,∀(A:Option Addr) (n c:Nat) (w':World),Below w.heap.size w w'→Rd ok w (.slice A n c) (.row (x.pair.map Ob.enc))→Calls prog 156 #[N7 x (.slice A n c)] w' (P6 (.bool x.az) w')) :
  Calls prog 156 #[N7 ⟨4,xn,xd,xp,xs,xt,xl⟩ (.slice A n c)] w (P6 (.bool (Ob.az ⟨4,xn,xd,xp,xs,xt,xl⟩)) w):=by
 have hlen:xl.length=n:=by have:=hP.len;rwa [EQ]at this
 have HH:=WP H;clear H;obtain⟨fb,hfb⟩:∃fb,fb=Ob.az ⟨4,xn,xd,xp,xs,xt,xl⟩:=⟨_,rfl⟩;rw[←hfb];have HF:Hid (Ob.az ⟨4,xn,xd,xp,xs,xt,xl⟩=fb):=hfb.symm;clear hfb;by_cases hxp:xp=[]
 case neg =>
  obtain rfl:fb=false:=by rw[←HF.out,Ob.ah];simp only[ZaP];rw[Zal];intro h;simp only[AC,Za3]at h;exact hxp (by simp[h])
  have hz:(xp == [])=false:=by rw[IR];exact hxp
  clear HF hxp hlen
  go_enter func156,ntmps156
  go_wp2;go_ret;exact⟨rfl,box _ _⟩
 subst hxp;by_cases hxs:xs=[]
 case neg =>
  obtain rfl:fb=false:=by rw[←HF.out,Ob.ah];simp only[ZaP];rw[Zal];intro h;simp only[AC,Za3]at h;exact hxs (by simp[h])
  have hz:(xs == [])=false:=by rw[IR];exact hxs
  clear HF hxs hlen
  go_enter func156,ntmps156
  go_wp2;go_ret;exact⟨rfl,box _ _⟩
 subst hxs;by_cases kK:xn=[]
 case neg =>
  obtain rfl:fb=false:=by rw[←HF.out,Ob.ah];simp only[ZaP];rw[Zal];intro h;simp only[AC,Za3]at h;exact kK (by simp[h])
  have hz:(xn == [])=false:=by rw[IR];exact kK
  clear HF kK hlen
  go_enter func156,ntmps156
  go_wp2;go_ret;exact⟨rfl,box _ _⟩
 subst kK;by_cases hxd:xd=[]
 case neg =>
  obtain rfl:fb=false:=by rw[←HF.out,Ob.ah];simp only[ZaP];rw[Zal];intro h;simp only[AC,Za3]at h;exact hxd (by simp[h])
  have hz:(xd == [])=false:=by rw[IR];exact hxd
  clear HF hxd hlen
  go_enter func156,ntmps156
  go_wp2;go_ret;exact⟨rfl,box _ _⟩
 subst hxd;by_cases hxt:xt=[]
 case neg =>
  obtain rfl:fb=false:=by rw[←HF.out,Ob.ah];simp only[ZaP];rw[Zal];intro h;simp only[AC,Za3]at h;exact hxt (by simp[h])
  have hz:(xt == [])=false:=by rw[IR];exact hxt
  clear HF hxt hlen
  go_enter func156,ntmps156
  go_wp2;go_ret;exact⟨rfl,box _ _⟩
 subst hxt;by_cases hn0:n=2
 case neg =>
  obtain rfl:fb=false:=by rw[←HF.out,Ob.ah];simp only[ZaP];rw[Zal];intro h;simp only[AC,Za3]at h;exact hn0 (by rw[←hlen];simp[h])
  have hz:((n:Int) == 2)=false:=by rw[IR];omega
  clear HF hn0 hlen
  go_enter func156,ntmps156
  go_wp2;go_ret;exact⟨rfl,box _ _⟩
 subst hn0;obtain⟨a,d,rfl⟩:=Ob.Gv hlen;have HF2:Hid ((a.az && d.az)=fb):=by
  show _=fb;rw[←HF.out,Ob.ah,Za0 rfl];simp[Ob.allB]
 clear HF hlen;have b0:=box w (.cells (aB ⟨4,[],[],[],[],[],[a,d]⟩ (.slice A 2 c)) 37);obtain⟨b,q,_,A3,n3,c3,rfl,hbl,_,a0,a1,a2,a3,a4,a5,a6,ha⟩:=hP.jD b0 (i:=0) J;simp only[ZaW,Nat.zero_mul,Nat.add_zero]at a0 a1 a2 a3 a4 a5 a6 ha;have JU:=Zaa hbl b0.size;have HC:Hid (∀w':World,Below w.heap.size w w'→Calls prog 156 #[N7 a (.slice A3 n3 c3)] w' (P6 (.bool a.az) w')):=fun w' hb=>HH.out a I A3 n3 c3 w' hb ha
 have X0:=WP (F5.new w 37 (aB ⟨4,[],[],[],[],[],[a,d]⟩ (.slice (some ⟨b,q,none⟩) 2 c)));generalize a.az=ba at *
 go_enter func156,ntmps156
 go_wp2_with fail
 refine (HC.out _ b0).mono ?_;rintro e w1 ⟨rfl,hb1⟩;have b1:=U3 b0 hb1;have X1:=WP (X0.out.below hb1);clear a0 a1 a2 a3 a4 a5 a6 X0;cases ba with
 |false =>
  obtain rfl:fb=false:=HF2.out.symm;clear HF2;go_wp2;go_ret;exact⟨rfl,b1⟩
 |true =>
  obtain⟨y0,y1,y2,y3,y4,y5,y6,yl⟩:=X1.out.seven;obtain⟨b',q',_,A4,n4,c4,eA,_,_,d0,d1,d2,d3,d4,d5,d6,hd⟩:=hP.jD b1 (i:=1) J;injection eA with eA
  injection eA with eb eq
  subst eb eq;simp only[ZaW,List.getElem_cons_succ,Nat.one_mul]at d0 d1 d2 d3 d4 d5 d6 hd;have a2y:=Zaa hbl b1.size;have HC2:=WP (HH.out d I A4 n4 c4 w1 b1 hd);obtain rfl:fb=d.az:=HF2.out.symm;generalize d.az=bd at *;clear HF2
  go_wp2_with fail
  refine HC2.out.mono ?_;rintro e w2 ⟨rfl,hb2⟩;go_wp2;go_ret;exact⟨rfl,U3 b1 hb2⟩
theorem a5o(k:Int)(xn xd xp xs xt:aa0)(xl:List Ob)(A:Option Addr)(n c:Nat)(w:World)(h1:k≠1)(h2:k≠2)(h3:k≠3)(h4:k≠4) :
  Calls prog 156 #[N7 ⟨k,xn,xd,xp,xs,xt,xl⟩ (.slice A n c)] w (P6 (.bool (Ob.az ⟨k,xn,xd,xp,xs,xt,xl⟩)) w):=by
 rw[Ob.ah,lw h4,lw h1,lw h2,lw h3];have e1:(k == 1)=false:=by rw[IR];exact h1
 have e2:(k == 2)=false:=by rw[IR];exact h2
 have e3:(k == 3)=false:=by rw[IR];exact h3
 have e4:(k == 4)=false:=by rw[IR];exact h4
 clear h1 h2 h3 h4;by_cases hxp:xp=[]
 ·subst hxp;by_cases hxs:xs=[]
  ·subst hxs
   go_enter func156,ntmps156
   go_wp2;go_ret;exact⟨rfl,box _ _⟩
  ·have hz':(xs == [])=false:=by rw[IR];exact hxs
   clear hxs
   go_enter func156,ntmps156
   go_wp2;go_ret;exact⟨rfl,box _ _⟩
 ·have hz':(xp == [])=false:=by rw[IR];exact hxp
  clear hxp
  go_enter func156,ntmps156
  go_wp2;go_ret;exact⟨rfl,box _ _⟩
theorem a5O(ok:Nat→Prop)(o:Ob):o.Wf→o.Sm→∀(A:Option Addr) (n c:Nat) (w:World),Rd ok w (.slice A n c) (.row (o.pair.map Ob.enc)) →
  Calls prog 156 #[N7 o (.slice A n c)] w (P6 (.bool o.az) w):=by
 induction o using Ob.ind with
 |step o ih =>
  intro hW hS A n c w hP;have hlen:o.pair.length=n:=by have:=hP.len;rwa [EQ]at this
  have hn:n≤9223372036854775807:=by rw[←hlen];exact hW.len
  obtain⟨k,xn,xd,xp,xs,xt,xl⟩:=o;by_cases h4:k=4
  ·subst h4;exact a5n ok xn xd xp xs xt xl A n c w hP hn (fun x hx A n c w' hb h=>ih x hx (hW.kids hx) (hS.kids hx) A n c w' (h.under hb))
  by_cases h1:k=1
  ·subst h1;exact a5L xn xd xp xs xt xl A n c w hlen hn hS.len.1 hS.len.2
  by_cases h2:k=2
  ·subst h2;exact a5M xn xd xp xs xt xl A n c w hlen hn (by cases hW;assumption) (by cases hW;assumption)
  by_cases h3:k=3
  ·subst h3;exact a5N xn xd xp xs xt xl A n c w hlen hn (by cases hW;assumption)
  exact a5o k xn xd xp xs xt xl A n c w h1 h2 h3 h4
theorem VK(ok:Nat→Prop)(o:Ob)(hW:o.Wf)(hS:o.Sm)(A:Option Addr)(n c:Nat)(w:World)(hP:Rd ok w (.slice A n c) (.row (o.pair.map Ob.enc))) :
  Calls prog 118 #[N7 o (.slice A n c)] w (P6 (.bool o.pU) w):=by
 have HN:Hid (∀w':World,Below w.heap.size w w'→Calls prog 101 #[N7 o (.slice A n c)] w' (P6 (.int .i64 (aC o)) w')):=fun w' hb=>VJ ok o hW A n c w' (hP.under hb)
 have HF:Hid (∀w':World,Below w.heap.size w w'→Calls prog 156 #[N7 o (.slice A n c)] w' (P6 (.bool o.az) w')):=fun w' hb=>a5O ok o hW hS A n c w' (hP.under hb)
 unfold Ob.pU;by_cases hk:o.nodes≤3000
 ·have hk':aC o≤3000:=by unfold aC;split <;> omega
  rw[UV hk,Zbq];generalize o.az=fb at *;generalize aC o=z at *;clear hk
  go_enter func118,ntmps118
  go_wp2_with fail
  refine (HN.out _ (box _ _)).mono ?_;rintro e w1 ⟨rfl,hb1⟩;have X1:=WP (F5.via hb1);obtain⟨y0,y1,y2,y3,y4,y5,y6,yl⟩:=X1.out.seven
  go_wp2_with fail
  refine (HF.out _ (via hb1)).mono ?_;rintro e w2 ⟨rfl,hb2⟩;go_wp2;go_ret;exact⟨rfl,U3 (via hb1) hb2⟩
 ·have hk':¬aC o≤3000:=by unfold aC;split <;> omega
  rw[WF hk,Zb6];generalize aC o=z at *;clear hk
  go_enter func118,ntmps118
  go_wp2_with fail
  refine (HN.out _ (box _ _)).mono ?_;rintro e w1 ⟨rfl,hb1⟩;go_wp2;go_ret;exact⟨rfl,via hb1⟩
abbrev G6:aa0:=[117,115,101,114]
def CJ:List (aa0):=[[97],[98],[102,111,111],[111,100,100,32,110,97,109,101],[49],[120,124,121],[46],[45,50,47,51],[35]]
def IG:List (aa0×aa0):=CJ.map (fun s=>(G6,s))++[(x8,aQ),(x8,[116]),(x8,[99,97,114]),(x8,[113,117,111,116,101])]
def fK(n:Int):aa0×aa0:=IG.getD (n % 13).toNat (G6,[])
def qf:Tr:=.num ((-1000:Int):Rat)
def mkK(k n:Int)(s:aa0)(l:List Tr):Tr :=
 if k % 8=0∨k % 8=1 then .num ((n % 2001 - 1000:Int):Rat)
 else if k % 8=2 then .num (Rat.divInt (n % 41 - 20) (1+s.length))
 else if k % 8=3 then .sym (fK n).1 (fK n).2
 else if k % 8=4 then .txt s
 else if k % 8=5 then .cons (l.getD 0 qf) (l.getD 1 qf)
 else Tr.list l
mutual
def aK:Raw→Tr
 |⟨k,n,s,l⟩=>mkK k n s (KQ l)
def KQ:List Raw→List Tr
 |[]=>[]
 |r::t=>aK r::KQ t
end
theorem a97(l:List Raw):KQ l=l.map aK:=by
 induction l with
 |nil=>rfl
 |cons r t ih=>rw[KQ,ih];rfl
theorem Qd(r:Raw):aK r=mkK r.kind r.n r.s (r.l.map aK):=by
 obtain⟨k,n,s,l⟩:=r;rw[aK,a97]
inductive Fit:Raw→Prop
 |mk (o:Raw) (hs:o.s.length≤12) (hl:o.l.length≤6) (h:∀x∈o.l,Fit x):Fit o
theorem Fit.s{r:Raw}(h:Fit r):r.s.length≤12:=by cases h;assumption
theorem Fit.l{r:Raw}(h:Fit r):r.l.length≤6:=by cases h;assumption
theorem Fit.kids{r x:Raw}(h:Fit r)(hx:x∈r.l):Fit x:=by
 cases h with
 |mk _ _ _ h=>exact h x hx
theorem a7N{n d:Int}(hn:n.natAbs < 10 ^ 4)(hd:d.natAbs < 10 ^ 4):Rb 4 (Rat.divInt n d):=Rb.mk' O hn hd
theorem II{n:Int}(hn:n.natAbs < 10 ^ 4):Rb 4 (n:Rat):=⟨by rw[Rat.num_intCast];exact hn,by rw[Rat.den_intCast];decide,O⟩
theorem list_size:∀l:List Tr,(Tr.list l).size=(l.map Tr.size).sum+l.length+1
 |[]=>rfl
 |a::r=>by
  show a.size+(Tr.list r).size+1=_;rw[list_size r];simp only[ZaC,List.sum_cons,Za1];omega
theorem ZQ:∀l:List Raw,(∀x∈l,(aK x).size+1≤4 * x.size)→((l.map aK).map Tr.size).sum+l.length≤4 * Raw.eQ l
 |[],_=>by simp[Raw.eQ]
 |a::r,h=>by
  have h1:=h a (PP ..);have h2:=ZQ r fun x hx=>h x (lm _ hx)
  simp only[ZaC,List.sum_cons,Za1,Raw.eQ];omega
theorem a7O(r:Raw):(aK r).size+1≤4 * r.size:=by
 induction r using Raw.ind with
 |step r ih =>
  have hs:=ZQ r.l ih;have hr:r.size=Raw.eQ r.l+1:=by obtain⟨k,n,s,l⟩:=r;rfl
  rw[Qd];unfold mkK;split
  ·show 1+1≤_;omega
  ·split
   ·show 1+1≤_;omega
   ·split
    ·show 1+1≤_;omega
    ·split
     ·show 1+1≤_;omega
     ·split
      ·show ((r.l.map aK).getD 0 qf).size+((r.l.map aK).getD 1 qf).size+1+1≤_;have hz:qf.size=1:=rfl
       match hrl:r.l with
       |[]=>simp only[Zb4,List.getD_nil,hz];omega
       |[a] =>
        rw[hrl]at hs;simp only[ZaC,Zb4,List.sum_cons,List.sum_nil,Za1,List.length_nil]at hs;simp only[ZaC,Zb4,List.getD_cons_zero,List.getD_cons_succ,List.getD_nil,hz];rw[hrl]at hr;omega
       |a::b::t =>
        rw[hrl]at hs;simp only[ZaC,List.sum_cons,Za1]at hs;simp only[ZaC,List.getD_cons_zero,List.getD_cons_succ];rw[hrl]at hr;omega
      ·rw[list_size,EQ];omega
theorem tmod_neg{n m:Int}(hm:0 < m)(h:n.tmod m < 0):n % m=n.tmod m+m:=by
 have h1:=Int.tmod_eq_emod (a:=n) (b:=m);have h2:=Int.emod_nonneg n (by omega:m≠0);have h3:=Int.emod_lt_of_pos n hm;split at h1 <;> omega
theorem a7P{n m:Int}(hm:0 < m)(h:¬n.tmod m < 0):n % m=n.tmod m:=by
 have h1:=Int.tmod_eq_emod (a:=n) (b:=m);have h2:=Int.emod_nonneg n (by omega:m≠0);have h3:=Int.emod_lt_of_pos n hm;split at h1 <;> omega
theorem a98(n m:Int)(w:World)(hm:0 < m)(hm1:m≤1000000):Calls prog 9 #[.int .i64 n,.int .i64 m] w (Oa (.int .i64 (n % m)) w):=by
 have hne:¬m=0:=J;have hb:(m == 0)=false:=by rw[IR];omega
 have hb':(m == -1)=false:=by rw[IR];omega
 have hlt:n.tmod m < m:=Int.tmod_lt_of_pos n hm;have hgt:-m < n.tmod m:=by
  have h2:=Int.tmod_eq_emod (a:=n) (b:=m);have h3:=Int.emod_nonneg n hne;have h4:=Int.emod_lt_of_pos n hm;split at h2 <;> omega
 by_cases hn:n.tmod m < 0
 ·rw[tmod_neg hm hn]
  go_enter func9,ntmps9
  go_wp2;go_ret;exact⟨by go_num,rfl⟩
 ·rw[a7P hm hn]
  go_enter func9,ntmps9
  go_wp2;go_ret;exact⟨by go_num,rfl⟩
namespace Tr
instance:DecidableEq Tr:=fun a b=>decidable_of_iff (cmp a b=0) (Oh a b)
def good:Tr→Bool
 |.num q=>decide (dg (Lib.itoa q.num)≤100∧dg (Lib.itoa (q.den:Int))≤100)
 |.txt t=>decide (t.length≤200)
 |.sym p s=>Y8 ⟨p,s⟩
 |.cons a d=>good a && good d
theorem Ol:∀t:Tr,t.ob.az=t.good
 |.num q=>by
  show Ob.az ⟨1,Lib.itoa q.num,Lib.itoa (q.den:Int),[],[],[],[]⟩=_;rw[Ob.ah];have h1:bu q.num (q.den:Int)=q.num:=by rw[(zK _ _).1,Rat.num_divInt_den]
  have h2:bz q.num (q.den:Int)=(q.den:Int):=by rw[(zK _ _).2,Rat.num_divInt_den]
  have h3:kD (Lib.itoa q.num) (Lib.itoa (q.den:Int))=decide (dg (Lib.itoa q.num)≤100∧dg (Lib.itoa (q.den:Int))≤100):=by
   unfold kD;rw[l9.P9,l9.P9,h1,h2];exact Zam.2 ⟨fun h=>⟨h.2.2.1,h.2.2.2⟩,fun h=>⟨rfl,rfl,h.1,h.2⟩⟩
  rw[h3];simp[good]
 |.txt t=>by
  show Ob.az ⟨3,[],[],[],[],t,[]⟩=_;rw[Ob.ah];simp[good]
 |.sym p s=>by
  show Ob.az ⟨2,[],[],p,s,[],[]⟩=_;rw[Ob.ah];simp[good]
 |.cons a d=>by
  show Ob.az ⟨4,[],[],[],[],[],[a.ob,d.ob]⟩=_;rw[Ob.ah,Za0 rfl];simp only[Ob.allB,Ol a,Ol d,good];simp
theorem Om:∀t:Tr,t.ob.nodes=t.size
 |.num q=>rfl
 |.txt t=>rfl
 |.sym p s=>rfl
 |.cons a d=>by
  rw[Ob.NF (o:=(Tr.cons a d).ob) (a:=a.ob) (d:=d.ob) rfl,Om a,Om d];rfl
def valid(t:Tr):Bool:=decide (t.size≤3000) && t.good
theorem WG(t:Tr):t.ob.pU=t.valid:=by unfold Ob.pU valid;rw[Om,Ol]
theorem Ok.sm{k:Nat}(hk:k≤100000):∀{t:Tr},t.Ok k→t.ob.Sm
 |.num q,h=>by
  have h1:=Rb.rQ h;have h2:=Rb.uS h;exact .mk (ax q) (by show (Lib.itoa q.num).length≤_;omega) (by show (Lib.itoa (q.den:Int)).length≤_;omega) (fun x hx=>by cases hx)
 |.txt t,_=>.mk (rP t) (ww _) (ww _) (fun x hx=>by cases hx)
 |.sym p s,_=>.mk (ou p s) (ww _) (ww _) (fun x hx=>by cases hx)
 |.cons a d,h=>.mk (jY a.ob d.ob) (ww _) (ww _) (fun x hx=>by
   simp only[Zao,ZaO,or_false]at hx;rcases hx with rfl | rfl
   ·exact Ok.sm hk h.1
   ·exact Ok.sm hk h.2)
theorem OI:∀{t:Tr},t.good=true→t.Ok 101
 |.num q,h=>by
  have h1:=Zad h;have key:∀z:Int,dg (Lib.itoa z)≤100→z.natAbs < 10 ^ 101:=fun z hz=>by
   have e:norm (Lib.itoa z)=Lib.itoa z:=by rw[norm_eq,l9.P9]
   have h2:=Vf (Lib.itoa z);rw[e]at h2;have h3:(Lib.itoa z).length≤101:=by
    have:(l9.mag (norm (Lib.itoa z))).length≤100:=hz;rw[e]at this;omega
   have h4:=lY h3
   rwa [l9.P9]at h4
  have hd:=key (q.den:Int) h1.2;rw[Int.natAbs_natCast]at hd;exact⟨key q.num h1.1,hd,J⟩
 |.txt t,h=>by
  have:=Zad h;show t.length≤100000;omega
 |.sym p s,h=>by
  have h':(ja p && kW s)=true:=h;simp only[ja,kW,AC,Za3]at h';exact⟨J,J⟩
 |.cons a d,h=>by
  have h':(good a && good d)=true:=h;rw[AC]at h';exact⟨OI h'.1,OI h'.2⟩
theorem qW{t:Tr}:valid t=true↔t.size≤3000∧t.good=true:=by
 unfold valid;rw[AC,Za3]
theorem Vr{a d:Tr}(h:valid (.cons a d)=true):valid a=true∧valid d=true:=by
 obtain⟨h1,h2⟩:=qW.1 h;have h3:a.size+d.size+1≤3000:=h1;have h4:(a.good && d.good)=true:=h2;rw[AC]at h4;have h5:=size_pos a;have h6:=size_pos d;exact⟨qW.2 ⟨J,h4.1⟩,qW.2 ⟨J,h4.2⟩⟩
end Tr
end Go.Proofs.YthhknjlmjefklaaGreatDoor
namespace Go.Proofs.YthhknjlmjefklaaGreatDoor
open Go.Proofs.Tryz
open Go.RowKit Go.ChangeShapes Go.WideShapes Go.Deep Go.Joins
section
variable {H:Type} {enc:TypeId×Value→H} {w:World} {base:Nat} {spare:Nat→Bool} {held:Bool}
theorem Xo{r:Reach}{b0:Nat}{v:Value}{d:DataW H}{p:List MemPlace}(hv:Value.okWide prog w r b0 51 v)(h:DataW.Trod enc prog w base spare held 51 v d p) :
  ∃(s:Raw) (A:Option Addr) (n c:Nat),v=JM s (.slice A n c)∧s.Wf∧Rd (fun _=>True) w (.slice A n c) (.row (s.l.map Raw.enc)):=by
 obtain⟨cs,rfl,_⟩:=okWide_struct Tryz.underlying51 hv;obtain⟨fuel,hf⟩:=h;have hf':DataW.trod enc prog w base spare held fuel 51 cs.toList=some (d,p):=hf;obtain⟨s,hw,hl,hr⟩:=WZ fuel _ _ hf';rw[Raw.nJ]at hl;obtain⟨l⟩:=cs
 match l,hl with
 |[x0,x1,x2,x3],_ =>
  simp only[Raw.pO]at hr;obtain⟨u0,e0,r0⟩:=hr 0 I;obtain⟨u1,e1,r1⟩:=hr 1 I;obtain⟨u2,e2,r2⟩:=hr 2 I;obtain⟨u3,e3,r3⟩:=hr 3 I;obtain rfl:x0=u0:=Option.some.inj e0;obtain rfl:x1=u1:=Option.some.inj e1;obtain rfl:x2=u2:=Option.some.inj e2;obtain rfl:x3=u3:=Option.some.inj e3;obtain rfl:=r0.Z9;obtain rfl:=r1.Z9;obtain rfl:=r2.Z9;obtain⟨A,n,c,rfl,_⟩:=Rd.slice r3;exact⟨s,A,n,c,rfl,hw,r3⟩
theorem a6V{r:Reach}{b0:Nat}{v:Value}{d:DataW H}{p:List MemPlace}(hv:Value.okWide prog w r b0 22 v)(h:DataW.Trod enc prog w base spare held 22 v d p) :
  ∃(l:List Raw) (A:Option Addr) (n c:Nat),v=.slice A n c∧(∀s∈l,s.Wf)∧n≤9223372036854775807∧Rd (fun _=>True) w (.slice A n c) (.row (l.map Raw.enc)):=by
 obtain⟨a,len,cap,rfl⟩:=okWide_slice Tryz.underlying22 hv;obtain⟨fuel,hf⟩:=h;obtain⟨A,n,c,l,e,hr,hn,hg⟩:=Wn Raw.enc Raw.Wf 4 J Raw.nJ Tryz.underlying22 Oe hf (fun n'' _ cs' y hy=>WZ n'' cs' y hy);simp only[Value.cells,List.cons.injEq,and_true]at e;unfold maxLen at hn;exact⟨l,A,n,c,by simpa using e,hg,hn,hr⟩
end
end Go.Proofs.YthhknjlmjefklaaGreatDoor
namespace Go.Proofs.YthhknjlmjefklaaGreatDoor
open Go.Proofs.Tryz
open Go.ChangeShapes Go.WideShapes Go.ChangeAt Go.RowKit
theorem own:ownKnob prog.godebug=none:=by kernel_rfl
noncomputable def low:Nat:=(World.holding prog default ⟨#[],#[],[]⟩).heap.size
def Nv(k:IntKind)(zs:List Int):Array Value:=(zs.map fun z=>Value.int k z).toArray
def put(h:Array Obj)(g:Nat)(cs:Array Value):Array Obj:=h.modify g fun
 |.cells _ t frozen=>.cells cs t frozen
 |o=>o
noncomputable def laidWorld(os:Os):World :=
 let w0:=World.holding prog os ⟨#[.cells #[.string ⟨#[118,97,108,117,101,32,111,117,116,32,111,102,32,114,97,110,103,101]⟩] 306,.cells #[.string ⟨#[105,110,118,97,108,105,100,32,115,121,110,116,97,120]⟩] 306],#[],[]⟩
 let h1:=put w0.heap 0 (Nv .u64 Lib.pow10Tab)
 let h2:=put h1 1 (Nv .u8 [0,1,28,2,29,14,24,3,30,22,20,15,25,17,4,8,31,27,13,23,21,19,16,7,26,12,18,6,11,5,10,9])
 let h3:=put h2 2 (Nv .u8 [0,1,56,2,57,49,28,3,61,58,42,50,38,29,17,4,62,47,59,36,45,43,51,22,53,39,33,30,24,18,12,5,63,55,48,27,60,41,37,16,46,35,44,21,52,32,23,11,54,26,40,15,34,20,31,10,25,14,19,9,13,8,7,6])
 let h4:=put h3 4 #[.iface 304 (.pointer (some ⟨low,0,none⟩))]
 let h5:=put h4 3 #[.iface 304 (.pointer (some ⟨low+1,0,none⟩))]
 { w0 with heap:=h5 }
theorem b7x:prog.globalNamed "internal/strconv.uint64pow10" = some 0:=by kernel_rfl
theorem a7Q:(prog.globals[0]?).map (·.type)=some 253:=by kernel_rfl
theorem a7R:prog.cellsOf 253=20:=by kernel_rfl
theorem a7S:prog.cellsOf 68=1:=by kernel_rfl
theorem a7T:(Rows.laid_internal_strconv_uint64pow10:DataW Unit)=Lib.tabData .u64 Lib.pow10Tab:=by kernel_rfl
theorem table{W:World}{l:List (String×DataW Unit)}(hl:l.filter (fun x=>x.1 == "internal/strconv.uint64pow10")=[("internal/strconv.uint64pow10", Rows.laid_internal_strconv_uint64pow10)])(h:laidMet prog l W):Tab W:=by
 have h1:=h.filter (fun x=>x.1 == "internal/strconv.uint64pow10");rw[hl,a7T]at h1;exact Lib.tabIs_of_head (rest:=[]) b7x a7Q Tryz.underlying253 Tryz.underlying68 a7S a7R h1
end Go.Proofs.YthhknjlmjefklaaGreatDoor
namespace Go.Proofs.YthhknjlmjefklaaGreatDoor
open Go.Proofs.Tryz
open Go.RowKit
section
variable {P:Program} {ops:Array Oper} {Q:Exit→Act→World→Prop}
end
section
variable {P:Program} {ops:Array Oper} {Q:Exit→Act→World→Prop} {k:Nat} {iL iC iA iS sl sc sx:Nat→Nat} {ds:List Nat} {base:Act} {w0:World} {T:TypeId} {vl:Nat→Value} {z:Array Value}
 {G:Nat→(Nat→Prop)→World→Value→Prop} {St:World→Nat→Value→World} {C:Value→Array Value}
abbrev ptr(g:Nat):Value:=.pointer (some ⟨g,0,none⟩)
theorem getD_upd{listed:Array Bool}{i j:Nat}(h:(listed.setIfInBounds i true).getD j false=true):j=i∨listed.getD j false=true:=by
 by_cases e:i=j
 ·exact .inl e.symm
 ·rw[Go.getD_set_ne false e]at h;exact .inr h
end
inductive AV where
 |dt (d:Dt)
 |nil
 |aW (es:aa1)
 |own (b n:Nat)
 |sl (b n:Nat)
 |V4 (b:Nat)
 |ptr (b off:Nat)
 |eX (b i k:Nat)
 |gl (g off:Nat)
 |pin (cs:List AV)
 |agg (cs:List AV)
 |o7 (cs:List AV)
 |clo (f:FuncId) (cs:List AV)
 |ak (f:FuncId) (cs:List AV)
 |un
namespace AV
abbrev v(x:Value):AV:=.dt (.val x)
def one:AV→Bool
 |.dt d=>d.one
 |.agg _=>false
 |.o7 _=>false
 |.un=>false
 |_=>true
def cells:AV→List AV
 |.agg cs=>cs
 |x=>[x]
end AV
structure Mm where
 m:Nat→Option Nat
 F:Nat→Prop
 o:Nat→Option (Option Addr×Nat×Nat)
abbrev M0(F:Nat→Prop):Mm:=⟨fun _=>none,F,fun _=>none⟩
mutual
def RV:Mm→World→AV→Value→Prop
 |M,w,.dt d,v=>Rd M.F w v d
 |_,_,.nil,v=>v=.slice none 0 0
 |M,w,.aW es,v=>∃A,v=.slice A es.length es.length∧Rd M.F w v (.row es)
 |M,_,.own b n,v=>∃A c A' n' c',v=.slice A n c∧M.o b=some (A',n',c')∧n≤n'∧(n=n'→A=A'∧c=c')
 |M,_,.sl b n,v=>∃g,M.m b=some g∧v=.slice (some ⟨g,0,none⟩) n n
 |M,_,.V4 b,v=>∃g,M.m b=some g∧v=.map (some g)
 |M,_,.ptr b off,v=>∃g,M.m b=some g∧v=.pointer (some ⟨g,off,none⟩)
 |M,_,.eX b i k,v=>∃g,M.m b=some g∧v=.pointer (some ⟨g,i * k,none⟩)
 |_,_,.gl g off,v=>v=.pointer (some ⟨g,off,none⟩)
 |M,w,.pin cs,v=>∃g o vs,v=.pointer (some ⟨g,o,none⟩)∧M.F g∧g < w.heap.size∧(∀(j:Nat) u,vs[j]?=some u→w.cell? ⟨g,o+j,none⟩=some u)∧RL (M0 M.F) w cs vs
 |M,w,.agg cs,v=>∃vs,v=.agg vs.toArray∧RL M w cs vs
 |M,w,.o7 cs,v=>∃vs,v=.tuple vs.toArray∧RL M w cs vs
 |M,w,.clo f cs,v=>∃vs,v=.func (.func f) #[] vs.toArray∧RL M w cs vs
 |M,w,.ak f cs,v=>∃vs,v=.func (.func f) #[] vs.toArray∧RL (M0 M.F) w cs vs
 |_,_,.un,_=>True
def RL:Mm→World→List AV→List Value→Prop
 |_,_,[],vs=>vs=[]
 |M,w,c::cs,vs=>∃u us,vs=u::us∧RV M w c u∧RL M w cs us
end
structure aN (X:Nat→Prop) (B:Nat) (w w':World):Prop where
 os:w'.os=w.os
 tape:w'.tape=w.tape
 output:w'.output=w.output
 size:w.heap.size≤w'.heap.size
 block:∀k,k < B→¬X k→w'.heap[k]?=w.heap[k]?
theorem aN.refl(X:Nat→Prop)(B:Nat)(w:World):aN X B w w:=⟨rfl,rfl,rfl,NE _,fun _ _ _=>rfl⟩
theorem aN.trans{X:Nat→Prop}{B:Nat}{a b c:World}(h:aN X B a b)(k:aN X B b c):aN X B a c :=
 ⟨k.os.trans h.os,k.tape.trans h.tape,k.output.trans h.output,Za6 h.size k.size,fun i hi hx=>(k.block i hi hx).trans (h.block i hi hx)⟩
theorem aN.of{X:Nat→Prop}{B:Nat}{w w':World}(h:Below B w w'):aN X B w w':=⟨h.os,h.tape,h.output,h.size,fun k hk _=>h.block k hk⟩
theorem aN.below{B:Nat}{w w':World}(h:aN (fun _=>False) B w w'):Below B w w':=⟨h.os,h.tape,h.output,h.size,fun k hk=>h.block k hk id⟩
theorem aN.mono{X X':Nat→Prop}{B B':Nat}{w w':World}(h:aN X B w w')(hB:B'≤B)(hX:∀k,k < B'→X k→X' k):aN X' B' w w' :=
 ⟨h.os,h.tape,h.output,h.size,fun k hk hx=>h.block k J fun hk'=>hx (hX k hk hk')⟩
structure U1 (X:Nat→Prop) (n0:Nat) (M:Mm) (w:World) (M':Mm) (w':World):Prop where
 below:aN X n0 w w'
 keep:∀b,M.F b→b < w.heap.size→w'.heap[b]?=w.heap[b]?
 F:∀b,M.F b→b < w.heap.size→M'.F b
 m:∀k g,M.m k=some g→M'.m k=some g
 o:∀b A n c,M.o b=some (A,n,c)→∃A' n' c',M'.o b=some (A',n',c')∧n≤n'∧(n=n'→A'=A∧c'=c)
theorem uF{M M':Mm}{b:Nat}(h:M'.o b=M.o b):∀A n c,M.o b=some (A,n,c)→∃A' n' c',M'.o b=some (A',n',c')∧n≤n'∧(n=n'→A'=A∧c'=c) :=
 fun A n c e=>⟨A,n,c,h.trans e,NE _,fun _=>⟨rfl,rfl⟩⟩
theorem U1.refl(X:Nat→Prop)(n0:Nat)(M:Mm)(w:World):U1 X n0 M w M w:=⟨aN.refl _ _ _,fun _ _ _=>rfl,fun _ h _=>h,fun _ _ h=>h,fun _=>uF rfl⟩
theorem Yz{w w':World}{a:Addr}(h:w'.heap[a.block]?=w.heap[a.block]?):w'.cell? a=w.cell? a:=by
 unfold World.cell?;rw[h]
theorem U1.trans{X:Nat→Prop}{n0:Nat}{M M' M2:Mm}{w w' w2:World}(g:U1 X n0 M w M' w')(h:U1 X n0 M' w' M2 w2):U1 X n0 M w M2 w2 :=
 ⟨g.below.trans h.below,fun b hb hl=>(h.keep b (g.F b hb hl) (Zaa hl g.below.size)).trans (g.keep b hb hl),fun b hb hl=>h.F b (g.F b hb hl) (Zaa hl g.below.size),fun k q hq=>h.m k q (g.m k q hq),fun b A n c e=>by
  obtain⟨A1,n1,c1,e1,l1,h1⟩:=g.o b A n c e;obtain⟨A2,n2,c2,e2,l2,h2⟩:=h.o b A1 n1 c1 e1;refine⟨A2,n2,c2,e2,Za6 l1 l2,fun e3=>?_⟩;obtain⟨rfl,rfl⟩:=h1 J;obtain⟨rfl,rfl⟩:=h2 J;exact⟨rfl,rfl⟩⟩
theorem U1.flat{X:Nat→Prop}{n0:Nat}{M M':Mm}{w w':World}(g:U1 X n0 M w M' w'):U1 X n0 (M0 M.F) w (M0 M'.F) w':=⟨g.below,g.keep,g.F,(fun _ _ h=>by cases h),(fun _ _ _ _ h=>by cases h)⟩
theorem Rd.go{X:Nat→Prop}{n0:Nat}{M M':Mm}{w w':World}{v:Value}{d:Dt}(g:U1 X n0 M w M' w')(h:Rd M.F w v d):Rd M'.F w' v d :=
 (h.mono (ok':=fun b=>M.F b∧M'.F b) fun b hb hl=>⟨hb,g.F b hb hl⟩).keep g.below.size (fun b hb hl=>g.keep b hb.1 hl) |>.mono fun _ h _=>h.2
mutual
theorem RV.go{X:Nat→Prop}{n0:Nat}{w w':World}:∀{M M':Mm},U1 X n0 M w M' w'→∀(a:AV) (v:Value),RV M w a v→RV M' w' a v
 |_,_,g,.dt d,v,h=>Rd.go g h
 |_,_,_,.nil,v,h=>h
 |_,_,g,.aW es,v,⟨A,h1,h2⟩=>⟨A,h1,Rd.go g h2⟩
 |_,_,g,.own b n,v,⟨A,c,A',n',c',h1,h2,h3,h4⟩=>by
  obtain⟨A2,n2,c2,e1,e2,e3⟩:=g.o b A' n' c' h2;refine⟨A,c,A2,n2,c2,h1,e1,Za6 h3 e2,fun e=>?_⟩;have hn:n=n':=J;obtain⟨rfl,rfl⟩:=h4 hn;obtain⟨rfl,rfl⟩:=e3 J;exact⟨rfl,rfl⟩
 |_,_,g,.sl b n,v,⟨x,h1,h2⟩=>⟨x,g.m _ _ h1,h2⟩
 |_,_,g,.V4 b,v,⟨x,h1,h2⟩=>⟨x,g.m _ _ h1,h2⟩
 |_,_,g,.ptr b off,v,⟨x,h1,h2⟩=>⟨x,g.m _ _ h1,h2⟩
 |_,_,g,.eX b i k,v,⟨x,h1,h2⟩=>⟨x,g.m _ _ h1,h2⟩
 |_,_,_,.gl _ _,v,h=>h
 |_,_,g,.pin cs,v,⟨x,o,vs,h1,h2,h3,h4,h5⟩=>⟨x,o,vs,h1,g.F _ h2 h3,Zaa h3 g.below.size,fun j u hj=>(Yz (g.keep x h2 h3)).trans (h4 j u hj),RL.go g.flat cs vs h5⟩
 |_,_,g,.agg cs,v,⟨vs,h1,h2⟩=>⟨vs,h1,RL.go g cs vs h2⟩
 |_,_,g,.o7 cs,v,⟨vs,h1,h2⟩=>⟨vs,h1,RL.go g cs vs h2⟩
 |_,_,g,.clo f cs,v,⟨vs,h1,h2⟩=>⟨vs,h1,RL.go g cs vs h2⟩
 |_,_,g,.ak f cs,v,⟨vs,h1,h2⟩=>⟨vs,h1,RL.go g.flat cs vs h2⟩
 |_,_,_,.un,_,_=>trivial
theorem RL.go{X:Nat→Prop}{n0:Nat}{w w':World}:∀{M M':Mm},U1 X n0 M w M' w'→∀(cs:List AV) (vs:List Value),RL M w cs vs→RL M' w' cs vs
 |_,_,_,[],_,h=>h
 |_,_,g,c::cs,_,⟨u,us,h1,h2,h3⟩=>⟨u,us,h1,RV.go g c u h2,RL.go g cs us h3⟩
end
theorem RL.len{M:Mm}{w:World}:∀{cs:List AV} {vs:List Value},RL M w cs vs→vs.length=cs.length
 |[],_,h=>by rw[show _=_ from h];rfl
 |c::cs,_,⟨u,us,h1,_,h3⟩=>by rw[h1,Za1,Za1,RL.len h3]
theorem RL.get{M:Mm}{w:World}:∀{cs:List AV} {vs:List Value},RL M w cs vs→∀{i:Nat} {c:AV},cs[i]?=some c→∃u,vs[i]?=some u∧RV M w c u
 |[],_,_,i,c,hi=>by simp at hi
 |c::cs,_,⟨u,us,h1,h2,h3⟩,i,c',hi=>by
  subst h1;cases i with
  |zero=>exact⟨u,rfl,by simpa using (Option.some.inj hi) ▸ h2⟩
  |succ i=>exact RL.get h3 (by simpa using hi)
theorem RL.take{M:Mm}{w:World}:∀{cs:List AV} {vs:List Value} (n:Nat),RL M w cs vs→RL M w (cs.take n) (vs.take n)
 |_,_,0,_=>rfl
 |[],_,n+1,h=>by rw[show _=_ from h];rfl
 |c::cs,_,n+1,⟨u,us,h1,h2,h3⟩=>by subst h1;exact⟨u,us.take n,rfl,h2,RL.take n h3⟩
theorem RL.drop{M:Mm}{w:World}:∀{cs:List AV} {vs:List Value} (n:Nat),RL M w cs vs→RL M w (cs.drop n) (vs.drop n)
 |_,_,0,h=>h
 |[],_,n+1,h=>by rw[show _=_ from h];rfl
 |c::cs,_,n+1,⟨u,us,h1,h2,h3⟩=>by subst h1;exact RL.drop n h3
theorem RL.append{M:Mm}{w:World}:∀{cs ds:List AV} {vs us:List Value},RL M w cs vs→RL M w ds us→RL M w (cs++ds) (vs++us)
 |[],_,_,_,h,h'=>by rw[show _=_ from h];exact h'
 |c::cs,_,_,_,⟨u,us,h1,h2,h3⟩,h'=>by subst h1;exact⟨u,us++_,rfl,h2,RL.append h3 h'⟩
theorem RV.oneCell{M:Mm}{w:World}{a:AV}{v:Value}(h:RV M w a v)(h1:a.one=true):v.oneCell'=true:=by
 cases a with
 |dt d=>exact Rd.one h h1
 |nil=>rw[show v=_ from h];rfl
 |aW es=>obtain⟨A,rfl,_⟩:=h;rfl
 |own b n=>obtain⟨A,c,A',n',c',rfl,_⟩:=h;rfl
 |sl b n=>obtain⟨g,_,rfl⟩:=h;rfl
 |V4 b=>obtain⟨g,_,rfl⟩:=h;rfl
 |ptr b off=>obtain⟨g,_,rfl⟩:=h;rfl
 |eX b i k=>obtain⟨g,_,rfl⟩:=h;rfl
 |gl g off=>rw[show v=_ from h];rfl
 |pin ds=>obtain⟨g,o,vs,rfl,_⟩:=h;rfl
 |clo f cs=>obtain⟨vs,rfl,_⟩:=h;rfl
 |ak f cs=>obtain⟨vs,rfl,_⟩:=h;rfl
 |agg cs=>cases h1
 |o7 cs=>cases h1
 |un=>cases h1
theorem RL.oneCell{M:Mm}{w:World}:∀{cs:List AV} {vs:List Value},RL M w cs vs→cs.all AV.one=true→∀u∈vs,u.oneCell'=true
 |[],_,h,_=>by rw[show _=_ from h];intro u hu;cases hu
 |c::cs,_,⟨u,us,h1,h2,h3⟩,ha=>by
  subst h1;rw[List.all_cons,AC]at ha;intro x hx;rcases Zao.1 hx with rfl | hx
  ·exact h2.oneCell ha.1
  ·exact RL.oneCell h3 ha.2 x hx
theorem cells_one{v:Value}(h:v.oneCell'=true):v.cells=#[v]:=by
 cases v <;> first | rfl | cases h
theorem RV.cells{M:Mm}{w:World}{a:AV}{v:Value}(h:RV M w a v)(h1:a.cells.all AV.one=true):∃vs,v.cells=vs.toArray∧RL M w a.cells vs:=by
 cases a with
 |agg cs=>obtain⟨vs,rfl,hr⟩:=h;exact⟨vs,rfl,hr⟩
 |o7 cs=>simp[AV.cells,AV.one]at h1
 |un=>simp[AV.cells,AV.one]at h1
 |_ =>
  refine⟨[v],?_,v,[],rfl,h,rfl⟩;rw[cells_one (h.oneCell (by simpa[AV.cells] using h1))]
inductive Bx where
 |cells (cs:List AV)
 |buf (e:TypeId) (k:Nat) (es:aa1)
 |ay (es:aa1)
 |mp (D8:List (Value×AV))
 |rws (e:TypeId) (k:Nat) (es:aa1)
 |sG (es:aa1)
 |cst (cs:List AV)
 |aA (D8:List (Value×List Dt))
def Bx.vw:Bx→Bool
 |.buf _ _ _=>false
 |.ay _=>false
 |_=>true
def vz(F:Nat→Prop)(w:World)(k:Nat)(es:aa1)(vs:List Value):Prop :=
 vs.length=es.length * k∧∀i (h:i < es.length),(es[i]).length=k∧∀j (hj:j < (es[i]).length),∃u,vs[i * k+j]?=some u∧u.oneCell'=true∧Rd F w u (es[i])[j]
def MK(M:Mm)(w:World):List (Value×AV)→List MapEntry→Prop
 |[],es=>es=[]
 | (k,a)::D8,es=>∃e es',es=e::es'∧e.key=k∧RV M w a e.val∧MK M w D8 es'
def uT(D8:List (Value×List Dt)):List (Value×AV):=D8.map fun x=>(x.1,AV.agg (x.2.map .dt))
def oz(M:Mm)(w:World)(b:Nat):Bx→Prop
 |.aA D8=>∃g es clk,M.m b=some g∧w.heap[g]?=some (.map es.toArray clk)∧MK (M0 M.F) w (uT D8) es
 |.cells cs=>∃g T vs,M.m b=some g∧F5 w g T vs.toArray∧RL M w cs vs
 |.buf e k es=>∃A n c,M.o b=some (A,n,c)∧aZ M.F w 0 e k A n c es
 |.ay es=>∃A n c,M.o b=some (A,n,c)∧Rd M.F w (.slice A n c) (.row es)
 |.mp D8=>∃g es clk,M.m b=some g∧w.heap[g]?=some (.map es.toArray clk)∧MK M w D8 es
 |.rws e k es=>∃g vs,M.m b=some g∧F5 w g e vs.toArray∧vz M.F w k es vs
 |.sG es=>∃g,M.m b=some g∧Rd M.F w (.slice (some ⟨g,0,none⟩) es.length es.length) (.row es)
 |.cst cs=>∃g vs,M.m b=some g∧M.F g∧g < w.heap.size∧(∀(j:Nat) u,vs[j]?=some u→w.cell? ⟨g,j,none⟩=some u)∧RL (M0 M.F) w cs vs
def Hx(M:Mm)(b:Nat):Bx→Nat→Prop
 |.cells _,g=>M.m b=some g
 |.mp _,g=>M.m b=some g
 |.aA _,g=>M.m b=some g
 |.buf _ _ _,g=>∃n c,M.o b=some (some ⟨g,0,none⟩,n,c)
 |.rws _ _ _,g=>M.m b=some g
 |_,_=>False
section
variable {X:Nat→Prop} {n0:Nat} {M M':Mm} {w w':World}
theorem MK.go(g:U1 X n0 M w M' w'):∀{D8:List (Value×AV)} {es:List MapEntry},MK M w D8 es→MK M' w' D8 es
 |[],_,h=>h
 | (_k,_a)::_kvs,_,⟨e,es',h1,h2,h3,h4⟩=>⟨e,es',h1,h2,RV.go g _ _ h3,MK.go g h4⟩
theorem aZ.go(g:U1 X n0 M w M' w'){e:TypeId}{k:Nat}{A:Option Addr}{n c:Nat}{l:aa1}(h:aZ M.F w 0 e k A n c l)(hA:∀q,A=some ⟨q,0,none⟩→w'.heap[q]?=w.heap[q]?):aZ M'.F w' 0 e k A n c l :=
 ((h.mono (ok':=fun b=>M.F b∧M'.F b) fun b hb hl=>⟨hb,g.F b hb hl⟩).keep g.below.size fun q hq h=>by
  rcases h with h | h
  ·exact g.keep q h.1 hq
  ·exact hA q h).mono fun b hb _=>hb.2
theorem vz.go(g:U1 X n0 M w M' w'){k:Nat}{es:aa1}{vs:List Value}(h:vz M.F w k es vs):vz M'.F w' k es vs :=
 ⟨h.1,fun i hi=>⟨(h.2 i hi).1,fun j hj=>by
  obtain⟨u,h1,h2,h3⟩:=(h.2 i hi).2 j hj;exact⟨u,h1,h2,Rd.go g h3⟩⟩⟩
theorem oz.go(g:U1 X n0 M w M' w'){b:Nat}(ho:M'.o b=M.o b){x:Bx}(hk:∀q,Hx M b x q→w'.heap[q]?=w.heap[q]?)(h:oz M w b x):oz M' w' b x:=by
 cases x with
 |cells cs=>obtain⟨q,T,vs,h1,h2,h3⟩:=h;exact⟨q,T,vs,g.m _ _ h1,h2.keep (hk q h1),RL.go g _ _ h3⟩
 |buf e k es=>obtain⟨A,n,c,h1,h2⟩:=h;exact⟨A,n,c,ho.trans h1,h2.go g fun q hq=>hk q ⟨n,c,by rw[←hq];exact h1⟩⟩
 |ay es=>obtain⟨A,n,c,h1,h2⟩:=h;exact⟨A,n,c,ho.trans h1,Rd.go g h2⟩
 |mp D8=>obtain⟨q,es,clk,h1,h2,h3⟩:=h;exact⟨q,es,clk,g.m _ _ h1,(hk q h1).trans h2,MK.go g h3⟩
 |aA D8=>obtain⟨q,es,clk,h1,h2,h3⟩:=h;exact⟨q,es,clk,g.m _ _ h1,(hk q h1).trans h2,MK.go g.flat h3⟩
 |rws e k es=>obtain⟨q,vs,h1,h2,h3⟩:=h;exact⟨q,vs,g.m _ _ h1,h2.keep (hk q h1),h3.go g⟩
 |sG es=>obtain⟨q,h1,h2⟩:=h;exact⟨q,g.m _ _ h1,Rd.go g h2⟩
 |cst cs=>obtain⟨q,vs,h1,h2,h3,h4,h5⟩:=h;exact⟨q,vs,g.m _ _ h1,g.F _ h2 h3,Zaa h3 g.below.size,fun j u hj=>(Yz (g.keep q h2 h3)).trans (h4 j u hj),RL.go g.flat cs vs h5⟩
theorem Hx.eq{b:Nat}{x:Bx}(hm:M'.m b=M.m b)(ho:M'.o b=M.o b){q:Nat}:Hx M' b x q↔Hx M b x q:=by
 cases x <;> simp[Hx,hm,ho]
end
structure aG (X:Nat→Prop) (n0:Nat) (M:Mm) (bx:Nat→Option Bx) (w:World):Prop where
 box:∀b x,bx b=some x→oz M w b x
 dom:∀b x g,bx b=some x→Hx M b x g→(n0≤g∨X g)∧g < w.heap.size∧¬M.F g
 inj:∀b b' x x' g,bx b=some x→bx b'=some x'→Hx M b x g→Hx M b' x' g→b=b'
 hm:∀b g,M.m b=some g→∃x,bx b=some x∧x.vw=true
 ho:∀b v,M.o b=some v→(bx b).isSome=true
 fz:∀b,M.F b→b < w.heap.size
def updB(bx:Nat→Option Bx):List (Nat×Bx)→Nat→Option Bx
 |[],k=>bx k
 | (b,x)::r,k=>if k=b then some x else updB bx r k
abbrev aJ(bx:Nat→Option Bx)(b:Nat)(x:Bx):Nat→Option Bx:=fun k=>if k=b then some x else bx k
section
variable {X:Nat→Prop} {n0:Nat} {M M':Mm} {w w':World} {bx:Nat→Option Bx}
theorem aG.zu(h:aG X n0 M bx w){k:Nat}(hk:bx k=none):M.m k=none:=by
 cases e:M.m k with
 |none=>rfl
 |some g=>obtain⟨x,h1,_⟩:=h.hm k g e;rw[hk]at h1;cases h1
theorem aG.Dc(h:aG X n0 M bx w){k:Nat}(hk:bx k=none):M.o k=none:=by
 cases e:M.o k with
 |none=>rfl
 |some v=>have:=h.ho k v e;rw[hk]at this;cases this
theorem aG.upd(h:aG X n0 M bx w)(g:U1 X n0 M w M' w')(le:n0≤w.heap.size){b:Nat}{x':Bx}
  (hm:∀k,k≠b→M'.m k=M.m k∧M'.o k=M.o k) (hw:∀q,q < w.heap.size→(∀x,bx b=some x→¬Hx M b x q)→w'.heap[q]?=w.heap[q]?)
  (hF:∀q,M'.F q→q < w'.heap.size∧(M.F q∨w.heap.size≤q)) (hx:oz M' w' b x')
  (hd:∀q,Hx M' b x' q→((∃x,bx b=some x∧Hx M b x q)∨w.heap.size≤q)∧q < w'.heap.size∧¬M'.F q) (hmb:∀q,M'.m b=some q→x'.vw=true):aG X n0 M' (aJ bx b x') w':=by
 have old:∀{k x},k≠b→aJ bx b x' k=some x→bx k=some x:=fun hk h=>by rwa [show aJ bx b x' _=_ from lw hk]at h
 have this:∀{x},aJ bx b x' b=some x→x=x':=fun h=>by rw[show aJ bx b x' b=some x' from Za0 rfl]at h;exact (Option.some.inj h).symm
 have far:∀{k x q},k≠b→bx k=some x→Hx M k x q→w'.heap[q]?=w.heap[q]?:=fun {k x q} hk hb hq =>
  hw q (h.dom k x q hb hq).2.1 fun y hy hyq=>hk (h.inj _ _ _ _ q hb hy hq hyq)
 refine⟨?_,?_,?_,?_,?_,fun q hq=>(hF q hq).1⟩
 ·intro k x hk;by_cases e:k=b
  ·subst e;rw[this hk];exact hx
  ·have hk':=old e hk;exact (h.box k x hk').go g (hm k e).2 fun q hq=>far e hk' hq
 ·intro k x q hk hq;by_cases e:k=b
  ·subst e;rw[this hk]at hq;obtain⟨h1,h2,h3⟩:=hd q hq;refine⟨?_,h2,h3⟩;rcases h1 with⟨y,hy,hyq⟩ | h1
   ·exact (h.dom _ _ _ hy hyq).1
   ·exact .inl J
  ·have hk':=old e hk;have hq':=(Hx.eq (hm k e).1 (hm k e).2).1 hq;obtain⟨h1,h2,h3⟩:=h.dom k x q hk' hq';refine⟨h1,Zaa h2 g.below.size,fun hf=>?_⟩;rcases (hF q hf).2 with h4 | h4
   ·exact h3 h4
   ·omega
 ·intro k k' x y q hk hk' hq hq';have key:∀{k x},k≠b→aJ bx b x' k=some x→Hx M' k x q→∀{y},aJ bx b x' b=some y→Hx M' b y q→False:=by
   intro k x e hk hq y hy hyq;rw[this hy]at hyq;have hk2:=old e hk;have hq2:=(Hx.eq (hm k e).1 (hm k e).2).1 hq;rcases (hd q hyq).1 with⟨z,hz,hzq⟩ | h1
   ·exact e (h.inj _ _ _ _ q hk2 hz hq2 hzq)
   ·have:=(h.dom k x q hk2 hq2).2.1;omega
  by_cases e:k=b <;> by_cases e':k'=b
  ·rw[e,e']
  ·subst e;exact (key e' hk' hq' hk hq).elim
  ·subst e';exact (key e hk hq hk' hq').elim
  ·exact h.inj _ _ _ _ q (old e hk) (old e' hk') ((Hx.eq (hm k e).1 (hm k e).2).1 hq) ((Hx.eq (hm k' e').1 (hm k' e').2).1 hq')
 ·intro k q hk;by_cases e:k=b
  ·subst e;exact⟨x',Za0 rfl,hmb q hk⟩
  ·rw[(hm k e).1]at hk;obtain⟨x,h1,h2⟩:=h.hm k q hk;exact⟨x,(lw e).trans h1,h2⟩
 ·intro k v hk;by_cases e:k=b
  ·subst e;show (aJ bx k x' k).isSome=true;rw[show aJ bx k x' k=some x' from Za0 rfl];rfl
  ·rw[(hm k e).2]at hk;show (aJ bx b x' k).isSome=true;rw[show aJ bx b x' k=bx k from lw e]
   exact h.ho k v hk
theorem aG.grow(h:aG X n0 M bx w)(g:U1 X n0 M w M' w')(hm:M'.m=M.m)(ho:M'.o=M.o)
  (hw:∀q k x,bx k=some x→Hx M k x q→w'.heap[q]?=w.heap[q]?) (hF:∀q,M'.F q→q < w'.heap.size∧(M.F q∨w.heap.size≤q)):aG X n0 M' bx w':=by
 have hx:∀k x q,Hx M' k x q↔Hx M k x q:=fun k x q=>Hx.eq (by rw[hm]) (by rw[ho])
 refine⟨fun b x hb=>(h.box b x hb).go g (by rw[ho]) fun q hq=>hw q b x hb hq,?_,?_,?_,?_,fun q hq=>(hF q hq).1⟩
 ·intro b x q hb hq;rw[hx]at hq;obtain⟨h1,h2,h3⟩:=h.dom b x q hb hq;refine⟨h1,Zaa h2 g.below.size,fun hf=>?_⟩;rcases (hF q hf).2 with h4 | h4
  ·exact h3 h4
  ·omega
 ·intro b b' x x' q h1 h2 h3 h4;rw[hx]at h3 h4;exact h.inj _ _ _ _ q h1 h2 h3 h4
 ·intro b q hb;rw[hm]at hb;exact h.hm b q hb
 ·intro b v hb;rw[ho]at hb;exact h.ho b v hb
theorem aZ.Ue{ok:Nat→Prop}{e:TypeId}{k:Nat}{A:Option Addr}{n c:Nat}{l:aa1}(h:aZ ok w 0 e k A n c l):Rd (fun q=>ok q∨A=some ⟨q,0,none⟩) w (.slice A n c) (.row l):=by
 have h0:=h.rd;rcases h.addr with rfl | ⟨g,rfl,_,hg⟩
 ·have hl:=h.len;obtain⟨xs,⟨_,ho⟩,_⟩:=h.own;rcases ho with⟨hv,_⟩ | ⟨g,cap,cur,hv,_⟩
  ·simp only[Zap]at hv;obtain⟨_,rfl,rfl⟩:=hv;obtain rfl:l=[]:=Za9 hl;exact .nil _ _
  ·simp only[Zap]at hv;cases hv.1
 ·obtain⟨xs,⟨hx,ho⟩,he⟩:=h.own;have hlen:=h.len;rcases Zas n with hn | hn
  ·subst hn;obtain rfl:l=[]:=Za9 hlen;exact .nil _ _
  ·rcases ho with⟨_,h1⟩ | ⟨g',cap,cur,hv,hbg,hgb,hnc,hcm,hcs,ht⟩
   ·omega
   ·simp only[Zap,Option.some.injEq,Addr.mk.injEq]at hv;obtain⟨⟨rfl,_⟩,_,rfl⟩:=hv;refine Rd.mk (k:=k) hlen hnc hg (.inr rfl) (fun i hi=>(he i hi).1) (fun i j hi hj=>?_);obtain⟨u,h1,h2⟩:=(he i hi).2 j hj;refine⟨u,?_,h2.mono fun b hb _=>.inl hb.1⟩;have hj':j < k:=by rw[←(he i hi).1];exact hj
    have hlt:i * k+j < n * k:=by
     have:(i+1) * k≤n * k:=ZaJ k J;rw[Nat.add_mul]at this;omega
    have e:cur[i * k+j]?=some u:=by
     rw[←h1,←ht,List.getElem?_take_of_lt hlt];simp
    simp[World.cell?,hgb,Nat.zero_add,e]
theorem aG.Fh(h:aG X n0 M bx w){b:Nat}{e:TypeId}{k:Nat}{es:aa1}(hb:bx b=some (.buf e k es)) :
  ∃M',U1 X n0 M w M' w∧aG X n0 M' (aJ bx b (.ay es)) w∧M'.m=M.m∧M'.o=M.o∧∀q,M'.F q→M.F q∨n0≤q∨X q:=by
 obtain⟨A,n,c,ho,hown⟩:=h.box b _ hb;have hmb:M.m b=none:=by
  cases e:M.m b with
  |none=>rfl
  |some g =>
   obtain⟨x,h1,h2⟩:=h.hm b g e;rw[hb]at h1;cases h1;cases h2
 have Uf:∀q,A=some ⟨q,0,none⟩→Hx M b (.buf e k es) q:=fun q hq=>⟨n,c,by rw[←hq];exact ho⟩
 let M':Mm:=⟨M.m,fun q=>M.F q∨A=some ⟨q,0,none⟩,M.o⟩
 have g:U1 X n0 M w M' w:=⟨aN.refl _ _ _,fun _ _ _=>rfl,fun _ h _=>.inl h,fun _ _ h=>h,fun _=>uF rfl⟩;have old:∀{k x},k≠b→aJ bx b (.ay es) k=some x→bx k=some x:=fun hk h=>by rwa [show aJ bx b (.ay es) _=_ from lw hk]at h
 have this:∀{x},aJ bx b (.ay es) b=some x→x=.ay es:=fun h=>by rw[show aJ bx b (.ay es) b=some (.ay es) from Za0 rfl]at h;exact (Option.some.inj h).symm
 have hx:∀k x q,Hx M' k x q↔Hx M k x q:=fun k x q=>Hx.eq rfl rfl
 refine⟨M',g,⟨?_,?_,?_,?_,?_,?_⟩,rfl,rfl,?_⟩
 ·intro k x hk;by_cases e:k=b
  ·subst e;rw[this hk];exact⟨A,n,c,ho,hown.Ue⟩
  ·exact (h.box k x (old e hk)).go g rfl fun _ _=>rfl
 ·intro k x q hk hq;by_cases e:k=b
  ·subst e;rw[this hk]at hq;exact hq.elim
  ·rw[hx]at hq;obtain⟨h1,h2,h3⟩:=h.dom k x q (old e hk) hq;refine⟨h1,h2,fun hf=>?_⟩;rcases hf with hf | hf
   ·exact h3 hf
   ·exact e (h.inj _ _ _ _ q (old e hk) hb hq (Uf q hf))
 ·intro k k' x y q hk hk' hq hq';rw[hx]at hq hq';by_cases e:k=b
  ·subst e;rw[this hk]at hq;exact hq.elim
  ·by_cases e':k'=b
   ·subst e';rw[this hk']at hq';exact hq'.elim
   ·exact h.inj _ _ _ _ q (old e hk) (old e' hk') hq hq'
 ·intro k q hk;obtain⟨x,h1,h2⟩:=h.hm k q hk;by_cases e:k=b
  ·subst e;rw[hmb]at hk;cases hk
  ·exact⟨x,(lw e).trans h1,h2⟩
 ·intro k v hk;show (aJ bx b (.ay es) k).isSome=true;by_cases e:k=b
  ·subst e;rw[show aJ bx k (.ay es) k=some (.ay es) from Za0 rfl];rfl
  ·rw[show aJ bx b (.ay es) k=bx k from lw e];exact h.ho k v hk
 ·intro q hq;rcases hq with hq | hq
  ·exact h.fz q hq
  ·exact (h.dom b _ q hb (Uf q hq)).2.1
 ·intro q hq;rcases hq with hq | hq
  ·exact .inl hq
  ·exact .inr (h.dom b _ q hb (Uf q hq)).1
end
structure Inv (X:Nat→Prop) (n0:Nat) (w0:World×Mm) (ok0:Nat→Prop) (M:Mm) (nt:Nat) (tm:Nat→AV) (bx:Nat→Option Bx) (a:Act) (w:World):Prop where
 below:aN X n0 w0.1 w
 le:n0≤w.heap.size
 defers:a.defers=[]
 size:a.tmps.size=nt
 tmps:∀t,RV M w (tm t) (a.tmps.getD t undef)
 J4:aG X n0 M bx w
 src:∀b,M.F b→b < n0→ok0 b∨X b
 kL:U1 X n0 w0.2 w0.1 M w
def rU:Value→AV
 |.slice none 0 0=>.nil
 |v=>.dt (.val v)
theorem OJ(M:Mm)(w:World)(v:Value):RV M w (rU v) v:=by
 unfold rU;split
 ·exact rfl
 ·exact .val _
theorem Df(M:Mm)(w:World):∀vs:List Value,RL M w (vs.map rU) vs
 |[]=>rfl
 |v::vs=>⟨v,vs,rfl,OJ M w v,Df M w vs⟩
def J6(tm:Nat→AV):Operand→AV
 |.tmp t=>tm t
 |.const v=>rU v
 |.global g=>.gl g 0
 |.func f=>.ak f []
def U8(tm:Nat→AV)(d:Option Nat)(r:AV):Nat→AV:=match d with
 |some d=>fun t=>if t=d then r else tm t
 |none=>tm
section
variable {X:Nat→Prop} {n0:Nat} {w0:World×Mm} {ok0:Nat→Prop} {M M':Mm} {nt:Nat} {tm:Nat→AV} {bx bx':Nat→Option Bx} {a:Act} {w w':World}
theorem Inv.ev(h:Inv X n0 w0 ok0 M nt tm bx a w)(x:Operand):RV M w (J6 tm x) (a.eval x):=by
 cases x with
 |tmp t=>exact h.tmps t
 |const v=>exact OJ M w v
 |global g=>exact rfl
 |func f=>exact⟨[],rfl,rfl⟩
theorem Inv.put(h:Inv X n0 w0 ok0 M nt tm bx a w)(g:U1 X n0 M w M' w')(hs:aG X n0 M' bx' w')(hF:∀b,M'.F b→M.F b∨n0≤b∨X b)(d:Option Nat)(hd:∀t,d=some t→t < nt){v:Value}{r:AV}(hr:RV M' w' r v) :
  Inv X n0 w0 ok0 M' nt (U8 tm d r) bx' (a.put d v) w':=by
 refine⟨h.below.trans g.below,Za6 h.le g.below.size,?_,?_,?_,hs,fun b hb hl=>?_,h.kL.trans g⟩
 ·cases d <;> exact h.defers
 ·cases d with
  |none=>exact h.size
  |some d=>show (a.tmps.setIfInBounds d v).size=nt;rw[Array.size_setIfInBounds];exact h.size
 ·intro t;cases d with
  |none=>exact RV.go g _ _ (h.tmps t)
  |some d =>
   have hd':=hd d rfl;show RV M' w' (if t=d then r else tm t) ((a.tmps.setIfInBounds d v).getD t undef);by_cases e:t=d
   ·subst e;rw[Za0 rfl];have:(a.tmps.setIfInBounds t v).getD t undef=v:=by
     have:=h.size;simp[show t < a.tmps.size by omega]
    rw[this];exact hr
   ·rw[lw e];have:(a.tmps.setIfInBounds d v).getD t undef=a.tmps.getD t undef:=by
     simp[ZaR e]
    rw[this];exact RV.go g _ _ (h.tmps t)
 ·rcases hF b hb with e | e | e
  ·exact h.src b e hl
  ·omega
  ·exact .inr e
theorem Inv.same(h:Inv X n0 w0 ok0 M nt tm bx a w)(g:U1 X n0 M w M' w')(hs:aG X n0 M' bx' w')(hF:∀b,M'.F b→M.F b∨n0≤b∨X b):Inv X n0 w0 ok0 M' nt tm bx' a w':=by
 have:=h.put g hs hF none (fun _ h=>by cases h) (v:=undef) (r:=.un) trivial;exact this
theorem Inv.val(h:Inv X n0 w0 ok0 M nt tm bx a w)(d:Option Nat)(hd:∀t,d=some t→t < nt){v:Value}{r:AV}(hr:RV M w r v):Inv X n0 w0 ok0 M nt (U8 tm d r) bx (a.put d v) w :=
 h.put (U1.refl _ _ _ _) h.J4 (fun _ h=>.inl h) d hd hr
theorem Inv.grown(h:Inv X n0 w0 ok0 M nt tm bx a w)(hb:Below w.heap.size w w')(d:Option Nat)(hd:∀t,d=some t→t < nt){v:Value}{r:AV}
  (hr:RV ⟨M.m,fun b=>(M.F b∨w.heap.size≤b)∧b < w'.heap.size,M.o⟩ w' r v):∃M',Inv X n0 w0 ok0 M' nt (U8 tm d r) bx (a.put d v) w':=by
 have g:U1 X n0 M w ⟨M.m,fun b=>(M.F b∨w.heap.size≤b)∧b < w'.heap.size,M.o⟩ w':=⟨aN.of (hb.mono h.le),fun b _ hl=>hb.block b hl,fun _ hb' hl=>⟨.inl hb',Zaa hl hb.size⟩,fun _ _ h=>h,fun _=>uF rfl⟩;refine⟨_,h.put g (h.J4.grow g rfl rfl (fun q k x hk hq=>hb.block q (h.J4.dom k x q hk hq).2.1) fun q hq=>⟨hq.2,hq.1⟩) (fun b hb'=>?_) d hd hr⟩;rcases hb'.1 with e | e
 ·exact .inl e
 ·have:=h.le;exact .inr (.inl J)
theorem Inv.new(h:Inv X n0 w0 ok0 M nt tm bx a w){k:Nat}(hk:bx k=none)(o:Obj){x':Bx}(hM:x'.vw=true)(hx:∀M',U1 X n0 M w M' (w.alloc o)→M'.m k=some w.heap.size→oz M' (w.alloc o) k x')(d:Option Nat)(hd:∀t,d=some t→t < nt){r:AV}{v:Value}
  (hr:∀M',M'.m k=some w.heap.size→RV M' (w.alloc o) r v):∃M',Inv X n0 w0 ok0 M' nt (U8 tm d r) (aJ bx k x') (a.put d v) (w.alloc o):=by
 have hm:=h.J4.zu hk
 let M':Mm:=⟨fun b=>if b=k then some w.heap.size else M.m b,M.F,M.o⟩
 have hne:∀b,b≠k→M'.m b=M.m b:=fun b hb=>lw hb
 have hsz:(w.alloc o).heap.size=w.heap.size+1:=I;have g:U1 X n0 M w M' (w.alloc o):=⟨aN.of ((Below.refl _ _).alloc h.le _),fun b _ hl=>Below.heap_alloc _ _ _ hl,fun b hb _=>hb,(fun b q hb=>by
  by_cases e:b=k
  ·subst e;rw[hm]at hb;cases hb
  ·rw[hne b e,hb]),fun _=>uF rfl⟩
 have hk':M'.m k=some w.heap.size:=Za0 rfl;refine⟨M',h.put g (h.J4.upd g h.le (fun b hb=>⟨hne b hb,rfl⟩) (fun q hq _=>Below.heap_alloc _ _ _ hq) (fun q hq=>⟨by rw[hsz];have:=h.J4.fz q hq;omega,.inl hq⟩) (hx M' g hk') (fun q hq=>?_) (fun _ _=>hM)) (fun _ h=>.inl h) d hd (hr M' hk')⟩
 have hq':M'.m k=some q:=by
  cases x' <;> first | exact hq | exact hq.elim | cases hM
 rw[hk']at hq';cases hq';exact⟨.inr (NE _),by rw[hsz];omega,fun hf=>by have:=h.J4.fz _ hf;omega⟩
theorem Inv.alloc(h:Inv X n0 w0 ok0 M nt tm bx a w){k:Nat}(hk:bx k=none)(T:TypeId){cs:List AV}{vs:List Value}(hv:RL M w cs vs)(d:Option Nat)(hd:∀t,d=some t→t < nt) :
  ∃M',Inv X n0 w0 ok0 M' nt (U8 tm d (.ptr k 0)) (aJ bx k (.cells cs)) (a.put d (.pointer (some ⟨w.heap.size,0,none⟩))) (w.alloc (.cells vs.toArray T)) :=
 h.new hk _ (x':=.cells cs) rfl (fun _M' g hk'=>⟨w.heap.size,T,vs,hk',F5.new w T vs.toArray,RL.go g _ _ hv⟩) d hd fun _M' hk'=>⟨_,hk',rfl⟩
theorem Inv.KR(h:Inv X n0 w0 ok0 M nt tm bx a w){b g:Nat}{x x':Bx}(hb:bx b=some x)(hg:Hx M b x g)(hM:x'.vw=true)(hmg:M.m b=some g)(h1:w'.os=w.os)(h2:w'.tape=w.tape)(h3:w'.output=w.output)(hsz:w'.heap.size=w.heap.size)
  (hother:∀q,q≠g→w'.heap[q]?=w.heap[q]?) (hx:U1 X n0 M w M w'→oz M w' b x') (d:Option Nat) (hd:∀t,d=some t→t < nt) {r:AV} {v:Value} (hr:RV M w' r v) :
  Inv X n0 w0 ok0 M nt (U8 tm d r) (aJ bx b x') (a.put d v) w':=by
 obtain⟨hg0,hg1,hg2⟩:=h.J4.dom b _ g hb hg;have gg:U1 X n0 M w M w':=⟨⟨h1,h2,h3,by rw[hsz];exact NE _,fun x hx hX=>hother x (fun e=>by
  subst e;rcases hg0 with h0 | h0
  ·omega
  ·exact hX h0)⟩,fun x hx _=>hother x (fun e=>hg2 (e ▸ hx)),fun _ h _=>h,fun _ _ h=>h,fun _=>uF rfl⟩
 refine h.put gg (h.J4.upd gg h.le (fun _ _=>⟨rfl,rfl⟩) (fun q hq hnq=>hother q (fun e=>hnq _ hb (e ▸ hg))) (fun q hq=>⟨by rw[hsz];exact h.J4.fz q hq,.inl hq⟩) (hx gg) (fun q hq=>?_) (fun _ _=>hM)) (fun _ h=>.inl h) d hd hr;have hq':M.m b=some q:=by
  cases x' <;> first | exact hq | exact hq.elim | cases hM
 rw[hmg]at hq';cases hq';exact⟨.inl ⟨_,hb,hg⟩,by rw[hsz];exact hg1,hg2⟩
theorem WH{w:World}{g x:Nat}{cs:Array Value}(hx:x≠g):(w.setRow g cs).heap[x]?=w.heap[x]?:=by
 unfold World.setRow;simp only[Array.getElem?_modify];rw[lw (ZaR hx)]
theorem F5.setRow{w:World}{g:Nat}{T:TypeId}{old cs:Array Value}(hB:F5 w g T old):F5 (w.setRow g cs) g T cs:=by
 unfold F5 at hB ⊢;unfold World.setRow;simp only[Array.getElem?_modify,ZaP,hB,Option.map_some]
theorem setRow_size(w:World)(g:Nat)(cs:Array Value):(w.setRow g cs).heap.size=w.heap.size:=by unfold World.setRow;simp
theorem Inv.store(h:Inv X n0 w0 ok0 M nt tm bx a w){b g:Nat}{T:TypeId}{cs0:List AV}(hb:bx b=some (.cells cs0))(hg:M.m b=some g){old new:List Value}(hB:F5 w g T old.toArray){cs:List AV}(hv:RL M w cs new)(d:Option Nat)(hd:∀t,d=some t→t < nt) :
  Inv X n0 w0 ok0 M nt (U8 tm d (.dt (.val undef))) (aJ bx b (.cells cs)) (a.put d undef) (w.setRow g new.toArray) :=
 h.KR (x':=.cells cs) (w':=w.setRow g new.toArray) hb hg rfl hg rfl rfl rfl (setRow_size _ _ _) (fun _q hq=>WH hq) (fun gg=>⟨g,T,new,hg,hB.setRow,RL.go gg _ _ hv⟩) d hd (r:=.dt (.val undef)) (Rd.val _)
end
end Go.Proofs.YthhknjlmjefklaaGreatDoor
