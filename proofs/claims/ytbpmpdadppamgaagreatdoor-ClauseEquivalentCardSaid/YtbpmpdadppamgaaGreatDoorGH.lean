/- Which objects are formed and valid, how many nodes they have: package object and the reference, for any object. -/
import Derived.Test.YtbpmpdadppamgaaGreatDoorGB
import Derived.Test.YtbpmpdadppamgaaGreatDoorGG
import Derived.Test.YtbpmpdadppamgaaGreatDoorGE
import Derived.Lib.SmallJoins
import Derived.Test.YtbpmpdadppamgaaGreatDoorCards
import Derived.Test.YtbpmpdadppamgaaGreatDoorTie
import Derived.ProofKit
import Derived.OpenShut
import Derived.ShutString
import Derived.Deep.DeepHandedRow
import Derived.Deep.DeepWitnessRowRef
import Derived.Lib.ItoaNum
import Derived.Lib.LaidTab
import Derived.LaidSub
import Derived.Orders
set_option maxRecDepth 100000
set_option maxHeartbeats 4000000
namespace Go.Proofs.YtbpmpdadppamgaaGreatDoor
open Go.Proofs.Tryz
open Go.RowKit
abbrev dg(l:lw):Nat:=(j6.mag (norm l)).length
def iq(n d:lw):Bool:=decide (Lib.itoa (aj (j6.x9 n) (j6.x9 d))=n∧Lib.itoa (ak (j6.x9 n) (j6.x9 d))=d∧dg n≤100∧dg d≤100)
namespace Ob
mutual
def U9:Ob→Bool
 |⟨k,n,d,p,s,t,l⟩ =>
  if k=4 then decide (n=[]∧d=[]∧p=[]∧s=[]∧t=[]∧l.length=2) && nW l
  else if k=1 then decide (p=[]∧s=[]∧t=[]∧l.length=0) && iq n d
  else if k=2 then decide (n=[]∧d=[]∧t=[]∧l.length=0) && R6 ⟨p,s⟩
  else if k=3 then decide (n=[]∧d=[]∧p=[]∧s=[]∧t.length≤200∧l.length=0)
  else false
def nW:List Ob→Bool
 |[]=>true
 |o::r=>U9 o && nW r
end
theorem T9(k:Int)(n d p s t:lw)(l:List Ob):U9 ⟨k,n,d,p,s,t,l⟩=(if k=4 then decide (n=[]∧d=[]∧p=[]∧s=[]∧t=[]∧l.length=2) && nW l
  else if k=1 then decide (p=[]∧s=[]∧t=[]∧l.length=0) && iq n d
  else if k=2 then decide (n=[]∧d=[]∧t=[]∧l.length=0) && R6 ⟨p,s⟩
  else if k=3 then decide (n=[]∧d=[]∧p=[]∧s=[]∧t.length≤200∧l.length=0)
  else false):=by rw[U9]
inductive Sm:Ob→Prop
 |mk (o:Ob) (hn:o.num.length≤1100000) (hd:o.den.length≤1100000) (h:∀x∈o.pair,Sm x):Sm o
theorem Sm.kids{o x:Ob}(h:o.Sm)(hx:x∈o.pair):x.Sm:=by
 cases h with
 |mk _ _ _ h=>exact h x hx
theorem Sm.len{o:Ob}(h:o.Sm):o.num.length≤1100000∧o.den.length≤1100000:=by
 cases h with
 |mk _ a b _=>exact⟨a,b⟩
end Ob
theorem a3d(o:Ob)(A:Option Addr)(n c:Nat)(w:World):Calls prog 268 #[G6 o (.slice A n c),.bool false,.bool false,.bool false] w (J7 (.bool (decide (o.num=[]∧o.den=[]∧o.sp=[]∧o.sn=[]∧o.text=[]))) w):=by
 obtain⟨k,nm,d,p,sy,t,l⟩:=o;dsimp only;by_cases hnm:nm=[]
 case neg =>
  rw[WF (fun h=>hnm (h.1))];have hz:(nm == [])=false:=by rw[IR];exact hnm
  clear hnm
  go_enter func268,ntmps268
  go_wp2;go_ret;exact⟨rfl,box _ _⟩
 subst hnm;by_cases hd:d=[]
 case neg =>
  rw[WF (fun h=>hd (h.2.1))];have hz:(d == [])=false:=by rw[IR];exact hd
  clear hd
  go_enter func268,ntmps268
  go_wp2;go_ret;exact⟨rfl,box _ _⟩
 subst hd;by_cases hp:p=[]
 case neg =>
  rw[WF (fun h=>hp (h.2.2.1))];have hz:(p == [])=false:=by rw[IR];exact hp
  clear hp
  go_enter func268,ntmps268
  go_wp2;go_ret;exact⟨rfl,box _ _⟩
 subst hp;by_cases hsy:sy=[]
 case neg =>
  rw[WF (fun h=>hsy (h.2.2.2.1))];have hz:(sy == [])=false:=by rw[IR];exact hsy
  clear hsy
  go_enter func268,ntmps268
  go_wp2;go_ret;exact⟨rfl,box _ _⟩
 subst hsy;by_cases ht:t=[]
 case neg =>
  rw[WF (fun h=>ht (h.2.2.2.2))];have hz:(t == [])=false:=by rw[IR];exact ht
  clear ht
  go_enter func268,ntmps268
  go_wp2;go_ret;exact⟨rfl,box _ _⟩
 subst ht;rw[Pi I]
 go_enter func268,ntmps268
 go_wp2;go_ret;exact⟨rfl,box _ _⟩
theorem a3e(o:Ob)(A:Option Addr)(n c:Nat)(w:World):Calls prog 268 #[G6 o (.slice A n c),.bool true,.bool false,.bool false] w (J7 (.bool (decide (o.sp=[]∧o.sn=[]∧o.text=[]))) w):=by
 obtain⟨k,nm,d,p,sy,t,l⟩:=o;dsimp only;by_cases hp:p=[]
 case neg =>
  rw[WF (fun h=>hp (h.1))];have hz:(p == [])=false:=by rw[IR];exact hp
  clear hp
  go_enter func268,ntmps268
  go_wp2;go_ret;exact⟨rfl,box _ _⟩
 subst hp;by_cases hsy:sy=[]
 case neg =>
  rw[WF (fun h=>hsy (h.2.1))];have hz:(sy == [])=false:=by rw[IR];exact hsy
  clear hsy
  go_enter func268,ntmps268
  go_wp2;go_ret;exact⟨rfl,box _ _⟩
 subst hsy;by_cases ht:t=[]
 case neg =>
  rw[WF (fun h=>ht (h.2.2))];have hz:(t == [])=false:=by rw[IR];exact ht
  clear ht
  go_enter func268,ntmps268
  go_wp2;go_ret;exact⟨rfl,box _ _⟩
 subst ht;rw[Pi I]
 go_enter func268,ntmps268
 go_wp2;go_ret;exact⟨rfl,box _ _⟩
theorem a3f(o:Ob)(A:Option Addr)(n c:Nat)(w:World):Calls prog 268 #[G6 o (.slice A n c),.bool false,.bool true,.bool false] w (J7 (.bool (decide (o.num=[]∧o.den=[]∧o.text=[]))) w):=by
 obtain⟨k,nm,d,p,sy,t,l⟩:=o;dsimp only;by_cases hnm:nm=[]
 case neg =>
  rw[WF (fun h=>hnm (h.1))];have hz:(nm == [])=false:=by rw[IR];exact hnm
  clear hnm
  go_enter func268,ntmps268
  go_wp2;go_ret;exact⟨rfl,box _ _⟩
 subst hnm;by_cases hd:d=[]
 case neg =>
  rw[WF (fun h=>hd (h.2.1))];have hz:(d == [])=false:=by rw[IR];exact hd
  clear hd
  go_enter func268,ntmps268
  go_wp2;go_ret;exact⟨rfl,box _ _⟩
 subst hd;by_cases ht:t=[]
 case neg =>
  rw[WF (fun h=>ht (h.2.2))];have hz:(t == [])=false:=by rw[IR];exact ht
  clear ht
  go_enter func268,ntmps268
  go_wp2;go_ret;exact⟨rfl,box _ _⟩
 subst ht;rw[Pi I]
 go_enter func268,ntmps268
 go_wp2;go_ret;exact⟨rfl,box _ _⟩
theorem a3g(o:Ob)(A:Option Addr)(n c:Nat)(w:World):Calls prog 268 #[G6 o (.slice A n c),.bool false,.bool false,.bool true] w (J7 (.bool (decide (o.num=[]∧o.den=[]∧o.sp=[]∧o.sn=[]))) w):=by
 obtain⟨k,nm,d,p,sy,t,l⟩:=o;dsimp only;by_cases hnm:nm=[]
 case neg =>
  rw[WF (fun h=>hnm (h.1))];have hz:(nm == [])=false:=by rw[IR];exact hnm
  clear hnm
  go_enter func268,ntmps268
  go_wp2;go_ret;exact⟨rfl,box _ _⟩
 subst hnm;by_cases hd:d=[]
 case neg =>
  rw[WF (fun h=>hd (h.2.1))];have hz:(d == [])=false:=by rw[IR];exact hd
  clear hd
  go_enter func268,ntmps268
  go_wp2;go_ret;exact⟨rfl,box _ _⟩
 subst hd;by_cases hp:p=[]
 case neg =>
  rw[WF (fun h=>hp (h.2.2.1))];have hz:(p == [])=false:=by rw[IR];exact hp
  clear hp
  go_enter func268,ntmps268
  go_wp2;go_ret;exact⟨rfl,box _ _⟩
 subst hp;by_cases hsy:sy=[]
 case neg =>
  rw[WF (fun h=>hsy (h.2.2.2))];have hz:(sy == [])=false:=by rw[IR];exact hsy
  clear hsy
  go_enter func268,ntmps268
  go_wp2;go_ret;exact⟨rfl,box _ _⟩
 subst hsy;rw[Pi I]
 go_enter func268,ntmps268
 go_wp2;go_ret;exact⟨rfl,box _ _⟩
theorem a4f{n d:lw}(h:iq n d=true):j6.O5 n=true∧j6.O5 d=true∧dg n≤100∧dg d≤100:=by
 unfold iq at h;obtain⟨h1,h2,h3,h4⟩:=bv h;exact⟨by rw[←h1];exact j6.Ik _,by rw[←h2];exact j6.Ik _,h3,h4⟩
theorem a2s(a b:lw)(w:World)(ht:R9 w)(ha:a.length≤1100000)(hb:b.length≤1100000):Calls prog 269 #[str a,str b] w (J7 (.bool (iq a b)) w):=by
 have gF:Hid (∀w':World,Calls prog 273 #[str a] w' (lM (.bool (j6.O5 a)) w')):=fun w'=>lG a w' J
 have jO:Hid (∀w':World,Calls prog 273 #[str b] w' (lM (.bool (j6.O5 b)) w')):=fun w'=>lG b w' J
 have HD1:Hid (∀w':World,Calls prog 259 #[str a] w' (lM (.int .i64 (dg a:Nat)) w')):=fun w'=>xU a w' J
 have HD2:Hid (∀w':World,Calls prog 259 #[str b] w' (lM (.int .i64 (dg b:Nat)) w')):=fun w'=>xU b w' J
 have HR:Hid (∀w':World,Below w.heap.size w w'→Calls prog 257 #[str a,str b] w' (eu (Lib.itoa (aj (j6.x9 a) (j6.x9 b))) (Lib.itoa (ak (j6.x9 a) (j6.x9 b))) w')):=fun w' hb'=>Ic a b w' ha hb (ht.below hb')
 have oC:dg a≤1100002:=by have h1:=j6.jA (norm a);have h2:=lF a;show (j6.mag (norm a)).length≤_;omega
 have Ba:dg b≤1100002:=by have h1:=j6.jA (norm b);have h2:=lF b;show (j6.mag (norm b)).length≤_;omega
 have HN:Hid (∀h:¬(j6.O5 a=true∧j6.O5 b=true∧dg a≤100∧dg b≤100),iq a b=false):=fun h=>by
  rw[Za8];exact fun e=>h (a4f e)
 have HL:Hid (iq a b=decide (Lib.itoa (aj (j6.x9 a) (j6.x9 b))=a∧Lib.itoa (ak (j6.x9 a) (j6.x9 b))=b∧dg a≤100∧dg b≤100)):=rfl;generalize iq a b=z at *;generalize Lib.itoa (aj (j6.x9 a) (j6.x9 b))=x at *;generalize Lib.itoa (ak (j6.x9 a) (j6.x9 b))=y at *;generalize dg a=da at *;generalize dg b=db at *;cases h1:j6.O5 a with
 |false =>
  obtain rfl:=HN.out (fun h=>by rw[h1]at h;cases h.1);rw[h1]at gF;clear HL HN h1
  go_enter func269,ntmps269
  go_wp2_with fail
  refine (gF.out _).mono ?_;rintro e w' ⟨rfl,rfl⟩;go_wp2;go_ret;exact⟨rfl,Below.refl _ _⟩
 |true =>
 rw[h1]at gF;cases h2:j6.O5 b with
 |false =>
  obtain rfl:=HN.out (fun h=>by rw[h2]at h;cases h.2.1);rw[h2]at jO;clear HL HN h1 h2
  go_enter func269,ntmps269
  go_wp2_with fail
  refine (gF.out _).mono ?_;rintro e w' ⟨rfl,rfl⟩
  go_wp2_with fail
  refine (jO.out _).mono ?_;rintro e w' ⟨rfl,rfl⟩;go_wp2;go_ret;exact⟨rfl,Below.refl _ _⟩
 |true =>
 rw[h2]at jO;have VV:Hid (j6.O5 a=true∧j6.O5 b=true):=⟨h1,h2⟩;clear h1 h2;by_cases h3:da≤100
 case neg =>
  obtain rfl:=HN.out (fun h=>h3 h.2.2.1);clear HL HN VV
  go_enter func269,ntmps269
  go_wp2_with fail
  refine (gF.out _).mono ?_;rintro e w' ⟨rfl,rfl⟩
  go_wp2_with fail
  refine (jO.out _).mono ?_;rintro e w' ⟨rfl,rfl⟩
  go_wp2_with fail
  refine (HD1.out _).mono ?_;rintro e w' ⟨rfl,rfl⟩;go_wp2;go_ret;exact⟨rfl,Below.refl _ _⟩
 by_cases h4:db≤100
 case neg =>
  obtain rfl:=HN.out (fun h=>h4 h.2.2.2);clear HL HN VV
  go_enter func269,ntmps269
  go_wp2_with fail
  refine (gF.out _).mono ?_;rintro e w' ⟨rfl,rfl⟩
  go_wp2_with fail
  refine (jO.out _).mono ?_;rintro e w' ⟨rfl,rfl⟩
  go_wp2_with fail
  refine (HD1.out _).mono ?_;rintro e w' ⟨rfl,rfl⟩
  go_wp2_with fail
  refine (HD2.out _).mono ?_;rintro e w' ⟨rfl,rfl⟩;go_wp2;go_ret;exact⟨rfl,Below.refl _ _⟩
 have HZ:Hid (z=decide (x=a∧y=b)):=by
  show z=_;rw[HL.out];exact Zab.2 ⟨fun h=>⟨h.1,h.2.1⟩,fun h=>⟨h.1,h.2,h3,h4⟩⟩
 clear HN HL VV;by_cases h5:x=a
 ·by_cases h6:y=b
  ·obtain rfl:z=true:=by rw[HZ.out];exact Pi ⟨h5,h6⟩
   subst h5 h6;clear HZ
   go_enter func269,ntmps269
   go_wp2_with fail
   refine (gF.out _).mono ?_;rintro e w' ⟨rfl,rfl⟩
   go_wp2_with fail
   refine (jO.out _).mono ?_;rintro e w' ⟨rfl,rfl⟩
   go_wp2_with fail
   refine (HD1.out _).mono ?_;rintro e w' ⟨rfl,rfl⟩
   go_wp2_with fail
   refine (HD2.out _).mono ?_;rintro e w' ⟨rfl,rfl⟩
   go_wp2_with fail
   refine (HR.out _ (Below.refl _ _)).mono ?_;rintro e w1 ⟨rfl,hb1⟩;go_wp2;go_ret;exact⟨rfl,hb1⟩
  ·obtain rfl:z=false:=by rw[HZ.out];exact WF (fun h=>h6 h.2)
   subst h5;have hz:(y == b)=false:=by rw[IR];exact h6
   clear HZ h6
   go_enter func269,ntmps269
   go_wp2_with fail
   refine (gF.out _).mono ?_;rintro e w' ⟨rfl,rfl⟩
   go_wp2_with fail
   refine (jO.out _).mono ?_;rintro e w' ⟨rfl,rfl⟩
   go_wp2_with fail
   refine (HD1.out _).mono ?_;rintro e w' ⟨rfl,rfl⟩
   go_wp2_with fail
   refine (HD2.out _).mono ?_;rintro e w' ⟨rfl,rfl⟩
   go_wp2_with fail
   refine (HR.out _ (Below.refl _ _)).mono ?_;rintro e w1 ⟨rfl,hb1⟩;go_wp2;go_ret;exact⟨rfl,hb1⟩
 ·obtain rfl:z=false:=by rw[HZ.out];exact WF (fun h=>h5 h.1)
  have hz:(x == a)=false:=by rw[IR];exact h5
  clear HZ h5
  go_enter func269,ntmps269
  go_wp2_with fail
  refine (gF.out _).mono ?_;rintro e w' ⟨rfl,rfl⟩
  go_wp2_with fail
  refine (jO.out _).mono ?_;rintro e w' ⟨rfl,rfl⟩
  go_wp2_with fail
  refine (HD1.out _).mono ?_;rintro e w' ⟨rfl,rfl⟩
  go_wp2_with fail
  refine (HD2.out _).mono ?_;rintro e w' ⟨rfl,rfl⟩
  go_wp2_with fail
  refine (HR.out _ (Below.refl _ _)).mono ?_;rintro e w1 ⟨rfl,hb1⟩;go_wp2;go_ret;exact⟨rfl,hb1⟩
theorem a2t(ok:Nat→Prop):∀(N:Nat) (o:Ob),o.size≤N→o.Wf→o.Sm→∀(A:Option Addr) (n c:Nat) (w:World),R9 w→Rd ok w (.slice A n c) (.row (o.pair.map Ob.enc)) →
  Calls prog 238 #[G6 o (.slice A n c)] w (J7 (.bool o.U9) w):=by
 intro N
 induction N with
 |zero=>intro o h;have:=Ob.size_pos o;omega
 |succ N ih =>
  intro o hN hW hS A n c w ht hP;obtain⟨fb,bZ⟩:∃fb,fb=o.U9:=⟨_,rfl⟩;rw[←bZ];have HF0:Hid (o.U9=fb):=bZ.symm;clear bZ
  go_enter func238,ntmps238
  go_wp2
  go_loopg [2] o.size (fun gx lv wr=>∃(x:Ob) (A2:Option Addr) (n2 c2:Nat),lv=.bool false∧Hid (D5 wr w.heap.size 45 (U7 x (.slice A2 n2 c2)))∧Rd ok w (.slice A2 n2 c2) (.row (x.pair.map Ob.enc))∧x.size≤N+1∧Hid x.Wf∧Hid x.Sm∧Hid (x.U9=fb)∧x.size≤gx∧Below w.heap.size w wr)
  case atStart=>exact⟨o,A,n,c,rfl,WP (D5.new w _ _),hP,hN,WP hW,WP hS,HF0,PP _,box _ _⟩
  case round =>
   clear HF0 hW hS hP;obtain⟨⟨xk,xn,xd,xp,xs,xt,qH⟩,A2,n2,c2,rfl,X,hr,NJ,uh,xG,HF,hgx,hb⟩:=hrel;have hlen:=hr.len;rw[Cc]at hlen;have hw1:=uh.out.len;have hs1:=xG.out.len;dsimp only at hlen hw1 hs1 hr X;have hn2:n2≤9223372036854775807:=by rw[←hlen];exact hw1
   obtain⟨hs1,hs2⟩:=hs1;clear hw1;obtain⟨x0,x1,x2,x3,x4,x5,x6,xl⟩:=X.out.seven;obtain⟨gH,gI,gJ,gK,gL,gM,gN⟩:=X.out.dx;by_cases h4:xk=4
   ·subst h4;have bO:Hid (∀w':World,Calls prog 268 #[G6 ⟨4,xn,xd,xp,xs,xt,qH⟩ (.slice A2 n2 c2),.bool false,.bool false,.bool false] w' (J7 (.bool (decide (xn=[]∧xd=[]∧xp=[]∧xs=[]∧xt=[]))) w')):=fun w'=>a3d ⟨4,xn,xd,xp,xs,xt,qH⟩ A2 n2 c2 w'
    by_cases h2:n2=2
    case neg =>
     obtain rfl:fb=false:=by rw[←HF.out,Ob.T9,Ch rfl];rw[Za8];intro h;simp only[Ce,rE]at h;exact h2 (by rw[←hlen];simp[h])
     have hz:((n2:Int) != 2)=true:=by rw[bne_iff_ne];omega
     clear HF bO hlen;go_wp2;go_ret;exact⟨rfl,hb⟩
    subst h2;by_cases hbr:xn=[]∧xd=[]∧xp=[]∧xs=[]∧xt=[]
    case neg =>
     rw[WF hbr]at bO;obtain rfl:fb=false:=by rw[←HF.out,Ob.T9,Ch rfl];rw[Za8];intro h;simp only[Ce,rE]at h;exact hbr (by simp[h])
     clear HF hbr hlen
     go_wp2_with fail
     refine (bO.out _).mono ?_;rintro e w1 ⟨rfl,hb1⟩;go_wp2;go_ret;exact⟨rfl,L6 hb hb1⟩
    rw[Pi hbr]at bO;obtain⟨rfl,rfl,rfl,rfl,rfl⟩:=hbr;obtain⟨a,d,rfl⟩:=Ob.Cr hlen;have hsa:=Ob.jD (o:=⟨4,[],[],[],[],[],[a,d]⟩) (x:=a) I;have hsd:=Ob.jD (o:=⟨4,[],[],[],[],[],[a,d]⟩) (x:=d) I;have NZ:=WP (uh.out.kids (x:=a) I);have Oa:=WP (uh.out.kids (x:=d) I);have HSa:=WP (xG.out.kids (x:=a) I);have HSd:=WP (xG.out.kids (x:=d) I);have mG:Hid ((a.U9 && d.U9)=fb):=by
     show _=fb;rw[←HF.out,Ob.T9,Ch rfl];simp[Ob.nW]
    clear hlen HF uh xG
    go_wp2_with fail
    refine (bO.out _).mono ?_;rintro e w1 ⟨rfl,hb1⟩;have b1:=L6 hb hb1;have X1:=WP (X.out.below hb1);clear x0 gH x1 gI x2 gJ x3 gK x4 gL x5 gM x6 gN;obtain⟨y0,y1,y2,y3,y4,y5,y6,yl⟩:=X1.out.seven;obtain⟨b,q,_,A3,n3,c3',rfl,hbl,_,a0,a1,a2,a3,a4,a5,a6,ha⟩:=hr.eG b1 (i:=0) J;simp only[Zay,Nat.zero_mul,Nat.add_zero]at a0 a1 a2 a3 a4 a5 a6 ha;have Ad:=kw hbl b1.size;have HC:=WP (ih a J NZ.out HSa.out A3 n3 c3' w1 (ht.below b1) (ha.under b1));generalize a.U9=ba at *
    go_wp2_with fail
    refine HC.out.mono ?_;rintro e w2 ⟨rfl,hb2⟩;have b2:=L6 b1 hb2;have X2:=WP (X1.out.below hb2);clear y0 y1 y2 y3 y4 y5 y6 a0 a1 a2 a3 a4 a5 a6;cases ba with
    |false =>
     obtain rfl:fb=false:=mG.out.symm;clear mG;go_wp2;go_ret;exact⟨rfl,b2⟩
    |true =>
     obtain⟨z0,z1,z2,z3,z4,z5,z6,zl⟩:=X2.out.seven;obtain⟨zf0,zf1,zf2,zf3,zf4,zf5,zf6⟩:=X2.out.dx;obtain⟨b',q',_,A4,n4,Be,eA,_,_,d0,d1,d2,d3,d4,d5,d6,hd⟩:=hr.eG b2 (i:=1) J;injection eA with eA
     injection eA with eb eq
     subst eb eq;simp only[Zay,List.getElem_cons_succ,Nat.one_mul]at d0 d1 d2 d3 d4 d5 d6 hd;have MJ:=kw hbl b2.size;go_wp2
     go_roundg d.size
     case measure=>omega
     case rel=>exact⟨d,A4,n4,Be,rfl,WP X2.out.eH,hd,J,Oa,HSd,WP mG.out,PP _,eO b2 (PP _) _ _ _ _ _ _ _⟩
   have e4:(xk == 4)=false:=by rw[IR];exact h4
   have HT:=WP (uh.out);by_cases h1:xk=1
   ·subst h1;clear h4 e4;have bO:Hid (∀w':World,Calls prog 268 #[G6 ⟨1,xn,xd,xp,xs,xt,qH⟩ (.slice A2 n2 c2),.bool true,.bool false,.bool false] w' (J7 (.bool (decide (xp=[]∧xs=[]∧xt=[]))) w')):=fun w'=>a3e ⟨1,xn,xd,xp,xs,xt,qH⟩ A2 n2 c2 w'
    by_cases hbr:xp=[]∧xs=[]∧xt=[]
    case neg =>
     rw[WF hbr]at bO;obtain rfl:fb=false:=by rw[←HF.out,Ob.T9];simp only[show ¬((1:Int)=4) by decide,Zav,ZaG];rw[Za8];intro h;simp only[Ce,rE]at h;exact hbr (by simp[h])
     clear HF hbr hlen
     go_wp2_with fail
     refine (bO.out _).mono ?_;rintro e w1 ⟨rfl,hb1⟩;go_wp2;go_ret;exact⟨rfl,L6 hb hb1⟩
    rw[Pi hbr]at bO;by_cases hn0:n2=0
    case neg =>
     obtain rfl:fb=false:=by rw[←HF.out,Ob.T9];simp only[show ¬((1:Int)=4) by decide,Zav,ZaG];rw[Za8];intro h;simp only[Ce,rE]at h;exact hn0 (by rw[←hlen];simp[h])
     have hz:((n2:Int) == 0)=false:=by rw[IR];omega
     clear HF hbr hlen
     go_wp2_with fail
     refine (bO.out _).mono ?_;rintro e w1 ⟨rfl,hb1⟩;have X1:=WP (X.out.below hb1);clear x0 gH x1 gI x2 gJ x3 gK x4 gL x5 gM x6 gN;obtain⟨y0,y1,y2,y3,y4,y5,y6,yl⟩:=X1.out.seven;go_wp2;go_ret;exact⟨rfl,L6 hb hb1⟩
    subst hn0;obtain rfl:fb=iq xn xd:=by rw[←HF.out,Ob.T9];simp[hbr,hlen]
    have Oc:Hid (∀w':World,Below w.heap.size w w'→Calls prog 269 #[str xn,str xd] w' (J7 (.bool (iq xn xd)) w')):=fun w' hb'=>a2s xn xd w' (ht.below hb') hs1 hs2
    generalize iq xn xd=bl at *;clear HF hbr hlen
    go_wp2_with fail
    refine (bO.out _).mono ?_;rintro e w1 ⟨rfl,hb1⟩;have X1:=WP (X.out.below hb1);clear x0 gH x1 gI x2 gJ x3 gK x4 gL x5 gM x6 gN;obtain⟨y0,y1,y2,y3,y4,y5,y6,yl⟩:=X1.out.seven
    go_wp2_with fail
    refine (Oc.out _ (L6 hb hb1)).mono ?_;rintro e w2 ⟨rfl,hb2⟩;cases bl
    ·go_wp2;go_ret;exact⟨rfl,L6 (L6 hb hb1) hb2⟩
    ·go_wp2;go_ret;exact⟨rfl,L6 (L6 hb hb1) hb2⟩
   have e1:(xk == 1)=false:=by rw[IR];exact h1
   by_cases h2:xk=2
   ·subst h2;clear h4 e4 h1 e1;have bO:Hid (∀w':World,Calls prog 268 #[G6 ⟨2,xn,xd,xp,xs,xt,qH⟩ (.slice A2 n2 c2),.bool false,.bool true,.bool false] w' (J7 (.bool (decide (xn=[]∧xd=[]∧xt=[]))) w')):=fun w'=>a3f ⟨2,xn,xd,xp,xs,xt,qH⟩ A2 n2 c2 w'
    by_cases hbr:xn=[]∧xd=[]∧xt=[]
    case neg =>
     rw[WF hbr]at bO;obtain rfl:fb=false:=by rw[←HF.out,Ob.T9];simp only[show ¬((2:Int)=4) by decide,Zav,ZaG,show ¬((2:Int)=1) by decide];rw[Za8];intro h;simp only[Ce,rE]at h;exact hbr (by simp[h])
     clear HF hbr hlen
     go_wp2_with fail
     refine (bO.out _).mono ?_;rintro e w1 ⟨rfl,hb1⟩;go_wp2;go_ret;exact⟨rfl,L6 hb hb1⟩
    rw[Pi hbr]at bO;by_cases hn0:n2=0
    case neg =>
     obtain rfl:fb=false:=by rw[←HF.out,Ob.T9];simp only[show ¬((2:Int)=4) by decide,Zav,ZaG,show ¬((2:Int)=1) by decide];rw[Za8];intro h;simp only[Ce,rE]at h;exact hn0 (by rw[←hlen];simp[h])
     have hz:((n2:Int) == 0)=false:=by rw[IR];omega
     clear HF hbr hlen
     go_wp2_with fail
     refine (bO.out _).mono ?_;rintro e w1 ⟨rfl,hb1⟩;have X1:=WP (X.out.below hb1);clear x0 gH x1 gI x2 gJ x3 gK x4 gL x5 gM x6 gN;obtain⟨y0,y1,y2,y3,y4,y5,y6,yl⟩:=X1.out.seven;go_wp2;go_ret;exact⟨rfl,L6 hb hb1⟩
    subst hn0;obtain rfl:fb=R6 ⟨xp,xs⟩:=by rw[←HF.out,Ob.T9];simp[hbr,hlen]
    have Oc:Hid (∀w':World,Calls prog 270 #[.agg #[str xp,str xs]] w' (J7 (.bool (R6 ⟨xp,xs⟩)) w')):=fun w'=>OY ⟨xp,xs⟩ w' (by cases HT.out;assumption) (by cases HT.out;assumption)
    generalize R6 ⟨xp,xs⟩=bl at *;clear HF hbr hlen
    go_wp2_with fail
    refine (bO.out _).mono ?_;rintro e w1 ⟨rfl,hb1⟩;have X1:=WP (X.out.below hb1);clear x0 gH x1 gI x2 gJ x3 gK x4 gL x5 gM x6 gN;obtain⟨y0,y1,y2,y3,y4,y5,y6,yl⟩:=X1.out.seven
    go_wp2_with fail
    refine (Oc.out _).mono ?_;rintro e w2 ⟨rfl,hb2⟩;cases bl
    ·go_wp2;go_ret;exact⟨rfl,L6 (L6 hb hb1) hb2⟩
    ·go_wp2;go_ret;exact⟨rfl,L6 (L6 hb hb1) hb2⟩
   have e2:(xk == 2)=false:=by rw[IR];exact h2
   by_cases h3:xk=3
   ·subst h3;clear h4 e4 h1 e1 h2 e2;have hxt:xt.length≤9223372036854775807:=by cases HT.out;assumption
    have bO:Hid (∀w':World,Calls prog 268 #[G6 ⟨3,xn,xd,xp,xs,xt,qH⟩ (.slice A2 n2 c2),.bool false,.bool false,.bool true] w' (J7 (.bool (decide (xn=[]∧xd=[]∧xp=[]∧xs=[]))) w')):=fun w'=>a3g ⟨3,xn,xd,xp,xs,xt,qH⟩ A2 n2 c2 w'
    by_cases hbr:xn=[]∧xd=[]∧xp=[]∧xs=[]
    case neg =>
     rw[WF hbr]at bO;obtain rfl:fb=false:=by rw[←HF.out,Ob.T9];simp only[show ¬((3:Int)=4) by decide,Zav,ZaG,show ¬((3:Int)=1) by decide,show ¬((3:Int)=2) by decide];rw[Za8];intro h;simp only[rE]at h;exact hbr (by simp[h])
     clear HF hbr hlen
     go_wp2_with fail
     refine (bO.out _).mono ?_;rintro e w1 ⟨rfl,hb1⟩;go_wp2;go_ret;exact⟨rfl,L6 hb hb1⟩
    rw[Pi hbr]at bO;by_cases hn0:n2=0
    case neg =>
     obtain rfl:fb=false:=by rw[←HF.out,Ob.T9];simp only[show ¬((3:Int)=4) by decide,Zav,ZaG,show ¬((3:Int)=1) by decide,show ¬((3:Int)=2) by decide];rw[Za8];intro h;simp only[rE]at h;exact hn0 (by rw[←hlen];simp[h])
     have hz:((n2:Int) == 0)=false:=by rw[IR];omega
     clear HF hbr hlen
     go_wp2_with fail
     refine (bO.out _).mono ?_;rintro e w1 ⟨rfl,hb1⟩;have X1:=WP (X.out.below hb1);clear x0 gH x1 gI x2 gJ x3 gK x4 gL x5 gM x6 gN;obtain⟨y0,y1,y2,y3,y4,y5,y6,yl⟩:=X1.out.seven;go_wp2;go_ret;exact⟨rfl,L6 hb hb1⟩
    subst hn0;by_cases wS:xt.length≤200
    ·obtain rfl:fb=true:=by rw[←HF.out,Ob.T9];simp[hbr,hlen,wS]
     have hd2:decide ((xt.length:Int)≤200)=true:=Pi J;clear HF hbr hlen uh xG HT
     go_wp2_with fail
     refine (bO.out _).mono ?_;rintro e w1 ⟨rfl,hb1⟩;have X1:=WP (X.out.below hb1);clear x0 gH x1 gI x2 gJ x3 gK x4 gL x5 gM x6 gN;obtain⟨y0,y1,y2,y3,y4,y5,y6,yl⟩:=X1.out.seven;go_wp2;go_ret;exact⟨rfl,L6 hb hb1⟩
    ·obtain rfl:fb=false:=by rw[←HF.out,Ob.T9];simp[wS]
     have hd2:decide ((xt.length:Int)≤200)=false:=WF J;clear HF hbr hlen uh xG HT
     go_wp2_with fail
     refine (bO.out _).mono ?_;rintro e w1 ⟨rfl,hb1⟩;have X1:=WP (X.out.below hb1);clear x0 gH x1 gI x2 gJ x3 gK x4 gL x5 gM x6 gN;obtain⟨y0,y1,y2,y3,y4,y5,y6,yl⟩:=X1.out.seven;go_wp2;go_ret;exact⟨rfl,L6 hb hb1⟩
   have e3:(xk == 3)=false:=by rw[IR];exact h3
   obtain rfl:fb=false:=by rw[←HF.out,Ob.T9,EQ h4,EQ h1,EQ h2,EQ h3]
   clear HF h1 h2 h3 h4;go_wp2;go_ret;exact⟨rfl,hb⟩
def Ob.lW(o:Ob):Bool:=decide (o.nodes≤3000) && o.U9
theorem a2u(ok:Nat→Prop)(o:Ob)(hW:o.Wf)(hS:o.Sm)(A:Option Addr)(n c:Nat)(w:World)(ht:R9 w)(hP:Rd ok w (.slice A n c) (.row (o.pair.map Ob.enc))) :
  Calls prog 201 #[G6 o (.slice A n c)] w (J7 (.bool o.lW) w):=by
 have HN:Hid (∀w':World,Below w.heap.size w w'→Calls prog 237 #[G6 o (.slice A n c)] w' (J7 (.int .i64 (U8 o)) w')):=fun w' hb=>PQ ok o A n c w' (hP.under hb)
 have HF:Hid (∀w':World,Below w.heap.size w w'→Calls prog 238 #[G6 o (.slice A n c)] w' (J7 (.bool o.U9) w')):=fun w' hb=>a2t ok o.size o (PP _) hW hS A n c w' (ht.below hb) (hP.under hb)
 unfold Ob.lW;by_cases hk:o.nodes≤3000
 ·have hk':U8 o≤3000:=by unfold U8;split <;> omega
  rw[Pi hk,Bool.true_and];generalize o.U9=fb at *;generalize U8 o=z at *;clear hk
  go_enter func201,ntmps201
  go_wp2_with fail
  refine (HN.out _ (box _ _)).mono ?_;rintro e w1 ⟨rfl,hb1⟩;have X1:=WP (D5.via hb1);obtain⟨y0,y1,y2,y3,y4,y5,y6,yl⟩:=X1.out.seven
  go_wp2_with fail
  refine (HF.out _ (via hb1)).mono ?_;rintro e w2 ⟨rfl,hb2⟩;go_wp2;go_ret;exact⟨rfl,L6 (via hb1) hb2⟩
 ·have hk':¬U8 o≤3000:=by unfold U8;split <;> omega
  rw[WF hk,Bool.false_and];generalize U8 o=z at *;clear hk
  go_enter func201,ntmps201
  go_wp2_with fail
  refine (HN.out _ (box _ _)).mono ?_;rintro e w1 ⟨rfl,hb1⟩;go_wp2;go_ret;exact⟨rfl,via hb1⟩
abbrev nH(s:Sy):Value:=.agg #[.int .i64 2,str [],str [],str s.pkg,str s.name,str [],.slice none 0 0]
abbrev vY(s:Sy):Value:=.agg #[str s.pkg,str s.name]
theorem a2v(s:Sy)(w:World):Calls prog 121 #[vY s] w (J7 (nH s) w):=by
 go_enter func121,ntmps121
 go_wp2;exact bodyPost_ret (v:=nH s) (by simp[results,Tryz.results121,go_sem]) rfl ⟨rfl,bH (box _ _) _⟩
theorem a1V(s:Sy)(w:World):Calls prog 267 #[nH s,.int .i64 3001] w (J7 (.int .i64 3000) w):=by
 go_enter func267,ntmps267
 go_wp2;refine wp_loop_rounds 1 ?_;rw[rounds_succ];go_wp2;go_ret;exact⟨rfl,box _ _⟩
theorem a1W(s:Sy)(w:World):Calls prog 268 #[nH s,.bool false,.bool true,.bool false] w (J7 (.bool true) w):=by
 go_enter func268,ntmps268
 go_wp2;go_ret;exact⟨rfl,box _ _⟩
theorem a1w(s:Sy)(w:World):Calls prog 237 #[nH s] w (J7 (.int .i64 1) w):=by
 go_enter func237,ntmps237
 go_wp2_with fail
 refine (a1V s _).mono ?_;rintro e w1 ⟨rfl,hb1⟩;go_wp2;go_ret;exact⟨rfl,via hb1⟩
theorem a1h(s:Sy)(w:World)(hp:s.pkg.length≤9223372036854775807)(hn:s.name.length≤9223372036854775807):Calls prog 238 #[nH s] w (J7 (.bool (R6 s)) w):=by
 go_enter func238,ntmps238
 go_wp2;refine wp_loop_rounds 1 ?_;rw[rounds_succ]
 go_wp2_with fail
 refine (a1W s _).mono ?_;rintro e w1 ⟨rfl,hb1⟩;obtain⟨c0,c1,c2,c3,c4,c5,c6,hg⟩:=(D5.via hb1).seven
 go_wp2_with fail
 refine (OY s _ hp hn).mono ?_;rintro e w2 ⟨rfl,hb2⟩;go_wp2;go_ret;exact⟨rfl,L6 (via hb1) hb2⟩
theorem a1x(s:Sy)(w:World)(hp:s.pkg.length≤9223372036854775807)(hn:s.name.length≤9223372036854775807):Calls prog 201 #[nH s] w (J7 (.bool (R6 s)) w):=by
 have HF:Hid (∀w':World,Calls prog 238 #[nH s] w' (J7 (.bool (R6 s)) w')):=fun w'=>a1h s w' hp hn
 go_enter func201,ntmps201
 go_wp2_with fail
 refine (a1w s _).mono ?_;rintro e w1 ⟨rfl,hb1⟩;obtain⟨c0,c1,c2,c3,c4,c5,c6,hg⟩:=(D5.via hb1).seven
 go_wp2_with fail
 refine (HF.out _).mono ?_;rintro e w2 ⟨rfl,hb2⟩;go_wp2;go_ret;exact⟨rfl,L6 (via hb1) hb2⟩
theorem a1y(s:Sy)(w:World)(hp:s.pkg.length≤9223372036854775807)(hn:s.name.length≤9223372036854775807):Calls prog 226 #[vY s] w (J7 (.bool (R6 s)) w):=by
 have HF:Hid (∀w':World,Calls prog 201 #[nH s] w' (J7 (.bool (R6 s)) w')):=fun w'=>a1x s w' hp hn
 go_enter func226,ntmps226
 go_wp2_with fail
 refine (a2v s _).mono ?_;rintro e w1 ⟨rfl,hb1⟩
 go_wp2_with fail
 refine (HF.out _).mono ?_;rintro e w2 ⟨rfl,hb2⟩;go_wp2;go_ret;exact⟨rfl,L6 (via hb1) hb2⟩
theorem Pd(s:Sy)(w:World)(hp:s.pkg.length≤9223372036854775807)(hn:s.name.length≤9223372036854775807):Calls prog 208 #[vY s] w (J7 (.bool (R6 s)) w):=by
 obtain⟨l,m⟩:=s;have HF:Hid (∀(w':World) (b:Bool),fB l=b→Calls prog 244 #[str l] w' (IY (.bool b) w')):=fun w' b hb=>by
  have:=a0U l w' hp
  rwa [hb]at this
 dsimp only at hp hn ⊢;cases h:fB l with
 |false =>
  have HR:Hid (R6 ⟨l,m⟩=false):=by show _=_;unfold R6;rw[h];rfl
  have HH:=WP h;clear h
  go_enter func208,ntmps208
  go_wp2_with fail
  refine (HF.out _ _ HH.out).mono ?_;rintro e w1 ⟨rfl,rfl⟩;go_wp2;go_ret;exact⟨by rw[HR.out];rfl,box _ _⟩
 |true =>
  have HR:Hid (R6 ⟨l,m⟩=iU m):=by show _=_;unfold R6;rw[h];rfl
  have HH:=WP h;clear h;by_cases h1:1≤m.length
  ·by_cases h2:m.length≤40
   ·have HN:Hid (iU m=true):=by show _=_;unfold iU;simp;omega
    have hd:decide ((m.length:Int)≤40)=true:=by simp;omega
    go_enter func208,ntmps208
    go_wp2_with fail
    refine (HF.out _ _ HH.out).mono ?_;rintro e w1 ⟨rfl,rfl⟩;go_wp2;go_ret;exact⟨by rw[HR.out,HN.out];rfl,box _ _⟩
   ·have HN:=WP (CB (l:=m) (.inr J));have hd:decide ((m.length:Int)≤40)=false:=by simp;omega
    go_enter func208,ntmps208
    go_wp2_with fail
    refine (HF.out _ _ HH.out).mono ?_;rintro e w1 ⟨rfl,rfl⟩;go_wp2;go_ret;exact⟨by rw[HR.out,HN.out];rfl,box _ _⟩
  ·have HN:=WP (CB (l:=m) (.inl J));have hd:decide (1≤(m.length:Int))=false:=by simp;omega
   go_enter func208,ntmps208
   go_wp2_with fail
   refine (HF.out _ _ HH.out).mono ?_;rintro e w1 ⟨rfl,rfl⟩;go_wp2;go_ret;exact⟨by rw[HR.out,HN.out];rfl,box _ _⟩
theorem Pe(s:Sy)(w:World)(hp:s.pkg.length≤9223372036854775807)(hn:s.name.length≤9223372036854775807):Calls prog 165 #[vY s] w (J7 (.bool (R6 s)) w):=by
 have HF:Hid (∀w':World,Calls prog 208 #[vY s] w' (J7 (.bool (R6 s)) w')):=fun w'=>Pd s w' hp hn
 go_enter func165,ntmps165
 go_wp2_with fail
 refine (HF.out _).mono ?_;rintro e w2 ⟨rfl,hb2⟩;go_wp2;go_ret;exact⟨rfl,via hb2⟩
theorem a3h(ok:Nat→Prop):∀(N:Nat) (o:Ob),o.size≤N→o.Wf→∀(A:Option Addr) (n c L:Nat) (w:World),Rd ok w (.slice A n c) (.row (o.pair.map Ob.enc))→1≤L→L≤3001 →
  Calls prog 132 #[G6 o (.slice A n c),.int .i64 L] w (J7 (.int .i64 (min o.nodes L:Nat)) w):=by
 intro N
 induction N with
 |zero=>intro o h;have:=Ob.size_pos o;omega
 |succ N ih =>
  intro o hN hW A n c L w hP hL0 hL1;have hlen:=hP.len;rw[Cc]at hlen;have hn:n≤9223372036854775807:=by rw[←hlen];exact hW.len
  by_cases h2:n=2
  case neg =>
   have hz:((n:Int) != 2)=true:=by rw[bne_iff_ne];omega
   have e:min o.nodes L=1:=by rw[Ob.CO J];omega
   rw[e];clear hlen e h2
   go_enter func132,ntmps132
   go_wp2;go_ret;exact⟨rfl,box _ _⟩
  subst h2;by_cases h1:L≤1
  ·have e:min o.nodes L=1:=by have:=o.rQ;omega
   rw[e];clear hlen e
   go_enter func132,ntmps132
   go_wp2;go_ret;exact⟨rfl,box _ _⟩
  obtain⟨a,d,had⟩:=Ob.Cr hlen;have hsa:=Ob.jD (o:=o) (x:=a) (by rw[had];simp);have hsd:=Ob.jD (o:=o) (x:=d) (by rw[had];simp);have NZ:=WP (hW.kids (x:=a) (by rw[had];simp));have Oa:=WP (hW.kids (x:=d) (by rw[had];simp));have FN:=WP (Ob.IE had);have pa:=a.rQ;have pd:=d.rQ;obtain⟨z,hz⟩:∃z:Nat,z=min o.nodes L:=⟨_,rfl⟩;rw[←hz];have HZ:=WP hz;clear hz;rw[had]at hP;have b0:=box w (.cells (U7 o (.slice A 2 c)) 45);obtain⟨b,q,_,A3,n3,c3,rfl,hbl,_,a0,a1,a2,a3,a4,a5,a6,ha⟩:=hP.eG b0 (i:=0) J;simp only[Zay,Nat.zero_mul,Nat.add_zero]at a0 a1 a2 a3 a4 a5 a6 ha;have Ad:=kw hbl b0.size;have HC:Hid (∀w':World,Below w.heap.size w w'→Calls prog 132 #[G6 a (.slice A3 n3 c3),.int .i64 ((L:Int) - 1)] w' (J7 (.int .i64 (min a.nodes (L - 1):Nat)) w')):=fun w' hb=>by
   have:=ih a J NZ.out A3 n3 c3 (L - 1) w' (ha.under hb) J J
   rwa [show ((L - 1:Nat):Int)=(L:Int) - 1 by omega]at this
  have X0:=WP (D5.new w 45 (U7 o (.slice (some ⟨b,q,none⟩) 2 c)));clear hlen
  go_enter func132,ntmps132
  go_wp2_with fail
  refine (HC.out _ b0).mono ?_;rintro e w1 ⟨rfl,hb1⟩;have b1:=L6 b0 hb1;have X1:=WP (X0.out.below hb1);clear a0 a1 a2 a3 a4 a5 a6 X0;by_cases h3:L - 1≤a.nodes
  ·have e1:min a.nodes (L - 1)=L - 1:=J;obtain rfl:z=L:=by rw[HZ.out,FN.out];omega
   have e3:((z - 1:Nat):Int)=(z:Int) - 1:=J;rw[e1,e3];clear e1 e3 HZ FN;go_wp2;go_ret;exact⟨by go_num,b1⟩
  ·have e1:min a.nodes (L - 1)=a.nodes:=J;obtain⟨md,hmd⟩:∃md,md=min d.nodes (L - (1+a.nodes)):=⟨_,rfl⟩;obtain rfl:z=a.nodes+1+md:=by rw[HZ.out,FN.out];omega
   rw[e1];clear e1 HZ FN;obtain⟨y0,y1,y2,y3,y4,y5,y6,yl⟩:=X1.out.seven;obtain⟨b',q',_,A4,n4,c4,eA,_,_,d0,d1,d2,d3,d4,d5,d6,hd⟩:=hP.eG b1 (i:=1) J;injection eA with eA
   injection eA with eb eq
   subst eb eq;simp only[Zay,List.getElem_cons_succ,Nat.one_mul]at d0 d1 d2 d3 d4 d5 d6 hd;have MJ:=kw hbl b1.size;have FO:Hid (Calls prog 132 #[G6 d (.slice A4 n4 c4),.int .i64 ((L:Int) - (1+(a.nodes:Int)))] w1 (J7 (.int .i64 (min d.nodes (L - (1+a.nodes)):Nat)) w1)):=by
    have:=ih d J Oa.out A4 n4 c4 (L - (1+a.nodes)) w1 (hd.under b1) J J
    rwa [show ((L - (1+a.nodes):Nat):Int)=(L:Int) - (1+(a.nodes:Int)) by omega]at this
   have hm:md≤3001:=J;rw[←hmd]at FO;clear pd hmd;generalize a.nodes=na at *
   go_wp2_with fail
   refine FO.out.mono ?_;rintro e w2 ⟨rfl,hb2⟩;go_wp2;go_ret;exact⟨by go_num,L6 b1 hb2⟩
theorem PX(ok:Nat→Prop)(o:Ob)(hW:o.Wf)(A:Option Addr)(n c:Nat)(w:World)(hP:Rd ok w (.slice A n c) (.row (o.pair.map Ob.enc))) :
  Calls prog 111 #[G6 o (.slice A n c)] w (J7 (.int .i64 (U8 o)) w):=by
 have HC:Hid (∀w':World,Below w.heap.size w w'→Calls prog 132 #[G6 o (.slice A n c),.int .i64 3001] w' (J7 (.int .i64 (U8 o)) w')):=fun w' hb=>by
  have:=a3h ok o.size o (PP _) hW A n c 3001 w' (hP.under hb) J J
  rwa [show ((min o.nodes 3001:Nat):Int)=U8 o by unfold U8;split <;> omega]at this
 generalize U8 o=z at *
 go_enter func111,ntmps111
 go_wp2_with fail
 refine (HC.out _ (box _ _)).mono ?_;rintro e w1 ⟨rfl,hb⟩;go_wp2;go_ret;exact⟨rfl,via hb⟩
theorem a1X(xn xd xp xs xt:lw)(xl:List Ob)(A:Option Addr)(n c:Nat)(w:World)(hlen:xl.length=n)(hn:n≤9223372036854775807)(h1:xn.length≤1100000)(h2:xd.length≤1100000) :
  Calls prog 167 #[G6 ⟨1,xn,xd,xp,xs,xt,xl⟩ (.slice A n c)] w (J7 (.bool (Ob.U9 ⟨1,xn,xd,xp,xs,xt,xl⟩)) w):=by
 have HR:Hid (∀w':World,Calls prog 117 #[str xn,str xd] w' (eu (Lib.itoa (aj (j6.x9 xn) (j6.x9 xd))) (Lib.itoa (ak (j6.x9 xn) (j6.x9 xd))) w')):=fun w'=>Ht xn xd w' h1 h2
 have HD1:Hid (∀w':World,Calls prog 177 #[str xn] w' (lV (dg xn:Nat) w')):=fun w'=>Hq xn w' J
 have HD2:Hid (∀w':World,Calls prog 177 #[str xd] w' (lV (dg xd:Nat) w')):=fun w'=>Hq xd w' J
 have oC:dg xn≤1100002:=by have h1:=j6.jA (norm xn);have h2:=lF xn;show (j6.mag (norm xn)).length≤_;omega
 have Ba:dg xd≤1100002:=by have h1:=j6.jA (norm xd);have h2:=lF xd;show (j6.mag (norm xd)).length≤_;omega
 obtain⟨fb,bZ⟩:∃fb,fb=Ob.U9 ⟨1,xn,xd,xp,xs,xt,xl⟩:=⟨_,rfl⟩;rw[←bZ];have HF:Hid (Ob.U9 ⟨1,xn,xd,xp,xs,xt,xl⟩=fb):=bZ.symm;clear bZ;have HL:Hid (iq xn xd=decide (Lib.itoa (aj (j6.x9 xn) (j6.x9 xd))=xn∧Lib.itoa (ak (j6.x9 xn) (j6.x9 xd))=xd∧dg xn≤100∧dg xd≤100)):=rfl;generalize Lib.itoa (aj (j6.x9 xn) (j6.x9 xd))=x at *;generalize Lib.itoa (ak (j6.x9 xn) (j6.x9 xd))=y at *;generalize dg xn=da at *;generalize dg xd=db at *;by_cases hxp:xp=[]
 case neg =>
  obtain rfl:fb=false:=by rw[←HF.out,Ob.T9];simp only[show ¬((1:Int)=4) by decide,Zav,ZaG];rw[Za8];intro h;simp only[Ce,rE]at h;exact hxp (by simp[h])
  have hz:(xp == [])=false:=by rw[IR];exact hxp
  clear HF hxp hlen
  go_enter func167,ntmps167
  go_wp2_with fail
  refine (HR.out _).mono ?_;rintro e w1 ⟨rfl,hb1⟩;have X1:=WP (D5.via hb1);obtain⟨x0,x1,x2,x3,x4,x5,x6,xl⟩:=X1.out.seven;go_wp2;go_ret;exact⟨rfl,via hb1⟩
 subst hxp;by_cases hxs:xs=[]
 case neg =>
  obtain rfl:fb=false:=by rw[←HF.out,Ob.T9];simp only[show ¬((1:Int)=4) by decide,Zav,ZaG];rw[Za8];intro h;simp only[Ce,rE]at h;exact hxs (by simp[h])
  have hz:(xs == [])=false:=by rw[IR];exact hxs
  clear HF hxs hlen
  go_enter func167,ntmps167
  go_wp2_with fail
  refine (HR.out _).mono ?_;rintro e w1 ⟨rfl,hb1⟩;have X1:=WP (D5.via hb1);obtain⟨x0,x1,x2,x3,x4,x5,x6,xl⟩:=X1.out.seven;go_wp2;go_ret;exact⟨rfl,via hb1⟩
 subst hxs;by_cases hxt:xt=[]
 case neg =>
  obtain rfl:fb=false:=by rw[←HF.out,Ob.T9];simp only[show ¬((1:Int)=4) by decide,Zav,ZaG];rw[Za8];intro h;simp only[Ce,rE]at h;exact hxt (by simp[h])
  have hz:(xt == [])=false:=by rw[IR];exact hxt
  clear HF hxt hlen
  go_enter func167,ntmps167
  go_wp2_with fail
  refine (HR.out _).mono ?_;rintro e w1 ⟨rfl,hb1⟩;have X1:=WP (D5.via hb1);obtain⟨x0,x1,x2,x3,x4,x5,x6,xl⟩:=X1.out.seven;go_wp2;go_ret;exact⟨rfl,via hb1⟩
 subst hxt;by_cases hn0:n=0
 case neg =>
  obtain rfl:fb=false:=by rw[←HF.out,Ob.T9];simp only[show ¬((1:Int)=4) by decide,Zav,ZaG];rw[Za8];intro h;simp only[Ce,rE]at h;exact hn0 (by rw[←hlen];simp[h])
  have hz:((n:Int) == 0)=false:=by rw[IR];omega
  clear HF hn0 hlen
  go_enter func167,ntmps167
  go_wp2_with fail
  refine (HR.out _).mono ?_;rintro e w1 ⟨rfl,hb1⟩;have X1:=WP (D5.via hb1);obtain⟨x0,x1,x2,x3,x4,x5,x6,xl⟩:=X1.out.seven;go_wp2;go_ret;exact⟨rfl,via hb1⟩
 subst hn0;have HZ:Hid (fb=decide (x=xn∧y=xd∧da≤100∧db≤100)):=by
  show fb=_;rw[←HF.out,Ob.T9,←HL.out];simp[hlen]
 clear HF HL hlen;by_cases e1:x=xn
 case neg =>
  obtain rfl:fb=false:=by rw[HZ.out];exact WF (fun h=>e1 h.1)
  have hz:(x == xn)=false:=by rw[IR];exact e1
  clear e1;clear HZ
  go_enter func167,ntmps167
  go_wp2_with fail
  refine (HR.out _).mono ?_;rintro e w1 ⟨rfl,hb1⟩;have X1:=WP (D5.via hb1);obtain⟨x0,x1,x2,x3,x4,x5,x6,xl⟩:=X1.out.seven;go_wp2;go_ret;exact⟨rfl,via hb1⟩
 subst e1;by_cases e2:y=xd
 case neg =>
  obtain rfl:fb=false:=by rw[HZ.out];exact WF (fun h=>e2 h.2.1)
  have hz:(y == xd)=false:=by rw[IR];exact e2
  clear e2;clear HZ
  go_enter func167,ntmps167
  go_wp2_with fail
  refine (HR.out _).mono ?_;rintro e w1 ⟨rfl,hb1⟩;have X1:=WP (D5.via hb1);obtain⟨x0,x1,x2,x3,x4,x5,x6,xl⟩:=X1.out.seven;go_wp2;go_ret;exact⟨rfl,via hb1⟩
 subst e2;by_cases e3:da≤100
 case neg =>
  obtain rfl:fb=false:=by rw[HZ.out];exact WF (fun h=>e3 h.2.2.1)
  have hd3:decide ((da:Int)≤100)=false:=WF J;clear HZ
  go_enter func167,ntmps167
  go_wp2_with fail
  refine (HR.out _).mono ?_;rintro e w1 ⟨rfl,hb1⟩;have X1:=WP (D5.via hb1);obtain⟨x0,x1,x2,x3,x4,x5,x6,xl⟩:=X1.out.seven
  go_wp2_with fail
  refine (HD1.out _).mono ?_;rintro e w2 ⟨rfl,hb2⟩;go_wp2;go_ret;exact⟨rfl,L6 (via hb1) hb2⟩
 have hd3:decide ((da:Int)≤100)=true:=Pi J;by_cases e4:db≤100
 case neg =>
  obtain rfl:fb=false:=by rw[HZ.out];exact WF (fun h=>e4 h.2.2.2)
  have hd4:decide ((db:Int)≤100)=false:=WF J;clear HZ
  go_enter func167,ntmps167
  go_wp2_with fail
  refine (HR.out _).mono ?_;rintro e w1 ⟨rfl,hb1⟩;have X1:=WP (D5.via hb1);obtain⟨x0,x1,x2,x3,x4,x5,x6,xl⟩:=X1.out.seven
  go_wp2_with fail
  refine (HD1.out _).mono ?_;rintro e w2 ⟨rfl,hb2⟩
  go_wp2_with fail
  refine (HD2.out _).mono ?_;rintro e w3 ⟨rfl,hb3⟩;go_wp2;go_ret;exact⟨rfl,L6 (L6 (via hb1) hb2) hb3⟩
 have hd4:decide ((db:Int)≤100)=true:=Pi J;obtain rfl:fb=true:=by rw[HZ.out];exact Pi ⟨rfl,rfl,e3,e4⟩
 clear HZ
 go_enter func167,ntmps167
 go_wp2_with fail
 refine (HR.out _).mono ?_;rintro e w1 ⟨rfl,hb1⟩;have X1:=WP (D5.via hb1);obtain⟨x0,x1,x2,x3,x4,x5,x6,xl⟩:=X1.out.seven
 go_wp2_with fail
 refine (HD1.out _).mono ?_;rintro e w2 ⟨rfl,hb2⟩
 go_wp2_with fail
 refine (HD2.out _).mono ?_;rintro e w3 ⟨rfl,hb3⟩;go_wp2;go_ret;exact⟨rfl,L6 (L6 (via hb1) hb2) hb3⟩
theorem a1Y(xn xd xp xs xt:lw)(xl:List Ob)(A:Option Addr)(n c:Nat)(w:World)(hlen:xl.length=n)(hn:n≤9223372036854775807)(h1:xp.length≤9223372036854775807)(h2:xs.length≤9223372036854775807) :
  Calls prog 167 #[G6 ⟨2,xn,xd,xp,xs,xt,xl⟩ (.slice A n c)] w (J7 (.bool (Ob.U9 ⟨2,xn,xd,xp,xs,xt,xl⟩)) w):=by
 have HS:Hid (∀w':World,Calls prog 208 #[.agg #[str xp,str xs]] w' (J7 (.bool (R6 ⟨xp,xs⟩)) w')):=fun w'=>Pd ⟨xp,xs⟩ w' h1 h2
 obtain⟨fb,bZ⟩:∃fb,fb=Ob.U9 ⟨2,xn,xd,xp,xs,xt,xl⟩:=⟨_,rfl⟩;rw[←bZ];have HF:Hid (Ob.U9 ⟨2,xn,xd,xp,xs,xt,xl⟩=fb):=bZ.symm;clear bZ h1 h2;cases hb:R6 ⟨xp,xs⟩ with
 |false =>
  obtain rfl:fb=false:=by rw[←HF.out,Ob.T9];simp[hb]
  rw[hb]at HS;clear HF hlen hb;by_cases hxp:xp=[]
  ·subst hxp;by_cases hxs:xs=[]
   ·subst hxs
    go_enter func167,ntmps167
    go_wp2_with fail
    refine (HS.out _).mono ?_;rintro e w1 ⟨rfl,hb1⟩;go_wp2;go_ret;exact⟨rfl,via hb1⟩
   ·have hz':(xs == [])=false:=by rw[IR];exact hxs
    clear hxs
    go_enter func167,ntmps167
    go_wp2_with fail
    refine (HS.out _).mono ?_;rintro e w1 ⟨rfl,hb1⟩;go_wp2;go_ret;exact⟨rfl,via hb1⟩
  ·have hz':(xp == [])=false:=by rw[IR];exact hxp
   clear hxp
   go_enter func167,ntmps167
   go_wp2_with fail
   refine (HS.out _).mono ?_;rintro e w1 ⟨rfl,hb1⟩;go_wp2;go_ret;exact⟨rfl,via hb1⟩
 |true =>
 have HB:=WP hb;rw[hb]at HS;have hzp:(xp == [])=false:=by
  rw[IR];intro e;subst e;have h3:R6 ⟨[],xs⟩=false:=by unfold R6;rw[show fB []=false by decide];rfl
  rw[h3]at hb;cases hb
 clear hb;by_cases iH:xn=[]
 case neg =>
  obtain rfl:fb=false:=by rw[←HF.out,Ob.T9];simp only[show ¬((2:Int)=4) by decide,show ¬((2:Int)=1) by decide,Zav,ZaG];rw[Za8];intro h;simp only[Ce,rE]at h;exact iH (by simp[h])
  have hz:(xn == [])=false:=by rw[IR];exact iH
  clear HF iH hlen
  go_enter func167,ntmps167
  go_wp2_with fail
  refine (HS.out _).mono ?_;rintro e w1 ⟨rfl,hb1⟩;have X1:=WP (D5.via hb1);obtain⟨x0,x1,x2,x3,x4,x5,x6,xl⟩:=X1.out.seven;go_wp2;go_ret;exact⟨rfl,via hb1⟩
 subst iH;by_cases hxd:xd=[]
 case neg =>
  obtain rfl:fb=false:=by rw[←HF.out,Ob.T9];simp only[show ¬((2:Int)=4) by decide,show ¬((2:Int)=1) by decide,Zav,ZaG];rw[Za8];intro h;simp only[Ce,rE]at h;exact hxd (by simp[h])
  have hz:(xd == [])=false:=by rw[IR];exact hxd
  clear HF hxd hlen
  go_enter func167,ntmps167
  go_wp2_with fail
  refine (HS.out _).mono ?_;rintro e w1 ⟨rfl,hb1⟩;have X1:=WP (D5.via hb1);obtain⟨x0,x1,x2,x3,x4,x5,x6,xl⟩:=X1.out.seven;go_wp2;go_ret;exact⟨rfl,via hb1⟩
 subst hxd;by_cases hxt:xt=[]
 case neg =>
  obtain rfl:fb=false:=by rw[←HF.out,Ob.T9];simp only[show ¬((2:Int)=4) by decide,show ¬((2:Int)=1) by decide,Zav,ZaG];rw[Za8];intro h;simp only[Ce,rE]at h;exact hxt (by simp[h])
  have hz:(xt == [])=false:=by rw[IR];exact hxt
  clear HF hxt hlen
  go_enter func167,ntmps167
  go_wp2_with fail
  refine (HS.out _).mono ?_;rintro e w1 ⟨rfl,hb1⟩;have X1:=WP (D5.via hb1);obtain⟨x0,x1,x2,x3,x4,x5,x6,xl⟩:=X1.out.seven;go_wp2;go_ret;exact⟨rfl,via hb1⟩
 subst hxt;by_cases hn0:n=0
 case neg =>
  obtain rfl:fb=false:=by rw[←HF.out,Ob.T9];simp only[show ¬((2:Int)=4) by decide,show ¬((2:Int)=1) by decide,Zav,ZaG];rw[Za8];intro h;simp only[Ce,rE]at h;exact hn0 (by rw[←hlen];simp[h])
  have hz:((n:Int) == 0)=false:=by rw[IR];omega
  clear HF hn0 hlen
  go_enter func167,ntmps167
  go_wp2_with fail
  refine (HS.out _).mono ?_;rintro e w1 ⟨rfl,hb1⟩;have X1:=WP (D5.via hb1);obtain⟨x0,x1,x2,x3,x4,x5,x6,xl⟩:=X1.out.seven;go_wp2;go_ret;exact⟨rfl,via hb1⟩
 subst hn0;obtain rfl:fb=true:=by rw[←HF.out,Ob.T9];simp[hlen,HB.out]
 clear HF hlen
 go_enter func167,ntmps167
 go_wp2_with fail
 refine (HS.out _).mono ?_;rintro e w1 ⟨rfl,hb1⟩;have X1:=WP (D5.via hb1);obtain⟨x0,x1,x2,x3,x4,x5,x6,xl⟩:=X1.out.seven;go_wp2;go_ret;exact⟨rfl,via hb1⟩
theorem a1Z(xn xd xp xs xt:lw)(xl:List Ob)(A:Option Addr)(n c:Nat)(w:World)(hlen:xl.length=n)(hn:n≤9223372036854775807)(h1:xt.length≤9223372036854775807) :
  Calls prog 167 #[G6 ⟨3,xn,xd,xp,xs,xt,xl⟩ (.slice A n c)] w (J7 (.bool (Ob.U9 ⟨3,xn,xd,xp,xs,xt,xl⟩)) w):=by
 obtain⟨fb,bZ⟩:∃fb,fb=Ob.U9 ⟨3,xn,xd,xp,xs,xt,xl⟩:=⟨_,rfl⟩;rw[←bZ];have HF:Hid (Ob.U9 ⟨3,xn,xd,xp,xs,xt,xl⟩=fb):=bZ.symm;clear bZ;by_cases hxp:xp=[]
 case neg =>
  obtain rfl:fb=false:=by rw[←HF.out,Ob.T9];simp only[show ¬((3:Int)=4) by decide,show ¬((3:Int)=1) by decide,show ¬((3:Int)=2) by decide,Zav,ZaG];rw[Za8];intro h;simp only[rE]at h;exact hxp (by simp[h])
  have hz:(xp == [])=false:=by rw[IR];exact hxp
  clear HF hxp hlen
  go_enter func167,ntmps167
  go_wp2;go_ret;exact⟨rfl,box _ _⟩
 subst hxp;by_cases hxs:xs=[]
 case neg =>
  obtain rfl:fb=false:=by rw[←HF.out,Ob.T9];simp only[show ¬((3:Int)=4) by decide,show ¬((3:Int)=1) by decide,show ¬((3:Int)=2) by decide,Zav,ZaG];rw[Za8];intro h;simp only[rE]at h;exact hxs (by simp[h])
  have hz:(xs == [])=false:=by rw[IR];exact hxs
  clear HF hxs hlen
  go_enter func167,ntmps167
  go_wp2;go_ret;exact⟨rfl,box _ _⟩
 subst hxs;by_cases iH:xn=[]
 case neg =>
  obtain rfl:fb=false:=by rw[←HF.out,Ob.T9];simp only[show ¬((3:Int)=4) by decide,show ¬((3:Int)=1) by decide,show ¬((3:Int)=2) by decide,Zav,ZaG];rw[Za8];intro h;simp only[rE]at h;exact iH (by simp[h])
  have hz:(xn == [])=false:=by rw[IR];exact iH
  clear HF iH hlen
  go_enter func167,ntmps167
  go_wp2;go_ret;exact⟨rfl,box _ _⟩
 subst iH;by_cases hxd:xd=[]
 case neg =>
  obtain rfl:fb=false:=by rw[←HF.out,Ob.T9];simp only[show ¬((3:Int)=4) by decide,show ¬((3:Int)=1) by decide,show ¬((3:Int)=2) by decide,Zav,ZaG];rw[Za8];intro h;simp only[rE]at h;exact hxd (by simp[h])
  have hz:(xd == [])=false:=by rw[IR];exact hxd
  clear HF hxd hlen
  go_enter func167,ntmps167
  go_wp2;go_ret;exact⟨rfl,box _ _⟩
 subst hxd;by_cases wS:xt.length≤200
 case neg =>
  obtain rfl:fb=false:=by rw[←HF.out,Ob.T9];simp only[show ¬((3:Int)=4) by decide,show ¬((3:Int)=1) by decide,show ¬((3:Int)=2) by decide,Zav,ZaG];rw[Za8];intro h;simp only[rE]at h;exact wS (by simp[h])
  have hd2:decide ((xt.length:Int)≤200)=false:=WF J;clear HF hlen
  go_enter func167,ntmps167
  go_wp2;go_ret;exact⟨rfl,box _ _⟩
 have hd2:decide ((xt.length:Int)≤200)=true:=Pi J;by_cases hn0:n=0
 case neg =>
  obtain rfl:fb=false:=by rw[←HF.out,Ob.T9];simp only[show ¬((3:Int)=4) by decide,show ¬((3:Int)=1) by decide,show ¬((3:Int)=2) by decide,Zav,ZaG];rw[Za8];intro h;simp only[rE]at h;exact hn0 (by rw[←hlen];simp[h])
  have hz:((n:Int) == 0)=false:=by rw[IR];omega
  clear HF hn0 hlen
  go_enter func167,ntmps167
  go_wp2;go_ret;exact⟨rfl,box _ _⟩
 subst hn0;obtain rfl:fb=true:=by rw[←HF.out,Ob.T9];simp[hlen,wS]
 clear HF hlen
 go_enter func167,ntmps167
 go_wp2;go_ret;exact⟨rfl,box _ _⟩
theorem a1z(ok:Nat→Prop)(xn xd xp xs xt:lw)(xl:List Ob)(A:Option Addr)(n c:Nat)(w:World)(hP:Rd ok w (.slice A n c) (.row (xl.map Ob.enc)))(hn:n≤9223372036854775807)
  (H:∀x∈xl,∀(A:Option Addr) (n c:Nat) (w':World),Below w.heap.size w w'→Rd ok w (.slice A n c) (.row (x.pair.map Ob.enc))→Calls prog 167 #[G6 x (.slice A n c)] w' (J7 (.bool x.U9) w')) :
  Calls prog 167 #[G6 ⟨4,xn,xd,xp,xs,xt,xl⟩ (.slice A n c)] w (J7 (.bool (Ob.U9 ⟨4,xn,xd,xp,xs,xt,xl⟩)) w):=by
 have hlen:xl.length=n:=by have:=hP.len;rwa [Cc]at this
 have HH:=WP H;clear H;obtain⟨fb,bZ⟩:∃fb,fb=Ob.U9 ⟨4,xn,xd,xp,xs,xt,xl⟩:=⟨_,rfl⟩;rw[←bZ];have HF:Hid (Ob.U9 ⟨4,xn,xd,xp,xs,xt,xl⟩=fb):=bZ.symm;clear bZ;by_cases hxp:xp=[]
 case neg =>
  obtain rfl:fb=false:=by rw[←HF.out,Ob.T9];simp only[ZaG];rw[Za8];intro h;simp only[Ce,rE]at h;exact hxp (by simp[h])
  have hz:(xp == [])=false:=by rw[IR];exact hxp
  clear HF hxp hlen
  go_enter func167,ntmps167
  go_wp2;go_ret;exact⟨rfl,box _ _⟩
 subst hxp;by_cases hxs:xs=[]
 case neg =>
  obtain rfl:fb=false:=by rw[←HF.out,Ob.T9];simp only[ZaG];rw[Za8];intro h;simp only[Ce,rE]at h;exact hxs (by simp[h])
  have hz:(xs == [])=false:=by rw[IR];exact hxs
  clear HF hxs hlen
  go_enter func167,ntmps167
  go_wp2;go_ret;exact⟨rfl,box _ _⟩
 subst hxs;by_cases iH:xn=[]
 case neg =>
  obtain rfl:fb=false:=by rw[←HF.out,Ob.T9];simp only[ZaG];rw[Za8];intro h;simp only[Ce,rE]at h;exact iH (by simp[h])
  have hz:(xn == [])=false:=by rw[IR];exact iH
  clear HF iH hlen
  go_enter func167,ntmps167
  go_wp2;go_ret;exact⟨rfl,box _ _⟩
 subst iH;by_cases hxd:xd=[]
 case neg =>
  obtain rfl:fb=false:=by rw[←HF.out,Ob.T9];simp only[ZaG];rw[Za8];intro h;simp only[Ce,rE]at h;exact hxd (by simp[h])
  have hz:(xd == [])=false:=by rw[IR];exact hxd
  clear HF hxd hlen
  go_enter func167,ntmps167
  go_wp2;go_ret;exact⟨rfl,box _ _⟩
 subst hxd;by_cases hxt:xt=[]
 case neg =>
  obtain rfl:fb=false:=by rw[←HF.out,Ob.T9];simp only[ZaG];rw[Za8];intro h;simp only[Ce,rE]at h;exact hxt (by simp[h])
  have hz:(xt == [])=false:=by rw[IR];exact hxt
  clear HF hxt hlen
  go_enter func167,ntmps167
  go_wp2;go_ret;exact⟨rfl,box _ _⟩
 subst hxt;by_cases hn0:n=2
 case neg =>
  obtain rfl:fb=false:=by rw[←HF.out,Ob.T9];simp only[ZaG];rw[Za8];intro h;simp only[Ce,rE]at h;exact hn0 (by rw[←hlen];simp[h])
  have hz:((n:Int) == 2)=false:=by rw[IR];omega
  clear HF hn0 hlen
  go_enter func167,ntmps167
  go_wp2;go_ret;exact⟨rfl,box _ _⟩
 subst hn0;obtain⟨a,d,rfl⟩:=Ob.Cr hlen;have mG:Hid ((a.U9 && d.U9)=fb):=by
  show _=fb;rw[←HF.out,Ob.T9,Ch rfl];simp[Ob.nW]
 clear HF hlen;have b0:=box w (.cells (U7 ⟨4,[],[],[],[],[],[a,d]⟩ (.slice A 2 c)) 45);obtain⟨b,q,_,A3,n3,c3,rfl,hbl,_,a0,a1,a2,a3,a4,a5,a6,ha⟩:=hP.eG b0 (i:=0) J;simp only[Zay,Nat.zero_mul,Nat.add_zero]at a0 a1 a2 a3 a4 a5 a6 ha;have Ad:=kw hbl b0.size;have HC:Hid (∀w':World,Below w.heap.size w w'→Calls prog 167 #[G6 a (.slice A3 n3 c3)] w' (J7 (.bool a.U9) w')):=fun w' hb=>HH.out a I A3 n3 c3 w' hb ha
 have X0:=WP (D5.new w 45 (U7 ⟨4,[],[],[],[],[],[a,d]⟩ (.slice (some ⟨b,q,none⟩) 2 c)));generalize a.U9=ba at *
 go_enter func167,ntmps167
 go_wp2_with fail
 refine (HC.out _ b0).mono ?_;rintro e w1 ⟨rfl,hb1⟩;have b1:=L6 b0 hb1;have X1:=WP (X0.out.below hb1);clear a0 a1 a2 a3 a4 a5 a6 X0;cases ba with
 |false =>
  obtain rfl:fb=false:=mG.out.symm;clear mG;go_wp2;go_ret;exact⟨rfl,b1⟩
 |true =>
  obtain⟨y0,y1,y2,y3,y4,y5,y6,yl⟩:=X1.out.seven;obtain⟨b',q',_,A4,n4,c4,eA,_,_,d0,d1,d2,d3,d4,d5,d6,hd⟩:=hP.eG b1 (i:=1) J;injection eA with eA
  injection eA with eb eq
  subst eb eq;simp only[Zay,List.getElem_cons_succ,Nat.one_mul]at d0 d1 d2 d3 d4 d5 d6 hd;have MJ:=kw hbl b1.size;have FO:=WP (HH.out d I A4 n4 c4 w1 b1 hd);obtain rfl:fb=d.U9:=mG.out.symm;generalize d.U9=bd at *;clear mG
  go_wp2_with fail
  refine FO.out.mono ?_;rintro e w2 ⟨rfl,hb2⟩;go_wp2;go_ret;exact⟨rfl,L6 b1 hb2⟩
theorem a1A(k:Int)(xn xd xp xs xt:lw)(xl:List Ob)(A:Option Addr)(n c:Nat)(w:World)(h1:k≠1)(h2:k≠2)(h3:k≠3)(h4:k≠4) :
  Calls prog 167 #[G6 ⟨k,xn,xd,xp,xs,xt,xl⟩ (.slice A n c)] w (J7 (.bool (Ob.U9 ⟨k,xn,xd,xp,xs,xt,xl⟩)) w):=by
 rw[Ob.T9,EQ h4,EQ h1,EQ h2,EQ h3];have e1:(k == 1)=false:=by rw[IR];exact h1
 have e2:(k == 2)=false:=by rw[IR];exact h2
 have e3:(k == 3)=false:=by rw[IR];exact h3
 have e4:(k == 4)=false:=by rw[IR];exact h4
 clear h1 h2 h3 h4;by_cases hxp:xp=[]
 ·subst hxp;by_cases hxs:xs=[]
  ·subst hxs
   go_enter func167,ntmps167
   go_wp2;go_ret;exact⟨rfl,box _ _⟩
  ·have hz':(xs == [])=false:=by rw[IR];exact hxs
   clear hxs
   go_enter func167,ntmps167
   go_wp2;go_ret;exact⟨rfl,box _ _⟩
 ·have hz':(xp == [])=false:=by rw[IR];exact hxp
  clear hxp
  go_enter func167,ntmps167
  go_wp2;go_ret;exact⟨rfl,box _ _⟩
theorem a13(ok:Nat→Prop)(o:Ob):o.Wf→o.Sm→∀(A:Option Addr) (n c:Nat) (w:World),Rd ok w (.slice A n c) (.row (o.pair.map Ob.enc)) →
  Calls prog 167 #[G6 o (.slice A n c)] w (J7 (.bool o.U9) w):=by
 induction o using Ob.ind with
 |step o ih =>
  intro hW hS A n c w hP;have hlen:o.pair.length=n:=by have:=hP.len;rwa [Cc]at this
  have hn:n≤9223372036854775807:=by rw[←hlen];exact hW.len
  obtain⟨k,xn,xd,xp,xs,xt,xl⟩:=o;by_cases h4:k=4
  ·subst h4;exact a1z ok xn xd xp xs xt xl A n c w hP hn (fun x hx A n c w' hb h=>ih x hx (hW.kids hx) (hS.kids hx) A n c w' (h.under hb))
  by_cases h1:k=1
  ·subst h1;exact a1X xn xd xp xs xt xl A n c w hlen hn hS.len.1 hS.len.2
  by_cases h2:k=2
  ·subst h2;exact a1Y xn xd xp xs xt xl A n c w hlen hn (by cases hW;assumption) (by cases hW;assumption)
  by_cases h3:k=3
  ·subst h3;exact a1Z xn xd xp xs xt xl A n c w hlen hn (by cases hW;assumption)
  exact a1A k xn xd xp xs xt xl A n c w h1 h2 h3 h4
theorem PY(ok:Nat→Prop)(o:Ob)(hW:o.Wf)(hS:o.Sm)(A:Option Addr)(n c:Nat)(w:World)(hP:Rd ok w (.slice A n c) (.row (o.pair.map Ob.enc))) :
  Calls prog 126 #[G6 o (.slice A n c)] w (J7 (.bool o.lW) w):=by
 have HN:Hid (∀w':World,Below w.heap.size w w'→Calls prog 111 #[G6 o (.slice A n c)] w' (J7 (.int .i64 (U8 o)) w')):=fun w' hb=>PX ok o hW A n c w' (hP.under hb)
 have HF:Hid (∀w':World,Below w.heap.size w w'→Calls prog 167 #[G6 o (.slice A n c)] w' (J7 (.bool o.U9) w')):=fun w' hb=>a13 ok o hW hS A n c w' (hP.under hb)
 unfold Ob.lW;by_cases hk:o.nodes≤3000
 ·have hk':U8 o≤3000:=by unfold U8;split <;> omega
  rw[Pi hk,Bool.true_and];generalize o.U9=fb at *;generalize U8 o=z at *;clear hk
  go_enter func126,ntmps126
  go_wp2_with fail
  refine (HN.out _ (box _ _)).mono ?_;rintro e w1 ⟨rfl,hb1⟩;have X1:=WP (D5.via hb1);obtain⟨y0,y1,y2,y3,y4,y5,y6,yl⟩:=X1.out.seven
  go_wp2_with fail
  refine (HF.out _ (via hb1)).mono ?_;rintro e w2 ⟨rfl,hb2⟩;go_wp2;go_ret;exact⟨rfl,L6 (via hb1) hb2⟩
 ·have hk':¬U8 o≤3000:=by unfold U8;split <;> omega
  rw[WF hk,Bool.false_and];generalize U8 o=z at *;clear hk
  go_enter func126,ntmps126
  go_wp2_with fail
  refine (HN.out _ (box _ _)).mono ?_;rintro e w1 ⟨rfl,hb1⟩;go_wp2;go_ret;exact⟨rfl,via hb1⟩
abbrev I4:lw:=[117,115,101,114]
def yB:List (lw):=[[97],[98],[102,111,111],[111,100,100,32,110,97,109,101],[49],[120,124,121],[46],[45,50,47,51],[35]]
def vZ:List (lw×lw):=yB.map (fun s=>(I4,s))++[(o9,R8),(o9,[116]),(o9,[99,97,114]),(o9,[113,117,111,116,101])]
def bN(n:Int):lw×lw:=vZ.getD (n % 13).toNat (I4,[])
theorem a4g(n:Int):(bN n).1.length≤12∧(bN n).2.length≤12:=by
 have h:∀x∈vZ,x.1.length≤12∧x.2.length≤12:=O;have hlt:(n % 13).toNat < vZ.length:=by show (n % 13).toNat < 13;omega
 unfold bN;rw[AC,ww hlt];exact h _ (Zaj hlt)
def kM:Tr:=.num ((-1000:Int):Rat)
def mkK(k n:Int)(s:lw)(l:List Tr):Tr :=
 if k % 8=0∨k % 8=1 then .num ((n % 2001 - 1000:Int):Rat)
 else if k % 8=2 then .num (Rat.divInt (n % 41 - 20) (1+s.length))
 else if k % 8=3 then .sym (bN n).1 (bN n).2
 else if k % 8=4 then .txt s
 else if k % 8=5 then .cons (l.getD 0 kM) (l.getD 1 kM)
 else Tr.list l
mutual
def V8:Raw→Tr
 |⟨k,n,s,l⟩=>mkK k n s (FP l)
def FP:List Raw→List Tr
 |[]=>[]
 |r::t=>V8 r::FP t
end
theorem a6K(l:List Raw):FP l=l.map V8:=by
 induction l with
 |nil=>rfl
 |cons r t ih=>rw[FP,ih];rfl
theorem DU(r:Raw):V8 r=mkK r.kind r.n r.s (r.l.map V8):=by
 obtain⟨k,n,s,l⟩:=r;rw[V8,a6K]
inductive Fit:Raw→Prop
 |mk (o:Raw) (hs:o.s.length≤12) (hl:o.l.length≤6) (h:∀x∈o.l,Fit x):Fit o
theorem Fit.s{r:Raw}(h:Fit r):r.s.length≤12:=by cases h;assumption
theorem Fit.l{r:Raw}(h:Fit r):r.l.length≤6:=by cases h;assumption
theorem Fit.kids{r x:Raw}(h:Fit r)(hx:x∈r.l):Fit x:=by
 cases h with
 |mk _ _ _ h=>exact h x hx
theorem Raw.Wf.kids{r x:Raw}(h:r.Wf)(hx:x∈r.l):x.Wf:=by
 cases h with
 |mk _ _ _ _ _ _ _ h=>exact h x hx
theorem Tr.Tv{k:Nat}:∀{l:List Tr},(∀t∈l,t.Ok k)→(Tr.list l).Ok k
 |[],_=>⟨O,O⟩
 |a::r,h=>⟨h a (NE ..),Tr.Tv fun t ht=>h t (Cg _ ht)⟩
theorem Rt{n d:Int}(hn:n.natAbs < 10 ^ 4)(hd:d.natAbs < 10 ^ 4):Rb 4 (Rat.divInt n d):=Rb.mk' O hn hd
theorem sw{n:Int}(hn:n.natAbs < 10 ^ 4):Rb 4 (n:Rat):=⟨by rw[Rat.num_intCast];exact hn,by rw[Rat.den_intCast];decide,O⟩
theorem Ru:kM.Ok 4:=sw O
theorem Tw{k:Nat}{l:List Tr}{d:Tr}(h:∀t∈l,t.Ok k)(hd:d.Ok k)(i:Nat):(l.getD i d).Ok k:=by
 rw[AC];rcases Za5 i l.length with h1 | h1
 ·rw[ww h1];exact h _ (Zaj h1)
 ·rw[Za4 h1];exact hd
theorem a9J(r:Raw):Fit r→(V8 r).Ok 4:=by
 induction r using Raw.ind with
 |step r ih =>
  intro h;have hl:∀t∈r.l.map V8,t.Ok 4:=by
   intro t ht;obtain⟨x,hx,rfl⟩:=Zaw.1 ht;exact ih x hx (h.kids hx)
  rw[DU];unfold mkK;split
  ·exact sw J
  ·split
   ·exact Rt J (by have:=h.s;omega)
   ·split
    ·have:=a4g r.n;exact⟨J,J⟩
    ·split
     ·have:=h.s;show r.s.length≤100000;omega
     ·split
      ·exact⟨Tw hl Ru 0,Tw hl Ru 1⟩
      ·exact Tr.Tv hl
theorem QD:∀l:List Tr,(Tr.list l).size=(l.map Tr.size).sum+l.length+1
 |[]=>rfl
 |a::r=>by
  show a.size+(Tr.list r).size+1=_;rw[QD r];simp only[Zaq,List.sum_cons,yM];omega
theorem Vn:∀l:List Raw,(∀x∈l,(V8 x).size+1≤4 * x.size)→((l.map V8).map Tr.size).sum+l.length≤4 * Raw.eF l
 |[],_=>by simp[Raw.eF]
 |a::r,h=>by
  have h1:=h a (NE ..);have h2:=Vn r fun x hx=>h x (Cg _ hx)
  simp only[Zaq,List.sum_cons,yM,Raw.eF];omega
theorem a4h(r:Raw):(V8 r).size+1≤4 * r.size:=by
 induction r using Raw.ind with
 |step r ih =>
  have hs:=Vn r.l ih;have hr:r.size=Raw.eF r.l+1:=by obtain⟨k,n,s,l⟩:=r;rfl
  rw[DU];unfold mkK;split
  ·show 1+1≤_;omega
  ·split
   ·show 1+1≤_;omega
   ·split
    ·show 1+1≤_;omega
    ·split
     ·show 1+1≤_;omega
     ·split
      ·show ((r.l.map V8).getD 0 kM).size+((r.l.map V8).getD 1 kM).size+1+1≤_;have hz:kM.size=1:=rfl
       match hrl:r.l with
       |[]=>simp only[List.map_nil,List.getD_nil,hz];omega
       |[a] =>
        rw[hrl]at hs;simp only[Zaq,List.map_nil,List.sum_cons,List.sum_nil,yM,List.length_nil]at hs;simp only[Zaq,List.map_nil,List.getD_cons_zero,List.getD_cons_succ,List.getD_nil,hz];rw[hrl]at hr;omega
       |a::b::t =>
        rw[hrl]at hs;simp only[Zaq,List.sum_cons,yM]at hs;simp only[Zaq,List.getD_cons_zero,List.getD_cons_succ];rw[hrl]at hr;omega
      ·rw[QD,Cc];omega
theorem tmod_neg{n m:Int}(hm:0 < m)(h:n.tmod m < 0):n % m=n.tmod m+m:=by
 have h1:=Int.tmod_eq_emod (a:=n) (b:=m);have h2:=Int.emod_nonneg n (by omega:m≠0);have h3:=Int.emod_lt_of_pos n hm;split at h1 <;> omega
theorem a4i{n m:Int}(hm:0 < m)(h:¬n.tmod m < 0):n % m=n.tmod m:=by
 have h1:=Int.tmod_eq_emod (a:=n) (b:=m);have h2:=Int.emod_nonneg n (by omega:m≠0);have h3:=Int.emod_lt_of_pos n hm;split at h1 <;> omega
theorem a6L(n m:Int)(w:World)(hm:0 < m)(hm1:m≤1000000):Calls prog 54 #[.int .i64 n,.int .i64 m] w (IY (.int .i64 (n % m)) w):=by
 have hne:¬m=0:=J;have hb:(m == 0)=false:=by rw[IR];omega
 have hb':(m == -1)=false:=by rw[IR];omega
 have hlt:n.tmod m < m:=Int.tmod_lt_of_pos n hm;have hgt:-m < n.tmod m:=by
  have h2:=Int.tmod_eq_emod (a:=n) (b:=m);have h3:=Int.emod_nonneg n hne;have h4:=Int.emod_lt_of_pos n hm;split at h2 <;> omega
 by_cases hn:n.tmod m < 0
 ·rw[tmod_neg hm hn]
  go_enter func54,ntmps54
  go_wp2;go_ret;exact⟨by go_num,rfl⟩
 ·rw[a4i hm hn]
  go_enter func54,ntmps54
  go_wp2;go_ret;exact⟨by go_num,rfl⟩
namespace Tr
instance:DecidableEq Tr:=fun a b=>decidable_of_iff (cmp a b=0) (Jc a b)
def good:Tr→Bool
 |.num q=>decide (dg (Lib.itoa q.num)≤100∧dg (Lib.itoa (q.den:Int))≤100)
 |.txt t=>decide (t.length≤200)
 |.sym p s=>R6 ⟨p,s⟩
 |.cons a d=>good a && good d
theorem Jf:∀t:Tr,t.ob.U9=t.good
 |.num q=>by
  show Ob.U9 ⟨1,Lib.itoa q.num,Lib.itoa (q.den:Int),[],[],[],[]⟩=_;rw[Ob.T9];have h1:aj q.num (q.den:Int)=q.num:=by rw[(vW _ _).1,Rat.num_divInt_den]
  have h2:ak q.num (q.den:Int)=(q.den:Int):=by rw[(vW _ _).2,Rat.num_divInt_den]
  have h3:iq (Lib.itoa q.num) (Lib.itoa (q.den:Int))=decide (dg (Lib.itoa q.num)≤100∧dg (Lib.itoa (q.den:Int))≤100):=by
   unfold iq;rw[j6.M7,j6.M7,h1,h2];exact Zab.2 ⟨fun h=>⟨h.2.2.1,h.2.2.2⟩,fun h=>⟨rfl,rfl,h.1,h.2⟩⟩
  rw[h3];simp[good]
 |.txt t=>by
  show Ob.U9 ⟨3,[],[],[],[],t,[]⟩=_;rw[Ob.T9];simp[good]
 |.sym p s=>by
  show Ob.U9 ⟨2,[],[],p,s,[],[]⟩=_;rw[Ob.T9];simp[good]
 |.cons a d=>by
  show Ob.U9 ⟨4,[],[],[],[],[],[a.ob,d.ob]⟩=_;rw[Ob.T9,Ch rfl];simp only[Ob.nW,Jf a,Jf d,good];simp
theorem Jg:∀t:Tr,t.ob.nodes=t.size
 |.num q=>rfl
 |.txt t=>rfl
 |.sym p s=>rfl
 |.cons a d=>by
  rw[Ob.IE (o:=(Tr.cons a d).ob) (a:=a.ob) (d:=d.ob) rfl,Jg a,Jg d];rfl
def valid(t:Tr):Bool:=decide (t.size≤3000) && t.good
theorem QE(t:Tr):t.ob.lW=t.valid:=by unfold Ob.lW valid;rw[Jg,Jf]
theorem Ok.sm{k:Nat}(hk:k≤100000):∀{t:Tr},t.Ok k→t.ob.Sm
 |.num q,h=>by
  have h1:=Rb.nV h;have h2:=Rb.qy h;exact .mk (U4 q) (by show (Lib.itoa q.num).length≤_;omega) (by show (Lib.itoa (q.den:Int)).length≤_;omega) (fun x hx=>by cases hx)
 |.txt t,_=>.mk (kR t) (Ci _) (Ci _) (fun x hx=>by cases hx)
 |.sym p s,_=>.mk (jc p s) (Ci _) (Ci _) (fun x hx=>by cases hx)
 |.cons a d,h=>.mk (dW a.ob d.ob) (Ci _) (Ci _) (fun x hx=>by
   simp only[Za3,Zat,Zb4]at hx;rcases hx with rfl | rfl
   ·exact Ok.sm hk h.1
   ·exact Ok.sm hk h.2)
theorem Jw:∀{t:Tr},t.good=true→t.Ok 101
 |.num q,h=>by
  have h1:=bv h;have key:∀z:Int,dg (Lib.itoa z)≤100→z.natAbs < 10 ^ 101:=fun z hz=>by
   have e:norm (Lib.itoa z)=Lib.itoa z:=by rw[norm_eq,j6.M7]
   have h2:=Po (Lib.itoa z);rw[e]at h2;have h3:(Lib.itoa z).length≤101:=by
    have:(j6.mag (norm (Lib.itoa z))).length≤100:=hz;rw[e]at this;omega
   have h4:=jC h3
   rwa [j6.M7]at h4
  have hd:=key (q.den:Int) h1.2;rw[Int.natAbs_natCast]at hd;exact⟨key q.num h1.1,hd,J⟩
 |.txt t,h=>by
  have:=bv h;show t.length≤100000;omega
 |.sym p s,h=>by
  have h':(fB p && iU s)=true:=h;simp only[fB,iU,Ce,rE]at h';exact⟨J,J⟩
 |.cons a d,h=>by
  have h':(good a && good d)=true:=h;rw[Ce]at h';exact⟨Jw h'.1,Jw h'.2⟩
theorem ni{t:Tr}:valid t=true↔t.size≤3000∧t.good=true:=by
 unfold valid;rw[Ce,rE]
theorem PD{a d:Tr}(h:valid (.cons a d)=true):valid a=true∧valid d=true:=by
 obtain⟨h1,h2⟩:=ni.1 h;have h3:a.size+d.size+1≤3000:=h1;have h4:(a.good && d.good)=true:=h2;rw[Ce]at h4;have h5:=size_pos a;have h6:=size_pos d;exact⟨ni.2 ⟨J,h4.1⟩,ni.2 ⟨J,h4.2⟩⟩
end Tr
end Go.Proofs.YtbpmpdadppamgaaGreatDoor
namespace Go.Proofs.YtbpmpdadppamgaaGreatDoor
open Go.Proofs.Tryz
open Go.RowKit Go.ChangeShapes Go.WideShapes Go.Deep Go.Joins
section
variable {H:Type} {enc:TypeId×Value→H} {w:World} {base:Nat} {spare:Nat→Bool} {held:Bool}
theorem a4j{r:Reach}{b0:Nat}{v:Value}{d:DataW H}{p:List MemPlace}(hv:Value.okWide prog w r b0 55 v)(h:DataW.Trod enc prog w base spare held 55 v d p) :
  ∃(s:Raw) (A:Option Addr) (n c:Nat),v=Mt s (.slice A n c)∧s.Wf∧Rd (fun _=>True) w (.slice A n c) (.row (s.l.map Raw.enc)):=by
 obtain⟨cs,rfl,_⟩:=okWide_struct Tryz.underlying55 hv;obtain⟨fuel,hf⟩:=h;have hf':DataW.trod enc prog w base spare held fuel 55 cs.toList=some (d,p):=hf;obtain⟨s,hw,hl,hr⟩:=Ra fuel _ _ hf';rw[Raw.kz]at hl;obtain⟨l⟩:=cs
 match l,hl with
 |[x0,x1,x2,x3],_ =>
  simp only[Raw.lU]at hr;obtain⟨u0,e0,r0⟩:=hr 0 I;obtain⟨u1,e1,r1⟩:=hr 1 I;obtain⟨u2,e2,r2⟩:=hr 2 I;obtain⟨u3,e3,r3⟩:=hr 3 I;obtain rfl:x0=u0:=Zao e0;obtain rfl:x1=u1:=Zao e1;obtain rfl:x2=u2:=Zao e2;obtain rfl:x3=u3:=Zao e3;obtain rfl:=r0.Q7;obtain rfl:=r1.Q7;obtain rfl:=r2.Q7;obtain⟨A,n,c,rfl,_⟩:=Rd.slice r3;exact⟨s,A,n,c,rfl,hw,r3⟩
theorem vg{r:Reach}{b0:Nat}{v:Value}{d:DataW H}{p:List MemPlace}(hv:Value.okWide prog w r b0 22 v)(h:DataW.Trod enc prog w base spare held 22 v d p) :
  ∃(l:List Raw) (A:Option Addr) (n c:Nat),v=.slice A n c∧(∀s∈l,s.Wf)∧n≤9223372036854775807∧Rd (fun _=>True) w (.slice A n c) (.row (l.map Raw.enc)):=by
 obtain⟨a,len,cap,rfl⟩:=okWide_slice Tryz.underlying22 hv;obtain⟨fuel,hf⟩:=h;obtain⟨A,n,c,l,e,hr,hn,hg⟩:=Qr Raw.enc Raw.Wf 4 J Raw.kz Tryz.underlying22 Ja hf (fun n'' _ cs' y hy=>Ra n'' cs' y hy);simp only[Value.cells,List.cons.injEq,and_true]at e;unfold maxLen at hn;exact⟨l,A,n,c,by simpa using e,hg,hn,hr⟩
end
end Go.Proofs.YtbpmpdadppamgaaGreatDoor
namespace Go.Proofs.YtbpmpdadppamgaaGreatDoor
open Go.Proofs.Tryz
open Go.ChangeShapes Go.WideShapes Go.ChangeAt Go.RowKit
theorem own:ownKnob prog.godebug=none:=by kernel_rfl
noncomputable def low:Nat:=(World.holding prog default ⟨#[],#[],[]⟩).heap.size
def Iu(k:IntKind)(zs:List Int):Array Value:=(zs.map fun z=>Value.int k z).toArray
def put(h:Array Obj)(g:Nat)(cs:Array Value):Array Obj:=h.modify g fun
 |.cells _ t frozen=>.cells cs t frozen
 |o=>o
noncomputable def nk(os:Os):World :=
 let w0:=World.holding prog os ⟨#[.cells #[.string ⟨#[118,97,108,117,101,32,111,117,116,32,111,102,32,114,97,110,103,101]⟩] 318,.cells #[.string ⟨#[105,110,118,97,108,105,100,32,115,121,110,116,97,120]⟩] 318],#[],[]⟩
 let h1:=put w0.heap 0 (Iu .u64 Lib.pow10Tab)
 let h2:=put h1 1 (Iu .u8 [0,1,28,2,29,14,24,3,30,22,20,15,25,17,4,8,31,27,13,23,21,19,16,7,26,12,18,6,11,5,10,9])
 let h3:=put h2 2 (Iu .u8 [0,1,56,2,57,49,28,3,61,58,42,50,38,29,17,4,62,47,59,36,45,43,51,22,53,39,33,30,24,18,12,5,63,55,48,27,60,41,37,16,46,35,44,21,52,32,23,11,54,26,40,15,34,20,31,10,25,14,19,9,13,8,7,6])
 let h4:=put h3 4 #[.iface 316 (.pointer (some ⟨low,0,none⟩))]
 let h5:=put h4 3 #[.iface 316 (.pointer (some ⟨low+1,0,none⟩))]
 { w0 with heap:=h5 }
theorem b4X:prog.globalNamed "internal/strconv.uint64pow10" = some 0:=by kernel_rfl
theorem a4k:(prog.globals[0]?).map (·.type)=some 266:=by kernel_rfl
theorem a4l:prog.cellsOf 266=20:=by kernel_rfl
theorem a4m:prog.cellsOf 82=1:=by kernel_rfl
theorem a4n:(Rows.laid_internal_strconv_uint64pow10:DataW Unit)=Lib.tabData .u64 Lib.pow10Tab:=by kernel_rfl
theorem table{W:World}{l:List (String×DataW Unit)}(hl:l.filter (fun x=>x.1 == "internal/strconv.uint64pow10")=[("internal/strconv.uint64pow10", Rows.laid_internal_strconv_uint64pow10)])(h:laidMet prog l W):R9 W:=by
 have h1:=h.filter (fun x=>x.1 == "internal/strconv.uint64pow10");rw[hl,a4n]at h1;exact Lib.tabIs_of_head (rest:=[]) b4X a4k Tryz.underlying266 Tryz.underlying82 a4m a4l h1
end Go.Proofs.YtbpmpdadppamgaaGreatDoor
namespace Go.Proofs.YtbpmpdadppamgaaGreatDoor
open Go.Proofs.Tryz
open Go.RowKit
section
variable {P:Program} {ops:Array Oper} {Q:Exit→Act→World→Prop}
end
section
variable {P:Program} {ops:Array Oper} {Q:Exit→Act→World→Prop} {k:Nat} {iL iC iA iS sl sc sx:Nat→Nat} {ds:List Nat} {base:Act} {w0:World} {T:TypeId} {vl:Nat→Value} {z:Array Value}
 {G:Nat→(Nat→Prop)→World→Value→Prop} {St:World→Nat→Value→World} {C:Value→Array Value}
abbrev ptr(g:Nat):Value:=.pointer (some ⟨g,0,none⟩)
theorem getD_upd{listed:Array Bool}{i j:Nat}(h:(listed.setIfInBounds i true).getD j false=true):j=i∨listed.getD j false=true:=by
 by_cases e:i=j
 ·exact .inl e.symm
 ·rw[Go.getD_set_ne false e]at h;exact .inr h
end
end Go.Proofs.YtbpmpdadppamgaaGreatDoor
