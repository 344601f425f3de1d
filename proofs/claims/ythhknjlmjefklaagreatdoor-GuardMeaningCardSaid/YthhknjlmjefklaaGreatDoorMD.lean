/- The reference's Compare and Less on plain trees. -/
import Derived.Test.YthhknjlmjefklaaGreatDoorMC
import Derived.Deep.RegionHeld3
import Derived.Test.YthhknjlmjefklaaGreatDoorMA
import Derived.Test.YthhknjlmjefklaaGreatDoorMB
import Derived.Lib.SmallJoins
import Derived.Test.YthhknjlmjefklaaGreatDoorCards
import Derived.Test.YthhknjlmjefklaaGreatDoorTie
import Derived.ProofKit
import Derived.OpenShut
import Derived.ShutString
import Derived.Deep.DeepHandedRow
import Derived.Deep.DeepWitnessRowRef
import Derived.Lib.ItoaNum
import Derived.Lib.LaidTab
import Derived.LaidSub
import Derived.Orders
import Derived.Laws.CopyRow
import Derived.Laws.Cells
namespace Go.Proofs.YthhknjlmjefklaaGreatDoor
open Go.RowKit
theorem rMulZ {k m:Nat} {l r:List UInt8} {X Y:Int} (h:Num k l X) (h':Num m r Y) (hk:k≤100000) (hm:m≤100000) (w:World) :
  Calls Tryz.prog 200 #[str l,str r] w (RetStr (Lib.itoa (X * Y)) w):=by
 have:=refMul_any l r w (by have:=h.len;omega) (by have:=h'.len;omega)
 rwa [h.val,h'.val] at this
theorem rCompareZ {k m:Nat} {l r:List UInt8} {X Y V:Int} (h:Num k l X) (h':Num m r Y) (hk:k≤100000) (hm:m≤100000) (hv:cmpI X Y=V) (w:World) :
  Calls Tryz.prog 233 #[str l,str r] w (RetI64 V w):=by
 have:=refCompare_any l r w (by have:=h.len;omega) (by have:=h'.len;omega)
 rwa [h.val,h'.val,hv] at this
set_option maxHeartbeats 1000000 in
set_option maxRecDepth 100000 in
theorem rRank_any (o:Ob) (A:Option Addr) (n c:Nat) (w:World):Calls Tryz.prog 232 #[objV o (.slice A n c)] w (RetBel (.int .i64 (rkI o.kind+1)) w):=by
 obtain ⟨k,nm,d,p,t,x,l⟩:=o
 unfold rkI
 dsimp only
 by_cases h1:k=1
 ·subst h1
  go_enter Tryz.func232,Tryz.ntmps232
  go_wp2
  go_ret
  exact ⟨rfl,box _ _⟩
 have e1:(k == 1)=false:=by rw [beq_eq_false_iff_ne];exact h1
 rw [if_neg h1]
 by_cases h3:k=3
 ·subst h3
  go_enter Tryz.func232,Tryz.ntmps232
  go_wp2
  go_ret
  exact ⟨rfl,box _ _⟩
 have e3:(k == 3)=false:=by rw [beq_eq_false_iff_ne];exact h3
 rw [if_neg h3]
 by_cases h2:k=2
 ·subst h2
  go_enter Tryz.func232,Tryz.ntmps232
  go_wp2
  go_ret
  exact ⟨rfl,box _ _⟩
 have e2:(k == 2)=false:=by rw [beq_eq_false_iff_ne];exact h2
 rw [if_neg h2]
 clear h1 h2 h3
 go_enter Tryz.func232,Tryz.ntmps232
 go_wp2
 go_ret
 exact ⟨rfl,box _ _⟩
set_option maxHeartbeats 4000000 in
set_option maxRecDepth 100000 in
theorem rCompare_num (p q:Rat) {k m:Nat} (bp:Rb k p) (bq:Rb m q) (hk:k≤10000) (hm:m≤10000) (A A':Option Addr) (n n' c c':Nat) (w:World) :
  Calls Tryz.prog 201 #[objV (ratO p) (.slice A n c),objV (ratO q) (.slice A' n' c')] w (RetBel (.int .i64 (cmpQ p q)) w):=by
 have n1:Num (k+1) (Lib.itoa p.num) p.num:=⟨Dec.dval_itoa _,bp.nlen⟩
 have d1:Num (k+1) (Lib.itoa (p.den:Int)) p.den:=⟨Dec.dval_itoa _,bp.dlen⟩
 have n2:Num (m+1) (Lib.itoa q.num) q.num:=⟨Dec.dval_itoa _,bq.nlen⟩
 have d2:Num (m+1) (Lib.itoa (q.den:Int)) q.den:=⟨Dec.dval_itoa _,bq.dlen⟩
 have HM1:Hid (∀ w':World,Calls Tryz.prog 200 #[str (Lib.itoa p.num),str (Lib.itoa (q.den:Int))] w' (RetStr (Lib.itoa (p.num * q.den)) w')):=fun w'=>rMulZ n1 d2 (by omega) (by omega) w'
 have HM2:Hid (∀ w':World,Calls Tryz.prog 200 #[str (Lib.itoa q.num),str (Lib.itoa (p.den:Int))] w' (RetStr (Lib.itoa (q.num * p.den)) w')):=fun w'=>rMulZ n2 d1 (by omega) (by omega) w'
 have HC:Hid (∀ w':World,Calls Tryz.prog 233 #[str (Lib.itoa (p.num * q.den)),str (Lib.itoa (q.num * p.den))] w' (RetI64 (cmpQ p q) w')):=fun w'=>rCompareZ (n1.mul d2) (n2.mul d1) (by omega) (by omega) (cmpQ_cross p q) w'
 clear n1 n2 d1 d2
 unfold ratO
 generalize cmpQ p q=z at *
 generalize Lib.itoa (p.num * q.den)=l1 at *
 generalize Lib.itoa (q.num * p.den)=l2 at *
 generalize Lib.itoa p.num=ln at *
 generalize Lib.itoa q.num=rn at *
 generalize Lib.itoa (p.den:Int)=ld at *
 generalize Lib.itoa (q.den:Int)=rd at *
 have HR1:Hid (∀ w':World,Calls Tryz.prog 232 #[objV (numO ln ld) (.slice A n c)] w' (RetBel (.int .i64 1) w')):=fun w'=>rRank_any (numO ln ld) A n c w'
 have HR2:Hid (∀ w':World,Calls Tryz.prog 232 #[objV (numO rn rd) (.slice A' n' c')] w' (RetBel (.int .i64 1) w')):=fun w'=>rRank_any (numO rn rd) A' n' c' w'
 go_enter Tryz.func201,Tryz.ntmps201
 go_upto_region 1 with (fail)
 have X0':=Lib.hid ((BlkIs.new w 37 (obCells (numO ln ld) (.slice A n c))).alloc (.cells (obCells (numO rn rd) (.slice A' n' c')) 37))
 have Y0':=Lib.hid (BlkIs.new1 w (.cells (obCells (numO ln ld) (.slice A n c)) 37) 37 (obCells (numO rn rd) (.slice A' n' c')))
 have b0:=(box2 (box w (.cells (obCells (numO ln ld) (.slice A n c)) 37)) (.cells (obCells (numO rn rd) (.slice A' n' c')) 37)).drew
 generalize (w.alloc (.cells (obCells (numO ln ld) (.slice A n c)) 37)).alloc (.cells (obCells (numO rn rd) (.slice A' n' c')) 37)=W at *
 have X0:=Lib.hid X0'.out.drew
 have Y0:=Lib.hid Y0'.out.drew
 obtain ⟨xs0,xs1,xs2,xs3,xs4,xs5,xs6,xsl⟩:=X0'.out.seven
 obtain ⟨ys0,ys1,ys2,ys3,ys4,ys5,ys6,ysl⟩:=Y0'.out.seven
 go_region_held3 (fun w'=>w'.cell? ⟨w.heap.size,0,none⟩=some (.int .i64 1)∧w'.cell? ⟨w.heap.size,1,none⟩=some (str ln)∧w'.cell? ⟨w.heap.size,2,none⟩=some (str ld)∧w'.cell? ⟨w.heap.size,3,none⟩=some (str [])∧w'.cell? ⟨w.heap.size,4,none⟩=some (str [])∧w'.cell? ⟨w.heap.size,5,none⟩=some (str [])∧w'.cell? ⟨w.heap.size,6,none⟩=some (.slice A n c)∧w'.cell? ⟨w.heap.size+1,0,none⟩=some (.int .i64 1)∧w'.cell? ⟨w.heap.size+1,1,none⟩=some (str rn)∧w'.cell? ⟨w.heap.size+1,2,none⟩=some (str rd)∧w'.cell? ⟨w.heap.size+1,3,none⟩=some (str [])∧w'.cell? ⟨w.heap.size+1,4,none⟩=some (str [])∧w'.cell? ⟨w.heap.size+1,5,none⟩=some (str [])∧w'.cell? ⟨w.heap.size+1,6,none⟩=some (.slice A' n' c')) (go_keep)
  (first | (go_at_call 232;((with_reducible refine (HR1.out _).mono ?_));rintro e v1 ⟨rfl,hb1⟩;have b1:=then_ b0 hb1;have X1:=Lib.hid (X0.out.below hb1);have Y1:=Lib.hid (Y0.out.below hb1);obtain ⟨xc1_0,xc1_1,xc1_2,xc1_3,xc1_4,xc1_5,xc1_6,xc1_l⟩:=X1.out.seven;obtain ⟨yc1_0,yc1_1,yc1_2,yc1_3,yc1_4,yc1_5,yc1_6,yc1_l⟩:=Y1.out.seven) | (go_at_call 232;((with_reducible refine (HR2.out _).mono ?_));rintro e v2 ⟨rfl,hb2⟩;have b2:=then_ b1 hb2;have X2:=Lib.hid (X1.out.below hb2);have Y2:=Lib.hid (Y1.out.below hb2);obtain ⟨xc2_0,xc2_1,xc2_2,xc2_3,xc2_4,xc2_5,xc2_6,xc2_l⟩:=X2.out.seven;obtain ⟨yc2_0,yc2_1,yc2_2,yc2_3,yc2_4,yc2_5,yc2_6,yc2_l⟩:=Y2.out.seven))
 go_wp2_with fail
 refine (HR1.out _).mono ?_
 rintro e v3 ⟨rfl,hb3⟩
 have b3:=then_ b2 hb3
 have X3:=Lib.hid (X2.out.below hb3)
 have Y3:=Lib.hid (Y2.out.below hb3)
 clear xc2_0 xc2_1 xc2_2 xc2_3 xc2_4 xc2_5 xc2_6 yc2_0 yc2_1 yc2_2 yc2_3 yc2_4 yc2_5 yc2_6
 obtain ⟨xc3_0,xc3_1,xc3_2,xc3_3,xc3_4,xc3_5,xc3_6,xc3_l⟩:=X3.out.seven
 obtain ⟨yc3_0,yc3_1,yc3_2,yc3_3,yc3_4,yc3_5,yc3_6,yc3_l⟩:=Y3.out.seven
 go_upto_region 7 with (fail)
 have X4:=Lib.hid X3.out.drew
 have Y4:=Lib.hid Y3.out.drew
 have b4:=b3.drew
 go_region_held3 (fun w'=>w'.cell? ⟨w.heap.size,1,none⟩=some (str ln)∧w'.cell? ⟨w.heap.size,2,none⟩=some (str ld)∧w'.cell? ⟨w.heap.size+1,1,none⟩=some (str rn)∧w'.cell? ⟨w.heap.size+1,2,none⟩=some (str rd)) (go_keep)
  (first | (go_at_call 200;((with_reducible refine (HM1.out _).mono ?_));rintro e v5 ⟨rfl,hb5⟩;have b5:=then_ b4 hb5;have X5:=Lib.hid (X4.out.below hb5);have Y5:=Lib.hid (Y4.out.below hb5);obtain ⟨xc5_0,xc5_1,xc5_2,xc5_3,xc5_4,xc5_5,xc5_6,xc5_l⟩:=X5.out.seven;obtain ⟨yc5_0,yc5_1,yc5_2,yc5_3,yc5_4,yc5_5,yc5_6,yc5_l⟩:=Y5.out.seven) | (go_at_call 200;((with_reducible refine (HM2.out _).mono ?_));rintro e v6 ⟨rfl,hb6⟩;have b6:=then_ b5 hb6;have X6:=Lib.hid (X5.out.below hb6);have Y6:=Lib.hid (Y5.out.below hb6);obtain ⟨xc6_0,xc6_1,xc6_2,xc6_3,xc6_4,xc6_5,xc6_6,xc6_l⟩:=X6.out.seven;obtain ⟨yc6_0,yc6_1,yc6_2,yc6_3,yc6_4,yc6_5,yc6_6,yc6_l⟩:=Y6.out.seven) | (go_at_call 233;((with_reducible refine (HC.out _).mono ?_));rintro e v7 ⟨rfl,hb7⟩;have b7:=then_ b6 hb7;have X7:=Lib.hid (X6.out.below hb7);have Y7:=Lib.hid (Y6.out.below hb7);obtain ⟨xc7_0,xc7_1,xc7_2,xc7_3,xc7_4,xc7_5,xc7_6,xc7_l⟩:=X7.out.seven;obtain ⟨yc7_0,yc7_1,yc7_2,yc7_3,yc7_4,yc7_5,yc7_6,yc7_l⟩:=Y7.out.seven))
 go_wp2
 go_ret
 exact ⟨rfl,b7⟩
set_option maxHeartbeats 1000000 in
set_option maxRecDepth 100000 in
theorem rLess_any (a b:Ob) (p q:Rat) (hp:Val a p) (hq:Val b q) {k m:Nat} (bp:Rb k p) (bq:Rb m q) (hk:k≤10000) (hm:m≤10000) (A A':Option Addr) (n n' c c':Nat) (hn:a.pair.length=n) (hn':b.pair.length=n') (w:World) (ht:Tab w) :
  Calls Tryz.prog 154 #[objV a (.slice A n c),objV b (.slice A' n' c')] w (RetBel (.bool (decide (p < q))) w):=by
 have HF1:Hid (∀ w':World,Below w.heap.size w w'→Calls Tryz.prog 146 #[objV a (.slice A n c)] w' (RetNL (Lib.itoa p.num) (Lib.itoa (p.den:Int)) w')):=fun w' hb=>rFix_any a p hp A n c hn w' (ht.below hb)
 have HF2:Hid (∀ w':World,Below w.heap.size w w'→Calls Tryz.prog 146 #[objV b (.slice A' n' c')] w' (RetNL (Lib.itoa q.num) (Lib.itoa (q.den:Int)) w')):=fun w' hb=>rFix_any b q hq A' n' c' hn' w' (ht.below hb)
 have HV:Hid (∀ (w':World) (A1 A2:Option Addr) (c1 c2:Nat),Below w.heap.size w w'→Calls Tryz.prog 201 #[objV (ratO p) (.slice A1 0 c1),objV (ratO q) (.slice A2 0 c2)] w' (RetBel (.int .i64 (cmpQ p q)) w')):=fun w' A1 A2 c1 c2 _=>rCompare_num p q bp bq hk hm A1 A2 0 0 c1 c2 w'
 unfold ratO at HV
 rw [← cmpQ_neg]
 clear hp hq bp bq hk hm hn hn'
 generalize cmpQ p q=z at *
 generalize Lib.itoa p.num=ln at *
 generalize Lib.itoa (p.den:Int)=ld at *
 generalize Lib.itoa q.num=rn at *
 generalize Lib.itoa (q.den:Int)=rd at *
 go_enter Tryz.func154,Tryz.ntmps154
 go_upto_region 1 with (fail)
 have X0':=Lib.hid ((BlkIs.new w 37 (obCells a (.slice A n c))).alloc (.cells (obCells b (.slice A' n' c')) 37))
 have Y0':=Lib.hid (BlkIs.new1 w (.cells (obCells a (.slice A n c)) 37) 37 (obCells b (.slice A' n' c')))
 have b0:=(box2 (box w (.cells (obCells a (.slice A n c)) 37)) (.cells (obCells b (.slice A' n' c')) 37)).drew
 generalize (w.alloc (.cells (obCells a (.slice A n c)) 37)).alloc (.cells (obCells b (.slice A' n' c')) 37)=W at *
 have X0:=Lib.hid X0'.out.drew
 have Y0:=Lib.hid Y0'.out.drew
 obtain ⟨xs0,xs1,xs2,xs3,xs4,xs5,xs6,xsl⟩:=X0'.out.seven
 obtain ⟨ys0,ys1,ys2,ys3,ys4,ys5,ys6,ysl⟩:=Y0'.out.seven
 go_region_held3 (fun w'=>w'.cell? ⟨w.heap.size,0,none⟩=some (.int .i64 a.kind)∧w'.cell? ⟨w.heap.size,1,none⟩=some (str a.num)∧w'.cell? ⟨w.heap.size,2,none⟩=some (str a.den)∧w'.cell? ⟨w.heap.size,3,none⟩=some (str a.sp)∧w'.cell? ⟨w.heap.size,4,none⟩=some (str a.sn)∧w'.cell? ⟨w.heap.size,5,none⟩=some (str a.text)∧w'.cell? ⟨w.heap.size,6,none⟩=some (.slice A n c)∧w'.cell? ⟨w.heap.size+1,0,none⟩=some (.int .i64 b.kind)∧w'.cell? ⟨w.heap.size+1,1,none⟩=some (str b.num)∧w'.cell? ⟨w.heap.size+1,2,none⟩=some (str b.den)∧w'.cell? ⟨w.heap.size+1,3,none⟩=some (str b.sp)∧w'.cell? ⟨w.heap.size+1,4,none⟩=some (str b.sn)∧w'.cell? ⟨w.heap.size+1,5,none⟩=some (str b.text)∧w'.cell? ⟨w.heap.size+1,6,none⟩=some (.slice A' n' c')) (go_keep)
  (first | (go_at_call 146;((with_reducible refine (HF1.out _ b0).mono ?_));rintro e v1 ⟨A1,c1,rfl,hb1⟩;have b1:=then_ b0 hb1;have X1:=Lib.hid (X0.out.below hb1);have Y1:=Lib.hid (Y0.out.below hb1);obtain ⟨xc1_0,xc1_1,xc1_2,xc1_3,xc1_4,xc1_5,xc1_6,xc1_l⟩:=X1.out.seven;obtain ⟨yc1_0,yc1_1,yc1_2,yc1_3,yc1_4,yc1_5,yc1_6,yc1_l⟩:=Y1.out.seven) | (go_at_call 146;((with_reducible refine (HF2.out _ b1).mono ?_));rintro e v2 ⟨A2,c2,rfl,hb2⟩;have b2:=then_ b1 hb2;have X2:=Lib.hid (X1.out.below hb2);have Y2:=Lib.hid (Y1.out.below hb2);obtain ⟨xc2_0,xc2_1,xc2_2,xc2_3,xc2_4,xc2_5,xc2_6,xc2_l⟩:=X2.out.seven;obtain ⟨yc2_0,yc2_1,yc2_2,yc2_3,yc2_4,yc2_5,yc2_6,yc2_l⟩:=Y2.out.seven) | (go_at_call 201;((with_reducible refine (HV.out _ A1 A2 c1 c2 b2).mono ?_));rintro e v3 ⟨rfl,hb3⟩;have b3:=then_ b2 hb3;have X3:=Lib.hid (X2.out.below hb3);have Y3:=Lib.hid (Y2.out.below hb3);obtain ⟨xc3_0,xc3_1,xc3_2,xc3_3,xc3_4,xc3_5,xc3_6,xc3_l⟩:=X3.out.seven;obtain ⟨yc3_0,yc3_1,yc3_2,yc3_3,yc3_4,yc3_5,yc3_6,yc3_l⟩:=Y3.out.seven))
 go_wp2
 go_ret
 exact ⟨rfl,b3⟩
end Go.Proofs.YthhknjlmjefklaaGreatDoor
namespace Go.Proofs.YthhknjlmjefklaaGreatDoor
open Go.RowKit
abbrev dg (l:List UInt8):Nat:=(Dec.mag (norm l)).length
def lowB (n d:List UInt8):Bool:=decide (Lib.itoa (rdN (Dec.dval n) (Dec.dval d))=n∧Lib.itoa (rdD (Dec.dval n) (Dec.dval d))=d∧dg n≤100∧dg d≤100)
namespace Ob
mutual
def formB:Ob→Bool
 | ⟨k,n,d,p,s,t,l⟩ =>
  if k=4 then decide (n=[]∧d=[]∧p=[]∧s=[]∧t=[]∧l.length=2) && allB l
  else if k=1 then decide (p=[]∧s=[]∧t=[]∧l.length=0) && lowB n d
  else if k=2 then decide (n=[]∧d=[]∧t=[]∧l.length=0) && symOk ⟨p,s⟩
  else if k=3 then decide (n=[]∧d=[]∧p=[]∧s=[]∧t.length≤200∧l.length=0)
  else false
def allB:List Ob→Bool
 | []=>true
 | o::r=>formB o && allB r
end
theorem formB_eq (k:Int) (n d p s t:List UInt8) (l:List Ob):formB ⟨k,n,d,p,s,t,l⟩=(if k=4 then decide (n=[]∧d=[]∧p=[]∧s=[]∧t=[]∧l.length=2) && allB l
  else if k=1 then decide (p=[]∧s=[]∧t=[]∧l.length=0) && lowB n d
  else if k=2 then decide (n=[]∧d=[]∧t=[]∧l.length=0) && symOk ⟨p,s⟩
  else if k=3 then decide (n=[]∧d=[]∧p=[]∧s=[]∧t.length≤200∧l.length=0)
  else false):=by rw [formB]
inductive Sm:Ob→Prop
 | mk (o:Ob) (hn:o.num.length≤1100000) (hd:o.den.length≤1100000) (h:∀ x∈o.pair,Sm x):Sm o
theorem Sm.kids {o x:Ob} (h:o.Sm) (hx:x∈o.pair):x.Sm:=by
 cases h with
 | mk _ _ _ h=>exact h x hx
theorem Sm.len {o:Ob} (h:o.Sm):o.num.length≤1100000∧o.den.length≤1100000:=by
 cases h with
 | mk _ a b _=>exact ⟨a,b⟩
end Ob
def Ob.validB (o:Ob):Bool:=decide (o.nodes≤3000) && o.formB
end Go.Proofs.YthhknjlmjefklaaGreatDoor
namespace Go.Proofs.YthhknjlmjefklaaGreatDoor
open Go.RowKit
abbrev symAgg (s:Sy):Value:=.agg #[str s.pkg,str s.name]
set_option maxHeartbeats 400000 in
theorem ref2Named_any (s:Sy) (w:World) (hp:s.pkg.length≤9223372036854775807) (hn:s.name.length≤9223372036854775807):Calls Tryz.prog 202 #[symAgg s] w (RetBel (.bool (symOk s)) w):=by
 obtain ⟨l,m⟩:=s
 have HF:Hid (∀ (w':World) (b:Bool),pkgOk l=b→Calls Tryz.prog 236 #[str l] w' (RetPureV (.bool b) w')):=fun w' b hb=>by
  have:=ref2Package_any l w' hp
  rwa [hb] at this
 dsimp only at hp hn ⊢
 cases h:pkgOk l with
 | false =>
  have HR:Hid (symOk ⟨l,m⟩=false):=by show _=_;unfold symOk;rw [h];rfl
  have HH:=Lib.hid h
  clear h
  go_enter Tryz.func202,Tryz.ntmps202
  go_wp2_with fail
  refine (HF.out _ _ HH.out).mono ?_
  rintro e w1 ⟨rfl,rfl⟩
  go_wp2
  go_ret
  exact ⟨by rw [HR.out];rfl,box _ _⟩
 | true =>
  have HR:Hid (symOk ⟨l,m⟩=nameOk m):=by show _=_;unfold symOk;rw [h];rfl
  have HH:=Lib.hid h
  clear h
  by_cases h1:1≤m.length
  ·by_cases h2:m.length≤40
   ·have HN:Hid (nameOk m=true):=by show _=_;unfold nameOk;simp;omega
    have hd:decide ((m.length:Int)≤40)=true:=by simp;omega
    go_enter Tryz.func202,Tryz.ntmps202
    go_wp2_with fail
    refine (HF.out _ _ HH.out).mono ?_
    rintro e w1 ⟨rfl,rfl⟩
    go_wp2
    go_ret
    exact ⟨by rw [HR.out,HN.out];rfl,box _ _⟩
   ·have HN:=Lib.hid (nameOk_len (l:=m) (.inr (by omega)))
    have hd:decide ((m.length:Int)≤40)=false:=by simp;omega
    go_enter Tryz.func202,Tryz.ntmps202
    go_wp2_with fail
    refine (HF.out _ _ HH.out).mono ?_
    rintro e w1 ⟨rfl,rfl⟩
    go_wp2
    go_ret
    exact ⟨by rw [HR.out,HN.out];rfl,box _ _⟩
  ·have HN:=Lib.hid (nameOk_len (l:=m) (.inl (by omega)))
   have hd:decide (1≤(m.length:Int))=false:=by simp;omega
   go_enter Tryz.func202,Tryz.ntmps202
   go_wp2_with fail
   refine (HF.out _ _ HH.out).mono ?_
   rintro e w1 ⟨rfl,rfl⟩
   go_wp2
   go_ret
   exact ⟨by rw [HR.out,HN.out];rfl,box _ _⟩
set_option maxHeartbeats 400000 in
theorem ref4Valid_any (s:Sy) (w:World) (hp:s.pkg.length≤9223372036854775807) (hn:s.name.length≤9223372036854775807):Calls Tryz.prog 155 #[symAgg s] w (RetBel (.bool (symOk s)) w):=by
 have HF:Hid (∀ w':World,Calls Tryz.prog 202 #[symAgg s] w' (RetBel (.bool (symOk s)) w')):=fun w'=>ref2Named_any s w' hp hn
 go_enter Tryz.func155,Tryz.ntmps155
 go_wp2_with fail
 refine (HF.out _).mono ?_
 rintro e w2 ⟨rfl,hb2⟩
 go_wp2
 go_ret
 exact ⟨rfl,via hb2⟩
end Go.Proofs.YthhknjlmjefklaaGreatDoor
namespace Go.Proofs.YthhknjlmjefklaaGreatDoor
open Go.RowKit
set_option maxHeartbeats 2000000 in
set_option maxRecDepth 100000 in
theorem count_any (ok:Nat→Prop):∀ (N:Nat) (o:Ob),o.size≤N→o.Wf→∀ (A:Option Addr) (n c L:Nat) (w:World),Rd ok w (.slice A n c) (.row (o.pair.map Ob.enc))→1≤L→L≤3001 →
  Calls Tryz.prog 128 #[objV o (.slice A n c),.int .i64 L] w (RetBel (.int .i64 (min o.nodes L:Nat)) w):=by
 intro N
 induction N with
 | zero=>intro o h;have:=Ob.size_pos o;omega
 | succ N ih =>
  intro o hN hW A n c L w hP hL0 hL1
  have hlen:=hP.len
  rw [List.length_map] at hlen
  have hn:n≤9223372036854775807:=by rw [← hlen];exact hW.len
  by_cases h2:n=2
  case neg =>
   have hz:((n:Int) != 2)=true:=by rw [bne_iff_ne];omega
   have e:min o.nodes L=1:=by rw [Ob.nodes_one (by omega)];omega
   rw [e]
   clear hlen e h2
   go_enter Tryz.func128,Tryz.ntmps128
   go_wp2
   go_ret
   exact ⟨rfl,box _ _⟩
  subst h2
  by_cases h1:L≤1
  ·have e:min o.nodes L=1:=by have:=o.nodes_pos;omega
   rw [e]
   clear hlen e
   go_enter Tryz.func128,Tryz.ntmps128
   go_wp2
   go_ret
   exact ⟨rfl,box _ _⟩
  obtain ⟨a,d,had⟩:=Ob.two_of_length hlen
  have hsa:=Ob.size_pair (o:=o) (x:=a) (by rw [had];simp)
  have hsd:=Ob.size_pair (o:=o) (x:=d) (by rw [had];simp)
  have HWa:=Lib.hid (hW.kids (x:=a) (by rw [had];simp))
  have HWd:=Lib.hid (hW.kids (x:=d) (by rw [had];simp))
  have HND:=Lib.hid (Ob.nodes_two had)
  have pa:=a.nodes_pos
  have pd:=d.nodes_pos
  obtain ⟨z,hz⟩:∃ z:Nat,z=min o.nodes L:=⟨_,rfl⟩
  rw [← hz]
  have HZ:=Lib.hid hz
  clear hz
  rw [had] at hP
  have b0:=box w (.cells (obCells o (.slice A 2 c)) 37)
  obtain ⟨b,q,_,A3,n3,c3,rfl,hbl,_,a0,a1,a2,a3,a4,a5,a6,ha⟩:=hP.objs b0 (i:=0) (by omega)
  simp only [List.getElem_cons_zero,Nat.zero_mul,Nat.add_zero] at a0 a1 a2 a3 a4 a5 a6 ha
  have hbl':=Nat.lt_of_lt_of_le hbl b0.size
  have HC:Hid (∀ w':World,Below w.heap.size w w'→Calls Tryz.prog 128 #[objV a (.slice A3 n3 c3),.int .i64 ((L:Int) - 1)] w' (RetBel (.int .i64 (min a.nodes (L - 1):Nat)) w')):=fun w' hb=>by
   have:=ih a (by omega) HWa.out A3 n3 c3 (L - 1) w' (ha.under hb) (by omega) (by omega)
   rwa [show ((L - 1:Nat):Int)=(L:Int) - 1 by omega] at this
  have X0:=Lib.hid (BlkIs.new w 37 (obCells o (.slice (some ⟨b,q,none⟩) 2 c)))
  clear hlen
  go_enter Tryz.func128,Tryz.ntmps128
  go_wp2_with fail
  refine (HC.out _ b0).mono ?_
  rintro e w1 ⟨rfl,hb1⟩
  have b1:=then_ b0 hb1
  have X1:=Lib.hid (X0.out.below hb1)
  clear a0 a1 a2 a3 a4 a5 a6 X0
  by_cases h3:L - 1≤a.nodes
  ·have e1:min a.nodes (L - 1)=L - 1:=by omega
   obtain rfl:z=L:=by rw [HZ.out,HND.out];omega
   have e3:((z - 1:Nat):Int)=(z:Int) - 1:=by omega
   rw [e1,e3]
   clear e1 e3 HZ HND
   go_wp2
   go_ret
   exact ⟨by go_num,b1⟩
  ·have e1:min a.nodes (L - 1)=a.nodes:=by omega
   obtain ⟨md,hmd⟩:∃ md,md=min d.nodes (L - (1+a.nodes)):=⟨_,rfl⟩
   obtain rfl:z=a.nodes+1+md:=by rw [HZ.out,HND.out];omega
   rw [e1]
   clear e1 HZ HND
   obtain ⟨y0,y1,y2,y3,y4,y5,y6,yl⟩:=X1.out.seven
   obtain ⟨b',q',_,A4,n4,c4,eA,_,_,d0,d1,d2,d3,d4,d5,d6,hd⟩:=hP.objs b1 (i:=1) (by omega)
   injection eA with eA
   injection eA with eb eq
   subst eb eq
   simp only [List.getElem_cons_zero,List.getElem_cons_succ,Nat.one_mul] at d0 d1 d2 d3 d4 d5 d6 hd
   have hbl2:=Nat.lt_of_lt_of_le hbl b1.size
   have HC2:Hid (Calls Tryz.prog 128 #[objV d (.slice A4 n4 c4),.int .i64 ((L:Int) - (1+(a.nodes:Int)))] w1 (RetBel (.int .i64 (min d.nodes (L - (1+a.nodes)):Nat)) w1)):=by
    have:=ih d (by omega) HWd.out A4 n4 c4 (L - (1+a.nodes)) w1 (hd.under b1) (by omega) (by omega)
    rwa [show ((L - (1+a.nodes):Nat):Int)=(L:Int) - (1+(a.nodes:Int)) by omega] at this
   have hm:md≤3001:=by omega
   rw [← hmd] at HC2
   clear pd hmd
   generalize a.nodes=na at *
   go_wp2_with fail
   refine HC2.out.mono ?_
   rintro e w2 ⟨rfl,hb2⟩
   go_wp2
   go_ret
   exact ⟨by go_num,then_ b1 hb2⟩
set_option maxHeartbeats 400000 in
theorem rNodes_any (ok:Nat→Prop) (o:Ob) (hW:o.Wf) (A:Option Addr) (n c:Nat) (w:World) (hP:Rd ok w (.slice A n c) (.row (o.pair.map Ob.enc))) :
  Calls Tryz.prog 101 #[objV o (.slice A n c)] w (RetBel (.int .i64 (nodesP o)) w):=by
 have HC:Hid (∀ w':World,Below w.heap.size w w'→Calls Tryz.prog 128 #[objV o (.slice A n c),.int .i64 3001] w' (RetBel (.int .i64 (nodesP o)) w')):=fun w' hb=>by
  have:=count_any ok o.size o (Nat.le_refl _) hW A n c 3001 w' (hP.under hb) (by omega) (by omega)
  rwa [show ((min o.nodes 3001:Nat):Int)=nodesP o by unfold nodesP;split <;> omega] at this
 generalize nodesP o=z at *
 go_enter Tryz.func101,Tryz.ntmps101
 go_wp2_with fail
 refine (HC.out _ (box _ _)).mono ?_
 rintro e w1 ⟨rfl,hb⟩
 go_wp2
 go_ret
 exact ⟨rfl,via hb⟩
set_option maxHeartbeats 4000000 in
set_option maxRecDepth 100000 in
theorem rFormed_num (xn xd xp xs xt:List UInt8) (xl:List Ob) (A:Option Addr) (n c:Nat) (w:World) (hlen:xl.length=n) (hn:n≤9223372036854775807) (h1:xn.length≤1100000) (h2:xd.length≤1100000) :
  Calls Tryz.prog 156 #[objV ⟨1,xn,xd,xp,xs,xt,xl⟩ (.slice A n c)] w (RetBel (.bool (Ob.formB ⟨1,xn,xd,xp,xs,xt,xl⟩)) w):=by
 have HR:Hid (∀ w':World,Calls Tryz.prog 72 #[str xn,str xd] w' (RetStr2 (Lib.itoa (rdN (Dec.dval xn) (Dec.dval xd))) (Lib.itoa (rdD (Dec.dval xn) (Dec.dval xd))) w')):=fun w'=>refReduce_any xn xd w' h1 h2
 have HD1:Hid (∀ w':World,Calls Tryz.prog 186 #[str xn] w' (RetI64 (dg xn:Nat) w')):=fun w'=>refDigitsN_any xn w' (by omega)
 have HD2:Hid (∀ w':World,Calls Tryz.prog 186 #[str xd] w' (RetI64 (dg xd:Nat) w')):=fun w'=>refDigitsN_any xd w' (by omega)
 have hda:dg xn≤1100002:=by have h1:=Dec.mag_length_le (norm xn);have h2:=norm_length xn;show (Dec.mag (norm xn)).length≤_;omega
 have hdb:dg xd≤1100002:=by have h1:=Dec.mag_length_le (norm xd);have h2:=norm_length xd;show (Dec.mag (norm xd)).length≤_;omega
 obtain ⟨fb,hfb⟩:∃ fb,fb=Ob.formB ⟨1,xn,xd,xp,xs,xt,xl⟩:=⟨_,rfl⟩
 rw [← hfb]
 have HF:Hid (Ob.formB ⟨1,xn,xd,xp,xs,xt,xl⟩=fb):=hfb.symm
 clear hfb
 have HL:Hid (lowB xn xd=decide (Lib.itoa (rdN (Dec.dval xn) (Dec.dval xd))=xn∧Lib.itoa (rdD (Dec.dval xn) (Dec.dval xd))=xd∧dg xn≤100∧dg xd≤100)):=rfl
 generalize Lib.itoa (rdN (Dec.dval xn) (Dec.dval xd))=x at *
 generalize Lib.itoa (rdD (Dec.dval xn) (Dec.dval xd))=y at *
 generalize dg xn=da at *
 generalize dg xd=db at *
 by_cases hxp:xp=[]
 case neg =>
  obtain rfl:fb=false:=by rw [← HF.out,Ob.formB_eq];simp only [show ¬ ((1:Int)=4) by decide,if_false,if_true];rw [Bool.eq_false_iff];intro h;simp only [Bool.and_eq_true,decide_eq_true_eq] at h;exact hxp (by simp [h])
  have hz:(xp == [])=false:=by rw [beq_eq_false_iff_ne];exact hxp
  clear HF hxp hlen
  go_enter Tryz.func156,Tryz.ntmps156
  go_wp2_with fail
  refine (HR.out _).mono ?_
  rintro e w1 ⟨rfl,hb1⟩
  have X1:=Lib.hid (BlkIs.via hb1)
  obtain ⟨x0,x1,x2,x3,x4,x5,x6,xl⟩:=X1.out.seven
  go_wp2
  go_ret
  exact ⟨rfl,via hb1⟩
 subst hxp
 by_cases hxs:xs=[]
 case neg =>
  obtain rfl:fb=false:=by rw [← HF.out,Ob.formB_eq];simp only [show ¬ ((1:Int)=4) by decide,if_false,if_true];rw [Bool.eq_false_iff];intro h;simp only [Bool.and_eq_true,decide_eq_true_eq] at h;exact hxs (by simp [h])
  have hz:(xs == [])=false:=by rw [beq_eq_false_iff_ne];exact hxs
  clear HF hxs hlen
  go_enter Tryz.func156,Tryz.ntmps156
  go_wp2_with fail
  refine (HR.out _).mono ?_
  rintro e w1 ⟨rfl,hb1⟩
  have X1:=Lib.hid (BlkIs.via hb1)
  obtain ⟨x0,x1,x2,x3,x4,x5,x6,xl⟩:=X1.out.seven
  go_wp2
  go_ret
  exact ⟨rfl,via hb1⟩
 subst hxs
 by_cases hxt:xt=[]
 case neg =>
  obtain rfl:fb=false:=by rw [← HF.out,Ob.formB_eq];simp only [show ¬ ((1:Int)=4) by decide,if_false,if_true];rw [Bool.eq_false_iff];intro h;simp only [Bool.and_eq_true,decide_eq_true_eq] at h;exact hxt (by simp [h])
  have hz:(xt == [])=false:=by rw [beq_eq_false_iff_ne];exact hxt
  clear HF hxt hlen
  go_enter Tryz.func156,Tryz.ntmps156
  go_wp2_with fail
  refine (HR.out _).mono ?_
  rintro e w1 ⟨rfl,hb1⟩
  have X1:=Lib.hid (BlkIs.via hb1)
  obtain ⟨x0,x1,x2,x3,x4,x5,x6,xl⟩:=X1.out.seven
  go_wp2
  go_ret
  exact ⟨rfl,via hb1⟩
 subst hxt
 by_cases hn0:n=0
 case neg =>
  obtain rfl:fb=false:=by rw [← HF.out,Ob.formB_eq];simp only [show ¬ ((1:Int)=4) by decide,if_false,if_true];rw [Bool.eq_false_iff];intro h;simp only [Bool.and_eq_true,decide_eq_true_eq] at h;exact hn0 (by rw [← hlen];simp [h])
  have hz:((n:Int) == 0)=false:=by rw [beq_eq_false_iff_ne];omega
  clear HF hn0 hlen
  go_enter Tryz.func156,Tryz.ntmps156
  go_wp2_with fail
  refine (HR.out _).mono ?_
  rintro e w1 ⟨rfl,hb1⟩
  have X1:=Lib.hid (BlkIs.via hb1)
  obtain ⟨x0,x1,x2,x3,x4,x5,x6,xl⟩:=X1.out.seven
  go_wp2
  go_ret
  exact ⟨rfl,via hb1⟩
 subst hn0
 have HZ:Hid (fb=decide (x=xn∧y=xd∧da≤100∧db≤100)):=by
  show fb=_
  rw [← HF.out,Ob.formB_eq,← HL.out]
  simp [hlen]
 clear HF HL hlen
 by_cases e1:x=xn
 case neg =>
  obtain rfl:fb=false:=by rw [HZ.out];exact decide_eq_false (fun h=>e1 h.1)
  have hz:(x == xn)=false:=by rw [beq_eq_false_iff_ne];exact e1
  clear e1
  clear HZ
  go_enter Tryz.func156,Tryz.ntmps156
  go_wp2_with fail
  refine (HR.out _).mono ?_
  rintro e w1 ⟨rfl,hb1⟩
  have X1:=Lib.hid (BlkIs.via hb1)
  obtain ⟨x0,x1,x2,x3,x4,x5,x6,xl⟩:=X1.out.seven
  go_wp2
  go_ret
  exact ⟨rfl,via hb1⟩
 subst e1
 by_cases e2:y=xd
 case neg =>
  obtain rfl:fb=false:=by rw [HZ.out];exact decide_eq_false (fun h=>e2 h.2.1)
  have hz:(y == xd)=false:=by rw [beq_eq_false_iff_ne];exact e2
  clear e2
  clear HZ
  go_enter Tryz.func156,Tryz.ntmps156
  go_wp2_with fail
  refine (HR.out _).mono ?_
  rintro e w1 ⟨rfl,hb1⟩
  have X1:=Lib.hid (BlkIs.via hb1)
  obtain ⟨x0,x1,x2,x3,x4,x5,x6,xl⟩:=X1.out.seven
  go_wp2
  go_ret
  exact ⟨rfl,via hb1⟩
 subst e2
 by_cases e3:da≤100
 case neg =>
  obtain rfl:fb=false:=by rw [HZ.out];exact decide_eq_false (fun h=>e3 h.2.2.1)
  have hd3:decide ((da:Int)≤100)=false:=decide_eq_false (by omega)
  clear HZ
  go_enter Tryz.func156,Tryz.ntmps156
  go_wp2_with fail
  refine (HR.out _).mono ?_
  rintro e w1 ⟨rfl,hb1⟩
  have X1:=Lib.hid (BlkIs.via hb1)
  obtain ⟨x0,x1,x2,x3,x4,x5,x6,xl⟩:=X1.out.seven
  go_wp2_with fail
  refine (HD1.out _).mono ?_
  rintro e w2 ⟨rfl,hb2⟩
  go_wp2
  go_ret
  exact ⟨rfl,then_ (via hb1) hb2⟩
 have hd3:decide ((da:Int)≤100)=true:=decide_eq_true (by omega)
 by_cases e4:db≤100
 case neg =>
  obtain rfl:fb=false:=by rw [HZ.out];exact decide_eq_false (fun h=>e4 h.2.2.2)
  have hd4:decide ((db:Int)≤100)=false:=decide_eq_false (by omega)
  clear HZ
  go_enter Tryz.func156,Tryz.ntmps156
  go_wp2_with fail
  refine (HR.out _).mono ?_
  rintro e w1 ⟨rfl,hb1⟩
  have X1:=Lib.hid (BlkIs.via hb1)
  obtain ⟨x0,x1,x2,x3,x4,x5,x6,xl⟩:=X1.out.seven
  go_wp2_with fail
  refine (HD1.out _).mono ?_
  rintro e w2 ⟨rfl,hb2⟩
  go_wp2_with fail
  refine (HD2.out _).mono ?_
  rintro e w3 ⟨rfl,hb3⟩
  go_wp2
  go_ret
  exact ⟨rfl,then_ (then_ (via hb1) hb2) hb3⟩
 have hd4:decide ((db:Int)≤100)=true:=decide_eq_true (by omega)
 obtain rfl:fb=true:=by rw [HZ.out];exact decide_eq_true ⟨rfl,rfl,e3,e4⟩
 clear HZ
 go_enter Tryz.func156,Tryz.ntmps156
 go_wp2_with fail
 refine (HR.out _).mono ?_
 rintro e w1 ⟨rfl,hb1⟩
 have X1:=Lib.hid (BlkIs.via hb1)
 obtain ⟨x0,x1,x2,x3,x4,x5,x6,xl⟩:=X1.out.seven
 go_wp2_with fail
 refine (HD1.out _).mono ?_
 rintro e w2 ⟨rfl,hb2⟩
 go_wp2_with fail
 refine (HD2.out _).mono ?_
 rintro e w3 ⟨rfl,hb3⟩
 go_wp2
 go_ret
 exact ⟨rfl,then_ (then_ (via hb1) hb2) hb3⟩
set_option maxHeartbeats 4000000 in
set_option maxRecDepth 100000 in
theorem rFormed_sym (xn xd xp xs xt:List UInt8) (xl:List Ob) (A:Option Addr) (n c:Nat) (w:World) (hlen:xl.length=n) (hn:n≤9223372036854775807) (h1:xp.length≤9223372036854775807) (h2:xs.length≤9223372036854775807) :
  Calls Tryz.prog 156 #[objV ⟨2,xn,xd,xp,xs,xt,xl⟩ (.slice A n c)] w (RetBel (.bool (Ob.formB ⟨2,xn,xd,xp,xs,xt,xl⟩)) w):=by
 have HS:Hid (∀ w':World,Calls Tryz.prog 202 #[.agg #[str xp,str xs]] w' (RetBel (.bool (symOk ⟨xp,xs⟩)) w')):=fun w'=>ref2Named_any ⟨xp,xs⟩ w' h1 h2
 obtain ⟨fb,hfb⟩:∃ fb,fb=Ob.formB ⟨2,xn,xd,xp,xs,xt,xl⟩:=⟨_,rfl⟩
 rw [← hfb]
 have HF:Hid (Ob.formB ⟨2,xn,xd,xp,xs,xt,xl⟩=fb):=hfb.symm
 clear hfb h1 h2
 cases hb:symOk ⟨xp,xs⟩ with
 | false =>
  obtain rfl:fb=false:=by rw [← HF.out,Ob.formB_eq];simp [hb]
  rw [hb] at HS
  clear HF hlen hb
  by_cases hxp:xp=[]
  ·subst hxp
   by_cases hxs:xs=[]
   ·subst hxs
    go_enter Tryz.func156,Tryz.ntmps156
    go_wp2_with fail
    refine (HS.out _).mono ?_
    rintro e w1 ⟨rfl,hb1⟩
    go_wp2
    go_ret
    exact ⟨rfl,via hb1⟩
   ·have hz':(xs == [])=false:=by rw [beq_eq_false_iff_ne];exact hxs
    clear hxs
    go_enter Tryz.func156,Tryz.ntmps156
    go_wp2_with fail
    refine (HS.out _).mono ?_
    rintro e w1 ⟨rfl,hb1⟩
    go_wp2
    go_ret
    exact ⟨rfl,via hb1⟩
  ·have hz':(xp == [])=false:=by rw [beq_eq_false_iff_ne];exact hxp
   clear hxp
   go_enter Tryz.func156,Tryz.ntmps156
   go_wp2_with fail
   refine (HS.out _).mono ?_
   rintro e w1 ⟨rfl,hb1⟩
   go_wp2
   go_ret
   exact ⟨rfl,via hb1⟩
 | true =>
 have HB:=Lib.hid hb
 rw [hb] at HS
 have hzp:(xp == [])=false:=by
  rw [beq_eq_false_iff_ne]
  intro e
  subst e
  have h3:symOk ⟨[],xs⟩=false:=by unfold symOk;rw [show pkgOk []=false by decide];rfl
  rw [h3] at hb
  cases hb
 clear hb
 by_cases hxn:xn=[]
 case neg =>
  obtain rfl:fb=false:=by rw [← HF.out,Ob.formB_eq];simp only [show ¬ ((2:Int)=4) by decide,show ¬ ((2:Int)=1) by decide,if_false,if_true];rw [Bool.eq_false_iff];intro h;simp only [Bool.and_eq_true,decide_eq_true_eq] at h;exact hxn (by simp [h])
  have hz:(xn == [])=false:=by rw [beq_eq_false_iff_ne];exact hxn
  clear HF hxn hlen
  go_enter Tryz.func156,Tryz.ntmps156
  go_wp2_with fail
  refine (HS.out _).mono ?_
  rintro e w1 ⟨rfl,hb1⟩
  have X1:=Lib.hid (BlkIs.via hb1)
  obtain ⟨x0,x1,x2,x3,x4,x5,x6,xl⟩:=X1.out.seven
  go_wp2
  go_ret
  exact ⟨rfl,via hb1⟩
 subst hxn
 by_cases hxd:xd=[]
 case neg =>
  obtain rfl:fb=false:=by rw [← HF.out,Ob.formB_eq];simp only [show ¬ ((2:Int)=4) by decide,show ¬ ((2:Int)=1) by decide,if_false,if_true];rw [Bool.eq_false_iff];intro h;simp only [Bool.and_eq_true,decide_eq_true_eq] at h;exact hxd (by simp [h])
  have hz:(xd == [])=false:=by rw [beq_eq_false_iff_ne];exact hxd
  clear HF hxd hlen
  go_enter Tryz.func156,Tryz.ntmps156
  go_wp2_with fail
  refine (HS.out _).mono ?_
  rintro e w1 ⟨rfl,hb1⟩
  have X1:=Lib.hid (BlkIs.via hb1)
  obtain ⟨x0,x1,x2,x3,x4,x5,x6,xl⟩:=X1.out.seven
  go_wp2
  go_ret
  exact ⟨rfl,via hb1⟩
 subst hxd
 by_cases hxt:xt=[]
 case neg =>
  obtain rfl:fb=false:=by rw [← HF.out,Ob.formB_eq];simp only [show ¬ ((2:Int)=4) by decide,show ¬ ((2:Int)=1) by decide,if_false,if_true];rw [Bool.eq_false_iff];intro h;simp only [Bool.and_eq_true,decide_eq_true_eq] at h;exact hxt (by simp [h])
  have hz:(xt == [])=false:=by rw [beq_eq_false_iff_ne];exact hxt
  clear HF hxt hlen
  go_enter Tryz.func156,Tryz.ntmps156
  go_wp2_with fail
  refine (HS.out _).mono ?_
  rintro e w1 ⟨rfl,hb1⟩
  have X1:=Lib.hid (BlkIs.via hb1)
  obtain ⟨x0,x1,x2,x3,x4,x5,x6,xl⟩:=X1.out.seven
  go_wp2
  go_ret
  exact ⟨rfl,via hb1⟩
 subst hxt
 by_cases hn0:n=0
 case neg =>
  obtain rfl:fb=false:=by rw [← HF.out,Ob.formB_eq];simp only [show ¬ ((2:Int)=4) by decide,show ¬ ((2:Int)=1) by decide,if_false,if_true];rw [Bool.eq_false_iff];intro h;simp only [Bool.and_eq_true,decide_eq_true_eq] at h;exact hn0 (by rw [← hlen];simp [h])
  have hz:((n:Int) == 0)=false:=by rw [beq_eq_false_iff_ne];omega
  clear HF hn0 hlen
  go_enter Tryz.func156,Tryz.ntmps156
  go_wp2_with fail
  refine (HS.out _).mono ?_
  rintro e w1 ⟨rfl,hb1⟩
  have X1:=Lib.hid (BlkIs.via hb1)
  obtain ⟨x0,x1,x2,x3,x4,x5,x6,xl⟩:=X1.out.seven
  go_wp2
  go_ret
  exact ⟨rfl,via hb1⟩
 subst hn0
 obtain rfl:fb=true:=by rw [← HF.out,Ob.formB_eq];simp [hlen,HB.out]
 clear HF hlen
 go_enter Tryz.func156,Tryz.ntmps156
 go_wp2_with fail
 refine (HS.out _).mono ?_
 rintro e w1 ⟨rfl,hb1⟩
 have X1:=Lib.hid (BlkIs.via hb1)
 obtain ⟨x0,x1,x2,x3,x4,x5,x6,xl⟩:=X1.out.seven
 go_wp2
 go_ret
 exact ⟨rfl,via hb1⟩
set_option maxHeartbeats 4000000 in
set_option maxRecDepth 100000 in
theorem rFormed_txt (xn xd xp xs xt:List UInt8) (xl:List Ob) (A:Option Addr) (n c:Nat) (w:World) (hlen:xl.length=n) (hn:n≤9223372036854775807) (h1:xt.length≤9223372036854775807) :
  Calls Tryz.prog 156 #[objV ⟨3,xn,xd,xp,xs,xt,xl⟩ (.slice A n c)] w (RetBel (.bool (Ob.formB ⟨3,xn,xd,xp,xs,xt,xl⟩)) w):=by
 obtain ⟨fb,hfb⟩:∃ fb,fb=Ob.formB ⟨3,xn,xd,xp,xs,xt,xl⟩:=⟨_,rfl⟩
 rw [← hfb]
 have HF:Hid (Ob.formB ⟨3,xn,xd,xp,xs,xt,xl⟩=fb):=hfb.symm
 clear hfb
 by_cases hxp:xp=[]
 case neg =>
  obtain rfl:fb=false:=by rw [← HF.out,Ob.formB_eq];simp only [show ¬ ((3:Int)=4) by decide,show ¬ ((3:Int)=1) by decide,show ¬ ((3:Int)=2) by decide,if_false,if_true];rw [Bool.eq_false_iff];intro h;simp only [decide_eq_true_eq] at h;exact hxp (by simp [h])
  have hz:(xp == [])=false:=by rw [beq_eq_false_iff_ne];exact hxp
  clear HF hxp hlen
  go_enter Tryz.func156,Tryz.ntmps156
  go_wp2
  go_ret
  exact ⟨rfl,box _ _⟩
 subst hxp
 by_cases hxs:xs=[]
 case neg =>
  obtain rfl:fb=false:=by rw [← HF.out,Ob.formB_eq];simp only [show ¬ ((3:Int)=4) by decide,show ¬ ((3:Int)=1) by decide,show ¬ ((3:Int)=2) by decide,if_false,if_true];rw [Bool.eq_false_iff];intro h;simp only [decide_eq_true_eq] at h;exact hxs (by simp [h])
  have hz:(xs == [])=false:=by rw [beq_eq_false_iff_ne];exact hxs
  clear HF hxs hlen
  go_enter Tryz.func156,Tryz.ntmps156
  go_wp2
  go_ret
  exact ⟨rfl,box _ _⟩
 subst hxs
 by_cases hxn:xn=[]
 case neg =>
  obtain rfl:fb=false:=by rw [← HF.out,Ob.formB_eq];simp only [show ¬ ((3:Int)=4) by decide,show ¬ ((3:Int)=1) by decide,show ¬ ((3:Int)=2) by decide,if_false,if_true];rw [Bool.eq_false_iff];intro h;simp only [decide_eq_true_eq] at h;exact hxn (by simp [h])
  have hz:(xn == [])=false:=by rw [beq_eq_false_iff_ne];exact hxn
  clear HF hxn hlen
  go_enter Tryz.func156,Tryz.ntmps156
  go_wp2
  go_ret
  exact ⟨rfl,box _ _⟩
 subst hxn
 by_cases hxd:xd=[]
 case neg =>
  obtain rfl:fb=false:=by rw [← HF.out,Ob.formB_eq];simp only [show ¬ ((3:Int)=4) by decide,show ¬ ((3:Int)=1) by decide,show ¬ ((3:Int)=2) by decide,if_false,if_true];rw [Bool.eq_false_iff];intro h;simp only [decide_eq_true_eq] at h;exact hxd (by simp [h])
  have hz:(xd == [])=false:=by rw [beq_eq_false_iff_ne];exact hxd
  clear HF hxd hlen
  go_enter Tryz.func156,Tryz.ntmps156
  go_wp2
  go_ret
  exact ⟨rfl,box _ _⟩
 subst hxd
 by_cases h200:xt.length≤200
 case neg =>
  obtain rfl:fb=false:=by rw [← HF.out,Ob.formB_eq];simp only [show ¬ ((3:Int)=4) by decide,show ¬ ((3:Int)=1) by decide,show ¬ ((3:Int)=2) by decide,if_false,if_true];rw [Bool.eq_false_iff];intro h;simp only [decide_eq_true_eq] at h;exact h200 (by simp [h])
  have hd2:decide ((xt.length:Int)≤200)=false:=decide_eq_false (by omega)
  clear HF hlen
  go_enter Tryz.func156,Tryz.ntmps156
  go_wp2
  go_ret
  exact ⟨rfl,box _ _⟩
 have hd2:decide ((xt.length:Int)≤200)=true:=decide_eq_true (by omega)
 by_cases hn0:n=0
 case neg =>
  obtain rfl:fb=false:=by rw [← HF.out,Ob.formB_eq];simp only [show ¬ ((3:Int)=4) by decide,show ¬ ((3:Int)=1) by decide,show ¬ ((3:Int)=2) by decide,if_false,if_true];rw [Bool.eq_false_iff];intro h;simp only [decide_eq_true_eq] at h;exact hn0 (by rw [← hlen];simp [h])
  have hz:((n:Int) == 0)=false:=by rw [beq_eq_false_iff_ne];omega
  clear HF hn0 hlen
  go_enter Tryz.func156,Tryz.ntmps156
  go_wp2
  go_ret
  exact ⟨rfl,box _ _⟩
 subst hn0
 obtain rfl:fb=true:=by rw [← HF.out,Ob.formB_eq];simp [hlen,h200]
 clear HF hlen
 go_enter Tryz.func156,Tryz.ntmps156
 go_wp2
 go_ret
 exact ⟨rfl,box _ _⟩
set_option maxHeartbeats 4000000 in
set_option maxRecDepth 100000 in
theorem rFormed_cons (ok:Nat→Prop) (xn xd xp xs xt:List UInt8) (xl:List Ob) (A:Option Addr) (n c:Nat) (w:World) (hP:Rd ok w (.slice A n c) (.row (xl.map Ob.enc))) (hn:n≤9223372036854775807)
  (H:∀ x∈xl,∀ (A:Option Addr) (n c:Nat) (w':World),Below w.heap.size w w'→Rd ok w (.slice A n c) (.row (x.pair.map Ob.enc))→Calls Tryz.prog 156 #[objV x (.slice A n c)] w' (RetBel (.bool x.formB) w')) :
  Calls Tryz.prog 156 #[objV ⟨4,xn,xd,xp,xs,xt,xl⟩ (.slice A n c)] w (RetBel (.bool (Ob.formB ⟨4,xn,xd,xp,xs,xt,xl⟩)) w):=by
 have hlen:xl.length=n:=by have:=hP.len;rwa [List.length_map] at this
 have HH:=Lib.hid H
 clear H
 obtain ⟨fb,hfb⟩:∃ fb,fb=Ob.formB ⟨4,xn,xd,xp,xs,xt,xl⟩:=⟨_,rfl⟩
 rw [← hfb]
 have HF:Hid (Ob.formB ⟨4,xn,xd,xp,xs,xt,xl⟩=fb):=hfb.symm
 clear hfb
 by_cases hxp:xp=[]
 case neg =>
  obtain rfl:fb=false:=by rw [← HF.out,Ob.formB_eq];simp only [if_true];rw [Bool.eq_false_iff];intro h;simp only [Bool.and_eq_true,decide_eq_true_eq] at h;exact hxp (by simp [h])
  have hz:(xp == [])=false:=by rw [beq_eq_false_iff_ne];exact hxp
  clear HF hxp hlen
  go_enter Tryz.func156,Tryz.ntmps156
  go_wp2
  go_ret
  exact ⟨rfl,box _ _⟩
 subst hxp
 by_cases hxs:xs=[]
 case neg =>
  obtain rfl:fb=false:=by rw [← HF.out,Ob.formB_eq];simp only [if_true];rw [Bool.eq_false_iff];intro h;simp only [Bool.and_eq_true,decide_eq_true_eq] at h;exact hxs (by simp [h])
  have hz:(xs == [])=false:=by rw [beq_eq_false_iff_ne];exact hxs
  clear HF hxs hlen
  go_enter Tryz.func156,Tryz.ntmps156
  go_wp2
  go_ret
  exact ⟨rfl,box _ _⟩
 subst hxs
 by_cases hxn:xn=[]
 case neg =>
  obtain rfl:fb=false:=by rw [← HF.out,Ob.formB_eq];simp only [if_true];rw [Bool.eq_false_iff];intro h;simp only [Bool.and_eq_true,decide_eq_true_eq] at h;exact hxn (by simp [h])
  have hz:(xn == [])=false:=by rw [beq_eq_false_iff_ne];exact hxn
  clear HF hxn hlen
  go_enter Tryz.func156,Tryz.ntmps156
  go_wp2
  go_ret
  exact ⟨rfl,box _ _⟩
 subst hxn
 by_cases hxd:xd=[]
 case neg =>
  obtain rfl:fb=false:=by rw [← HF.out,Ob.formB_eq];simp only [if_true];rw [Bool.eq_false_iff];intro h;simp only [Bool.and_eq_true,decide_eq_true_eq] at h;exact hxd (by simp [h])
  have hz:(xd == [])=false:=by rw [beq_eq_false_iff_ne];exact hxd
  clear HF hxd hlen
  go_enter Tryz.func156,Tryz.ntmps156
  go_wp2
  go_ret
  exact ⟨rfl,box _ _⟩
 subst hxd
 by_cases hxt:xt=[]
 case neg =>
  obtain rfl:fb=false:=by rw [← HF.out,Ob.formB_eq];simp only [if_true];rw [Bool.eq_false_iff];intro h;simp only [Bool.and_eq_true,decide_eq_true_eq] at h;exact hxt (by simp [h])
  have hz:(xt == [])=false:=by rw [beq_eq_false_iff_ne];exact hxt
  clear HF hxt hlen
  go_enter Tryz.func156,Tryz.ntmps156
  go_wp2
  go_ret
  exact ⟨rfl,box _ _⟩
 subst hxt
 by_cases hn0:n=2
 case neg =>
  obtain rfl:fb=false:=by rw [← HF.out,Ob.formB_eq];simp only [if_true];rw [Bool.eq_false_iff];intro h;simp only [Bool.and_eq_true,decide_eq_true_eq] at h;exact hn0 (by rw [← hlen];simp [h])
  have hz:((n:Int) == 2)=false:=by rw [beq_eq_false_iff_ne];omega
  clear HF hn0 hlen
  go_enter Tryz.func156,Tryz.ntmps156
  go_wp2
  go_ret
  exact ⟨rfl,box _ _⟩
 subst hn0
 obtain ⟨a,d,rfl⟩:=Ob.two_of_length hlen
 have HF2:Hid ((a.formB && d.formB)=fb):=by
  show _=fb
  rw [← HF.out,Ob.formB_eq,if_pos rfl]
  simp [Ob.allB]
 clear HF hlen
 have b0:=box w (.cells (obCells ⟨4,[],[],[],[],[],[a,d]⟩ (.slice A 2 c)) 37)
 obtain ⟨b,q,_,A3,n3,c3,rfl,hbl,_,a0,a1,a2,a3,a4,a5,a6,ha⟩:=hP.objs b0 (i:=0) (by omega)
 simp only [List.getElem_cons_zero,Nat.zero_mul,Nat.add_zero] at a0 a1 a2 a3 a4 a5 a6 ha
 have hbl':=Nat.lt_of_lt_of_le hbl b0.size
 have HC:Hid (∀ w':World,Below w.heap.size w w'→Calls Tryz.prog 156 #[objV a (.slice A3 n3 c3)] w' (RetBel (.bool a.formB) w')):=fun w' hb=>HH.out a (by simp) A3 n3 c3 w' hb ha
 have X0:=Lib.hid (BlkIs.new w 37 (obCells ⟨4,[],[],[],[],[],[a,d]⟩ (.slice (some ⟨b,q,none⟩) 2 c)))
 generalize a.formB=ba at *
 go_enter Tryz.func156,Tryz.ntmps156
 go_wp2_with fail
 refine (HC.out _ b0).mono ?_
 rintro e w1 ⟨rfl,hb1⟩
 have b1:=then_ b0 hb1
 have X1:=Lib.hid (X0.out.below hb1)
 clear a0 a1 a2 a3 a4 a5 a6 X0
 cases ba with
 | false =>
  obtain rfl:fb=false:=HF2.out.symm
  clear HF2
  go_wp2
  go_ret
  exact ⟨rfl,b1⟩
 | true =>
  obtain ⟨y0,y1,y2,y3,y4,y5,y6,yl⟩:=X1.out.seven
  obtain ⟨b',q',_,A4,n4,c4,eA,_,_,d0,d1,d2,d3,d4,d5,d6,hd⟩:=hP.objs b1 (i:=1) (by omega)
  injection eA with eA
  injection eA with eb eq
  subst eb eq
  simp only [List.getElem_cons_zero,List.getElem_cons_succ,Nat.one_mul] at d0 d1 d2 d3 d4 d5 d6 hd
  have hbl2:=Nat.lt_of_lt_of_le hbl b1.size
  have HC2:=Lib.hid (HH.out d (by simp) A4 n4 c4 w1 b1 hd)
  obtain rfl:fb=d.formB:=HF2.out.symm
  generalize d.formB=bd at *
  clear HF2
  go_wp2_with fail
  refine HC2.out.mono ?_
  rintro e w2 ⟨rfl,hb2⟩
  go_wp2
  go_ret
  exact ⟨rfl,then_ b1 hb2⟩
set_option maxHeartbeats 4000000 in
theorem rFormed_else (k:Int) (xn xd xp xs xt:List UInt8) (xl:List Ob) (A:Option Addr) (n c:Nat) (w:World) (h1:k≠1) (h2:k≠2) (h3:k≠3) (h4:k≠4) :
  Calls Tryz.prog 156 #[objV ⟨k,xn,xd,xp,xs,xt,xl⟩ (.slice A n c)] w (RetBel (.bool (Ob.formB ⟨k,xn,xd,xp,xs,xt,xl⟩)) w):=by
 rw [Ob.formB_eq,if_neg h4,if_neg h1,if_neg h2,if_neg h3]
 have e1:(k == 1)=false:=by rw [beq_eq_false_iff_ne];exact h1
 have e2:(k == 2)=false:=by rw [beq_eq_false_iff_ne];exact h2
 have e3:(k == 3)=false:=by rw [beq_eq_false_iff_ne];exact h3
 have e4:(k == 4)=false:=by rw [beq_eq_false_iff_ne];exact h4
 clear h1 h2 h3 h4
 by_cases hxp:xp=[]
 ·subst hxp
  by_cases hxs:xs=[]
  ·subst hxs
   go_enter Tryz.func156,Tryz.ntmps156
   go_wp2
   go_ret
   exact ⟨rfl,box _ _⟩
  ·have hz':(xs == [])=false:=by rw [beq_eq_false_iff_ne];exact hxs
   clear hxs
   go_enter Tryz.func156,Tryz.ntmps156
   go_wp2
   go_ret
   exact ⟨rfl,box _ _⟩
 ·have hz':(xp == [])=false:=by rw [beq_eq_false_iff_ne];exact hxp
  clear hxp
  go_enter Tryz.func156,Tryz.ntmps156
  go_wp2
  go_ret
  exact ⟨rfl,box _ _⟩
theorem rFormed_any (ok:Nat→Prop) (o:Ob):o.Wf→o.Sm→∀ (A:Option Addr) (n c:Nat) (w:World),Rd ok w (.slice A n c) (.row (o.pair.map Ob.enc)) →
  Calls Tryz.prog 156 #[objV o (.slice A n c)] w (RetBel (.bool o.formB) w):=by
 induction o using Ob.ind with
 | step o ih =>
  intro hW hS A n c w hP
  have hlen:o.pair.length=n:=by have:=hP.len;rwa [List.length_map] at this
  have hn:n≤9223372036854775807:=by rw [← hlen];exact hW.len
  obtain ⟨k,xn,xd,xp,xs,xt,xl⟩:=o
  by_cases h4:k=4
  ·subst h4
   exact rFormed_cons ok xn xd xp xs xt xl A n c w hP hn (fun x hx A n c w' hb h=>ih x hx (hW.kids hx) (hS.kids hx) A n c w' (h.under hb))
  by_cases h1:k=1
  ·subst h1
   exact rFormed_num xn xd xp xs xt xl A n c w hlen hn hS.len.1 hS.len.2
  by_cases h2:k=2
  ·subst h2
   exact rFormed_sym xn xd xp xs xt xl A n c w hlen hn (by cases hW;assumption) (by cases hW;assumption)
  by_cases h3:k=3
  ·subst h3
   exact rFormed_txt xn xd xp xs xt xl A n c w hlen hn (by cases hW;assumption)
  exact rFormed_else k xn xd xp xs xt xl A n c w h1 h2 h3 h4
set_option maxHeartbeats 1000000 in
theorem rValid_any (ok:Nat→Prop) (o:Ob) (hW:o.Wf) (hS:o.Sm) (A:Option Addr) (n c:Nat) (w:World) (hP:Rd ok w (.slice A n c) (.row (o.pair.map Ob.enc))) :
  Calls Tryz.prog 118 #[objV o (.slice A n c)] w (RetBel (.bool o.validB) w):=by
 have HN:Hid (∀ w':World,Below w.heap.size w w'→Calls Tryz.prog 101 #[objV o (.slice A n c)] w' (RetBel (.int .i64 (nodesP o)) w')):=fun w' hb=>rNodes_any ok o hW A n c w' (hP.under hb)
 have HF:Hid (∀ w':World,Below w.heap.size w w'→Calls Tryz.prog 156 #[objV o (.slice A n c)] w' (RetBel (.bool o.formB) w')):=fun w' hb=>rFormed_any ok o hW hS A n c w' (hP.under hb)
 unfold Ob.validB
 by_cases hk:o.nodes≤3000
 ·have hk':nodesP o≤3000:=by unfold nodesP;split <;> omega
  rw [decide_eq_true hk,Bool.true_and]
  generalize o.formB=fb at *
  generalize nodesP o=z at *
  clear hk
  go_enter Tryz.func118,Tryz.ntmps118
  go_wp2_with fail
  refine (HN.out _ (box _ _)).mono ?_
  rintro e w1 ⟨rfl,hb1⟩
  have X1:=Lib.hid (BlkIs.via hb1)
  obtain ⟨y0,y1,y2,y3,y4,y5,y6,yl⟩:=X1.out.seven
  go_wp2_with fail
  refine (HF.out _ (via hb1)).mono ?_
  rintro e w2 ⟨rfl,hb2⟩
  go_wp2
  go_ret
  exact ⟨rfl,then_ (via hb1) hb2⟩
 ·have hk':¬ nodesP o≤3000:=by unfold nodesP;split <;> omega
  rw [decide_eq_false hk,Bool.false_and]
  generalize nodesP o=z at *
  clear hk
  go_enter Tryz.func118,Tryz.ntmps118
  go_wp2_with fail
  refine (HN.out _ (box _ _)).mono ?_
  rintro e w1 ⟨rfl,hb1⟩
  go_wp2
  go_ret
  exact ⟨rfl,via hb1⟩
end Go.Proofs.YthhknjlmjefklaaGreatDoor
namespace Go.Proofs.YthhknjlmjefklaaGreatDoor
open Go.RowKit
abbrev userB:List UInt8:=[117,115,101,114]
def symNames:List (List UInt8):=[[97],[98],[102,111,111],[111,100,100,32,110,97,109,101],[49],[120,124,121],[46],[45,50,47,51],[35]]
def symTab:List (List UInt8×List UInt8):=symNames.map (fun s=>(userB,s))++[(lispB,nilB),(lispB,[116]),(lispB,[99,97,114]),(lispB,[113,117,111,116,101])]
def symP (n:Int):List UInt8×List UInt8:=symTab.getD (n % 13).toNat (userB,[])
def zeroT:Tr:=.num ((-1000:Int):Rat)
def mkK (k n:Int) (s:List UInt8) (l:List Tr):Tr :=
 if k % 8=0∨k % 8=1 then .num ((n % 2001 - 1000:Int):Rat)
 else if k % 8=2 then .num (Rat.divInt (n % 41 - 20) (1+s.length))
 else if k % 8=3 then .sym (symP n).1 (symP n).2
 else if k % 8=4 then .txt s
 else if k % 8=5 then .cons (l.getD 0 zeroT) (l.getD 1 zeroT)
 else Tr.list l
mutual
def mkT:Raw→Tr
 | ⟨k,n,s,l⟩=>mkK k n s (mkL l)
def mkL:List Raw→List Tr
 | []=>[]
 | r::t=>mkT r::mkL t
end
theorem mkL_map (l:List Raw):mkL l=l.map mkT:=by
 induction l with
 | nil=>rfl
 | cons r t ih=>rw [mkL,ih];rfl
theorem mkT_eq (r:Raw):mkT r=mkK r.kind r.n r.s (r.l.map mkT):=by
 obtain ⟨k,n,s,l⟩:=r
 rw [mkT,mkL_map]
inductive Fit:Raw→Prop
 | mk (o:Raw) (hs:o.s.length≤12) (hl:o.l.length≤6) (h:∀ x∈o.l,Fit x):Fit o
theorem Fit.s {r:Raw} (h:Fit r):r.s.length≤12:=by cases h;assumption
theorem Fit.l {r:Raw} (h:Fit r):r.l.length≤6:=by cases h;assumption
theorem Fit.kids {r x:Raw} (h:Fit r) (hx:x∈r.l):Fit x:=by
 cases h with
 | mk _ _ _ h=>exact h x hx
theorem rb_small {n d:Int} (hn:n.natAbs < 10 ^ 4) (hd:d.natAbs < 10 ^ 4):Rb 4 (Rat.divInt n d):=Rb.mk' (by decide) hn hd
theorem rb_int {n:Int} (hn:n.natAbs < 10 ^ 4):Rb 4 (n:Rat):=⟨by rw [Rat.num_intCast];exact hn,by rw [Rat.den_intCast];decide,by decide⟩
theorem list_size:∀ l:List Tr,(Tr.list l).size=(l.map Tr.size).sum+l.length+1
 | []=>rfl
 | a::r=>by
  show a.size+(Tr.list r).size+1=_
  rw [list_size r]
  simp only [List.map_cons,List.sum_cons,List.length_cons]
  omega
theorem sum_le:∀ l:List Raw,(∀ x∈l,(mkT x).size+1≤4 * x.size)→((l.map mkT).map Tr.size).sum+l.length≤4 * Raw.sizeL l
 | [],_=>by simp [Raw.sizeL]
 | a::r,h=>by
  have h1:=h a (List.mem_cons_self ..)
  have h2:=sum_le r fun x hx=>h x (List.mem_cons_of_mem _ hx)
  simp only [List.map_cons,List.sum_cons,List.length_cons,Raw.sizeL]
  omega
theorem mkT_size (r:Raw):(mkT r).size+1≤4 * r.size:=by
 induction r using Raw.ind with
 | step r ih =>
  have hs:=sum_le r.l ih
  have hr:r.size=Raw.sizeL r.l+1:=by obtain ⟨k,n,s,l⟩:=r;rfl
  rw [mkT_eq]
  unfold mkK
  split
  ·show 1+1≤_;omega
  ·split
   ·show 1+1≤_;omega
   ·split
    ·show 1+1≤_;omega
    ·split
     ·show 1+1≤_;omega
     ·split
      ·show ((r.l.map mkT).getD 0 zeroT).size+((r.l.map mkT).getD 1 zeroT).size+1+1≤_
       have hz:zeroT.size=1:=rfl
       match hrl:r.l with
       | []=>simp only [List.map_nil,List.getD_nil,hz];omega
       | [a] =>
        rw [hrl] at hs
        simp only [List.map_cons,List.map_nil,List.sum_cons,List.sum_nil,List.length_cons,List.length_nil] at hs
        simp only [List.map_cons,List.map_nil,List.getD_cons_zero,List.getD_cons_succ,List.getD_nil,hz]
        rw [hrl] at hr
        omega
       | a::b::t =>
        rw [hrl] at hs
        simp only [List.map_cons,List.sum_cons,List.length_cons] at hs
        simp only [List.map_cons,List.getD_cons_zero,List.getD_cons_succ]
        rw [hrl] at hr
        omega
      ·rw [list_size,List.length_map]
       omega
end Go.Proofs.YthhknjlmjefklaaGreatDoor
namespace Go.Proofs.YthhknjlmjefklaaGreatDoor
open Go.RowKit
theorem tmod_neg {n m:Int} (hm:0 < m) (h:n.tmod m < 0):n % m=n.tmod m+m:=by
 have h1:=Int.tmod_eq_emod (a:=n) (b:=m)
 have h2:=Int.emod_nonneg n (by omega:m≠0)
 have h3:=Int.emod_lt_of_pos n hm
 split at h1 <;> omega
theorem tmod_pos {n m:Int} (hm:0 < m) (h:¬ n.tmod m < 0):n % m=n.tmod m:=by
 have h1:=Int.tmod_eq_emod (a:=n) (b:=m)
 have h2:=Int.emod_nonneg n (by omega:m≠0)
 have h3:=Int.emod_lt_of_pos n hm
 split at h1 <;> omega
set_option maxHeartbeats 400000 in
theorem mod_any (n m:Int) (w:World) (hm:0 < m) (hm1:m≤1000000):Calls Tryz.prog 9 #[.int .i64 n,.int .i64 m] w (RetPureV (.int .i64 (n % m)) w):=by
 have hne:¬ m=0:=by omega
 have hb:(m == 0)=false:=by rw [beq_eq_false_iff_ne];omega
 have hb':(m == -1)=false:=by rw [beq_eq_false_iff_ne];omega
 have hlt:n.tmod m < m:=Int.tmod_lt_of_pos n hm
 have hgt:-m < n.tmod m:=by
  have h2:=Int.tmod_eq_emod (a:=n) (b:=m)
  have h3:=Int.emod_nonneg n hne
  have h4:=Int.emod_lt_of_pos n hm
  split at h2 <;> omega
 by_cases hn:n.tmod m < 0
 ·rw [tmod_neg hm hn]
  go_enter Tryz.func9,Tryz.ntmps9
  go_wp2
  go_ret
  exact ⟨by go_num,rfl⟩
 ·rw [tmod_pos hm hn]
  go_enter Tryz.func9,Tryz.ntmps9
  go_wp2
  go_ret
  exact ⟨by go_num,rfl⟩
end Go.Proofs.YthhknjlmjefklaaGreatDoor
namespace Go.Proofs.YthhknjlmjefklaaGreatDoor
open Go.RowKit
namespace Tr
instance:DecidableEq Tr:=fun a b=>decidable_of_iff (cmp a b=0) (cmp_zero a b)
def good:Tr→Bool
 | .num q=>decide (dg (Lib.itoa q.num)≤100∧dg (Lib.itoa (q.den:Int))≤100)
 | .txt t=>decide (t.length≤200)
 | .sym p s=>symOk ⟨p,s⟩
 | .cons a d=>good a && good d
theorem formB_ob:∀ t:Tr,t.ob.formB=t.good
 | .num q=>by
  show Ob.formB ⟨1,Lib.itoa q.num,Lib.itoa (q.den:Int),[],[],[],[]⟩=_
  rw [Ob.formB_eq]
  have h1:rdN q.num (q.den:Int)=q.num:=by rw [(rd_rat _ _).1,Rat.num_divInt_den]
  have h2:rdD q.num (q.den:Int)=(q.den:Int):=by rw [(rd_rat _ _).2,Rat.num_divInt_den]
  have h3:lowB (Lib.itoa q.num) (Lib.itoa (q.den:Int))=decide (dg (Lib.itoa q.num)≤100∧dg (Lib.itoa (q.den:Int))≤100):=by
   unfold lowB
   rw [Dec.dval_itoa,Dec.dval_itoa,h1,h2]
   exact decide_eq_decide.2 ⟨fun h=>⟨h.2.2.1,h.2.2.2⟩,fun h=>⟨rfl,rfl,h.1,h.2⟩⟩
  rw [h3]
  simp [good]
 | .txt t=>by
  show Ob.formB ⟨3,[],[],[],[],t,[]⟩=_
  rw [Ob.formB_eq]
  simp [good]
 | .sym p s=>by
  show Ob.formB ⟨2,[],[],p,s,[],[]⟩=_
  rw [Ob.formB_eq]
  simp [good]
 | .cons a d=>by
  show Ob.formB ⟨4,[],[],[],[],[],[a.ob,d.ob]⟩=_
  rw [Ob.formB_eq,if_pos rfl]
  simp only [Ob.allB,formB_ob a,formB_ob d,good]
  simp
theorem nodes_ob:∀ t:Tr,t.ob.nodes=t.size
 | .num q=>rfl
 | .txt t=>rfl
 | .sym p s=>rfl
 | .cons a d=>by
  rw [Ob.nodes_two (o:=(Tr.cons a d).ob) (a:=a.ob) (d:=d.ob) rfl,nodes_ob a,nodes_ob d]
  rfl
def valid (t:Tr):Bool:=decide (t.size≤3000) && t.good
theorem validB_ob (t:Tr):t.ob.validB=t.valid:=by unfold Ob.validB valid;rw [nodes_ob,formB_ob]
theorem Ok.sm {k:Nat} (hk:k≤100000):∀ {t:Tr},t.Ok k→t.ob.Sm
 | .num q,h=>by
  have h1:=Rb.nlen h
  have h2:=Rb.dlen h
  exact .mk (ratO q) (by show (Lib.itoa q.num).length≤_;omega) (by show (Lib.itoa (q.den:Int)).length≤_;omega) (fun x hx=>by cases hx)
 | .txt t,_=>.mk (txtO t) (Nat.zero_le _) (Nat.zero_le _) (fun x hx=>by cases hx)
 | .sym p s,_=>.mk (symO p s) (Nat.zero_le _) (Nat.zero_le _) (fun x hx=>by cases hx)
 | .cons a d,h=>.mk (consO a.ob d.ob) (Nat.zero_le _) (Nat.zero_le _) (fun x hx=>by
   simp only [List.mem_cons,List.not_mem_nil,or_false] at hx
   rcases hx with rfl | rfl
   ·exact Ok.sm hk h.1
   ·exact Ok.sm hk h.2)
theorem good_ok:∀ {t:Tr},t.good=true→t.Ok 101
 | .num q,h=>by
  have h1:=of_decide_eq_true h
  have key:∀ z:Int,dg (Lib.itoa z)≤100→z.natAbs < 10 ^ 101:=fun z hz=>by
   have e:norm (Lib.itoa z)=Lib.itoa z:=by rw [norm_eq,Dec.dval_itoa]
   have h2:=norm_mag_len (Lib.itoa z)
   rw [e] at h2
   have h3:(Lib.itoa z).length≤101:=by
    have:(Dec.mag (norm (Lib.itoa z))).length≤100:=hz
    rw [e] at this
    omega
   have h4:=dval_lt18 h3
   rwa [Dec.dval_itoa] at h4
  have hd:=key (q.den:Int) h1.2
  rw [Int.natAbs_natCast] at hd
  exact ⟨key q.num h1.1,hd,by omega⟩
 | .txt t,h=>by
  have:=of_decide_eq_true h
  show t.length≤100000
  omega
 | .sym p s,h=>by
  have h':(pkgOk p && nameOk s)=true:=h
  simp only [pkgOk,nameOk,Bool.and_eq_true,decide_eq_true_eq] at h'
  exact ⟨by omega,by omega⟩
 | .cons a d,h=>by
  have h':(good a && good d)=true:=h
  rw [Bool.and_eq_true] at h'
  exact ⟨good_ok h'.1,good_ok h'.2⟩
theorem valid_iff {t:Tr}:valid t=true↔t.size≤3000∧t.good=true:=by
 unfold valid
 rw [Bool.and_eq_true,decide_eq_true_eq]
theorem valid_parts {a d:Tr} (h:valid (.cons a d)=true):valid a=true∧valid d=true:=by
 obtain ⟨h1,h2⟩:=valid_iff.1 h
 have h3:a.size+d.size+1≤3000:=h1
 have h4:(a.good && d.good)=true:=h2
 rw [Bool.and_eq_true] at h4
 have h5:=size_pos a
 have h6:=size_pos d
 exact ⟨valid_iff.2 ⟨by omega,h4.1⟩,valid_iff.2 ⟨by omega,h4.2⟩⟩
end Tr
end Go.Proofs.YthhknjlmjefklaaGreatDoor
namespace Go.Proofs.YthhknjlmjefklaaGreatDoor
open Go.RowKit Go.ChangeShapes Go.WideShapes Go.Deep Go.Joins
section
variable {H:Type} {enc:TypeId×Value→H} {w:World} {base:Nat} {spare:Nat→Bool} {held:Bool}
set_option maxRecDepth 100000 in
theorem open_raws {r:Reach} {b0:Nat} {v:Value} {d:DataW H} {p:List MemPlace} (hv:Value.okWide Tryz.prog w r b0 22 v) (h:DataW.Trod enc Tryz.prog w base spare held 22 v d p) :
  ∃ (l:List Raw) (A:Option Addr) (n c:Nat),v=.slice A n c∧(∀ s∈l,s.Wf)∧n≤9223372036854775807∧Rd (fun _=>True) w (.slice A n c) (.row (l.map Raw.enc)):=by
 obtain ⟨a,len,cap,rfl⟩:=okWide_slice Tryz.underlying22 hv
 obtain ⟨fuel,hf⟩:=h
 obtain ⟨A,n,c,l,e,hr,hn,hg⟩:=read_rows Raw.enc Raw.Wf 4 (by omega) Raw.enc_len Tryz.underlying22 cellsRaw hf (fun n'' _ cs' y hy=>read_raw n'' cs' y hy)
 simp only [Value.cells,List.cons.injEq,and_true] at e
 unfold maxLen at hn
 exact ⟨l,A,n,c,by simpa using e,hg,hn,hr⟩
end
end Go.Proofs.YthhknjlmjefklaaGreatDoor
namespace Go.Proofs.YthhknjlmjefklaaGreatDoor
open Go.ChangeShapes Go.WideShapes Go.ChangeAt Go.RowKit
theorem own:ownKnob Tryz.prog.godebug=none:=by kernel_rfl
noncomputable def low:Nat:=(World.holding Tryz.prog default ⟨#[],#[],[]⟩).heap.size
def cellsOfTab (k:IntKind) (zs:List Int):Array Value:=(zs.map fun z=>Value.int k z).toArray
def put (h:Array Obj) (g:Nat) (cs:Array Value):Array Obj:=h.modify g fun
 | .cells _ t frozen=>.cells cs t frozen
 | o=>o
noncomputable def laidWorld (os:Os):World :=
 let w0:=World.holding Tryz.prog os ⟨#[.cells #[.string ⟨#[118,97,108,117,101,32,111,117,116,32,111,102,32,114,97,110,103,101]⟩] 306,.cells #[.string ⟨#[105,110,118,97,108,105,100,32,115,121,110,116,97,120]⟩] 306],#[],[]⟩
 let h1:=put w0.heap 0 (cellsOfTab .u64 Lib.pow10Tab)
 let h2:=put h1 1 (cellsOfTab .u8 [0,1,28,2,29,14,24,3,30,22,20,15,25,17,4,8,31,27,13,23,21,19,16,7,26,12,18,6,11,5,10,9])
 let h3:=put h2 2 (cellsOfTab .u8 [0,1,56,2,57,49,28,3,61,58,42,50,38,29,17,4,62,47,59,36,45,43,51,22,53,39,33,30,24,18,12,5,63,55,48,27,60,41,37,16,46,35,44,21,52,32,23,11,54,26,40,15,34,20,31,10,25,14,19,9,13,8,7,6])
 let h4:=put h3 4 #[.iface 304 (.pointer (some ⟨low,0,none⟩))]
 let h5:=put h4 3 #[.iface 304 (.pointer (some ⟨low+1,0,none⟩))]
 { w0 with heap:=h5 }
end Go.Proofs.YthhknjlmjefklaaGreatDoor
namespace Go.Proofs.YthhknjlmjefklaaGreatDoor
open Go.ChangeShapes Go.WideShapes Go.ChangeAt Go.RowKit
theorem gPow:Tryz.prog.globalNamed "internal/strconv.uint64pow10" = some 0:=by kernel_rfl
theorem gPowType:(Tryz.prog.globals[0]?).map (·.type)=some 253:=by kernel_rfl
theorem cellsPow:Tryz.prog.cellsOf 253=20:=by kernel_rfl
theorem cellsU64:Tryz.prog.cellsOf 68=1:=by kernel_rfl
theorem pow_data:(Rows.laid_internal_strconv_uint64pow10:DataW Unit)=Lib.tabData .u64 Lib.pow10Tab:=by kernel_rfl
theorem table {W:World} {l:List (String×DataW Unit)} (hl:l.filter (fun x=>x.1 == "internal/strconv.uint64pow10")=[("internal/strconv.uint64pow10", Rows.laid_internal_strconv_uint64pow10)]) (h:laidMet Tryz.prog l W):Tab W:=by
 have h1:=h.filter (fun x=>x.1 == "internal/strconv.uint64pow10")
 rw [hl,pow_data] at h1
 exact Lib.tabIs_of_head (rest:=[]) gPow gPowType Tryz.underlying253 Tryz.underlying68 cellsU64 cellsPow h1
end Go.Proofs.YthhknjlmjefklaaGreatDoor
namespace Go.Proofs.YthhknjlmjefklaaGreatDoor
open Go.RowKit
section
variable {P:Program} {ops:Array Oper} {Q:Exit→Act→World→Prop}
end
section
variable {P:Program} {ops:Array Oper} {Q:Exit→Act→World→Prop} {k:Nat} {iL iC iA iS sl sc sx:Nat→Nat} {ds:List Nat} {base:Act} {w0:World} {T:TypeId} {vl:Nat→Value} {z:Array Value}
 {G:Nat→(Nat→Prop)→World→Value→Prop} {St:World→Nat→Value→World} {C:Value→Array Value}
abbrev ptr (g:Nat):Value:=.pointer (some ⟨g,0,none⟩)
theorem getD_upd {listed:Array Bool} {i j:Nat} (h:(listed.setIfInBounds i true).getD j false=true):j=i∨listed.getD j false=true:=by
 by_cases e:i=j
 ·exact .inl e.symm
 ·rw [Go.getD_set_ne false e] at h;exact .inr h
end
end Go.Proofs.YthhknjlmjefklaaGreatDoor
namespace Go.Proofs.YthhknjlmjefklaaGreatDoor
open Go.RowKit
inductive AV where
 | dt (d:Dt)
 | nil
 | ful (es:List (List Dt))
 | own (b n:Nat)
 | sl (b n:Nat)
 | mapp (b:Nat)
 | ptr (b off:Nat)
 | rptr (b i k:Nat)
 | gl (g off:Nat)
 | pin (cs:List AV)
 | agg (cs:List AV)
 | tup (cs:List AV)
 | clo (f:FuncId) (cs:List AV)
 | clf (f:FuncId) (cs:List AV)
 | un
namespace AV
abbrev v (x:Value):AV:=.dt (.val x)
def one:AV→Bool
 | .dt d=>d.one
 | .agg _=>false
 | .tup _=>false
 | .un=>false
 | _=>true
def cells:AV→List AV
 | .agg cs=>cs
 | x=>[x]
end AV
structure Mm where
 m:Nat→Option Nat
 F:Nat→Prop
 o:Nat→Option (Option Addr×Nat×Nat)
abbrev M0 (F:Nat→Prop):Mm:=⟨fun _=>none,F,fun _=>none⟩
mutual
def RV:Mm→World→AV→Value→Prop
 | M,w,.dt d,v=>Rd M.F w v d
 | _,_,.nil,v=>v=.slice none 0 0
 | M,w,.ful es,v=>∃ A,v=.slice A es.length es.length∧Rd M.F w v (.row es)
 | M,_,.own b n,v=>∃ A c A' n' c',v=.slice A n c∧M.o b=some (A',n',c')∧n≤n'∧(n=n'→A=A'∧c=c')
 | M,_,.sl b n,v=>∃ g,M.m b=some g∧v=.slice (some ⟨g,0,none⟩) n n
 | M,_,.mapp b,v=>∃ g,M.m b=some g∧v=.map (some g)
 | M,_,.ptr b off,v=>∃ g,M.m b=some g∧v=.pointer (some ⟨g,off,none⟩)
 | M,_,.rptr b i k,v=>∃ g,M.m b=some g∧v=.pointer (some ⟨g,i * k,none⟩)
 | _,_,.gl g off,v=>v=.pointer (some ⟨g,off,none⟩)
 | M,w,.pin cs,v=>∃ g o vs,v=.pointer (some ⟨g,o,none⟩)∧M.F g∧g < w.heap.size∧(∀ (j:Nat) u,vs[j]?=some u→w.cell? ⟨g,o+j,none⟩=some u)∧RL (M0 M.F) w cs vs
 | M,w,.agg cs,v=>∃ vs,v=.agg vs.toArray∧RL M w cs vs
 | M,w,.tup cs,v=>∃ vs,v=.tuple vs.toArray∧RL M w cs vs
 | M,w,.clo f cs,v=>∃ vs,v=.func (.func f) #[] vs.toArray∧RL M w cs vs
 | M,w,.clf f cs,v=>∃ vs,v=.func (.func f) #[] vs.toArray∧RL (M0 M.F) w cs vs
 | _,_,.un,_=>True
def RL:Mm→World→List AV→List Value→Prop
 | _,_,[],vs=>vs=[]
 | M,w,c::cs,vs=>∃ u us,vs=u::us∧RV M w c u∧RL M w cs us
end
structure Bel (X:Nat→Prop) (B:Nat) (w w':World):Prop where
 os:w'.os=w.os
 tape:w'.tape=w.tape
 output:w'.output=w.output
 size:w.heap.size≤w'.heap.size
 block:∀ k,k < B→¬ X k→w'.heap[k]?=w.heap[k]?
theorem Bel.refl (X:Nat→Prop) (B:Nat) (w:World):Bel X B w w:=⟨rfl,rfl,rfl,Nat.le_refl _,fun _ _ _=>rfl⟩
theorem Bel.trans {X:Nat→Prop} {B:Nat} {a b c:World} (h:Bel X B a b) (k:Bel X B b c):Bel X B a c :=
 ⟨k.os.trans h.os,k.tape.trans h.tape,k.output.trans h.output,Nat.le_trans h.size k.size,fun i hi hx=>(k.block i hi hx).trans (h.block i hi hx)⟩
theorem Bel.of {X:Nat→Prop} {B:Nat} {w w':World} (h:Below B w w'):Bel X B w w':=⟨h.os,h.tape,h.output,h.size,fun k hk _=>h.block k hk⟩
theorem Bel.below {B:Nat} {w w':World} (h:Bel (fun _=>False) B w w'):Below B w w':=⟨h.os,h.tape,h.output,h.size,fun k hk=>h.block k hk id⟩
theorem Bel.mono {X X':Nat→Prop} {B B':Nat} {w w':World} (h:Bel X B w w') (hB:B'≤B) (hX:∀ k,k < B'→X k→X' k):Bel X' B' w w' :=
 ⟨h.os,h.tape,h.output,h.size,fun k hk hx=>h.block k (by omega) fun hk'=>hx (hX k hk hk')⟩
structure Go1 (X:Nat→Prop) (n0:Nat) (M:Mm) (w:World) (M':Mm) (w':World):Prop where
 below:Bel X n0 w w'
 keep:∀ b,M.F b→b < w.heap.size→w'.heap[b]?=w.heap[b]?
 F:∀ b,M.F b→b < w.heap.size→M'.F b
 m:∀ k g,M.m k=some g→M'.m k=some g
 o:∀ b A n c,M.o b=some (A,n,c)→∃ A' n' c',M'.o b=some (A',n',c')∧n≤n'∧(n=n'→A'=A∧c'=c)
theorem same_o {M M':Mm} {b:Nat} (h:M'.o b=M.o b):∀ A n c,M.o b=some (A,n,c)→∃ A' n' c',M'.o b=some (A',n',c')∧n≤n'∧(n=n'→A'=A∧c'=c) :=
 fun A n c e=>⟨A,n,c,h.trans e,Nat.le_refl _,fun _=>⟨rfl,rfl⟩⟩
theorem Go1.refl (X:Nat→Prop) (n0:Nat) (M:Mm) (w:World):Go1 X n0 M w M w:=⟨Bel.refl _ _ _,fun _ _ _=>rfl,fun _ h _=>h,fun _ _ h=>h,fun _=>same_o rfl⟩
theorem cell_eq {w w':World} {a:Addr} (h:w'.heap[a.block]?=w.heap[a.block]?):w'.cell? a=w.cell? a:=by
 unfold World.cell?
 rw [h]
theorem Go1.trans {X:Nat→Prop} {n0:Nat} {M M' M2:Mm} {w w' w2:World} (g:Go1 X n0 M w M' w') (h:Go1 X n0 M' w' M2 w2):Go1 X n0 M w M2 w2 :=
 ⟨g.below.trans h.below,fun b hb hl=>(h.keep b (g.F b hb hl) (Nat.lt_of_lt_of_le hl g.below.size)).trans (g.keep b hb hl),fun b hb hl=>h.F b (g.F b hb hl) (Nat.lt_of_lt_of_le hl g.below.size),fun k q hq=>h.m k q (g.m k q hq),fun b A n c e=>by
  obtain ⟨A1,n1,c1,e1,l1,h1⟩:=g.o b A n c e
  obtain ⟨A2,n2,c2,e2,l2,h2⟩:=h.o b A1 n1 c1 e1
  refine ⟨A2,n2,c2,e2,Nat.le_trans l1 l2,fun e3=>?_⟩
  obtain ⟨rfl,rfl⟩:=h1 (by omega)
  obtain ⟨rfl,rfl⟩:=h2 (by omega)
  exact ⟨rfl,rfl⟩⟩
theorem Go1.flat {X:Nat→Prop} {n0:Nat} {M M':Mm} {w w':World} (g:Go1 X n0 M w M' w'):Go1 X n0 (M0 M.F) w (M0 M'.F) w':=⟨g.below,g.keep,g.F,(fun _ _ h=>by cases h),(fun _ _ _ _ h=>by cases h)⟩
theorem Rd.go {X:Nat→Prop} {n0:Nat} {M M':Mm} {w w':World} {v:Value} {d:Dt} (g:Go1 X n0 M w M' w') (h:Rd M.F w v d):Rd M'.F w' v d :=
 (h.mono (ok':=fun b=>M.F b∧M'.F b) fun b hb hl=>⟨hb,g.F b hb hl⟩).keep g.below.size (fun b hb hl=>g.keep b hb.1 hl) |>.mono fun _ h _=>h.2
mutual
theorem RV.go {X:Nat→Prop} {n0:Nat} {w w':World}:∀ {M M':Mm},Go1 X n0 M w M' w'→∀ (a:AV) (v:Value),RV M w a v→RV M' w' a v
 | _,_,g,.dt d,v,h=>Rd.go g h
 | _,_,_,.nil,v,h=>h
 | _,_,g,.ful es,v,⟨A,h1,h2⟩=>⟨A,h1,Rd.go g h2⟩
 | _,_,g,.own b n,v,⟨A,c,A',n',c',h1,h2,h3,h4⟩=>by
  obtain ⟨A2,n2,c2,e1,e2,e3⟩:=g.o b A' n' c' h2
  refine ⟨A,c,A2,n2,c2,h1,e1,Nat.le_trans h3 e2,fun e=>?_⟩
  have hn:n=n':=by omega
  obtain ⟨rfl,rfl⟩:=h4 hn
  obtain ⟨rfl,rfl⟩:=e3 (by omega)
  exact ⟨rfl,rfl⟩
 | _,_,g,.sl b n,v,⟨x,h1,h2⟩=>⟨x,g.m _ _ h1,h2⟩
 | _,_,g,.mapp b,v,⟨x,h1,h2⟩=>⟨x,g.m _ _ h1,h2⟩
 | _,_,g,.ptr b off,v,⟨x,h1,h2⟩=>⟨x,g.m _ _ h1,h2⟩
 | _,_,g,.rptr b i k,v,⟨x,h1,h2⟩=>⟨x,g.m _ _ h1,h2⟩
 | _,_,_,.gl _ _,v,h=>h
 | _,_,g,.pin cs,v,⟨x,o,vs,h1,h2,h3,h4,h5⟩=>⟨x,o,vs,h1,g.F _ h2 h3,Nat.lt_of_lt_of_le h3 g.below.size,fun j u hj=>(cell_eq (g.keep x h2 h3)).trans (h4 j u hj),RL.go g.flat cs vs h5⟩
 | _,_,g,.agg cs,v,⟨vs,h1,h2⟩=>⟨vs,h1,RL.go g cs vs h2⟩
 | _,_,g,.tup cs,v,⟨vs,h1,h2⟩=>⟨vs,h1,RL.go g cs vs h2⟩
 | _,_,g,.clo f cs,v,⟨vs,h1,h2⟩=>⟨vs,h1,RL.go g cs vs h2⟩
 | _,_,g,.clf f cs,v,⟨vs,h1,h2⟩=>⟨vs,h1,RL.go g.flat cs vs h2⟩
 | _,_,_,.un,_,_=>trivial
theorem RL.go {X:Nat→Prop} {n0:Nat} {w w':World}:∀ {M M':Mm},Go1 X n0 M w M' w'→∀ (cs:List AV) (vs:List Value),RL M w cs vs→RL M' w' cs vs
 | _,_,_,[],_,h=>h
 | _,_,g,c::cs,_,⟨u,us,h1,h2,h3⟩=>⟨u,us,h1,RV.go g c u h2,RL.go g cs us h3⟩
end
theorem RL.len {M:Mm} {w:World}:∀ {cs:List AV} {vs:List Value},RL M w cs vs→vs.length=cs.length
 | [],_,h=>by rw [show _=_ from h];rfl
 | c::cs,_,⟨u,us,h1,_,h3⟩=>by rw [h1,List.length_cons,List.length_cons,RL.len h3]
theorem RL.get {M:Mm} {w:World}:∀ {cs:List AV} {vs:List Value},RL M w cs vs→∀ {i:Nat} {c:AV},cs[i]?=some c→∃ u,vs[i]?=some u∧RV M w c u
 | [],_,_,i,c,hi=>by simp at hi
 | c::cs,_,⟨u,us,h1,h2,h3⟩,i,c',hi=>by
  subst h1
  cases i with
  | zero=>exact ⟨u,rfl,by simpa using (Option.some.inj hi) ▸ h2⟩
  | succ i=>exact RL.get h3 (by simpa using hi)
theorem RL.take {M:Mm} {w:World}:∀ {cs:List AV} {vs:List Value} (n:Nat),RL M w cs vs→RL M w (cs.take n) (vs.take n)
 | _,_,0,_=>rfl
 | [],_,n+1,h=>by rw [show _=_ from h];rfl
 | c::cs,_,n+1,⟨u,us,h1,h2,h3⟩=>by subst h1;exact ⟨u,us.take n,rfl,h2,RL.take n h3⟩
theorem RL.drop {M:Mm} {w:World}:∀ {cs:List AV} {vs:List Value} (n:Nat),RL M w cs vs→RL M w (cs.drop n) (vs.drop n)
 | _,_,0,h=>h
 | [],_,n+1,h=>by rw [show _=_ from h];rfl
 | c::cs,_,n+1,⟨u,us,h1,h2,h3⟩=>by subst h1;exact RL.drop n h3
theorem RL.append {M:Mm} {w:World}:∀ {cs ds:List AV} {vs us:List Value},RL M w cs vs→RL M w ds us→RL M w (cs++ds) (vs++us)
 | [],_,_,_,h,h'=>by rw [show _=_ from h];exact h'
 | c::cs,_,_,_,⟨u,us,h1,h2,h3⟩,h'=>by subst h1;exact ⟨u,us++_,rfl,h2,RL.append h3 h'⟩
theorem RV.oneCell {M:Mm} {w:World} {a:AV} {v:Value} (h:RV M w a v) (h1:a.one=true):v.oneCell'=true:=by
 cases a with
 | dt d=>exact Rd.one h h1
 | nil=>rw [show v=_ from h];rfl
 | ful es=>obtain ⟨A,rfl,_⟩:=h;rfl
 | own b n=>obtain ⟨A,c,A',n',c',rfl,_⟩:=h;rfl
 | sl b n=>obtain ⟨g,_,rfl⟩:=h;rfl
 | mapp b=>obtain ⟨g,_,rfl⟩:=h;rfl
 | ptr b off=>obtain ⟨g,_,rfl⟩:=h;rfl
 | rptr b i k=>obtain ⟨g,_,rfl⟩:=h;rfl
 | gl g off=>rw [show v=_ from h];rfl
 | pin ds=>obtain ⟨g,o,vs,rfl,_⟩:=h;rfl
 | clo f cs=>obtain ⟨vs,rfl,_⟩:=h;rfl
 | clf f cs=>obtain ⟨vs,rfl,_⟩:=h;rfl
 | agg cs=>cases h1
 | tup cs=>cases h1
 | un=>cases h1
theorem RL.oneCell {M:Mm} {w:World}:∀ {cs:List AV} {vs:List Value},RL M w cs vs→cs.all AV.one=true→∀ u∈vs,u.oneCell'=true
 | [],_,h,_=>by rw [show _=_ from h];intro u hu;cases hu
 | c::cs,_,⟨u,us,h1,h2,h3⟩,ha=>by
  subst h1
  rw [List.all_cons,Bool.and_eq_true] at ha
  intro x hx
  rcases List.mem_cons.1 hx with rfl | hx
  ·exact h2.oneCell ha.1
  ·exact RL.oneCell h3 ha.2 x hx
theorem cells_one {v:Value} (h:v.oneCell'=true):v.cells=#[v]:=by
 cases v <;> first | rfl | cases h
theorem RV.cells {M:Mm} {w:World} {a:AV} {v:Value} (h:RV M w a v) (h1:a.cells.all AV.one=true):∃ vs,v.cells=vs.toArray∧RL M w a.cells vs:=by
 cases a with
 | agg cs=>obtain ⟨vs,rfl,hr⟩:=h;exact ⟨vs,rfl,hr⟩
 | tup cs=>simp [AV.cells,AV.one] at h1
 | un=>simp [AV.cells,AV.one] at h1
 | _ =>
  refine ⟨[v],?_,v,[],rfl,h,rfl⟩
  rw [cells_one (h.oneCell (by simpa [AV.cells] using h1))]
inductive Bx where
 | cells (cs:List AV)
 | buf (e:TypeId) (k:Nat) (es:List (List Dt))
 | fzn (es:List (List Dt))
 | mp (kvs:List (Value×AV))
 | rws (e:TypeId) (k:Nat) (es:List (List Dt))
 | fzr (es:List (List Dt))
 | cst (cs:List AV)
 | mpd (kvs:List (Value×List Dt))
def Bx.isM:Bx→Bool
 | .buf _ _ _=>false
 | .fzn _=>false
 | _=>true
def RWS (F:Nat→Prop) (w:World) (k:Nat) (es:List (List Dt)) (vs:List Value):Prop :=
 vs.length=es.length * k∧∀ i (h:i < es.length),(es[i]).length=k∧∀ j (hj:j < (es[i]).length),∃ u,vs[i * k+j]?=some u∧u.oneCell'=true∧Rd F w u (es[i])[j]
def MK (M:Mm) (w:World):List (Value×AV)→List MapEntry→Prop
 | [],es=>es=[]
 | (k,a)::kvs,es=>∃ e es',es=e::es'∧e.key=k∧RV M w a e.val∧MK M w kvs es'
def mpdE (kvs:List (Value×List Dt)):List (Value×AV):=kvs.map fun x=>(x.1,AV.agg (x.2.map .dt))
def BxOK (M:Mm) (w:World) (b:Nat):Bx→Prop
 | .mpd kvs=>∃ g es clk,M.m b=some g∧w.heap[g]?=some (.map es.toArray clk)∧MK (M0 M.F) w (mpdE kvs) es
 | .cells cs=>∃ g T vs,M.m b=some g∧BlkIs w g T vs.toArray∧RL M w cs vs
 | .buf e k es=>∃ A n c,M.o b=some (A,n,c)∧OwnD M.F w 0 e k A n c es
 | .fzn es=>∃ A n c,M.o b=some (A,n,c)∧Rd M.F w (.slice A n c) (.row es)
 | .mp kvs=>∃ g es clk,M.m b=some g∧w.heap[g]?=some (.map es.toArray clk)∧MK M w kvs es
 | .rws e k es=>∃ g vs,M.m b=some g∧BlkIs w g e vs.toArray∧RWS M.F w k es vs
 | .fzr es=>∃ g,M.m b=some g∧Rd M.F w (.slice (some ⟨g,0,none⟩) es.length es.length) (.row es)
 | .cst cs=>∃ g vs,M.m b=some g∧M.F g∧g < w.heap.size∧(∀ (j:Nat) u,vs[j]?=some u→w.cell? ⟨g,j,none⟩=some u)∧RL (M0 M.F) w cs vs
def Hx (M:Mm) (b:Nat):Bx→Nat→Prop
 | .cells _,g=>M.m b=some g
 | .mp _,g=>M.m b=some g
 | .mpd _,g=>M.m b=some g
 | .buf _ _ _,g=>∃ n c,M.o b=some (some ⟨g,0,none⟩,n,c)
 | .rws _ _ _,g=>M.m b=some g
 | _,_=>False
section
variable {X:Nat→Prop} {n0:Nat} {M M':Mm} {w w':World}
theorem MK.go (g:Go1 X n0 M w M' w'):∀ {kvs:List (Value×AV)} {es:List MapEntry},MK M w kvs es→MK M' w' kvs es
 | [],_,h=>h
 | (_k,_a)::_kvs,_,⟨e,es',h1,h2,h3,h4⟩=>⟨e,es',h1,h2,RV.go g _ _ h3,MK.go g h4⟩
theorem OwnD.go (g:Go1 X n0 M w M' w') {e:TypeId} {k:Nat} {A:Option Addr} {n c:Nat} {l:List (List Dt)} (h:OwnD M.F w 0 e k A n c l) (hA:∀ q,A=some ⟨q,0,none⟩→w'.heap[q]?=w.heap[q]?):OwnD M'.F w' 0 e k A n c l :=
 ((h.mono (ok':=fun b=>M.F b∧M'.F b) fun b hb hl=>⟨hb,g.F b hb hl⟩).keep g.below.size fun q hq h=>by
  rcases h with h | h
  ·exact g.keep q h.1 hq
  ·exact hA q h).mono fun b hb _=>hb.2
theorem RWS.go (g:Go1 X n0 M w M' w') {k:Nat} {es:List (List Dt)} {vs:List Value} (h:RWS M.F w k es vs):RWS M'.F w' k es vs :=
 ⟨h.1,fun i hi=>⟨(h.2 i hi).1,fun j hj=>by
  obtain ⟨u,h1,h2,h3⟩:=(h.2 i hi).2 j hj
  exact ⟨u,h1,h2,Rd.go g h3⟩⟩⟩
theorem BxOK.go (g:Go1 X n0 M w M' w') {b:Nat} (ho:M'.o b=M.o b) {x:Bx} (hk:∀ q,Hx M b x q→w'.heap[q]?=w.heap[q]?) (h:BxOK M w b x):BxOK M' w' b x:=by
 cases x with
 | cells cs=>obtain ⟨q,T,vs,h1,h2,h3⟩:=h;exact ⟨q,T,vs,g.m _ _ h1,h2.keep (hk q h1),RL.go g _ _ h3⟩
 | buf e k es=>obtain ⟨A,n,c,h1,h2⟩:=h;exact ⟨A,n,c,ho.trans h1,h2.go g fun q hq=>hk q ⟨n,c,by rw [← hq];exact h1⟩⟩
 | fzn es=>obtain ⟨A,n,c,h1,h2⟩:=h;exact ⟨A,n,c,ho.trans h1,Rd.go g h2⟩
 | mp kvs=>obtain ⟨q,es,clk,h1,h2,h3⟩:=h;exact ⟨q,es,clk,g.m _ _ h1,(hk q h1).trans h2,MK.go g h3⟩
 | mpd kvs=>obtain ⟨q,es,clk,h1,h2,h3⟩:=h;exact ⟨q,es,clk,g.m _ _ h1,(hk q h1).trans h2,MK.go g.flat h3⟩
 | rws e k es=>obtain ⟨q,vs,h1,h2,h3⟩:=h;exact ⟨q,vs,g.m _ _ h1,h2.keep (hk q h1),h3.go g⟩
 | fzr es=>obtain ⟨q,h1,h2⟩:=h;exact ⟨q,g.m _ _ h1,Rd.go g h2⟩
 | cst cs=>obtain ⟨q,vs,h1,h2,h3,h4,h5⟩:=h;exact ⟨q,vs,g.m _ _ h1,g.F _ h2 h3,Nat.lt_of_lt_of_le h3 g.below.size,fun j u hj=>(cell_eq (g.keep q h2 h3)).trans (h4 j u hj),RL.go g.flat cs vs h5⟩
theorem Hx.eq {b:Nat} {x:Bx} (hm:M'.m b=M.m b) (ho:M'.o b=M.o b) {q:Nat}:Hx M' b x q↔Hx M b x q:=by
 cases x <;> simp [Hx,hm,ho]
end
structure Sto (X:Nat→Prop) (n0:Nat) (M:Mm) (bx:Nat→Option Bx) (w:World):Prop where
 box:∀ b x,bx b=some x→BxOK M w b x
 dom:∀ b x g,bx b=some x→Hx M b x g→(n0≤g∨X g)∧g < w.heap.size∧¬ M.F g
 inj:∀ b b' x x' g,bx b=some x→bx b'=some x'→Hx M b x g→Hx M b' x' g→b=b'
 hm:∀ b g,M.m b=some g→∃ x,bx b=some x∧x.isM=true
 ho:∀ b v,M.o b=some v→(bx b).isSome=true
 fz:∀ b,M.F b→b < w.heap.size
def updB (bx:Nat→Option Bx):List (Nat×Bx)→Nat→Option Bx
 | [],k=>bx k
 | (b,x)::r,k=>if k=b then some x else updB bx r k
abbrev updX1 (bx:Nat→Option Bx) (b:Nat) (x:Bx):Nat→Option Bx:=fun k=>if k=b then some x else bx k
section
variable {X:Nat→Prop} {n0:Nat} {M M':Mm} {w w':World} {bx:Nat→Option Bx}
theorem Sto.fresh_m (h:Sto X n0 M bx w) {k:Nat} (hk:bx k=none):M.m k=none:=by
 cases e:M.m k with
 | none=>rfl
 | some g=>obtain ⟨x,h1,_⟩:=h.hm k g e;rw [hk] at h1;cases h1
theorem Sto.fresh_o (h:Sto X n0 M bx w) {k:Nat} (hk:bx k=none):M.o k=none:=by
 cases e:M.o k with
 | none=>rfl
 | some v=>have:=h.ho k v e;rw [hk] at this;cases this
theorem Sto.upd (h:Sto X n0 M bx w) (g:Go1 X n0 M w M' w') (le:n0≤w.heap.size) {b:Nat} {x':Bx}
  (hm:∀ k,k≠b→M'.m k=M.m k∧M'.o k=M.o k) (hw:∀ q,q < w.heap.size→(∀ x,bx b=some x→¬ Hx M b x q)→w'.heap[q]?=w.heap[q]?)
  (hF:∀ q,M'.F q→q < w'.heap.size∧(M.F q∨w.heap.size≤q)) (hx:BxOK M' w' b x')
  (hd:∀ q,Hx M' b x' q→((∃ x,bx b=some x∧Hx M b x q)∨w.heap.size≤q)∧q < w'.heap.size∧¬ M'.F q) (hmb:∀ q,M'.m b=some q→x'.isM=true):Sto X n0 M' (updX1 bx b x') w':=by
 have old:∀ {k x},k≠b→updX1 bx b x' k=some x→bx k=some x:=fun hk h=>by rwa [show updX1 bx b x' _=_ from if_neg hk] at h
 have this:∀ {x},updX1 bx b x' b=some x→x=x':=fun h=>by rw [show updX1 bx b x' b=some x' from if_pos rfl] at h;exact (Option.some.inj h).symm
 have far:∀ {k x q},k≠b→bx k=some x→Hx M k x q→w'.heap[q]?=w.heap[q]?:=fun {k x q} hk hb hq =>
  hw q (h.dom k x q hb hq).2.1 fun y hy hyq=>hk (h.inj _ _ _ _ q hb hy hq hyq)
 refine ⟨?_,?_,?_,?_,?_,fun q hq=>(hF q hq).1⟩
 ·intro k x hk
  by_cases e:k=b
  ·subst e;rw [this hk];exact hx
  ·have hk':=old e hk
   exact (h.box k x hk').go g (hm k e).2 fun q hq=>far e hk' hq
 ·intro k x q hk hq
  by_cases e:k=b
  ·subst e
   rw [this hk] at hq
   obtain ⟨h1,h2,h3⟩:=hd q hq
   refine ⟨?_,h2,h3⟩
   rcases h1 with ⟨y,hy,hyq⟩ | h1
   ·exact (h.dom _ _ _ hy hyq).1
   ·exact .inl (by omega)
  ·have hk':=old e hk
   have hq':=(Hx.eq (hm k e).1 (hm k e).2).1 hq
   obtain ⟨h1,h2,h3⟩:=h.dom k x q hk' hq'
   refine ⟨h1,Nat.lt_of_lt_of_le h2 g.below.size,fun hf=>?_⟩
   rcases (hF q hf).2 with h4 | h4
   ·exact h3 h4
   ·omega
 ·intro k k' x y q hk hk' hq hq'
  have key:∀ {k x},k≠b→updX1 bx b x' k=some x→Hx M' k x q→∀ {y},updX1 bx b x' b=some y→Hx M' b y q→False:=by
   intro k x e hk hq y hy hyq
   rw [this hy] at hyq
   have hk2:=old e hk
   have hq2:=(Hx.eq (hm k e).1 (hm k e).2).1 hq
   rcases (hd q hyq).1 with ⟨z,hz,hzq⟩ | h1
   ·exact e (h.inj _ _ _ _ q hk2 hz hq2 hzq)
   ·have:=(h.dom k x q hk2 hq2).2.1;omega
  by_cases e:k=b <;> by_cases e':k'=b
  ·rw [e,e']
  ·subst e;exact (key e' hk' hq' hk hq).elim
  ·subst e';exact (key e hk hq hk' hq').elim
  ·exact h.inj _ _ _ _ q (old e hk) (old e' hk') ((Hx.eq (hm k e).1 (hm k e).2).1 hq) ((Hx.eq (hm k' e').1 (hm k' e').2).1 hq')
 ·intro k q hk
  by_cases e:k=b
  ·subst e;exact ⟨x',if_pos rfl,hmb q hk⟩
  ·rw [(hm k e).1] at hk
   obtain ⟨x,h1,h2⟩:=h.hm k q hk
   exact ⟨x,(if_neg e).trans h1,h2⟩
 ·intro k v hk
  by_cases e:k=b
  ·subst e;show (updX1 bx k x' k).isSome=true;rw [show updX1 bx k x' k=some x' from if_pos rfl];rfl
  ·rw [(hm k e).2] at hk
   show (updX1 bx b x' k).isSome=true
   rw [show updX1 bx b x' k=bx k from if_neg e]
   exact h.ho k v hk
theorem Sto.grow (h:Sto X n0 M bx w) (g:Go1 X n0 M w M' w') (hm:M'.m=M.m) (ho:M'.o=M.o)
  (hw:∀ q k x,bx k=some x→Hx M k x q→w'.heap[q]?=w.heap[q]?) (hF:∀ q,M'.F q→q < w'.heap.size∧(M.F q∨w.heap.size≤q)):Sto X n0 M' bx w':=by
 have hx:∀ k x q,Hx M' k x q↔Hx M k x q:=fun k x q=>Hx.eq (by rw [hm]) (by rw [ho])
 refine ⟨fun b x hb=>(h.box b x hb).go g (by rw [ho]) fun q hq=>hw q b x hb hq,?_,?_,?_,?_,fun q hq=>(hF q hq).1⟩
 ·intro b x q hb hq
  rw [hx] at hq
  obtain ⟨h1,h2,h3⟩:=h.dom b x q hb hq
  refine ⟨h1,Nat.lt_of_lt_of_le h2 g.below.size,fun hf=>?_⟩
  rcases (hF q hf).2 with h4 | h4
  ·exact h3 h4
  ·omega
 ·intro b b' x x' q h1 h2 h3 h4
  rw [hx] at h3 h4
  exact h.inj _ _ _ _ q h1 h2 h3 h4
 ·intro b q hb
  rw [hm] at hb
  exact h.hm b q hb
 ·intro b v hb
  rw [ho] at hb
  exact h.ho b v hb
theorem OwnD.rdF {ok:Nat→Prop} {e:TypeId} {k:Nat} {A:Option Addr} {n c:Nat} {l:List (List Dt)} (h:OwnD ok w 0 e k A n c l):Rd (fun q=>ok q∨A=some ⟨q,0,none⟩) w (.slice A n c) (.row l):=by
 have h0:=h.rd
 rcases h.addr with rfl | ⟨g,rfl,_,hg⟩
 ·have hl:=h.len
  obtain ⟨xs,⟨_,ho⟩,_⟩:=h.own
  rcases ho with ⟨hv,_⟩ | ⟨g,cap,cur,hv,_⟩
  ·simp only [Value.slice.injEq] at hv
   obtain ⟨_,rfl,rfl⟩:=hv
   obtain rfl:l=[]:=List.eq_nil_of_length_eq_zero hl
   exact .nil _ _
  ·simp only [Value.slice.injEq] at hv
   cases hv.1
 ·obtain ⟨xs,⟨hx,ho⟩,he⟩:=h.own
  have hlen:=h.len
  rcases Nat.eq_zero_or_pos n with hn | hn
  ·subst hn
   obtain rfl:l=[]:=List.eq_nil_of_length_eq_zero hlen
   exact .nil _ _
  ·rcases ho with ⟨_,h1⟩ | ⟨g',cap,cur,hv,hbg,hgb,hnc,hcm,hcs,ht⟩
   ·omega
   ·simp only [Value.slice.injEq,Option.some.injEq,Addr.mk.injEq] at hv
    obtain ⟨⟨rfl,_⟩,_,rfl⟩:=hv
    refine Rd.mk (k:=k) hlen hnc hg (.inr rfl) (fun i hi=>(he i hi).1) (fun i j hi hj=>?_)
    obtain ⟨u,h1,h2⟩:=(he i hi).2 j hj
    refine ⟨u,?_,h2.mono fun b hb _=>.inl hb.1⟩
    have hj':j < k:=by rw [← (he i hi).1];exact hj
    have hlt:i * k+j < n * k:=by
     have:(i+1) * k≤n * k:=Nat.mul_le_mul_right k (by omega)
     rw [Nat.add_mul] at this;omega
    have e:cur[i * k+j]?=some u:=by
     rw [← h1,← ht,List.getElem?_take_of_lt hlt];simp
    simp [World.cell?,hgb,Nat.zero_add,e]
theorem Sto.frz (h:Sto X n0 M bx w) {b:Nat} {e:TypeId} {k:Nat} {es:List (List Dt)} (hb:bx b=some (.buf e k es)) :
  ∃ M',Go1 X n0 M w M' w∧Sto X n0 M' (updX1 bx b (.fzn es)) w∧M'.m=M.m∧M'.o=M.o∧∀ q,M'.F q→M.F q∨n0≤q∨X q:=by
 obtain ⟨A,n,c,ho,hown⟩:=h.box b _ hb
 have hmb:M.m b=none:=by
  cases e:M.m b with
  | none=>rfl
  | some g =>
   obtain ⟨x,h1,h2⟩:=h.hm b g e
   rw [hb] at h1;cases h1
   cases h2
 have hHb:∀ q,A=some ⟨q,0,none⟩→Hx M b (.buf e k es) q:=fun q hq=>⟨n,c,by rw [← hq];exact ho⟩
 let M':Mm:=⟨M.m,fun q=>M.F q∨A=some ⟨q,0,none⟩,M.o⟩
 have g:Go1 X n0 M w M' w:=⟨Bel.refl _ _ _,fun _ _ _=>rfl,fun _ h _=>.inl h,fun _ _ h=>h,fun _=>same_o rfl⟩
 have old:∀ {k x},k≠b→updX1 bx b (.fzn es) k=some x→bx k=some x:=fun hk h=>by rwa [show updX1 bx b (.fzn es) _=_ from if_neg hk] at h
 have this:∀ {x},updX1 bx b (.fzn es) b=some x→x=.fzn es:=fun h=>by rw [show updX1 bx b (.fzn es) b=some (.fzn es) from if_pos rfl] at h;exact (Option.some.inj h).symm
 have hx:∀ k x q,Hx M' k x q↔Hx M k x q:=fun k x q=>Hx.eq rfl rfl
 refine ⟨M',g,⟨?_,?_,?_,?_,?_,?_⟩,rfl,rfl,?_⟩
 ·intro k x hk
  by_cases e:k=b
  ·subst e;rw [this hk];exact ⟨A,n,c,ho,hown.rdF⟩
  ·exact (h.box k x (old e hk)).go g rfl fun _ _=>rfl
 ·intro k x q hk hq
  by_cases e:k=b
  ·subst e;rw [this hk] at hq;exact hq.elim
  ·rw [hx] at hq
   obtain ⟨h1,h2,h3⟩:=h.dom k x q (old e hk) hq
   refine ⟨h1,h2,fun hf=>?_⟩
   rcases hf with hf | hf
   ·exact h3 hf
   ·exact e (h.inj _ _ _ _ q (old e hk) hb hq (hHb q hf))
 ·intro k k' x y q hk hk' hq hq'
  rw [hx] at hq hq'
  by_cases e:k=b
  ·subst e;rw [this hk] at hq;exact hq.elim
  ·by_cases e':k'=b
   ·subst e';rw [this hk'] at hq';exact hq'.elim
   ·exact h.inj _ _ _ _ q (old e hk) (old e' hk') hq hq'
 ·intro k q hk
  obtain ⟨x,h1,h2⟩:=h.hm k q hk
  by_cases e:k=b
  ·subst e;rw [hmb] at hk;cases hk
  ·exact ⟨x,(if_neg e).trans h1,h2⟩
 ·intro k v hk
  show (updX1 bx b (.fzn es) k).isSome=true
  by_cases e:k=b
  ·subst e;rw [show updX1 bx k (.fzn es) k=some (.fzn es) from if_pos rfl];rfl
  ·rw [show updX1 bx b (.fzn es) k=bx k from if_neg e];exact h.ho k v hk
 ·intro q hq
  rcases hq with hq | hq
  ·exact h.fz q hq
  ·exact (h.dom b _ q hb (hHb q hq)).2.1
 ·intro q hq
  rcases hq with hq | hq
  ·exact .inl hq
  ·exact .inr (h.dom b _ q hb (hHb q hq)).1
end
structure Inv (X:Nat→Prop) (n0:Nat) (w0:World×Mm) (ok0:Nat→Prop) (M:Mm) (nt:Nat) (tm:Nat→AV) (bx:Nat→Option Bx) (a:Act) (w:World):Prop where
 below:Bel X n0 w0.1 w
 le:n0≤w.heap.size
 defers:a.defers=[]
 size:a.tmps.size=nt
 tmps:∀ t,RV M w (tm t) (a.tmps.getD t undef)
 sto:Sto X n0 M bx w
 src:∀ b,M.F b→b < n0→ok0 b∨X b
 anc:Go1 X n0 w0.2 w0.1 M w
def toAV:Value→AV
 | .slice none 0 0=>.nil
 | v=>.dt (.val v)
theorem toAV_rv (M:Mm) (w:World) (v:Value):RV M w (toAV v) v:=by
 unfold toAV
 split
 ·exact rfl
 ·exact .val _
theorem toAV_rl (M:Mm) (w:World):∀ vs:List Value,RL M w (vs.map toAV) vs
 | []=>rfl
 | v::vs=>⟨v,vs,rfl,toAV_rv M w v,toAV_rl M w vs⟩
def aev (tm:Nat→AV):Operand→AV
 | .tmp t=>tm t
 | .const v=>toAV v
 | .global g=>.gl g 0
 | .func f=>.clf f []
def updT (tm:Nat→AV) (d:Option Nat) (r:AV):Nat→AV:=match d with
 | some d=>fun t=>if t=d then r else tm t
 | none=>tm
section
variable {X:Nat→Prop} {n0:Nat} {w0:World×Mm} {ok0:Nat→Prop} {M M':Mm} {nt:Nat} {tm:Nat→AV} {bx bx':Nat→Option Bx} {a:Act} {w w':World}
theorem Inv.ev (h:Inv X n0 w0 ok0 M nt tm bx a w) (x:Operand):RV M w (aev tm x) (a.eval x):=by
 cases x with
 | tmp t=>exact h.tmps t
 | const v=>exact toAV_rv M w v
 | global g=>exact rfl
 | func f=>exact ⟨[],rfl,rfl⟩
theorem Inv.put (h:Inv X n0 w0 ok0 M nt tm bx a w) (g:Go1 X n0 M w M' w') (hs:Sto X n0 M' bx' w') (hF:∀ b,M'.F b→M.F b∨n0≤b∨X b) (d:Option Nat) (hd:∀ t,d=some t→t < nt) {v:Value} {r:AV} (hr:RV M' w' r v) :
  Inv X n0 w0 ok0 M' nt (updT tm d r) bx' (a.put d v) w':=by
 refine ⟨h.below.trans g.below,Nat.le_trans h.le g.below.size,?_,?_,?_,hs,fun b hb hl=>?_,h.anc.trans g⟩
 ·cases d <;> exact h.defers
 ·cases d with
  | none=>exact h.size
  | some d=>show (a.tmps.setIfInBounds d v).size=nt;rw [Array.size_setIfInBounds];exact h.size
 ·intro t
  cases d with
  | none=>exact RV.go g _ _ (h.tmps t)
  | some d =>
   have hd':=hd d rfl
   show RV M' w' (if t=d then r else tm t) ((a.tmps.setIfInBounds d v).getD t undef)
   by_cases e:t=d
   ·subst e
    rw [if_pos rfl]
    have:(a.tmps.setIfInBounds t v).getD t undef=v:=by
     have:=h.size
     simp [show t < a.tmps.size by omega]
    rw [this]
    exact hr
   ·rw [if_neg e]
    have:(a.tmps.setIfInBounds d v).getD t undef=a.tmps.getD t undef:=by
     simp [Ne.symm e]
    rw [this]
    exact RV.go g _ _ (h.tmps t)
 ·rcases hF b hb with e | e | e
  ·exact h.src b e hl
  ·omega
  ·exact .inr e
theorem Inv.same (h:Inv X n0 w0 ok0 M nt tm bx a w) (g:Go1 X n0 M w M' w') (hs:Sto X n0 M' bx' w') (hF:∀ b,M'.F b→M.F b∨n0≤b∨X b):Inv X n0 w0 ok0 M' nt tm bx' a w':=by
 have:=h.put g hs hF none (fun _ h=>by cases h) (v:=undef) (r:=.un) trivial
 exact this
theorem Inv.val (h:Inv X n0 w0 ok0 M nt tm bx a w) (d:Option Nat) (hd:∀ t,d=some t→t < nt) {v:Value} {r:AV} (hr:RV M w r v):Inv X n0 w0 ok0 M nt (updT tm d r) bx (a.put d v) w :=
 h.put (Go1.refl _ _ _ _) h.sto (fun _ h=>.inl h) d hd hr
theorem Inv.grown (h:Inv X n0 w0 ok0 M nt tm bx a w) (hb:Below w.heap.size w w') (d:Option Nat) (hd:∀ t,d=some t→t < nt) {v:Value} {r:AV}
  (hr:RV ⟨M.m,fun b=>(M.F b∨w.heap.size≤b)∧b < w'.heap.size,M.o⟩ w' r v):∃ M',Inv X n0 w0 ok0 M' nt (updT tm d r) bx (a.put d v) w':=by
 have g:Go1 X n0 M w ⟨M.m,fun b=>(M.F b∨w.heap.size≤b)∧b < w'.heap.size,M.o⟩ w':=⟨Bel.of (hb.mono h.le),fun b _ hl=>hb.block b hl,fun _ hb' hl=>⟨.inl hb',Nat.lt_of_lt_of_le hl hb.size⟩,fun _ _ h=>h,fun _=>same_o rfl⟩
 refine ⟨_,h.put g (h.sto.grow g rfl rfl (fun q k x hk hq=>hb.block q (h.sto.dom k x q hk hq).2.1) fun q hq=>⟨hq.2,hq.1⟩) (fun b hb'=>?_) d hd hr⟩
 rcases hb'.1 with e | e
 ·exact .inl e
 ·have:=h.le;exact .inr (.inl (by omega))
theorem Inv.new (h:Inv X n0 w0 ok0 M nt tm bx a w) {k:Nat} (hk:bx k=none) (o:Obj) {x':Bx} (hM:x'.isM=true) (hx:∀ M',Go1 X n0 M w M' (w.alloc o)→M'.m k=some w.heap.size→BxOK M' (w.alloc o) k x') (d:Option Nat) (hd:∀ t,d=some t→t < nt) {r:AV} {v:Value}
  (hr:∀ M',M'.m k=some w.heap.size→RV M' (w.alloc o) r v):∃ M',Inv X n0 w0 ok0 M' nt (updT tm d r) (updX1 bx k x') (a.put d v) (w.alloc o):=by
 have hm:=h.sto.fresh_m hk
 let M':Mm:=⟨fun b=>if b=k then some w.heap.size else M.m b,M.F,M.o⟩
 have hne:∀ b,b≠k→M'.m b=M.m b:=fun b hb=>if_neg hb
 have hsz:(w.alloc o).heap.size=w.heap.size+1:=by simp
 have g:Go1 X n0 M w M' (w.alloc o):=⟨Bel.of ((Below.refl _ _).alloc h.le _),fun b _ hl=>Below.heap_alloc _ _ _ hl,fun b hb _=>hb,(fun b q hb=>by
  by_cases e:b=k
  ·subst e;rw [hm] at hb;cases hb
  ·rw [hne b e,hb]),fun _=>same_o rfl⟩
 have hk':M'.m k=some w.heap.size:=if_pos rfl
 refine ⟨M',h.put g (h.sto.upd g h.le (fun b hb=>⟨hne b hb,rfl⟩) (fun q hq _=>Below.heap_alloc _ _ _ hq) (fun q hq=>⟨by rw [hsz];have:=h.sto.fz q hq;omega,.inl hq⟩) (hx M' g hk') (fun q hq=>?_) (fun _ _=>hM)) (fun _ h=>.inl h) d hd (hr M' hk')⟩
 have hq':M'.m k=some q:=by
  cases x' <;> first | exact hq | exact hq.elim | cases hM
 rw [hk'] at hq'
 cases hq'
 exact ⟨.inr (Nat.le_refl _),by rw [hsz];omega,fun hf=>by have:=h.sto.fz _ hf;omega⟩
theorem Inv.alloc (h:Inv X n0 w0 ok0 M nt tm bx a w) {k:Nat} (hk:bx k=none) (T:TypeId) {cs:List AV} {vs:List Value} (hv:RL M w cs vs) (d:Option Nat) (hd:∀ t,d=some t→t < nt) :
  ∃ M',Inv X n0 w0 ok0 M' nt (updT tm d (.ptr k 0)) (updX1 bx k (.cells cs)) (a.put d (.pointer (some ⟨w.heap.size,0,none⟩))) (w.alloc (.cells vs.toArray T)) :=
 h.new hk _ (x':=.cells cs) rfl (fun _M' g hk'=>⟨w.heap.size,T,vs,hk',BlkIs.new w T vs.toArray,RL.go g _ _ hv⟩) d hd fun _M' hk'=>⟨_,hk',rfl⟩
theorem Inv.chg (h:Inv X n0 w0 ok0 M nt tm bx a w) {b g:Nat} {x x':Bx} (hb:bx b=some x) (hg:Hx M b x g) (hM:x'.isM=true) (hmg:M.m b=some g) (h1:w'.os=w.os) (h2:w'.tape=w.tape) (h3:w'.output=w.output) (hsz:w'.heap.size=w.heap.size)
  (hother:∀ q,q≠g→w'.heap[q]?=w.heap[q]?) (hx:Go1 X n0 M w M w'→BxOK M w' b x') (d:Option Nat) (hd:∀ t,d=some t→t < nt) {r:AV} {v:Value} (hr:RV M w' r v) :
  Inv X n0 w0 ok0 M nt (updT tm d r) (updX1 bx b x') (a.put d v) w':=by
 obtain ⟨hg0,hg1,hg2⟩:=h.sto.dom b _ g hb hg
 have gg:Go1 X n0 M w M w':=⟨⟨h1,h2,h3,by rw [hsz];exact Nat.le_refl _,fun x hx hX=>hother x (fun e=>by
  subst e
  rcases hg0 with h0 | h0
  ·omega
  ·exact hX h0)⟩,fun x hx _=>hother x (fun e=>hg2 (e ▸ hx)),fun _ h _=>h,fun _ _ h=>h,fun _=>same_o rfl⟩
 refine h.put gg (h.sto.upd gg h.le (fun _ _=>⟨rfl,rfl⟩) (fun q hq hnq=>hother q (fun e=>hnq _ hb (e ▸ hg))) (fun q hq=>⟨by rw [hsz];exact h.sto.fz q hq,.inl hq⟩) (hx gg) (fun q hq=>?_) (fun _ _=>hM)) (fun _ h=>.inl h) d hd hr
 have hq':M.m b=some q:=by
  cases x' <;> first | exact hq | exact hq.elim | cases hM
 rw [hmg] at hq'
 cases hq'
 exact ⟨.inl ⟨_,hb,hg⟩,by rw [hsz];exact hg1,hg2⟩
theorem setRow_ne {w:World} {g x:Nat} {cs:Array Value} (hx:x≠g):(w.setRow g cs).heap[x]?=w.heap[x]?:=by
 unfold World.setRow
 simp only [Array.getElem?_modify]
 rw [if_neg (Ne.symm hx)]
theorem BlkIs.setRow {w:World} {g:Nat} {T:TypeId} {old cs:Array Value} (hB:BlkIs w g T old):BlkIs (w.setRow g cs) g T cs:=by
 unfold BlkIs at hB ⊢
 unfold World.setRow
 simp only [Array.getElem?_modify,if_true,hB,Option.map_some]
theorem setRow_size (w:World) (g:Nat) (cs:Array Value):(w.setRow g cs).heap.size=w.heap.size:=by unfold World.setRow;simp
theorem Inv.store (h:Inv X n0 w0 ok0 M nt tm bx a w) {b g:Nat} {T:TypeId} {cs0:List AV} (hb:bx b=some (.cells cs0)) (hg:M.m b=some g) {old new:List Value} (hB:BlkIs w g T old.toArray) {cs:List AV} (hv:RL M w cs new) (d:Option Nat) (hd:∀ t,d=some t→t < nt) :
  Inv X n0 w0 ok0 M nt (updT tm d (.dt (.val undef))) (updX1 bx b (.cells cs)) (a.put d undef) (w.setRow g new.toArray) :=
 h.chg (x':=.cells cs) (w':=w.setRow g new.toArray) hb hg rfl hg rfl rfl rfl (setRow_size _ _ _) (fun _q hq=>setRow_ne hq) (fun gg=>⟨g,T,new,hg,hB.setRow,RL.go gg _ _ hv⟩) d hd (r:=.dt (.val undef)) (Rd.val _)
end
end Go.Proofs.YthhknjlmjefklaaGreatDoor
