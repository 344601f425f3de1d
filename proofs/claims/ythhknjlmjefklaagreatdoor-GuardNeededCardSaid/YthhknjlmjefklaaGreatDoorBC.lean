/- number.divide: quotient and remainder of two absolute values. -/
import Derived.Test.YthhknjlmjefklaaGreatDoorBB
import Derived.Test.YthhknjlmjefklaaGreatDoorBA
import Derived.Deep.RegionHeld3
import Derived.Maps.AppendAt
import Derived.Deep.RegionLaw
import Derived.Deep.DeepCutAuto
set_option maxRecDepth 100000
set_option maxHeartbeats 4000000
namespace Go.Proofs.YthhknjlmjefklaaGreatDoor
open Tryz
open Go.RowKit
theorem Sl.one(w:World)(k:IntKind)(E:TypeId)(y:Nat):Sl (w.alloc (.cells #[.int k (y:Int)] E)) k (some ⟨w.heap.size,0,none⟩) 1 1 [y] :=
 ⟨rfl,NE _,fun _=>⟨w.heap.size,0,rfl,I,fun i hi=>by
  obtain rfl:i=0:=J;exact (F5.new w E #[.int k (y:Int)]).cell 0⟩⟩
def GtB(a b:Nat)(w:World)(e:Ending)(w':World):Prop:=e=.returned (.bool (decide (b < a)))∧Below w.heap.size w w'
theorem Sl.qc{w:World}{k:IntKind}{A:Option Addr}{n c:Nat}{l:List Nat}(h:Sl w k A n c l):Sl w.drew k A n c l:=⟨h.len,h.cap,h.cells⟩
theorem Sl.alloc{w:World}{k:IntKind}{A:Option Addr}{n c:Nat}{l:List Nat}(h:Sl w k A n c l)(o:Obj):Sl (w.alloc o) k A n c l:=h.below ((Below.refl _ _).alloc (NE _) _)
theorem Jh{w w':World}{p q:Nat}{u v:Value}(hb:Below w.heap.size w w')(hp:w.cell? ⟨p,0,none⟩=some u)(hq:w.cell? ⟨q,0,none⟩=some v):w'.cell? ⟨p,0,none⟩=some u∧w'.cell? ⟨q,0,none⟩=some v :=
 ⟨(hb.cell (p:=⟨p,0,none⟩) (World.block_lt_of_cell? _ _ hp)).trans hp,(hb.cell (p:=⟨q,0,none⟩) (World.block_lt_of_cell? _ _ hq)).trans hq⟩
theorem a7y(a b:Nat):decide (0 < gI a b)=decide (b < a):=by
 rcases Nat.lt_trichotomy a b with h | h | h
 ·rw[pJ h,WF J,WF J]
 ·subst h;rw[uu,WF J,WF J]
 ·rw[pK h,UV J,UV J]
theorem CB{b n:Nat}(h:(l9.limbs 1000000000 b).length=n):b < 1000000000 ^ n:=by
 have:=l9.mf (B:=1000000000) J (l9.Q4 J b)
 rwa [l9.L8 J,h]at this
theorem a4w{b k n:Nat}(h:(l9.limbs 1000000000 b).length=n)(hk:k < 1000000000):(l9.limbs 1000000000 (b * k)).length≤n+1:=by
 apply l9.BI J;have h1:=CB h;rw[Zb0];rcases Zas k with e | e
 ·subst e;rw[Nat.mul_zero];exact Nat.mul_pos (Nat.pow_pos J) J
 ·exact Nat.mul_lt_mul'' h1 hk
theorem a5w(pb pr:Nat)(A A':Option Addr)(n n' c c' b r k:Nat)(w:World)(hpb:w.cell? ⟨pb,0,none⟩=some (.slice A n c))(hpr:w.cell? ⟨pr,0,none⟩=some (.slice A' n' c'))
  (hb:Sl w .u32 A n c (l9.limbs 1000000000 b)) (hr:Sl w .u32 A' n' c' (l9.limbs 1000000000 r)) (hn:n≤10000000) (hn':n'≤10000000) (hk:k < 1000000000) :
  Calls prog 272 #[.int .i64 (k:Int),.pointer (some ⟨pb,0,none⟩),.pointer (some ⟨pr,0,none⟩)] w (GtB (b * k) r w):=by
 have hlb:=World.block_lt_of_cell? _ _ hpb;have hlr:=World.block_lt_of_cell? _ _ hpr;have hbW:Below w.heap.size w (w.alloc (.cells #[.int .u32 (k:Int)] 254)).drew:=((Below.refl _ _).alloc (NE _) _).drew;have hT:=times_any A (some ⟨w.heap.size,0,none⟩) n 1 c 1 _ [k] (w.alloc (.cells #[.int .u32 (k:Int)] 254)).drew ((hb.alloc _).qc) ((Sl.one w .u32 254 k).qc) J J (l9.Q4 J b) (l9.Small.cons hk l9.Small.nil);rw[l9.L8 J,show l9.D6 1000000000 [k]=k by simp[l9.D6]]at hT
 have HT:=WP hT;clear hT;have HLb:=WP hb.len;have hw32:IntKind.u32.wrap (k:Int)=k:=by rw[IntKind.wrap_u32];omega
 go_enter func272,ntmps272
 go_wp2
 go_region_held3 (fun w'=>w'.cell? ⟨pb,0,none⟩=some (.slice A n c)∧w'.cell? ⟨pr,0,none⟩=some (.slice A' n' c')) (go_keep)
  (first | (go_at_call 246;refine HT.out.mono ?_;rintro e w1 ⟨A1,n1,c1,rfl,hs1,hb1,_⟩;have jB:=hbW.trans (hb1.mono hbW.size);obtain⟨q1,q2⟩:=Jh jB hpb hpr;have HC:=WP (yO 1000000000 J A1 A' n1 n' c1 c' (b * k) r w1 hs1 (hr.below jB) (by have:=a4w HLb.out hk;rw[hs1.len]at this;omega) J)) | (go_at_call 264;refine HC.out.mono ?_;rintro e w2 ⟨rfl,q,rfl⟩))
 go_wp2;go_ret;exact⟨by rw[←a7y];rfl,below_drewN jB _⟩
def ZN(k:IntKind)(v:Nat)(w:World)(e:Ending)(w':World):Prop:=e=.returned (.int k (v:Int))∧Below w.heap.size w w'
theorem a5x{r b h:Nat}(hb:0 < b):r < b * h↔r / b < h:=by
 rw[Nat.div_lt_iff_lt_mul hb,Zbb]
theorem a5W(pb pr:Nat)(A A':Option Addr)(n n' c c' b r:Nat)(w:World)(hpb:w.cell? ⟨pb,0,none⟩=some (.slice A n c))(hpr:w.cell? ⟨pr,0,none⟩=some (.slice A' n' c'))
  (hb:Sl w .u32 A n c (l9.limbs 1000000000 b)) (hr:Sl w .u32 A' n' c' (l9.limbs 1000000000 r)) (hn:n≤10000000) (hn':n'≤10000000) (hb0:0 < b) (hq:r / b < 1000000000) :
  Calls prog 271 #[.int .i64 1000000000,.func (.func 272) #[] #[.pointer (some ⟨pb,0,none⟩),.pointer (some ⟨pr,0,none⟩)]] w (ZN .i64 (r / b+1) w):=by
 have HQ:Hid (∀h,decide (r < b * h)=decide (r / b < h)):=fun h=>by rw[Zam];exact a5x hb0
 generalize r / b=d at hq HQ
 go_enter func271,ntmps271
 go_wp2
 go_loopw [5,6] (fun s5 s6 wr=>∃lo hi:Nat,s5=.int .i64 lo∧s6=.int .i64 hi∧lo≤d+1∧d+1≤hi∧hi≤1000000000∧Below w.heap.size w wr) (fun s5 s6 _=>(intOf s6 - intOf s5).toNat)
 case atStart=>exact⟨0,1000000000,rfl,rfl,J,J,J,Below.refl _ _⟩
 case round =>
  obtain⟨lo,hi,rfl,rfl,h1,h2,h3,hbr⟩:=hrel;by_cases hlt:lo < hi
  ·obtain⟨p1,p2⟩:=Jh hbr hpb hpr;have hc:=a5w pb pr A A' n n' c c' b r ((lo+hi) / 2) wr p1 p2 (hb.below hbr) (hr.below hbr) hn hn' J;unfold GtB at hc;rw[HQ.out,show (((lo+hi) / 2:Nat):Int)=((lo:Int)+(hi:Int)) / 2 by omega]at hc
   by_cases hm:d < (lo+hi) / 2
   ·rw[UV hm]at hc;have HC:=WP hc;clear hc
    go_wp2_with (go_at_call 272;refine HC.out.mono ?_;rintro e w1 ⟨rfl,hb1⟩)
    go_roundw
    case rel=>exact⟨lo,(lo+hi) / 2,rfl,by go_num,h1,J,J,hbr.trans (hb1.mono hbr.size)⟩
    case measure=>simp only[intOf];omega
   ·rw[WF hm]at hc;have HC:=WP hc;clear hc
    go_wp2_with (go_at_call 272;refine HC.out.mono ?_;rintro e w1 ⟨rfl,hb1⟩)
    go_roundw
    case rel=>exact⟨(lo+hi) / 2+1,hi,by go_num,rfl,J,h2,h3,hbr.trans (hb1.mono hbr.size)⟩
    case measure=>simp only[intOf];omega
  ·have e:lo=d+1:=J;subst e;go_wp2;go_ret;exact⟨rfl,hbr⟩
section
variable {P:Program} {w:World}
theorem a7z(base:Nat)(t ty E:TypeId)(k:IntKind)(bytes:Nat)(ht:P.underlying t=some (.slice E))(hinfo:(P.info? E).map (fun i=>(i.zero,i.size,i.bytes))=some (some (.int k 0),1,bytes))(hbytes:bytes≤8)
  (A:Option Addr) (n c:Nat) (l:List Nat) (hown:Own w base E k A n c l) (A':Option Addr) (m c':Nat) (l':List Nat) (hs:Sl w k A' m c' l')
  (hn:n+m≤1000000000000) (hbase:base≤w.heap.size) :
  ∃A2 c2 w2,(Builtin.append_ #[t,t] ty #[.slice A n c,.slice A' m c']).run P w=.ok (.slice A2 (n+m) c2) w2∧Own w2 base E k A2 (n+m) c2 (l++l') ∧
   (∀g,g < w.heap.size→A≠some ⟨g,0,none⟩→w2.heap[g]?=w.heap[g]?)∧w.heap.size≤w2.heap.size∧w2.os=w.os∧w2.tape=w.tape∧w2.output=w.output:=by
 obtain⟨i0,hi0,hz0,hz1,hz2⟩:=info_parts hinfo;have hAn:A=none∨∃g,A=some ⟨g,0,none⟩:=by
  rcases hown.own.2 with⟨hv,_⟩ | ⟨g,cap,cur,hv,_⟩
  ·simp only[Zap]at hv;exact .inl hv.1
  ·simp only[Zap]at hv;exact .inr ⟨g,hv.1⟩
 rcases A' with _ | ad
 ·have hm:m=0:=by
   rcases Zas m with h0 | h0
   ·exact h0
   ·obtain⟨b,o,e,_⟩:=hs.cells h0;cases e
  subst hm;have hl:l'=[]:=Za9 hs.len;subst hl;refine⟨A,c,w,?_,by simpa using hown,fun _ _ _=>rfl,NE _,rfl,rfl,rfl⟩;rcases hown.own.2 with⟨hv,h0⟩ | ⟨g,cap,cur,hv,_,_,hnc,_⟩
  ·simp only[Zap]at hv;obtain⟨rfl,rfl,rfl⟩:=hv;simp[Builtin.append_,Zat ht,sizeOf,typeInfo,hi0,Builtin.lenOf,Builtin.firstCells]
  ·simp only[Zap]at hv;obtain⟨rfl,_,rfl⟩:=hv;simp[Builtin.append_,Zat ht,sizeOf,typeInfo,hi0,Builtin.lenOf,Builtin.firstCells,hnc,storeCells]
 ·have hcells:∀j u,(l'.map fun x=>Value.int k (x:Nat))[j]?=some u→w.cell? (ad.add j)=some u:=by
   intro j u hu;have hj:j < m:=by
    rw[←hs.len];rcases Zai j l'.length with h | h
    ·exact h
    ·rw[Zaf (by simpa using h)]at hu;cases hu
   obtain⟨b,o,e,_,hc⟩:=hs.cells J;injection e with e
   subst e;have e2:(⟨b,o,none⟩:Addr).add j=⟨b,o+j,none⟩:=by
    unfold Addr.add;split
    ·subst j;rfl
    ·rfl
   rw[e2,hc j hj];rw[Zag,Za2 (by rw[hs.len];exact hj)]at hu;rw[bi,Za2 (by rw[hs.len];exact hj)];simpa using hu
  obtain⟨v',w',hrun,h2,h3,h4,h5⟩:=run_append_own_at (P:=P) w base t ty E i0 (.int k 0) 1 bytes ht hi0 hz0 hz1 hz2 rfl J _ n _ hown.own ad m c' (l'.map fun x=>Value.int k (x:Nat)) (by simp[hs.len]) hcells (by
   intro u hu;obtain⟨x,_,rfl⟩:=List.mem_map.1 hu;rfl) (by unfold maxLen;omega) (by
   have:(n+m) * bytes≤1000000000000 * 8:=Nat.mul_le_mul hn hbytes;omega) hbase
  obtain⟨A2,c2,rfl⟩:∃A2 c2,v'=.slice A2 (n+m) c2:=by
   rcases h2.2 with⟨rfl,h0⟩ | ⟨g,cap,cur,rfl,_⟩
   ·exact⟨none,0,by rw[h0]⟩
   ·exact⟨_,_,rfl⟩
  refine⟨A2,c2,w',hrun,⟨by simpa using h2⟩,fun g hg hne=>h3.block g hg (fun e=>?_),h3.size,h3.os,h3.tape,h3.output⟩;rcases hAn with rfl | ⟨g',rfl⟩
  ·simp[Value.ownBlock]at e
  ·simp[Value.ownBlock]at e;subst e;exact hne rfl
theorem Yn{o:Oper}{a:Act}{K:Act→World→Prop}{Q:Exit→Act→World→Prop}(s x:Operand)(t:TypeId)
  (ho:o.op=.call { callee:=.builtin .append,args:=#[s,x],argTypes:=#[t,t] })
  (base:Nat) (E:TypeId) (k:IntKind) (bytes:Nat) (ht:P.underlying t=some (.slice E)) (hinfo:(P.info? E).map (fun i=>(i.zero,i.size,i.bytes))=some (some (.int k 0),1,bytes)) (hbytes:bytes≤8)
  (A:Option Addr) (n c:Nat) (l:List Nat) (hs:a.eval s=.slice A n c) (hown:Own w base E k A n c l) (A':Option Addr) (m c':Nat) (l':List Nat) (hx:a.eval x=.slice A' m c') (hsl:Sl w k A' m c' l')
  (hn:n+m≤1000000000000) (hbase:base≤w.heap.size)
  (h:∀A2 c2 w2,Own w2 base E k A2 (n+m) c2 (l++l')→(∀g,g < w.heap.size→A≠some ⟨g,0,none⟩→w2.heap[g]?=w.heap[g]?)→w.heap.size≤w2.heap.size→w2.os=w.os→w2.tape=w.tape→w2.output=w.output→K (a.put o.dst (.slice A2 (n+m) c2)) w2):o.wp P a w K Q:=by
 obtain⟨A2,c2,w2,hrun,h2,h3,h4,h5,h6,h7⟩:=a7z (P:=P) base t o.type E k bytes ht hinfo hbytes A n c l hown A' m c' l' hsl hn hbase;unfold Oper.wp execOp;simp only[ho,resolve,invoke,builtin,Za8,Zab,Result.andThen_ok,List.map_toArray,ZaC,Zb4,hs,hx,hrun];exact h A2 c2 w2 h2 h3 h4 h5 h6 h7
theorem a6C{ops:Array Oper}{o:Oper}{a:Act}{K:Act→World→Prop}{Q:Exit→Act→World→Prop}{F:Prop}(hgd:o.guard=none)(s x:Operand)(t:TypeId)
  (ho:o.op=.call { callee:=.builtin .append,args:=#[s,x],argTypes:=#[t,t] })
  (base:Nat) (E:TypeId) (k:IntKind) (bytes:Nat) (ht:P.underlying t=some (.slice E)) (hinfo:(P.info? E).map (fun i=>(i.zero,i.size,i.bytes))=some (some (.int k 0),1,bytes)) (hbytes:bytes≤8)
  (A:Option Addr) (n c:Nat) (l:List Nat) (hs:a.eval s=.slice A n c) (hown:Own w base E k A n c l) (A':Option Addr) (m c':Nat) (l':List Nat) (hx:a.eval x=.slice A' m c') (hsl:Sl w k A' m c' l')
  (hn:n+m≤1000000000000) (hbase:base≤w.heap.size)
  (h:∀A2 c2 w2,Own w2 base E k A2 (n+m) c2 (l++l')→(∀g,g < w.heap.size→A≠some ⟨g,0,none⟩→w2.heap[g]?=w.heap[g]?)→w.heap.size≤w2.heap.size→w2.os=w.os→w2.tape=w.tape→w2.output=w.output→K (a.put o.dst (.slice A2 (n+m) c2)) w2) :
  if Region.wanted o (yielded ops a.tmps)=true then Oper.wp P o a w K Q else F:=by
 have hw:Region.wanted o (yielded ops a.tmps)=true:=by simp[Region.wanted,hgd]
 rw[Za0 hw];exact Yn s x t ho base E k bytes ht hinfo hbytes A n c l hs hown A' m c' l' hx hsl hn hbase h
theorem a5y{ops:Array Oper}{rest:List Oper}{o:Oper}{a:Act}{Q:Exit→Act→World→Prop}(hgd:o.guard=none)(s x:Operand)(t:TypeId)
  (ho:o.op=.call { callee:=.builtin .append,args:=#[s,x],argTypes:=#[t,t] })
  (base:Nat) (E:TypeId) (k:IntKind) (bytes:Nat) (ht:P.underlying t=some (.slice E)) (hinfo:(P.info? E).map (fun i=>(i.zero,i.size,i.bytes))=some (some (.int k 0),1,bytes)) (hbytes:bytes≤8)
  (A:Option Addr) (n c:Nat) (l:List Nat) (hs:a.eval s=.slice A n c) (hown:Own w base E k A n c l) (A':Option Addr) (m c':Nat) (l':List Nat) (hx:a.eval x=.slice A' m c') (hsl:Sl w k A' m c' l')
  (hn:n+m≤1000000000000) (hbase:base≤w.heap.size)
  (h:∀A2 c2 w2,Own w2 base E k A2 (n+m) c2 (l++l')→(∀g,g < w.heap.size→A≠some ⟨g,0,none⟩→w2.heap[g]?=w.heap[g]?)→w.heap.size≤w2.heap.size→w2.os=w.os→w2.tape=w.tape→w2.output=w.output→wpList P ops Q rest (a.put o.dst (.slice A2 (n+m) c2)) w2):wpList P ops Q (o::rest) a w :=
 wpList_plain hgd fun _ hK=>Yn s x t ho base E k bytes ht hinfo hbytes A n c l hs hown A' m c' l' hx hsl hn hbase fun A2 c2 w2 h2 h3 h4 h5 h6 h7=>hK _ _ (h A2 c2 w2 h2 h3 h4 h5 h6 h7)
end
theorem Sl.far{w:World}{k:IntKind}{A:Option Addr}{n c:Nat}{l:List Nat}(h:Sl w k A n c l){p:Addr}(hp:∀b o,A=some ⟨b,o,none⟩→b≠p.block)(u:Value):Sl (w.setCell p u) k A n c l :=
 ⟨h.len,h.cap,fun hn=>by
  obtain⟨b,o,e,hlt,hc⟩:=h.cells hn;refine⟨b,o,e,by simpa[World.setCell] using hlt,fun i hi=>?_⟩;have hne:=hp b o e;rw[World.cell?_setCell_other w p ⟨b,o+i,none⟩ u (fun e=>hne (by rw[e]))];exact hc i hi⟩
theorem a5X{wr w2:World}{o:Obj}(hblk:∀g,g < (wr.alloc o).drew.heap.size→(some ⟨wr.heap.size,0,none⟩:Option Addr)≠some ⟨g,0,none⟩→w2.heap[g]?=(wr.alloc o).drew.heap[g]?)(hsz:(wr.alloc o).drew.heap.size≤w2.heap.size)
    (hos:w2.os=(wr.alloc o).drew.os) (htp:w2.tape=(wr.alloc o).drew.tape) (hou:w2.output=(wr.alloc o).drew.output):Below wr.heap.size wr w2 :=
  ⟨hos,htp,hou,by
                     have:(wr.alloc o).drew.heap.size=wr.heap.size+1:=I;omega,fun g hg=>(hblk g (by simp;omega) (by intro e;injection e with e;injection e with e;omega)).trans (Below.heap_alloc wr _ g hg)⟩
theorem set_drop(q:List Nat)(i d:Nat)(h:i < q.length):(q.set i d).drop i=d::q.drop (i+1):=by
 rw[ZaT (by simpa using h),List.getElem_set_self,List.drop_set_of_lt J]
theorem a4B(u R:Nat):l9.D6 1000000000 ([u]++l9.limbs 1000000000 R)=u+1000000000 * R:=by
 show u+1000000000 * l9.D6 1000000000 (l9.limbs 1000000000 R)=_;rw[l9.L8 J]
theorem a4x{u:Nat}(hu:u < 1000000000)(R:Nat):l9.Small 1000000000 ([u]++l9.limbs 1000000000 R):=l9.Small.cons hu (l9.Q4 J R)
theorem a7A{a b R u j:Nat}{q:List Nat}(hj:0 < j)(hja:j≤(l9.limbs 1000000000 a).length)(hjq:j≤q.length)(hu:(l9.limbs 1000000000 a).getD (j - 1) 0=u)
  (h:l9.D6 1000000000 ((l9.limbs 1000000000 a).drop j)=l9.D6 1000000000 (q.drop j) * b+R) :
  l9.D6 1000000000 ((l9.limbs 1000000000 a).drop (j - 1))=l9.D6 1000000000 ((q.set (j - 1) ((u+1000000000 * R) / b)).drop (j - 1)) * b+(u+1000000000 * R) % b:=by
 obtain⟨m,rfl⟩:∃m,j=m+1:=⟨j - 1,J⟩;rw[Zb7]at hu ⊢
 rw[set_drop _ _ _ J,l9.uh _ _ m J,hu,l9.D6];exact l9.Wj h
theorem box1{w:World}{g:Nat}{t:TypeId}{v:Value}(h:F5 w g t #[v]):w.cell? ⟨g,0,none⟩=some v∧w.frozen? ⟨g,0,none⟩=false:=⟨h.cell 0,h.frozen 0⟩
theorem a6D(A:Option Addr)(n c:Nat)(l:List Nat)(w:World)(h:Sl w .u32 A n c l)(hn:n≤1000000000) :
  Calls prog 266 #[.slice A n c] w fun e w'=>e=.returned (.slice A (l9.au l).length c)∧w'=w :=
 (uk A n c l w h hn).mono fun _ _ h=>⟨h.1,h.2.symm⟩
def b2E(a b:Nat)(w:World)(e:Ending)(w':World):Prop :=
 ∃A n c A' n' c',e=.returned (.tuple #[.slice A n c,.slice A' n' c'])∧Sl w' .u32 A n c (l9.limbs 1000000000 (a / b))∧Sl w' .u32 A' n' c' (l9.limbs 1000000000 (a % b))∧Below w.heap.size w w'
theorem Np(A A':Option Addr)(n n' c c' a b:Nat)(w:World)(hx:Sl w .u32 A n c (l9.limbs 1000000000 a))(hy:Sl w .u32 A' n' c' (l9.limbs 1000000000 b))(hn:n≤2500000)(hn':n'≤2500000)(hb0:0 < b) :
  Calls prog 249 #[.slice A n c,.slice A' n' c'] w (b2E a b w):=by
 have EU:=WP hx.len;have KE:=WP hy.len
 go_enter func249,ntmps249
 go_wp2_with (at_make;refine Cb (w0:=w) rfl _ _ _ rfl 254 .u32 4 Tryz.underlying267 kS J _ _ _ _ n rfl rfl J J J ((Below.refl _ _).alloc (NE _) _) ?_;intro w1 hown1 hb1 hbW1 hsz1)
 simp only[World.size_alloc]at hsz1 hown1 hbW1
 go_loopw [8,9] (fun ix dg wr=>∃(j R nr cr:Nat) (Ar:Option Addr) (q:List Nat),j≤n∧ix=.int .i64 ((j:Int) - 1)∧Hid (F5 wr w.heap.size 267 #[.slice A' n' c'])∧Hid (F5 wr w1.heap.size 267 #[.slice Ar nr cr])∧Sl wr .u32 Ar nr cr (l9.limbs 1000000000 R)∧Hid (∀b o,Ar=some ⟨b,o,none⟩→b≠w.heap.size+1∧b≠w1.heap.size)∧R < b∧Own wr w.heap.size 254 .u32 (some ⟨w.heap.size+1,0,none⟩) n n q∧l9.Small 1000000000 q∧Hid (l9.D6 1000000000 ((l9.limbs 1000000000 a).drop j)=l9.D6 1000000000 (q.drop j) * b+R)∧Below w.heap.size w wr) (fun ix _ _=>(intOf ix+1).toNat)
 case atStart =>
  refine⟨n,0,0,0,none,List.replicate n 0,NE _,rfl,?_,?_,Sl.nil _ _ _ _,?_,hb0,?_,Gq _ _ J,?_,?_⟩
  ·have h1:=(F5.new w 267 #[.slice A' n' c']).keep (hbW1.block w.heap.size J);exact WP (h1.alloc _)
  ·exact WP (F5.new w1 _ _)
  ·exact WP (fun _ _ e=>by cases e)
  ·exact hown1.alloc _
  ·exact WP (by rw[Zax (by rw[EU.out];exact NE _),Zax I];simp[l9.D6])
  ·exact hb1.alloc hb1.size _
 case round =>
  obtain⟨j,R,nr,cr,Ar,q,hj,rfl,HB1,HB2,sD,HA,hR,hown,Be,HV,hb⟩:=hrel;have Bf:=WP sD.len;have hnr:nr≤n':=by
   rw[←Bf.out,←KE.out];exact l9.cu J J
  have c1:=HB1.out.cell 0;have c2:=HB2.out.cell 0;simp only[List.getElem?_toArray,List.getElem?_cons_zero]at c1 c2;have f2:=HB2.out.frozen 0;have hl2:=HB2.out.lt;by_cases hj0:0 < j
  ·obtain⟨bx,ox,rfl,hbx,hcx⟩:=(hx.below hb).cells J;have bg:=hcx (j - 1) J;clear hcx;have hu:=getD_lt (l:=l9.limbs 1000000000 a) (l9.Q4 J a) J (j - 1);generalize hu0:(l9.limbs 1000000000 a).getD (j - 1) 0=u at bg hu;have EW:=WP hu0;clear hu0;have hi1:(0:Int)≤(j:Int) - 1:=J;have hi2:(j:Int) - 1 < n:=J;have hi3:((j:Int) - 1).toNat=j - 1:=J;have EY:Own (wr.alloc (.cells #[.int .u32 (u:Int)] 254)).drew wr.heap.size 254 .u32 (some ⟨wr.heap.size,0,none⟩) 1 1 [u]:=⟨⟨rfl,.inr ⟨wr.heap.size,1,#[.int .u32 (u:Int)],rfl,NE _,heap_alloc_new wr _,NE _,by unfold maxLen;omega,rfl,rfl⟩⟩⟩;have hsW:Sl (wr.alloc (.cells #[.int .u32 (u:Int)] 254)).drew .u32 Ar nr cr (l9.limbs 1000000000 R):=(sD.alloc _).qc;have HU:Hid ((l9.limbs 1000000000 a).getD (j - 1) 0=u):=EW;have hqn:q.length=n:=hown.len;have HST:=WP (a7A (b:=b) hj0 (by rw[EU.out];exact hj) J HU.out HV.out);clear hqn;obtain⟨R',hR'⟩:∃R',R'=u+1000000000 * R:=⟨_,rfl⟩;rw[←hR']at HST;have HR':=WP hR';clear hR'
   go_upto_region 6 with (fail)
   go_cut [8] (fun s8 wx=>s8=.int .i64 ((j:Int) - 1)∧∃(A2:Option Addr) (n2 kJ:Nat),Hid (F5 wx w.heap.size 267 #[.slice A' n' c'])∧Hid (F5 wx w1.heap.size 267 #[.slice A2 n2 kJ])∧Sl wx .u32 A2 n2 kJ (l9.limbs 1000000000 R')∧Hid (∀b o,A2=some ⟨b,o,none⟩→b≠w.heap.size+1∧b≠w1.heap.size)∧n2≤n'+1∧Own wx w.heap.size 254 .u32 (some ⟨w.heap.size+1,0,none⟩) n n q∧Below w.heap.size w wx)
   case first =>
    go_region_law
     (first | (refine a6C rfl _ _ _ rfl wr.heap.size 254 .u32 4 Tryz.underlying267 kS J _ _ _ [u] rfl EY _ _ _ _ rfl hsW J I ?_;intro A2 kJ w2 hown2 hblk2 hsz2 Eo Ep Et;have hbw2:=a5X hblk2 hsz2 Eo Ep Et;clear hblk2 hsz2 Eo Ep Et;have k1:=(hbw2.cell (p:=⟨w1.heap.size,0,none⟩) hl2).trans c2;have k3:=(hbw2.frozen (p:=⟨w1.heap.size,0,none⟩) hl2).trans f2;have k4:=Zaa hl2 hbw2.size;have HTr:=WP (uk A2 (1+nr) kJ _ w2 hown2.sl J)) | (go_simp;go_at_call 266;refine HTr.out.mono ?_;rintro e w3 ⟨rfl,rfl⟩))
    all_goals (go_wp2_with fail;go_meet)
    all_goals
     have hsl2:=hown2.sl.trimmed (B:=1000000000) J (a4x hu R);rw[a4B,←HR'.out]at hsl2;have hfr:=hown2.fresh;have hq1:=(hown.lt rfl).2;have htl:=yI ([u]++l9.limbs 1000000000 R);rw[Za4,Bf.out]at htl;refine⟨rfl,A2,_,kJ,WP ((HB1.out.below hbw2).far (by simp;omega) _),WP (by simpa using (HB2.out.below hbw2).jb 0 (.slice A2 (l9.au ([u]++l9.limbs 1000000000 R)).length kJ)),hsl2.far (fun b o e=>by have:=hfr b o e;show b≠w1.heap.size;omega) _,WP (fun b o e=>by have:=hfr b o e;omega),?_,(hown.below hbw2).zH (HB2.out.below hbw2) O _ _,(hb.trans (hbw2.mono hb.size)).setCell (p:=⟨w1.heap.size,0,none⟩) hb1.size _⟩
     ·simp only[Zaw]at htl;omega
   case rest =>
    obtain⟨rfl,A2,n2,kJ,X1,X2,hs2,HA2,hn2,zY,hbx2⟩:=hcut;clear HB1 HB2 c1 c2 f2 hl2 sD HA hown hb EY hsW Bf hnr bg;obtain⟨m1,m2⟩:=box1 X1.out;obtain⟨m3,m4⟩:=box1 X2.out;have hl3:=X2.out.lt;have hl4:=X1.out.lt;obtain⟨hco,hfo,_,hlq⟩:=zY.cellAt (i:=j - 1) J;generalize q.getD (j - 1) 0=z at hco;have Bg:=WP (yO 1000000000 J A2 A' n2 n' kJ c' R' b wc hs2 (hy.below hbx2) J J);by_cases hge:R' < b
    ·have HO:Hid (gI R' b=-1):=pJ hge
     go_wp2_with (go_at_call 264;refine Bg.out.mono ?_;rintro e w2 ⟨rfl,qq,rfl⟩;rw[HO.out])
     go_roundw
     case rel =>
      refine⟨j - 1,R',n2,kJ,A2,q.set (j - 1) 0,J,by go_num,WP (X1.out.far I _),WP (X2.out.far (by simp;omega) _),(hs2.drew qq).far (p:=⟨w.heap.size+1,j - 1,none⟩) (fun b o e=>(HA2.out b o e).1) _,HA2,hge,(zY.drewN qq).setInt (d:=0) rfl rfl,Be.set J,?_,(below_drewN hbx2 qq).setCell (p:=⟨w.heap.size+1,j - 1,none⟩) I _⟩;have h:=HST.out;rw[Nat.div_eq_of_lt hge,Nat.mod_eq_of_lt hge]at h;exact WP h
     case measure=>simp only[intOf];omega
    ·have hz:0≤gI R' b:=by
      rcases Zai b R' with h | h
      ·rw[pK h];omega
      ·obtain rfl:R'=b:=J;rw[uu];omega
     have hdg:R' / b < 1000000000:=by rw[HR'.out];exact l9.Wl hu hR
     have TC:Hid (∀qq,Calls prog 271 #[.int .i64 1000000000,.func (.func 272) #[] #[.pointer (some ⟨w.heap.size,0,none⟩),.pointer (some ⟨w1.heap.size,0,none⟩)]] (wc.drewN qq) (ZN .i64 (R' / b+1) (wc.drewN qq))) :=
      fun qq=>a5W w.heap.size w1.heap.size A' A2 n' n2 c' kJ b R' (wc.drewN qq) m1 m3 ((hy.below hbx2).drew qq) (hs2.drew qq) J J hb0 hdg
     have KF:=WP (Nat.div_add_mod R' b);have hml:R' % b < b:=Nat.mod_lt _ hb0;generalize R' / b=d at hdg TC HST KF;generalize R' % b=rr at HST KF hml
     go_upto_region 10 with (first | (go_at_call 264;refine Bg.out.mono ?_;rintro e w2 ⟨rfl,qq,rfl⟩) | (go_at_call 271;refine (TC.out qq).mono ?_;rintro e w3 ⟨rfl,hb3⟩))
     have Eu:Below wc.heap.size wc w3:=⟨hb3.os,hb3.tape,hb3.output,hb3.size,hb3.block⟩;have hbw3:Below w.heap.size w w3:=hbx2.trans (Eu.mono hbx2.size);have Y1:=WP (X1.out.below Eu);have Y2:=WP (X2.out.below Eu);have hown3:=zY.below Eu;have hs3:=hs2.below Eu;have hy3:=hy.below hbw3;obtain⟨y1,_⟩:=box1 Y1.out;obtain⟨y3,y4⟩:=box1 Y2.out;have kG:=Y2.out.lt;have c1V:=Y1.out.lt;have hbW:Below w3.heap.size w3 (w3.alloc (.cells #[.int .u32 (d:Int)] 254)).drew:=((Below.refl _ _).alloc (NE _) _).drew;have hone:=(Sl.one w3 .u32 254 d).qc;have HT1:=WP (uk (some ⟨w3.heap.size,0,none⟩) 1 1 [d] (w3.alloc (.cells #[.int .u32 (d:Int)] 254)).drew hone J);have htr:=hone.trimmed (B:=1000000000) J (l9.Small.cons hdg l9.Small.nil);rw[show l9.D6 1000000000 [d]=d by simp[l9.D6]]at htr
     have htl:=yI [d];have hT2:=times_any A' (some ⟨w3.heap.size,0,none⟩) n' _ c' 1 (l9.limbs 1000000000 b) (l9.limbs 1000000000 d) (w3.alloc (.cells #[.int .u32 (d:Int)] 254)).drew (hy3.below hbW) htr J (by simp only[Zaw]at htl;omega) (l9.Q4 J b) (l9.Q4 J d);rw[l9.L8 J,l9.L8 J]at hT2;have HT2:=WP hT2;have hle:b * d≤R':=by have:=KF.out;omega
     have HSub:Hid (R' - b * d=rr):=by have:=KF.out;show _=_;omega
     clear hT2 htl hone htr Bg TC m1 m2 m3 m4 hl3 hl4 hco hfo hlq
     go_cut [8,9] (fun s8 s9 wx=>s8=.int .i64 ((j:Int) - 1)∧s9=.int .u32 (d:Int)∧∃(A5:Option Addr) (n5 c5:Nat),Hid (F5 wx w.heap.size 267 #[.slice A' n' c'])∧Hid (F5 wx w1.heap.size 267 #[.slice A5 n5 c5])∧Sl wx .u32 A5 n5 c5 (l9.limbs 1000000000 rr)∧Hid (∀b o,A5=some ⟨b,o,none⟩→b≠w.heap.size+1∧b≠w1.heap.size)∧Own wx w.heap.size 254 .u32 (some ⟨w.heap.size+1,0,none⟩) n n q∧Below w.heap.size w wx)
     case first =>
      go_region_law
       (first | (go_simp;go_at_call 266;refine HT1.out.mono ?_;rintro e wt ⟨rfl,rfl⟩) | (go_simp;go_at_call 246;refine HT2.out.mono ?_;rintro e w4 ⟨A4,n4,c4,rfl,hs4,hb4,hf4⟩;have kC:=hbW.trans (hb4.mono hbW.size);have z3:=(kC.cell (p:=⟨w1.heap.size,0,none⟩) kG).trans y3;have a2l:=hs3.below kC;have HMi:=WP (GY A2 A4 n2 n4 kJ c4 _ _ w4 a2l hs4 J (by rw[←a2l.len,←hs4.len];exact l9.cu J hle) (l9.Q4 J _) (l9.Q4 J _) (by rw[l9.L8 J,l9.L8 J];exact hle))) | (go_simp;go_at_call 251;refine HMi.out.mono ?_;rintro e w5 ⟨A5,n5,c5,rfl,hs5,hb5,hf5⟩;have oq:=kC.trans (hb5.mono kC.size);have k1:=(oq.cell (p:=⟨w1.heap.size,0,none⟩) kG).trans y3;have k3:=(oq.frozen (p:=⟨w1.heap.size,0,none⟩) kG).trans y4;have k4:=Zaa kG oq.size))
      all_goals (go_wp2_with fail;go_meet)
      all_goals
       rw[l9.L8 J,l9.L8 J,HSub.out]at hs5;have hq1:=(hown3.lt rfl).2;have hz4:=kC.size;refine⟨rfl,rfl,A5,n5,c5,WP ((Y1.out.below oq).far (by simp;omega) _),WP (by simpa using (Y2.out.below oq).jb 0 (.slice A5 n5 c5)),hs5.far (p:=⟨w1.heap.size,0,none⟩) (fun b o e=>by have:=hf5 b o e;show b≠w1.heap.size;omega) _,WP (fun b o e=>by have:=hf5 b o e;omega),(hown3.below oq).zH (Y2.out.below oq) O _ _,(hbw3.trans (oq.mono hbw3.size)).setCell (p:=⟨w1.heap.size,0,none⟩) hb1.size _⟩
     case rest =>
      obtain⟨rfl,rfl,A5,n5,c5,V1,V2,hs5,HA5,hown5,hb5⟩:=hcut;obtain⟨hco,hfo,_,hlq⟩:=hown5.cellAt (i:=j - 1) J;generalize q.getD (j - 1) 0=z at hco;go_wp2
      go_roundw
      case rel=>exact⟨j - 1,rr,n5,c5,A5,q.set (j - 1) d,J,by go_num,WP (V1.out.far I _),WP (V2.out.far (by simp;omega) _),hs5.far (p:=⟨w.heap.size+1,j - 1,none⟩) (fun b o e=>(HA5.out b o e).1) _,HA5,hml,hown5.setInt J rfl,Be.set hdg,HST,hb5.setCell (p:=⟨w.heap.size+1,j - 1,none⟩) I _⟩
      case measure=>simp only[intOf];omega
  ·have hjz:j=0:=J;subst hjz;have HQ:Hid (l9.D6 1000000000 q=a / b∧R=a % b):=by
    have h:=HV.out;rw[Zb5,Zb5,l9.L8 J]at h;show _∧_;rw[h];exact⟨by rw[Nat.add_comm,Nat.add_mul_div_right _ _ hb0,Nat.div_eq_of_lt hR,ZaH],by rw[Nat.add_comm,Nat.add_mul_mod_self_right,Nat.mod_eq_of_lt hR]⟩
   have Ew:=hown.sl
   go_upto_region 12 with (fail)
   go_quiet ((go_at_call 266;exact Calls.quiet_of_same (a6D _ _ _ _ _ (Ew.drew _) J)))
   go_wp2;go_ret2;refine⟨_,_,_,_,_,_,rfl,?_,?_,below_drewN hb _⟩
   ·have:=Ew.trimmed (B:=1000000000) J Be;rw[HQ.out.1]at this;exact this.drew _
   ·rw[←HQ.out.2];exact sD.drew _
def jd(a b:Int):Int:=if a < b then -1 else if b < a then 1 else 0
theorem Yo{a b:Int}(h:a < b):jd a b=-1:=by simp[jd,h]
theorem Yp{a b:Int}(h:b < a):jd a b=1:=by simp[jd,h];omega
theorem Xa{a b:Int}(ha:¬a < 0)(hb:¬b < 0):gI a.natAbs b.natAbs=jd a b:=by
 unfold gI jd;by_cases h1:a < b
 ·rw[Za0 J,Za0 h1]
 ·rw[lw J,lw h1];by_cases h2:b < a
  ·rw[Za0 J,Za0 h2]
  ·rw[lw J,lw h2]
theorem Xb{a b:Int}(ha:a < 0)(hb:b < 0):gI b.natAbs a.natAbs=jd a b:=by
 unfold gI jd;by_cases h1:a < b
 ·rw[Za0 J,Za0 h1]
 ·rw[lw J,lw h1];by_cases h2:b < a
  ·rw[Za0 J,Za0 h2]
  ·rw[lw J,lw h2]
def pR(v:Int)(w:World)(e:Ending)(w':World):Prop:=e=.returned (.int .i64 v)∧Below w.heap.size w w'
theorem a5c(a b:aa0)(w:World)(ha:a.length≤2500000)(hb:b.length≤2500000) :
  Calls prog 247 #[.string ⟨a.toArray⟩,.string ⟨b.toArray⟩] w (pR (jd (l9.D5 a) (l9.D5 b)) w):=by
 have aj:=WP (parse_any a w ha);have HP2:Hid (∀w',Calls prog 243 #[.string ⟨b.toArray⟩] w' (jV (b.length+1) (l9.D5 b) w')):=fun w'=>parse_any b w' hb
 generalize l9.D5 a=x at aj;generalize l9.D5 b=y at HP2;by_cases hx:x < 0 <;> by_cases hy:y < 0
 ·have HF:=WP (Xb hx hy)
  go_enter func247,ntmps247
  go_wp2_with fail
  refine aj.out.mono ?_;rintro e w1 ⟨A1,n1,c1,rfl,hs1,hn1,hb1⟩;rw[UV hx]
  go_wp2_with fail
  refine (HP2.out _).mono ?_;rintro e w2 ⟨A2,n2,c2,rfl,hs2,hn2,hb2⟩;rw[UV hy];have hbw2:Below w.heap.size w w2:=hb1.trans (hb2.mono hb1.size);have HC:Hid (∀o1 o2,Calls prog 264 #[.slice A2 n2 c2,.slice A1 n1 c1] ((w2.alloc o1).alloc o2) (Cmp y.natAbs x.natAbs ((w2.alloc o1).alloc o2))) :=
   fun o1 o2=>yO 1000000000 J A2 A1 n2 n1 c2 c1 _ _ _ ((hs2.alloc o1).alloc o2) (((hs1.below hb2).alloc o1).alloc o2) J J
  go_wp2_with (go_at_call 264;refine (HC.out _ _).mono ?_;rintro e w3 ⟨rfl,q,rfl⟩)
  go_ret;refine⟨?_,below_drewN ((hbw2.alloc hbw2.size _).alloc (by rw[World.size_alloc];have:=hbw2.size;omega) _) q⟩
  rw[←HF.out];rfl
 ·have HF:=WP (Yo (a:=x) (b:=y) J)
  go_enter func247,ntmps247
  go_wp2_with fail
  refine aj.out.mono ?_;rintro e w1 ⟨A1,n1,c1,rfl,hs1,hn1,hb1⟩;rw[UV hx]
  go_wp2_with fail
  refine (HP2.out _).mono ?_;rintro e w2 ⟨A2,n2,c2,rfl,hs2,hn2,hb2⟩;rw[WF J];have hbw2:Below w.heap.size w w2:=hb1.trans (hb2.mono hb1.size);go_wp2;go_ret;refine⟨?_,(hbw2.alloc hbw2.size _).alloc (by rw[World.size_alloc];have:=hbw2.size;omega) _⟩
  rw[HF.out];rfl
 ·have HF:=WP (Yp (a:=x) (b:=y) J)
  go_enter func247,ntmps247
  go_wp2_with fail
  refine aj.out.mono ?_;rintro e w1 ⟨A1,n1,c1,rfl,hs1,hn1,hb1⟩;rw[WF J]
  go_wp2_with fail
  refine (HP2.out _).mono ?_;rintro e w2 ⟨A2,n2,c2,rfl,hs2,hn2,hb2⟩;rw[UV hy];have hbw2:Below w.heap.size w w2:=hb1.trans (hb2.mono hb1.size);go_wp2;go_ret;refine⟨?_,(hbw2.alloc hbw2.size _).alloc (by rw[World.size_alloc];have:=hbw2.size;omega) _⟩
  rw[HF.out];rfl
 ·have HF:=WP (Xa hx hy)
  go_enter func247,ntmps247
  go_wp2_with fail
  refine aj.out.mono ?_;rintro e w1 ⟨A1,n1,c1,rfl,hs1,hn1,hb1⟩;rw[WF J]
  go_wp2_with fail
  refine (HP2.out _).mono ?_;rintro e w2 ⟨A2,n2,c2,rfl,hs2,hn2,hb2⟩;rw[WF J];have hbw2:Below w.heap.size w w2:=hb1.trans (hb2.mono hb1.size);have HC:Hid (∀o1 o2,Calls prog 264 #[.slice A1 n1 c1,.slice A2 n2 c2] ((w2.alloc o1).alloc o2) (Cmp x.natAbs y.natAbs ((w2.alloc o1).alloc o2))) :=
   fun o1 o2=>yO 1000000000 J A1 A2 n1 n2 c1 c2 _ _ _ (((hs1.below hb2).alloc o1).alloc o2) ((hs2.alloc o1).alloc o2) J J
  go_wp2_with (go_at_call 264;refine (HC.out _ _).mono ?_;rintro e w3 ⟨rfl,q,rfl⟩)
  go_ret;refine⟨?_,below_drewN ((hbw2.alloc hbw2.size _).alloc (by rw[World.size_alloc];have:=hbw2.size;omega) _) q⟩
  rw[←HF.out];rfl
def a7B(x y:Int)(w:World)(e:Ending)(w':World):Prop:=e=.returned (.tuple #[.int .i64 x,.int .i64 y,.bool true])∧Below w.heap.size w w'
def a9Y(w:World)(e:Ending)(w':World):Prop:=e=.returned (.tuple #[.int .i64 0,.int .i64 0,.bool false])∧w=w'
theorem Wu(a b:aa0)(m:Int)(w:World)(hm:m≤18)(ha:(a.length:Int)≤m)(hb:(b.length:Int)≤m)(hva:l9.U4 a=true)(hvb:l9.U4 b=true) :
  Calls prog 240 #[.string ⟨a.toArray⟩,.string ⟨b.toArray⟩,.int .i64 m] w (a7B (l9.D5 a) (l9.D5 b) w):=by
 have jK:Hid (∀w',Calls prog 262 #[.string ⟨a.toArray⟩] w' fun e w''=>e=.returned (.bool true)∧w'=w''):=fun w'=>by
  have:=qV a w' J;rwa [hva]at this
 have mX:Hid (∀w',Calls prog 262 #[.string ⟨b.toArray⟩] w' fun e w''=>e=.returned (.bool true)∧w'=w''):=fun w'=>by
  have:=qV b w' J;rwa [hvb]at this
 have aj:=WP (UZ a w hva J);have HP2:Hid (∀w',Calls prog 263 #[.string ⟨b.toArray⟩,.int .i64 10,.int .i64 64] w' fun e w''=>e=.returned (.tuple #[.int .i64 (l9.D5 b),.nilIface])∧Below w'.heap.size w' w''):=fun w'=>UZ b w' hvb J
 clear hva hvb
 go_enter func240,ntmps240
 go_wp2_with fail
 refine (jK.out _).mono ?_;rintro e w' ⟨rfl,rfl⟩
 go_wp2_with fail
 refine (mX.out _).mono ?_;rintro e w' ⟨rfl,rfl⟩
 go_wp2_with fail
 refine aj.out.mono ?_;rintro e w1 ⟨rfl,hb1⟩
 go_wp2_with fail
 refine (HP2.out _).mono ?_;rintro e w2 ⟨rfl,hb2⟩;go_wp2
 go_ret3
 exact⟨rfl,hb1.trans (hb2.mono hb1.size)⟩
theorem Xc(a b:aa0)(m:Int)(w:World)(hla:a.length≤2500000)(hlb:b.length≤2500000)(h:¬((a.length:Int)≤m∧(b.length:Int)≤m∧l9.U4 a=true∧l9.U4 b=true)) :
  Calls prog 240 #[.string ⟨a.toArray⟩,.string ⟨b.toArray⟩,.int .i64 m] w (a9Y w):=by
 by_cases h1:(a.length:Int)≤m
 ·by_cases h2:(b.length:Int)≤m
  ·cases h3:l9.U4 a with
   |true =>
    have h4:l9.U4 b=false:=by
     cases h4:l9.U4 b with
     |false=>rfl
     |true=>exact absurd ⟨h1,h2,h3,h4⟩ h
    have jK:Hid (∀w',Calls prog 262 #[.string ⟨a.toArray⟩] w' fun e w''=>e=.returned (.bool true)∧w'=w''):=fun w'=>by
     have:=qV a w' J;rwa [h3]at this
    have mX:Hid (∀w',Calls prog 262 #[.string ⟨b.toArray⟩] w' fun e w''=>e=.returned (.bool false)∧w'=w''):=fun w'=>by
     have:=qV b w' J;rwa [h4]at this
    clear h h3 h4
    go_enter func240,ntmps240
    go_wp2_with fail
    refine (jK.out _).mono ?_;rintro e w' ⟨rfl,rfl⟩
    go_wp2_with fail
    refine (mX.out _).mono ?_;rintro e w' ⟨rfl,rfl⟩;go_wp2
    go_ret3
    exact⟨rfl,rfl⟩
   |false =>
    have jK:Hid (∀w',Calls prog 262 #[.string ⟨a.toArray⟩] w' fun e w''=>e=.returned (.bool false)∧w'=w''):=fun w'=>by
     have:=qV a w' J;rwa [h3]at this
    clear h h3
    go_enter func240,ntmps240
    go_wp2_with fail
    refine (jK.out _).mono ?_;rintro e w' ⟨rfl,rfl⟩;go_wp2
    go_ret3
    exact⟨rfl,rfl⟩
  ·clear h;have d1:decide (m < (b.length:Int))=true:=by simp;omega
   go_enter func240,ntmps240
   go_wp2
   go_ret3
   exact⟨rfl,rfl⟩
 ·clear h;have d1:decide (m < (a.length:Int))=true:=by simp;omega
  go_enter func240,ntmps240
  go_wp2
  go_ret3
  exact⟨rfl,rfl⟩
def uw(v:Value)(w:World)(e:Ending)(w':World):Prop:=e=.returned v∧w=w'
theorem Qb{D:ByteArray}{l:aa0}(h:D.data.toList=l):D=⟨l.toArray⟩:=by
 subst h;rw[Lib.mk_data]
theorem wC{v:Int}(h:v < 0):Lib.itoa v=45::Lib.decDigits v.natAbs:=by
 obtain⟨u,rfl⟩:∃u:Nat,v=-(u:Int):=⟨v.natAbs,J⟩;rw[l9.BV J];simp
theorem yP{v:Int}(h:0≤v):Lib.itoa v=Lib.decDigits v.natAbs:=by
 obtain⟨u,rfl⟩:∃u:Nat,v=(u:Int):=⟨v.natAbs,J⟩;rw[l9.qX];simp
theorem Vd{v:Int}(h:v≠0):Lib.itoa v≠[48]:=fun e=>h (l9.yZ (e.trans l9.jR.symm))
theorem GR{D:ByteArray}{c:UInt8}{r:aa0}(h:D.data.toList=c::r):∃hp:0 < D.size,D[0]=c:=by
 have hp:0 < D.size:=by rw[Zar,h];simp
 obtain⟨hl,e⟩:=byte_at h 0 hp;exact⟨hp,by rw[e];rfl⟩
theorem Nq(l:aa0)(w:World)(hl:l.length≤2500000) :
    Calls prog 248 #[.string ⟨l.toArray⟩] w (uw (.string ⟨(Lib.itoa (-(l9.D5 l))).toArray⟩) w):=by
  have HD:=WP (wz l w J);obtain⟨D,hD⟩:∃D:ByteArray,D=⟨(norm l).toArray⟩:=⟨_,rfl⟩;rw[←hD]at HD;have HT:Hid (D.data.toList=Lib.itoa (l9.D5 l)):=by rw[hD];exact norm_eq l
  have hsz:D.size≤2500001:=by rw[hD,Zar];have:=pq l;show (norm l).length≤_;omega
  clear hD;generalize l9.D5 l=v at HT;by_cases h0:v=0
  · subst h0
    have hE:D.toList=[48]:=by rw[Zb2,HT.out,l9.jR]
    have hE2:(D.toList == [48])=true:=by rw[hE];rfl
    have HR:Hid (D=⟨(Lib.itoa (-0)).toArray⟩):=Qb HT.out;clear hE
    go_enter func248,ntmps248
    go_wp2_with fail
    refine HD.out.mono ?_;rintro e w' ⟨rfl,rfl⟩;go_wp2;go_ret;exact⟨by rw[←HR.out];rfl,rfl⟩
  · have hE2:(D.toList == [48])=false:=by rw[Zb2,HT.out];simpa using Vd h0
    by_cases hn:v < 0
    · obtain⟨hp,e0⟩:=GR (HT.out.trans (wC hn))
      have hb:((D[0].toNat:Int) == 45)=true:=by rw[e0];rfl
      have HR:Hid (D.extract 1 D.size=⟨(Lib.itoa (-v)).toArray⟩):=by
        apply Qb;rw[Lib.extract_data,HT.out,wC hn,List.drop_succ_cons,Zb5,yP J,Zae]
        · congr 1;omega
        · rw[Zar,HT.out,wC hn];simp
      clear e0
      go_enter func248,ntmps248
      go_wp2_with fail
      refine HD.out.mono ?_;rintro e w' ⟨rfl,rfl⟩;go_wp2;go_ret;exact⟨by rw[←HR.out];rfl,rfl⟩
    · obtain⟨c,r,hcr,_⟩:=l9.yL (u:=v.natAbs) J
      have hD2:D.data.toList=c::r:=by rw[HT.out,yP J,hcr]
      obtain⟨hp,e0⟩:=GR hD2;have h45:c≠45:=l9.BX (r:=r) (by rw[←hcr];exact l9.wu _);have hb:((D[0].toNat:Int) == 45)=false:=by
        rw[e0,IR];intro e;exact h45 (UInt8.toNat_inj.1 (by
                                         have:c.toNat=45:=J;simpa using this))
      have HR:Hid ((⟨#[45]⟩:ByteArray)++D=⟨(Lib.itoa (-v)).toArray⟩):=by
        apply Qb;rw[wC J,Int.natAbs_neg,←yP (v:=v) J,←HT.out];simp
      clear e0 hD2 h45 hcr
      go_enter func248,ntmps248
      go_wp2_with fail
      refine HD.out.mono ?_;rintro e w' ⟨rfl,rfl⟩;go_wp2;go_ret;exact⟨by rw[←HR.out];rfl,rfl⟩
theorem GV(l:aa0)(w:World)(hl:l.length≤2500000) :
  Calls prog 237 #[.string ⟨l.toArray⟩] w (uw (.int .i64 ((l9.mag (norm l)).length:Nat)) w):=by
 have HD:=WP (wz l w J);have hnl:=pq l;have hml:=l9.lV (norm l)
 go_enter func237,ntmps237
 go_wp2_with fail
 refine HD.out.mono ?_;rintro e w' ⟨rfl,rfl⟩
 go_wp2_with fail
 refine (ML (norm l) _).mono ?_;rintro e w' ⟨rfl,rfl⟩;go_wp2;go_ret;exact⟨rfl,rfl⟩
theorem a5z(n:Int)(w:World)(ht:Tab w)(h0:-9223372036854775808≤n)(h1:n≤9223372036854775807) :
  Calls prog 81 #[.int .i64 n] w (dG (Lib.itoa n) w):=by
 have HI:=WP (zh n w ht h0 h1);clear h0 h1
 go_enter func81,ntmps81
 go_wp2_with fail
 refine HI.out.mono ?_;rintro e w' ⟨rfl,hb⟩;go_wp2;go_ret;exact⟨rfl,hb⟩
def Ji(K:Nat)(v:Int)(w:World)(e:Ending)(w':World):Prop :=
 ∃(s:Bool) (m:Nat) (A:Option Addr) (n c:Nat),e=.returned (.agg #[.bool s,.slice A n c])∧Sl w' .u32 A n c (l9.limbs 1000000000 m)∧n≤K∧(if s then -(m:Int) else m)=v∧Below w.heap.size w w'
theorem jk{s:Bool}{m:Nat}{v:Int}(h:(if s then -(m:Int) else m)=v):dF s m=Lib.itoa v:=by unfold dF;rw[h]
theorem UK{a b n n':Nat}(h:(l9.limbs 1000000000 a).length=n)(h':(l9.limbs 1000000000 b).length=n'):(l9.limbs 1000000000 (a+b)).length≤n+n'+1:=by
 apply l9.BI J;have h1:=CB h;have h2:=CB h';have h3:1000000000 ^ n≤1000000000 ^ (n+n'):=ZaF J J;have h4:1000000000 ^ n'≤1000000000 ^ (n+n'):=ZaF J J;rw[Zb0];omega
theorem MS(w:World)(T:TypeId)(u0 v0 u1 v1 u2 v2:Value) :
  Hid (F5 (((w.alloc (.cells #[u0,v0] T)).alloc (.cells #[u1,v1] T)).alloc (.cells #[u2,v2] T)) w.heap.size T #[u0,v0])∧Hid (F5 (((w.alloc (.cells #[u0,v0] T)).alloc (.cells #[u1,v1] T)).alloc (.cells #[u2,v2] T)) (w.heap.size+1) T #[u1,v1]) ∧
  Hid (F5 (((w.alloc (.cells #[u0,v0] T)).alloc (.cells #[u1,v1] T)).alloc (.cells #[u2,v2] T)) (w.heap.size+1+1) T #[u2,v2])∧Below w.heap.size w (((w.alloc (.cells #[u0,v0] T)).alloc (.cells #[u1,v1] T)).alloc (.cells #[u2,v2] T)):=by
 refine⟨WP (((F5.new w T _).alloc _).alloc _),WP ?_,WP ?_,(((Below.refl _ _).alloc (NE _) _).alloc I _).alloc (by simp;omega) _⟩
 ·have:=(F5.new (w.alloc (.cells #[u0,v0] T)) T #[u1,v1]).alloc (.cells #[u2,v2] T);simpa using this
 ·have:=F5.new ((w.alloc (.cells #[u0,v0] T)).alloc (.cells #[u1,v1] T)) T #[u2,v2];simpa using this
theorem Ey{w:World}{g:Nat}{t:TypeId}{u v u' v':Value}(h:F5 w g t #[u,v]):F5 ((w.setCell ⟨g,0,none⟩ u').setCell ⟨g,1,none⟩ v') g t #[u',v']:=by
 have:=(h.jb 0 u').jb 1 v';simpa using this
theorem add_same(s:Bool)(A A':Option Addr)(n n' c c' a b:Nat)(v:Int)(w:World)(hx:Sl w .u32 A n c (l9.limbs 1000000000 a))(hy:Sl w .u32 A' n' c' (l9.limbs 1000000000 b))(hn:n≤10000000)(hn':n'≤10000000)
  (HV:Hid ((if s then -((a+b:Nat):Int) else ((a+b:Nat):Int))=v)) :
  Calls prog 242 #[.agg #[.bool s,.slice A n c],.agg #[.bool s,.slice A' n' c']] w (Ji (n+n'+1) v w):=by
 have hl:=UK hx.len hy.len;have HP:Hid (∀W,Below w.heap.size w W→Calls prog 250 #[.slice A n c,.slice A' n' c'] W (ik .u32 (l9.limbs 1000000000 (a+b)) W)):=fun W hb=>by
  have:=WY A A' n n' c c' _ _ W (hx.below hb) (hy.below hb) J J (l9.Q4 J a) (l9.Q4 J b)
  rwa [l9.L8 J,l9.L8 J]at this
 have hbb:(s == s)=true:=I
 go_enter func242,ntmps242
 go_wp2_with fail
 obtain⟨B0,B1,B2,hbw⟩:=MS w 269 (.bool s) (.slice A n c) (.bool s) (.slice A' n' c') (.bool false) (.slice none 0 0);generalize (((w.alloc (.cells #[.bool s,.slice A n c] 269)).alloc (.cells #[.bool s,.slice A' n' c'] 269)).alloc (.cells #[.bool false,.slice none 0 0] 269))=W at *;obtain⟨p00,p01,_,_,l0⟩:=B0.out.two;obtain⟨p10,p11,_,_,l1⟩:=B1.out.two;obtain⟨p20,p21,f20,f21,l2⟩:=B2.out.two;have HPW:=WP (HP.out W.drew hbw.drew);clear HP
 go_region_law (go_simp;go_at_call 250;refine HPW.out.mono ?_;rintro e w2 ⟨A2,n2,c2,rfl,hs2,hb2,hf2⟩;obtain⟨Bh,q01,_,_,_⟩:=(B0.out.drew.below hb2).two;obtain⟨q20,q21,g20,g21,_⟩:=(B2.out.drew.below hb2).two)
 all_goals go_wp2
 all_goals
  have hfin:=Ey (u':=.bool s) (v':=.slice A2 n2 c2) (B2.out.drew.below hb2);have hbz:Below w.heap.size w ((w2.setCell ⟨w.heap.size+1+1,0,none⟩ (.bool s)).setCell ⟨w.heap.size+1+1,1,none⟩ (.slice A2 n2 c2)) :=
   ((hbw.drew.trans (hb2.mono hbw.drew.size)).setCell (p:=⟨w.heap.size+1+1,0,none⟩) (by simp;omega) _).setCell (p:=⟨w.heap.size+1+1,1,none⟩) (by simp;omega) _
  have uP:Sl ((w2.setCell ⟨w.heap.size+1+1,0,none⟩ (.bool s)).setCell ⟨w.heap.size+1+1,1,none⟩ (.slice A2 n2 c2)) .u32 A2 n2 c2 (l9.limbs 1000000000 (a+b)) :=
   (hs2.far (p:=⟨w.heap.size+1+1,0,none⟩) (fun b o e=>by have:=hf2 b o e;show b≠w.heap.size+1+1;have:W.drew.heap.size=W.heap.size:=rfl;omega) _).far (p:=⟨w.heap.size+1+1,1,none⟩) (fun b o e=>by have:=hf2 b o e;show b≠w.heap.size+1+1;have:W.drew.heap.size=W.heap.size:=rfl;omega) _
  generalize ((w2.setCell ⟨w.heap.size+1+1,0,none⟩ (.bool s)).setCell ⟨w.heap.size+1+1,1,none⟩ (.slice A2 n2 c2))=Z at *;obtain⟨z0,z1,_,_,_⟩:=hfin.two;refine bodyPost_ret (v:=.agg #[.bool s,.slice A2 n2 c2]) ?_ rfl ⟨s,a+b,A2,n2,c2,rfl,uP,by rw[←uP.len];exact hl,HV.out,hbz⟩;simp[results,Tryz.results242,go_sem,z0,z1]
theorem ZO(s s':Bool)(A A':Option Addr)(n n' c c' a b:Nat)(v:Int)(w:World)(hx:Sl w .u32 A n c (l9.limbs 1000000000 a))(hy:Sl w .u32 A' n' c' (l9.limbs 1000000000 b))(hn:n≤10000000)(hn':n'≤10000000)
  (hss:(s == s')=false) (hlt:b≤a) (HV:Hid ((if s then -((a - b:Nat):Int) else ((a - b:Nat):Int))=v)) :
  Calls prog 242 #[.agg #[.bool s,.slice A n c],.agg #[.bool s',.slice A' n' c']] w (Ji (n+n'+1) v w):=by
 have hl:(l9.limbs 1000000000 (a - b)).length≤n+n'+1:=by
  have:=l9.cu (B:=1000000000) (a:=a) (b:=a - b) J J;rw[hx.len]at this;omega
 have hll:n'≤n:=by
  have:=l9.cu (B:=1000000000) (a:=a) (b:=b) J J
  rwa [hx.len,hy.len]at this
 have HC:Hid (∀W,Below w.heap.size w W→Calls prog 264 #[.slice A n c,.slice A' n' c'] W (Cmp a b W)):=fun W hb =>
  yO 1000000000 J A A' n n' c c' a b W (hx.below hb) (hy.below hb) J J
 have HM:Hid (∀W,Below w.heap.size w W→Calls prog 251 #[.slice A n c,.slice A' n' c'] W (ik .u32 (l9.limbs 1000000000 (a - b)) W)):=fun W hb=>by
  have:=GY A A' n n' c c' _ _ W (hx.below hb) (hy.below hb) J hll (l9.Q4 J _) (l9.Q4 J _) (by rw[l9.L8 J,l9.L8 J];omega)
  rwa [l9.L8 J,l9.L8 J]at this
 have HO:=WP hlt;have hz:0≤gI a b:=by
  rcases Zai b a with h | h
  ·rw[pK h];omega
  ·obtain rfl:a=b:=J;rw[uu];omega
 clear hlt
 go_enter func242,ntmps242
 go_wp2_with fail
 obtain⟨B0,B1,B2,hbw⟩:=MS w 269 (.bool s) (.slice A n c) (.bool s') (.slice A' n' c') (.bool false) (.slice none 0 0);generalize (((w.alloc (.cells #[.bool s,.slice A n c] 269)).alloc (.cells #[.bool s',.slice A' n' c'] 269)).alloc (.cells #[.bool false,.slice none 0 0] 269))=W at *;obtain⟨p00,p01,KG,KH,l0⟩:=B0.out.two;obtain⟨p10,p11,f10,f11,l1⟩:=B1.out.two;have TD:=WP (HC.out W hbw);clear HC;refine TD.out.mono ?_;rintro e wq ⟨rfl,q,rfl⟩;have C0:Hid (F5 (W.drewN q) w.heap.size 269 #[.bool s,.slice A n c]):=B0;have C1:Hid (F5 (W.drewN q) (w.heap.size+1) 269 #[.bool s',.slice A' n' c']):=B1;have C2:Hid (F5 (W.drewN q) (w.heap.size+1+1) 269 #[.bool false,.slice none 0 0]):=B2;have xR:Below w.heap.size w (W.drewN q):=below_drewN hbw q
 go_wp2_with fail
 generalize W.drewN q=V at *;obtain⟨p20,p21,f20,f21,l2⟩:=C2.out.two;obtain⟨r00,r01,_,_,_⟩:=C0.out.two;obtain⟨r10,r11,_,_,_⟩:=C1.out.two;have TE:=WP (HM.out V.drew xR.drew);clear HM
 go_region_law (go_simp;go_at_call 251;refine TE.out.mono ?_;rintro e w2 ⟨A2,n2,c2,rfl,hs2,hb2,hf2⟩;obtain⟨Bh,q01,_,_,_⟩:=(C0.out.drew.below hb2).two;obtain⟨q20,q21,g20,g21,_⟩:=(C2.out.drew.below hb2).two)
 all_goals go_wp2
 all_goals
  have hfin:=Ey (u':=.bool s) (v':=.slice A2 n2 c2) (C2.out.drew.below hb2);have hbz:Below w.heap.size w ((w2.setCell ⟨w.heap.size+1+1,0,none⟩ (.bool s)).setCell ⟨w.heap.size+1+1,1,none⟩ (.slice A2 n2 c2)) :=
   ((xR.drew.trans (hb2.mono xR.drew.size)).setCell (p:=⟨w.heap.size+1+1,0,none⟩) (by simp;omega) _).setCell (p:=⟨w.heap.size+1+1,1,none⟩) (by simp;omega) _
  have uP:Sl ((w2.setCell ⟨w.heap.size+1+1,0,none⟩ (.bool s)).setCell ⟨w.heap.size+1+1,1,none⟩ (.slice A2 n2 c2)) .u32 A2 n2 c2 (l9.limbs 1000000000 (a - b)) :=
   (hs2.far (p:=⟨w.heap.size+1+1,0,none⟩) (fun b o e=>by have:=hf2 b o e;show b≠w.heap.size+1+1;have:V.drew.heap.size=V.heap.size:=rfl;omega) _).far (p:=⟨w.heap.size+1+1,1,none⟩) (fun b o e=>by have:=hf2 b o e;show b≠w.heap.size+1+1;have:V.drew.heap.size=V.heap.size:=rfl;omega) _
  generalize ((w2.setCell ⟨w.heap.size+1+1,0,none⟩ (.bool s)).setCell ⟨w.heap.size+1+1,1,none⟩ (.slice A2 n2 c2))=Z at *;obtain⟨z0,z1,_,_,_⟩:=hfin.two;refine bodyPost_ret (v:=.agg #[.bool s,.slice A2 n2 c2]) ?_ rfl ⟨s,a - b,A2,n2,c2,rfl,uP,by rw[←uP.len];exact hl,HV.out,hbz⟩;simp[results,Tryz.results242,go_sem,z0,z1]
theorem add_lt(s s':Bool)(A A':Option Addr)(n n' c c' a b:Nat)(v:Int)(w:World)(hx:Sl w .u32 A n c (l9.limbs 1000000000 a))(hy:Sl w .u32 A' n' c' (l9.limbs 1000000000 b))(hn:n≤10000000)(hn':n'≤10000000)
  (hss:(s == s')=false) (hlt:a < b) (HV:Hid ((if s' then -((b - a:Nat):Int) else ((b - a:Nat):Int))=v)) :
  Calls prog 242 #[.agg #[.bool s,.slice A n c],.agg #[.bool s',.slice A' n' c']] w (Ji (n+n'+1) v w):=by
 have hl:(l9.limbs 1000000000 (b - a)).length≤n+n'+1:=by
  have:=l9.cu (B:=1000000000) (a:=b) (b:=b - a) J J;rw[hy.len]at this;omega
 have hll:n≤n':=by
  have:=l9.cu (B:=1000000000) (a:=b) (b:=a) J J
  rwa [hx.len,hy.len]at this
 have HC:Hid (∀W,Below w.heap.size w W→Calls prog 264 #[.slice A n c,.slice A' n' c'] W (Cmp a b W)):=fun W hb =>
  yO 1000000000 J A A' n n' c c' a b W (hx.below hb) (hy.below hb) J J
 have HM:Hid (∀W,Below w.heap.size w W→Calls prog 251 #[.slice A' n' c',.slice A n c] W (ik .u32 (l9.limbs 1000000000 (b - a)) W)):=fun W hb=>by
  have:=GY A' A n' n c' c _ _ W (hy.below hb) (hx.below hb) J hll (l9.Q4 J _) (l9.Q4 J _) (by rw[l9.L8 J,l9.L8 J];omega)
  rwa [l9.L8 J,l9.L8 J]at this
 have HO:=WP hlt;have hz:gI a b < 0:=by rw[pJ hlt];omega
 clear hlt
 go_enter func242,ntmps242
 go_wp2_with fail
 obtain⟨B0,B1,B2,hbw⟩:=MS w 269 (.bool s) (.slice A n c) (.bool s') (.slice A' n' c') (.bool false) (.slice none 0 0);generalize (((w.alloc (.cells #[.bool s,.slice A n c] 269)).alloc (.cells #[.bool s',.slice A' n' c'] 269)).alloc (.cells #[.bool false,.slice none 0 0] 269))=W at *;obtain⟨p00,p01,KG,KH,l0⟩:=B0.out.two;obtain⟨p10,p11,f10,f11,l1⟩:=B1.out.two;have TD:=WP (HC.out W hbw);clear HC;refine TD.out.mono ?_;rintro e wq ⟨rfl,q,rfl⟩
 go_wp2_with fail
 have xR:Below w.heap.size w (((((W.drewN q).setCell ⟨w.heap.size,0,none⟩ (.bool s')).setCell ⟨w.heap.size,1,none⟩ (.slice A' n' c')).setCell ⟨w.heap.size+1,0,none⟩ (.bool s)).setCell ⟨w.heap.size+1,1,none⟩ (.slice A n c)) :=
  ((((below_drewN hbw q).setCell (p:=⟨w.heap.size,0,none⟩) (NE _) _).setCell (p:=⟨w.heap.size,1,none⟩) (NE _) _).setCell (p:=⟨w.heap.size+1,0,none⟩) I _).setCell (p:=⟨w.heap.size+1,1,none⟩) I _
 have D0:F5 (W.drewN q) w.heap.size 269 #[.bool s,.slice A n c]:=B0.out;have D1:F5 (W.drewN q) (w.heap.size+1) 269 #[.bool s',.slice A' n' c']:=B1.out;have D2:F5 (W.drewN q) (w.heap.size+1+1) 269 #[.bool false,.slice none 0 0]:=B2.out;have C0:Hid (F5 (((((W.drewN q).setCell ⟨w.heap.size,0,none⟩ (.bool s')).setCell ⟨w.heap.size,1,none⟩ (.slice A' n' c')).setCell ⟨w.heap.size+1,0,none⟩ (.bool s)).setCell ⟨w.heap.size+1,1,none⟩ (.slice A n c)) w.heap.size 269 #[.bool s',.slice A' n' c']) :=
  WP (((Ey D0).far (p:=⟨w.heap.size+1,0,none⟩) I _).far (p:=⟨w.heap.size+1,1,none⟩) I _)
 have C1:Hid (F5 (((((W.drewN q).setCell ⟨w.heap.size,0,none⟩ (.bool s')).setCell ⟨w.heap.size,1,none⟩ (.slice A' n' c')).setCell ⟨w.heap.size+1,0,none⟩ (.bool s)).setCell ⟨w.heap.size+1,1,none⟩ (.slice A n c)) (w.heap.size+1) 269 #[.bool s,.slice A n c]) :=
  WP (Ey ((D1.far (p:=⟨w.heap.size,0,none⟩) I _).far (p:=⟨w.heap.size,1,none⟩) I _))
 have C2:Hid (F5 (((((W.drewN q).setCell ⟨w.heap.size,0,none⟩ (.bool s')).setCell ⟨w.heap.size,1,none⟩ (.slice A' n' c')).setCell ⟨w.heap.size+1,0,none⟩ (.bool s)).setCell ⟨w.heap.size+1,1,none⟩ (.slice A n c)) (w.heap.size+1+1) 269 #[.bool false,.slice none 0 0]) :=
  WP ((((D2.far (p:=⟨w.heap.size,0,none⟩) (by simp;omega) _).far (p:=⟨w.heap.size,1,none⟩) (by simp;omega) _).far (p:=⟨w.heap.size+1,0,none⟩) I _).far (p:=⟨w.heap.size+1,1,none⟩) I _)
 clear D0 D1 D2;generalize (((((W.drewN q).setCell ⟨w.heap.size,0,none⟩ (.bool s')).setCell ⟨w.heap.size,1,none⟩ (.slice A' n' c')).setCell ⟨w.heap.size+1,0,none⟩ (.bool s)).setCell ⟨w.heap.size+1,1,none⟩ (.slice A n c))=V at *;obtain⟨p20,p21,f20,f21,l2⟩:=C2.out.two;obtain⟨r00,r01,_,_,_⟩:=C0.out.two;obtain⟨r10,r11,_,_,_⟩:=C1.out.two;have TE:=WP (HM.out V.drew xR.drew);clear HM
 go_region_law (go_simp;go_at_call 251;refine TE.out.mono ?_;rintro e w2 ⟨A2,n2,c2,rfl,hs2,hb2,hf2⟩;obtain⟨Bh,q01,_,_,_⟩:=(C0.out.drew.below hb2).two;obtain⟨q20,q21,g20,g21,_⟩:=(C2.out.drew.below hb2).two)
 all_goals go_wp2
 all_goals
  have hfin:=Ey (u':=.bool s') (v':=.slice A2 n2 c2) (C2.out.drew.below hb2);have hbz:Below w.heap.size w ((w2.setCell ⟨w.heap.size+1+1,0,none⟩ (.bool s')).setCell ⟨w.heap.size+1+1,1,none⟩ (.slice A2 n2 c2)) :=
   ((xR.drew.trans (hb2.mono xR.drew.size)).setCell (p:=⟨w.heap.size+1+1,0,none⟩) (by simp;omega) _).setCell (p:=⟨w.heap.size+1+1,1,none⟩) (by simp;omega) _
  have uP:Sl ((w2.setCell ⟨w.heap.size+1+1,0,none⟩ (.bool s')).setCell ⟨w.heap.size+1+1,1,none⟩ (.slice A2 n2 c2)) .u32 A2 n2 c2 (l9.limbs 1000000000 (b - a)) :=
   (hs2.far (p:=⟨w.heap.size+1+1,0,none⟩) (fun b o e=>by have:=hf2 b o e;show b≠w.heap.size+1+1;have:V.drew.heap.size=V.heap.size:=rfl;omega) _).far (p:=⟨w.heap.size+1+1,1,none⟩) (fun b o e=>by have:=hf2 b o e;show b≠w.heap.size+1+1;have:V.drew.heap.size=V.heap.size:=rfl;omega) _
  generalize ((w2.setCell ⟨w.heap.size+1+1,0,none⟩ (.bool s')).setCell ⟨w.heap.size+1+1,1,none⟩ (.slice A2 n2 c2))=Z at *;obtain⟨z0,z1,_,_,_⟩:=hfin.two;refine bodyPost_ret (v:=.agg #[.bool s',.slice A2 n2 c2]) ?_ rfl ⟨s',b - a,A2,n2,c2,rfl,uP,by rw[←uP.len];exact hl,HV.out,hbz⟩;simp[results,Tryz.results242,go_sem,z0,z1]
theorem a9Z(l:aa0):(l9.D5 l).natAbs < 10 ^ (l.length)∨l9.D5 l=0:=by
 unfold l9.D5;cases hd:l9.U4 l with
 |false=>right;simp
 |true =>
  by_cases h0:l=[48]
  ·right;subst h0;decide
  ·left;obtain⟨h1,_⟩:=(l9.pz h0).1 hd;have h2:=l9.CZ _ h1;have h3:10 ^ (l9.mag l).length≤10 ^ l.length:=ZaF J (l9.lV l);simp only[ZaP];split <;> omega
theorem lY{l:aa0}{k:Nat}(h:l.length≤k):(l9.D5 l).natAbs < 10 ^ k:=by
 have h3:10 ^ l.length≤10 ^ k:=ZaF J h;have h4:0 < 10 ^ k:=Nat.pow_pos J;rcases a9Z l with h1 | h1
 ·omega
 ·rw[h1];simpa using h4
theorem add_any(x y:Int)(A A':Option Addr)(n n' c c':Nat)(w:World)(hx:Sl w .u32 A n c (l9.limbs 1000000000 x.natAbs))(hy:Sl w .u32 A' n' c' (l9.limbs 1000000000 y.natAbs))(hn:n≤10000000)(hn':n'≤10000000) :
  Calls prog 242 #[.agg #[.bool (decide (x < 0)),.slice A n c],.agg #[.bool (decide (y < 0)),.slice A' n' c']] w (Ji (n+n'+1) (x+y) w):=by
 by_cases h1:x < 0 <;> by_cases h2:y < 0
 ·rw[UV h1,UV h2];exact add_same true A A' n n' c c' _ _ _ w hx hy hn hn' (WP (by simp;omega))
 ·rw[UV h1,WF h2];rcases Zai x.natAbs y.natAbs with h | h
  ·exact add_lt true false A A' n n' c c' _ _ _ w hx hy hn hn' rfl h (WP (by simp;omega))
  ·exact ZO true false A A' n n' c c' _ _ _ w hx hy hn hn' rfl h (WP (by simp;omega))
 ·rw[WF h1,UV h2];rcases Zai x.natAbs y.natAbs with h | h
  ·exact add_lt false true A A' n n' c c' _ _ _ w hx hy hn hn' rfl h (WP (by simp;omega))
  ·exact ZO false true A A' n n' c c' _ _ _ w hx hy hn hn' rfl h (WP (by simp;omega))
 ·rw[WF h1,WF h2];exact add_same false A A' n n' c c' _ _ _ w hx hy hn hn' (WP (by simp;omega))
theorem a7C(a b:aa0)(w:World)(ha:a.length≤2500000)(hb:b.length≤2500000)(ht:Tab w) :
  Calls prog 207 #[.string ⟨a.toArray⟩,.string ⟨b.toArray⟩] w (dG (Lib.itoa (l9.D5 a+l9.D5 b)) w):=by
 by_cases hs:(a.length:Int)≤18∧(b.length:Int)≤18∧l9.U4 a=true∧l9.U4 b=true
 ·obtain⟨h1,h2,h3,h4⟩:=hs;have HS:=WP (Wu a b 18 w J h1 h2 h3 h4);have hba:=lY (l:=a) (k:=18) J;have hbb:=lY (l:=b) (k:=18) J;have HF:Hid (∀w',Tab w'→Calls prog 241 #[.int .i64 (l9.D5 a+l9.D5 b),.int .i64 10] w' fun e w''=>e=.returned (.string ⟨(Lib.itoa (l9.D5 a+l9.D5 b)).toArray⟩)∧Below w'.heap.size w' w''):=fun w' ht'=>UT _ w' ht' J J
  clear h3 h4;generalize l9.D5 a=x at *;generalize l9.D5 b=y at *;have b1:x≤1000000000000000000:=J;have b2:-1000000000000000000≤x:=J;have b3:y≤1000000000000000000:=J;have b4:-1000000000000000000≤y:=J;clear hba hbb
  go_enter func207,ntmps207
  go_wp2_with fail
  refine HS.out.mono ?_;rintro e w1 ⟨rfl,hb1⟩
  go_wp2_with fail
  refine (HF.out _ (ht.below hb1)).mono ?_;rintro e w2 ⟨rfl,hb2⟩;go_wp2;go_ret;exact⟨rfl,hb1.trans (hb2.mono hb1.size)⟩
 ·have HS:=WP (Xc a b 18 w ha hb hs);have aj:Hid (∀w',Calls prog 243 #[.string ⟨a.toArray⟩] w' (jV (a.length+1) (l9.D5 a) w')):=fun w'=>parse_any a w' ha
  have HP2:Hid (∀w',Calls prog 243 #[.string ⟨b.toArray⟩] w' (jV (b.length+1) (l9.D5 b) w')):=fun w'=>parse_any b w' hb
  clear hs;generalize l9.D5 a=x at *;generalize l9.D5 b=y at *
  go_enter func207,ntmps207
  go_wp2_with fail
  refine HS.out.mono ?_;rintro e w' ⟨rfl,rfl⟩
  go_wp2_with fail
  refine (aj.out _).mono ?_;rintro e w1 ⟨A1,n1,c1,rfl,hs1,hn1,hb1⟩
  go_wp2_with fail
  refine (HP2.out _).mono ?_;rintro e w2 ⟨A2,n2,c2,rfl,hs2,hn2,hb2⟩;have hbw2:=hb1.trans (hb2.mono hb1.size)
  go_wp2_with fail
  refine (add_any x y A1 A2 n1 n2 c1 c2 _ (hs1.below hb2) hs2 J J).mono ?_;rintro e w3 ⟨s,m,A3,n3,c3,rfl,hs3,hn3,hv3,hb3⟩;have hbw3:=hbw2.trans (hb3.mono hbw2.size);have HV:=WP hv3;clear hv3
  go_wp2_with fail
  refine (wG s A3 n3 c3 m _ hs3 J (ht.below hbw3)).mono ?_;rintro e w4 ⟨rfl,hb4⟩;rw[jk HV.out];go_wp2;go_ret;exact⟨rfl,hbw3.trans (hb4.mono hbw3.size)⟩
theorem kQ(v:Int){k:Nat}(hk:1≤k)(h:v.natAbs < 10 ^ k):(Lib.itoa v).length≤k+1:=by
 have h1:=l9.qQ hk h;by_cases hv:v < 0
 ·rw[wC hv,Za1];omega
 ·rw[yP J];omega
theorem Xd(x y:Int):(if (decide (x < 0)) != (decide (y < 0)) then -((x.natAbs * y.natAbs:Nat):Int) else ((x.natAbs * y.natAbs:Nat):Int))=x * y:=by
 rw[←Int.natAbs_mul];by_cases h1:x < 0 <;> by_cases h2:y < 0
 ·have:=Int.mul_pos_of_neg_of_neg h1 h2;simp[h1,h2];omega
 ·have:x * y≤0:=Int.mul_nonpos_of_nonpos_of_nonneg J J;simp[h1,h2];omega
 ·have:x * y≤0:=Int.mul_nonpos_of_nonneg_of_nonpos J J;simp[h1,h2];omega
 ·have:0≤x * y:=Int.mul_nonneg J J;simp[h1,h2];omega
theorem b7n{x y:Int}(hx:x.natAbs < 10 ^ 9)(hy:y.natAbs < 10 ^ 9):-1000000000000000000≤x * y∧x * y≤1000000000000000000:=by
 have h:(x * y).natAbs≤10 ^ 9 * 10 ^ 9:=by rw[Int.natAbs_mul];exact Nat.mul_le_mul J J
 omega
theorem a4y{a b n n':Nat}(h:(l9.limbs 1000000000 a).length=n)(h':(l9.limbs 1000000000 b).length=n'):(l9.limbs 1000000000 (a * b)).length≤n+n':=by
 apply l9.BI J;rw[Nat.pow_add];have h1:=CB h;have h2:=CB h';rcases Zas b with e | e
 ·subst e;rw[Nat.mul_zero];exact Nat.mul_pos (Nat.pow_pos J) (Nat.pow_pos J)
 ·exact Nat.mul_lt_mul'' h1 h2
theorem GX(w:World)(T:TypeId)(u0 v0 u1 v1:Value) :
  Hid (F5 ((w.alloc (.cells #[u0,v0] T)).alloc (.cells #[u1,v1] T)) w.heap.size T #[u0,v0])∧Hid (F5 ((w.alloc (.cells #[u0,v0] T)).alloc (.cells #[u1,v1] T)) (w.heap.size+1) T #[u1,v1])∧Below w.heap.size w ((w.alloc (.cells #[u0,v0] T)).alloc (.cells #[u1,v1] T)):=by
 refine⟨WP ((F5.new w T _).alloc _),WP ?_,((Below.refl _ _).alloc (NE _) _).alloc I _⟩;have:=F5.new (w.alloc (.cells #[u0,v0] T)) T #[u1,v1];simpa using this
theorem Xe(a b:aa0)(w:World)(ha:a.length≤2500000)(hb:b.length≤2500000)(ht:Tab w) :
  Calls prog 209 #[.string ⟨a.toArray⟩,.string ⟨b.toArray⟩] w (dG (Lib.itoa (l9.D5 a * l9.D5 b)) w):=by
 by_cases hs:(a.length:Int)≤9∧(b.length:Int)≤9∧l9.U4 a=true∧l9.U4 b=true
 ·obtain⟨h1,h2,h3,h4⟩:=hs;have HS:=WP (Wu a b 9 w J h1 h2 h3 h4);have hba:=lY (l:=a) (k:=9) J;have hbb:=lY (l:=b) (k:=9) J;obtain⟨m1,m2⟩:=b7n hba hbb;have HF:Hid (∀w',Tab w'→Calls prog 241 #[.int .i64 (l9.D5 a * l9.D5 b),.int .i64 10] w' fun e w''=>e=.returned (.string ⟨(Lib.itoa (l9.D5 a * l9.D5 b)).toArray⟩)∧Below w'.heap.size w' w''):=fun w' ht'=>UT _ w' ht' J J
  clear h3 h4 hba hbb;generalize l9.D5 a=x at *;generalize l9.D5 b=y at *
  go_enter func209,ntmps209
  go_wp2_with fail
  refine HS.out.mono ?_;rintro e w1 ⟨rfl,hb1⟩
  go_wp2_with fail
  refine (HF.out _ (ht.below hb1)).mono ?_;rintro e w2 ⟨rfl,hb2⟩;go_wp2;go_ret;exact⟨rfl,hb1.trans (hb2.mono hb1.size)⟩
 ·have HS:=WP (Xc a b 9 w ha hb hs);have aj:Hid (∀w',Calls prog 243 #[.string ⟨a.toArray⟩] w' (jV (a.length+1) (l9.D5 a) w')):=fun w'=>parse_any a w' ha
  have HP2:Hid (∀w',Calls prog 243 #[.string ⟨b.toArray⟩] w' (jV (b.length+1) (l9.D5 b) w')):=fun w'=>parse_any b w' hb
  clear hs;generalize l9.D5 a=x at *;generalize l9.D5 b=y at *;have hms:(if (!(decide (x < 0) == decide (y < 0)))=true then -((x.natAbs * y.natAbs:Nat):Int) else ((x.natAbs * y.natAbs:Nat):Int))=x * y:=Xd x y;obtain⟨s,hsd⟩:∃s,s=decide (x < 0):=⟨_,rfl⟩;obtain⟨s',dC⟩:∃s',s'=decide (y < 0):=⟨_,rfl⟩;rw[←hsd,←dC]at hms;have fC:=WP hsd;have jC:=WP dC;clear hsd dC;obtain⟨z,hz⟩:∃z,z=(!(s == s')):=⟨_,rfl⟩;rw[←hz]at hms;have TF:=WP hms;have hz':(!(s == s'))=z:=hz.symm;clear hz hms
  go_enter func209,ntmps209
  go_wp2_with fail
  refine HS.out.mono ?_;rintro e w' ⟨rfl,rfl⟩
  go_wp2_with fail
  refine (aj.out _).mono ?_;rintro e w1 ⟨A1,n1,c1,rfl,hs1,hn1,hb1⟩;rw[←fC.out]
  go_wp2_with fail
  refine (HP2.out _).mono ?_;rintro e w2 ⟨A2,n2,c2,rfl,hs2,hn2,hb2⟩;rw[←jC.out];have hbw2:=hb1.trans (hb2.mono hb1.size)
  go_wp2_with fail
  obtain⟨B0,B1,hbW⟩:=GX w2 269 (.bool s) (.slice A1 n1 c1) (.bool s') (.slice A2 n2 c2);generalize ((w2.alloc (.cells #[.bool s,.slice A1 n1 c1] 269)).alloc (.cells #[.bool s',.slice A2 n2 c2] 269))=W at *;have uQ:=hbw2.trans (hbW.mono hbw2.size);obtain⟨p00,p01,_,_,l0⟩:=B0.out.two;obtain⟨p10,p11,_,_,l1⟩:=B1.out.two;have hsA:=(hs1.below hb2).below hbW;have hsB:=hs2.below hbW;have hT:=times_any A1 A2 n1 n2 c1 c2 _ _ W.drew hsA.qc hsB.qc J J (l9.Q4 J _) (l9.Q4 J _);rw[l9.L8 J,l9.L8 J]at hT;have HT:=WP hT;have hlm:=a4y hsA.len hsB.len;clear hT
  go_region_held3 (fun w'=>w'.cell? ⟨w2.heap.size,0,none⟩=some (.bool s)∧w'.cell? ⟨w2.heap.size,1,none⟩=some (.slice A1 n1 c1)∧w'.cell? ⟨w2.heap.size+1,0,none⟩=some (.bool s')∧w'.cell? ⟨w2.heap.size+1,1,none⟩=some (.slice A2 n2 c2)) (go_keep)
   (first | (go_at_call 246;refine HT.out.mono ?_;rintro e w3 ⟨A3,n3,c3,rfl,hs3,hb3,hf3⟩;obtain⟨Bh,q01,_,_,_⟩:=(B0.out.drew.below hb3).two;obtain⟨q10,q11,_,_,_⟩:=(B1.out.drew.below hb3).two;have hbw3:=uQ.drew.trans (hb3.mono uQ.drew.size);have HS3:=WP (wG z A3 n3 c3 (x.natAbs * y.natAbs) w3 hs3 (by rw[←hs3.len];omega) (ht.below hbw3))) | (go_at_call 244;refine HS3.out.mono ?_;rintro e w4 ⟨rfl,hb4⟩;obtain⟨TG,TI,_,_,_⟩:=((B0.out.drew.below hb3).below hb4).two;obtain⟨t10,t11,_,_,_⟩:=((B1.out.drew.below hb3).below hb4).two))
  go_wp2;go_ret;exact⟨by rw[←jk TF.out];rfl,hbw3.trans (hb4.mono hbw3.size)⟩
end Go.Proofs.YthhknjlmjefklaaGreatDoor
namespace Go.Proofs.YthhknjlmjefklaaGreatDoor
open Tryz
def qd(x y:Int):Int:=if y=0 then 0 else if 0 < y then x / y else (-x) / (-y)
def rm(x y:Int):Int:=x - qd x y * y
theorem Yq(x:Int):qd x 0=0:=rfl
theorem Yr(x:Int):rm x 0=x:=by simp[rm]
theorem Yt{x Y q r:Int}(hY:0 < Y)(h:x=q * Y+r)(h0:0≤r)(h1:r < Y):x / Y=q :=
 ((Int.ediv_emod_unique hY).2 ⟨by rw[h,Zbn];omega,h0,h1⟩).1
theorem ui{x y q r:Int}(hy:0 < y)(h:x=q * y+r)(h0:0≤r)(h1:r < y):qd x y=q∧rm x y=r:=by
 have e:qd x y=q:=by unfold qd;rw[lw J,Za0 hy];exact Yt hy h h0 h1
 exact⟨e,by unfold rm;rw[e];omega⟩
theorem ND{x y q r:Int}(hy:y < 0)(h:x=q * y+r)(h0:r≤0)(h1:y < r):qd x y=q∧rm x y=r:=by
 have e:qd x y=q:=by
  unfold qd;rw[lw J,lw J];exact Yt J (by rw[h,Int.mul_neg];omega:-x=q * (-y)+(-r)) J J
 exact⟨e,by unfold rm;rw[e];omega⟩
theorem Yu{x y:Int}{s:Bool}(hy:y≠0)(hx:decide (x < 0)=s)(hs:decide (y < 0)=s) :
  ((x.natAbs / y.natAbs:Nat):Int)=qd x y∧(if s then -((x.natAbs % y.natAbs:Nat):Int) else ((x.natAbs % y.natAbs:Nat):Int))=rm x y:=by
 have h1:=Nat.div_add_mod x.natAbs y.natAbs;have h2:=Nat.mod_lt x.natAbs (show 0 < y.natAbs by omega);generalize x.natAbs / y.natAbs=Q at *;generalize x.natAbs % y.natAbs=R at *;have h3:(y.natAbs:Int) * Q+R=x.natAbs:=by rw[←h1];simp
 cases s with
 |true =>
  have hx':x < 0:=Zad hx;have hy':y < 0:=Zad hs;have e:x=(Q:Int) * y+-(R:Int):=by
   have:(y.natAbs:Int)=-y:=J;rw[this,Int.neg_mul,Zbn]at h3;omega
  obtain⟨a,b⟩:=ND hy' e J J;exact⟨a.symm,by simp;omega⟩
 |false =>
  have hx':¬x < 0:=Zbe hx;have hy':¬y < 0:=Zbe hs;have e:x=(Q:Int) * y+(R:Int):=by
   have:(y.natAbs:Int)=y:=J;rw[this,Zbn]at h3;omega
  obtain⟨a,b⟩:=ui J e J J;exact⟨a.symm,by simp;omega⟩
theorem Xf{x y:Int}{s:Bool}(hy:y≠0)(hx:decide (x < 0)=!s)(hs:decide (y < 0)=s)(h0:x.natAbs % y.natAbs=0) :
  -((x.natAbs / y.natAbs:Nat):Int)=qd x y∧rm x y=0:=by
 have h1:=Nat.div_add_mod x.natAbs y.natAbs;rw[h0]at h1;generalize x.natAbs / y.natAbs=Q at *;have h3:(y.natAbs:Int) * Q=x.natAbs:=by rw[←h1];simp
 cases s with
 |true =>
  have hx':¬x < 0:=Zbe hx;have hy':y < 0:=Zad hs;have e:x=-(Q:Int) * y+0:=by
   have:(y.natAbs:Int)=-y:=J;rw[this,Int.neg_mul,Zbn]at h3;rw[Int.neg_mul];omega
  obtain⟨a,b⟩:=ND hy' e J J;exact⟨a.symm,b⟩
 |false =>
  have hx':x < 0:=Zad hx;have hy':¬y < 0:=Zbe hs;have e:x=-(Q:Int) * y+0:=by
   have:(y.natAbs:Int)=y:=J;rw[this,Zbn]at h3;rw[Int.neg_mul];omega
  obtain⟨a,b⟩:=ui J e J J;exact⟨a.symm,b⟩
theorem Yv{x y:Int}{s:Bool}(hy:y≠0)(hx:decide (x < 0)=!s)(hs:decide (y < 0)=s)(h0:x.natAbs % y.natAbs≠0) :
  -((x.natAbs / y.natAbs+1:Nat):Int)=qd x y∧(if s then -((y.natAbs - x.natAbs % y.natAbs:Nat):Int) else ((y.natAbs - x.natAbs % y.natAbs:Nat):Int))=rm x y:=by
 have h1:=Nat.div_add_mod x.natAbs y.natAbs;have h2:=Nat.mod_lt x.natAbs (show 0 < y.natAbs by omega);generalize x.natAbs / y.natAbs=Q at *;generalize x.natAbs % y.natAbs=R at *;have h3:(y.natAbs:Int) * Q+R=x.natAbs:=by rw[←h1];simp
 cases s with
 |true =>
  have hx':¬x < 0:=Zbe hx;have hy':y < 0:=Zad hs;have e:x=-((Q:Int)+1) * y+(y+R):=by
   have:(y.natAbs:Int)=-y:=J;rw[this,Int.neg_mul,Zbn]at h3;rw[Int.neg_mul,Int.add_mul];omega
  obtain⟨a,b⟩:=ND hy' e J J;exact⟨by rw[a];omega,by simp;omega⟩
 |false =>
  have hx':x < 0:=Zad hx;have hy':¬y < 0:=Zbe hs;have e:x=-((Q:Int)+1) * y+(y - R):=by
   have:(y.natAbs:Int)=y:=J;rw[this,Zbn]at h3;rw[Int.neg_mul,Int.add_mul];omega
  obtain⟨a,b⟩:=ui J e J J;exact⟨by rw[a];omega,by simp;omega⟩
end Go.Proofs.YthhknjlmjefklaaGreatDoor
namespace Go.Proofs.YthhknjlmjefklaaGreatDoor
open Tryz
open Go.RowKit
def iW(a b:aa0)(w:World)(e:Ending)(w':World):Prop:=e=.returned (.tuple #[.string ⟨a.toArray⟩,.string ⟨b.toArray⟩])∧Below w.heap.size w w'
theorem MV{x:Int}{n:Nat}(h:(l9.limbs 1000000000 x.natAbs).length=n):n=0↔x=0:=by
 subst h;constructor
 ·intro h;have:=(l9.qR (B:=1000000000) J).1 (Za9 h);omega
 ·rintro rfl;rfl
theorem UL{a b n:Nat}(h:(l9.limbs 1000000000 a).length=n):(l9.limbs 1000000000 (a / b)).length≤n:=by
 rw[←h];exact l9.cu J (Nat.div_le_self a b)
theorem MG{a b n:Nat}(hb:0 < b)(h:(l9.limbs 1000000000 b).length=n):(l9.limbs 1000000000 (a % b)).length≤n:=by
 rw[←h];exact l9.cu J (Nat.le_of_lt (Nat.mod_lt a hb))
theorem Ie(w:World)(T:TypeId)(u0 v0 u1 v1:Value):F5 ((w.alloc (.cells #[u0,v0] T)).alloc (.cells #[u1,v1] T)) w.heap.size T #[u0,v0]∧F5 ((w.alloc (.cells #[u0,v0] T)).alloc (.cells #[u1,v1] T)) (w.heap.size+1) T #[u1,v1]:=by
 obtain⟨a,b,_⟩:=GX w T u0 v0 u1 v1;exact⟨a.out,b.out⟩
theorem a2m{w:World}{g:Nat}{t:TypeId}{u v v':Value}(h:F5 w g t #[u,v]):F5 (w.setCell ⟨g,1,none⟩ v') g t #[u,v']:=by
 have:=h.jb 1 v';simpa using this
theorem a6E(a b:aa0)(w:World)(ha:a.length≤2400000)(hb:b.length≤2400000)(hy0:l9.D5 b=0) :
  Calls prog 216 #[.string ⟨a.toArray⟩,.string ⟨b.toArray⟩] w (iW [48] (Lib.itoa (l9.D5 a)) w):=by
 have aj:Hid (∀w',Calls prog 243 #[.string ⟨a.toArray⟩] w' (jV (a.length+1) (l9.D5 a) w')):=fun w'=>parse_any a w' J
 have HP2:Hid (∀w',Calls prog 243 #[.string ⟨b.toArray⟩] w' (jV (b.length+1) 0 w')):=fun w'=>by have:=parse_any b w' J;rwa [hy0]at this
 have HDc:Hid (∀w',Calls prog 239 #[.string ⟨a.toArray⟩] w' fun e w''=>e=.returned (.string ⟨(Lib.itoa (l9.D5 a)).toArray⟩)∧w'=w''):=fun w'=>by have:=wz a w' J;rwa [norm_eq]at this
 clear hy0
 go_enter func216,ntmps216
 go_wp2_with fail
 refine (aj.out _).mono ?_;rintro e w1 ⟨A1,n1,c1,rfl,hs1,hn1,hb1⟩
 go_wp2_with fail
 refine (HP2.out _).mono ?_;rintro e w2 ⟨A2,n2,c2,rfl,hs2,hn2,hb2⟩;have hbw2:=hb1.trans (hb2.mono hb1.size);obtain rfl:n2=0:=(MV (x:=0) hs2.len).2 rfl
 go_wp2_with fail
 refine (HDc.out _).mono ?_;rintro e w' ⟨rfl,rfl⟩;go_wp2;go_ret2;exact⟨rfl,(hbw2.alloc hbw2.size _).alloc (by rw[World.size_alloc];have:=hbw2.size;omega) _⟩
theorem Wv(a b:aa0)(w:World)(ha:a.length≤2400000)(hb:b.length≤2400000)(ht:Tab w)(x y:Int)(hxv:l9.D5 a=x)(hyv:l9.D5 b=y)(hy0:y≠0)(s s' z:Bool)(hsd:decide (x < 0)=s)(dC:decide (y < 0)=s')
  (hz:(!(s == s'))=z) (hcase:z=false∨x.natAbs % y.natAbs=0) (q r:aa0) (HQ:Hid (dF z (x.natAbs / y.natAbs)=q)) (HR:Hid (dF s' (x.natAbs % y.natAbs)=r)) :
  Calls prog 216 #[.string ⟨a.toArray⟩,.string ⟨b.toArray⟩] w (iW q r w):=by
 have aj:Hid (∀w',Calls prog 243 #[.string ⟨a.toArray⟩] w' (jV (a.length+1) x w')):=fun w'=>by have:=parse_any a w' J;rwa [hxv]at this
 have HP2:Hid (∀w',Calls prog 243 #[.string ⟨b.toArray⟩] w' (jV (b.length+1) y w')):=fun w'=>by have:=parse_any b w' J;rwa [hyv]at this
 have fC:=WP hsd;have jC:=WP dC;have hyp:0 < y.natAbs:=J;have DZ:=WP hcase;clear hcase;clear hsd dC hxv hyv
 go_enter func216,ntmps216
 go_wp2_with fail
 refine (aj.out _).mono ?_;rintro e w1 ⟨A1,n1,c1,rfl,hs1,hn1,hb1⟩;rw[fC.out]
 go_wp2_with fail
 refine (HP2.out _).mono ?_;rintro e w2 ⟨A2,n2,c2,rfl,hs2,hn2,hb2⟩;rw[jC.out];have hbw2:=hb1.trans (hb2.mono hb1.size);have JP:((n2:Int) == 0)=false:=by rw[IR];intro e;exact hy0 ((MV hs2.len).1 J)
 clear hy0
 go_wp2_with fail
 obtain⟨B0,B1,hbW⟩:=GX w2 269 (.bool s) (.slice A1 n1 c1) (.bool s') (.slice A2 n2 c2);generalize ((w2.alloc (.cells #[.bool s,.slice A1 n1 c1] 269)).alloc (.cells #[.bool s',.slice A2 n2 c2] 269))=W at *;have uQ:=hbw2.trans (hbW.mono hbw2.size);have hsA:=(hs1.below hb2).below hbW;have hsB:=hs2.below hbW;have hl1:=hsA.len;have hl2:=hsB.len;have hlq:=UL (b:=y.natAbs) hl1;have hlr:=MG (a:=x.natAbs) hyp hl2;clear hl1 hl2;refine (Np A1 A2 n1 n2 c1 c2 _ _ W hsA hsB J J hyp).mono ?_;rintro e w3 ⟨A3,n3,c3,A4,n4,c4,rfl,hs3,hs4,hb3⟩;have hbw3:=uQ.trans (hb3.mono uQ.size);have hn3:n3≤n1:=by rw[←hs3.len];exact hlq
 have hn4:n4≤n2:=by rw[←hs4.len];exact hlr
 have xU:=WP hs4.len;have E0:=WP (B0.out.below hb3);have E1:=WP (B1.out.below hb3);obtain⟨p00,p01,_,_,l0⟩:=E0.out.two;obtain⟨p10,p11,_,_,l1⟩:=E1.out.two;have JQ:=hsB.below hb3;clear B0 B1
 go_upto_region 5 with (fail)
 go_cut [10,11] (fun s10 s11 wx=>∃g g':Nat,s10=.pointer (some ⟨g,0,none⟩)∧s11=.pointer (some ⟨g',0,none⟩)∧g≠g'∧w3.heap.size≤g∧w3.heap.size≤g'∧Hid (F5 wx g 269 #[.bool z,.slice A3 n3 c3])∧Hid (F5 wx g' 269 #[.bool s',.slice A4 n4 c4])∧Below w3.heap.size w3 wx)
 case first =>
  go_region
  all_goals (go_wp2_with fail;go_meet)
  all_goals (go_wp2_with fail)
  all_goals (obtain⟨t1,t2⟩:=Ie w3 269 (.bool z) (.slice A3 n3 c3) (.bool s') (.slice A4 n4 c4))
  all_goals (obtain⟨t3,t4⟩:=Ie w3 269 (.bool s') (.slice A4 n4 c4) (.bool z) (.slice A3 n3 c3))
  all_goals first
   |exact⟨w3.heap.size,w3.heap.size+1,rfl,rfl,J,J,J,WP t1,WP t2,(((Below.refl _ _).alloc (NE _) _).alloc I _).drew⟩
   |exact⟨w3.heap.size+1,w3.heap.size,rfl,rfl,J,J,J,WP t4,WP t3,(((Below.refl _ _).alloc (NE _) _).alloc I _).drew⟩
 case rest =>
  obtain⟨g,g',rfl,rfl,hgg,hg1,hg2,G0,G1,hbx⟩:=hcut;have a2n:=hbw3.trans (hbx.mono hbw3.size);obtain⟨Bh,q01,KG,KH,m0⟩:=G0.out.two;obtain⟨q10,q11,f10,f11,m1⟩:=G1.out.two;obtain⟨_,v11,_,_,_⟩:=(E1.out.below hbx).two;have hgd:z=true→¬0 < n4:=fun e=>by
   rcases DZ.out with h | h
   ·rw[h]at e;cases e
   ·have:=xU.out;rw[h]at this;simp[l9.wE]at this;omega
  have K0:=G0;have K1:=G1;have gJ:=a2n;have KI:=WP (wG z A3 n3 c3 _ wc.drew (hs3.below hbx).qc J (ht.below gJ.drew));have KJ:Hid (∀w7,Below wc.drew.heap.size wc.drew w7→Calls prog 244 #[.agg #[.bool s',.slice A4 n4 c4]] w7 (dG (dF s' (x.natAbs % y.natAbs)) w7)):=fun w7 h7=>wG s' A4 n4 c4 _ w7 ((hs4.below hbx).qc.below h7) J (ht.below (gJ.drew.trans (h7.mono gJ.drew.size)))
  have HGD:=WP hgd;clear hgd;by_cases Bi:z=true
  ·have JR:n4=0:=by have:=HGD.out Bi;omega
   subst JR;subst Bi
   go_upto_region 9 with (fail)
   go_region_held3 (fun w'=>w'.cell? ⟨g,0,none⟩=some (.bool true)∧w'.cell? ⟨g,1,none⟩=some (.slice A3 n3 c3)∧w'.cell? ⟨g',0,none⟩=some (.bool s')∧w'.cell? ⟨g',1,none⟩=some (.slice A4 0 c4)) (go_keep)
    (first | (go_at_call 244;((with_reducible refine KI.out.mono ?_));rintro e w7 ⟨rfl,hb7⟩;obtain⟨TG,TI,_,_,_⟩:=(K0.out.drew.below hb7).two;obtain⟨t10,t11,_,_,_⟩:=(K1.out.drew.below hb7).two;have Ez:=WP (KJ.out w7 hb7)) | (go_at_call 244;((with_reducible refine Ez.out.mono ?_));rintro e w8 ⟨rfl,hb8⟩;obtain⟨u00,u01,_,_,_⟩:=((K0.out.drew.below hb7).below hb8).two;obtain⟨u10,u11,_,_,_⟩:=((K1.out.drew.below hb7).below hb8).two))
   go_wp2;go_ret2;exact⟨by rw[←HQ.out,←HR.out];rfl,(gJ.drew.trans (hb7.mono gJ.drew.size)).trans (hb8.mono (gJ.drew.trans (hb7.mono gJ.drew.size)).size)⟩
  ·have TJ:z=false:=by cases z <;> simp_all
   subst TJ
   go_upto_region 9 with (fail)
   go_region_held3 (fun w'=>w'.cell? ⟨g,0,none⟩=some (.bool false)∧w'.cell? ⟨g,1,none⟩=some (.slice A3 n3 c3)∧w'.cell? ⟨g',0,none⟩=some (.bool s')∧w'.cell? ⟨g',1,none⟩=some (.slice A4 n4 c4)) (go_keep)
    (first | (go_at_call 244;((with_reducible refine KI.out.mono ?_));rintro e w7 ⟨rfl,hb7⟩;obtain⟨TG,TI,_,_,_⟩:=(K0.out.drew.below hb7).two;obtain⟨t10,t11,_,_,_⟩:=(K1.out.drew.below hb7).two;have Ez:=WP (KJ.out w7 hb7)) | (go_at_call 244;((with_reducible refine Ez.out.mono ?_));rintro e w8 ⟨rfl,hb8⟩;obtain⟨u00,u01,_,_,_⟩:=((K0.out.drew.below hb7).below hb8).two;obtain⟨u10,u11,_,_,_⟩:=((K1.out.drew.below hb7).below hb8).two))
   go_wp2;go_ret2;exact⟨by rw[←HQ.out,←HR.out];rfl,(gJ.drew.trans (hb7.mono gJ.drew.size)).trans (hb8.mono (gJ.drew.trans (hb7.mono gJ.drew.size)).size)⟩
theorem a6F(a b:aa0)(w:World)(ha:a.length≤2400000)(hb:b.length≤2400000)(ht:Tab w)(x y:Int)(hxv:l9.D5 a=x)(hyv:l9.D5 b=y)(hy0:y≠0)(s s' z:Bool)(hsd:decide (x < 0)=s)(dC:decide (y < 0)=s')
  (hz:(!(s == s'))=z) (hcase:z=true∧x.natAbs % y.natAbs≠0) (q r:aa0) (HQ:Hid (dF z (x.natAbs / y.natAbs+1)=q)) (HR:Hid (dF s' (y.natAbs - x.natAbs % y.natAbs)=r)) :
  Calls prog 216 #[.string ⟨a.toArray⟩,.string ⟨b.toArray⟩] w (iW q r w):=by
 have aj:Hid (∀w',Calls prog 243 #[.string ⟨a.toArray⟩] w' (jV (a.length+1) x w')):=fun w'=>by have:=parse_any a w' J;rwa [hxv]at this
 have HP2:Hid (∀w',Calls prog 243 #[.string ⟨b.toArray⟩] w' (jV (b.length+1) y w')):=fun w'=>by have:=parse_any b w' J;rwa [hyv]at this
 have fC:=WP hsd;have jC:=WP dC;have hyp:0 < y.natAbs:=J;obtain⟨rfl,hrz⟩:=hcase;have HRZ:=WP hrz;clear hrz;clear hsd dC hxv hyv
 go_enter func216,ntmps216
 go_wp2_with fail
 refine (aj.out _).mono ?_;rintro e w1 ⟨A1,n1,c1,rfl,hs1,hn1,hb1⟩;rw[fC.out]
 go_wp2_with fail
 refine (HP2.out _).mono ?_;rintro e w2 ⟨A2,n2,c2,rfl,hs2,hn2,hb2⟩;rw[jC.out];have hbw2:=hb1.trans (hb2.mono hb1.size);have JP:((n2:Int) == 0)=false:=by rw[IR];intro e;exact hy0 ((MV hs2.len).1 J)
 clear hy0
 go_wp2_with fail
 obtain⟨B0,B1,hbW⟩:=GX w2 269 (.bool s) (.slice A1 n1 c1) (.bool s') (.slice A2 n2 c2);generalize ((w2.alloc (.cells #[.bool s,.slice A1 n1 c1] 269)).alloc (.cells #[.bool s',.slice A2 n2 c2] 269))=W at *;have uQ:=hbw2.trans (hbW.mono hbw2.size);have hsA:=(hs1.below hb2).below hbW;have hsB:=hs2.below hbW;have hl1:=hsA.len;have hl2:=hsB.len;have hlq:=UL (b:=y.natAbs) hl1;have hlr:=MG (a:=x.natAbs) hyp hl2;clear hl1 hl2;refine (Np A1 A2 n1 n2 c1 c2 _ _ W hsA hsB J J hyp).mono ?_;rintro e w3 ⟨A3,n3,c3,A4,n4,c4,rfl,hs3,hs4,hb3⟩;have hbw3:=uQ.trans (hb3.mono uQ.size);have hn3:n3≤n1:=by rw[←hs3.len];exact hlq
 have hn4:n4≤n2:=by rw[←hs4.len];exact hlr
 have xU:=WP hs4.len;have E0:=WP (B0.out.below hb3);have E1:=WP (B1.out.below hb3);obtain⟨p00,p01,_,_,l0⟩:=E0.out.two;obtain⟨p10,p11,_,_,l1⟩:=E1.out.two;have JQ:=hsB.below hb3;clear B0 B1
 go_upto_region 5 with (fail)
 go_cut [10,11] (fun s10 s11 wx=>∃g g':Nat,s10=.pointer (some ⟨g,0,none⟩)∧s11=.pointer (some ⟨g',0,none⟩)∧g≠g'∧w3.heap.size≤g∧w3.heap.size≤g'∧Hid (F5 wx g 269 #[.bool true,.slice A3 n3 c3])∧Hid (F5 wx g' 269 #[.bool s',.slice A4 n4 c4])∧Below w3.heap.size w3 wx)
 case first =>
  go_region
  all_goals (go_wp2_with fail;go_meet)
  all_goals (go_wp2_with fail)
  all_goals (obtain⟨t1,t2⟩:=Ie w3 269 (.bool true) (.slice A3 n3 c3) (.bool s') (.slice A4 n4 c4))
  all_goals (obtain⟨t3,t4⟩:=Ie w3 269 (.bool s') (.slice A4 n4 c4) (.bool true) (.slice A3 n3 c3))
  all_goals first
   |exact⟨w3.heap.size,w3.heap.size+1,rfl,rfl,J,J,J,WP t1,WP t2,(((Below.refl _ _).alloc (NE _) _).alloc I _).drew⟩
   |exact⟨w3.heap.size+1,w3.heap.size,rfl,rfl,J,J,J,WP t4,WP t3,(((Below.refl _ _).alloc (NE _) _).alloc I _).drew⟩
 case rest =>
  obtain⟨g,g',rfl,rfl,hgg,hg1,hg2,G0,G1,hbx⟩:=hcut;have a2n:=hbw3.trans (hbx.mono hbw3.size);obtain⟨Bh,q01,KG,KH,m0⟩:=G0.out.two;obtain⟨q10,q11,f10,f11,m1⟩:=G1.out.two;obtain⟨_,v11,_,_,_⟩:=(E1.out.below hbx).two;have JR:0 < n4:=by
   rcases Zas n4 with h | h
   ·exfalso
    have:=xU.out;rw[h]at this;exact HRZ.out ((l9.qR J).1 (Za9 this))
   ·exact h
  have hPl:=WY A3 (some ⟨wc.heap.size,0,none⟩) n3 1 c3 1 _ [1] (wc.alloc (.cells #[.int .u32 1] 254)) ((hs3.below hbx).alloc _) (Sl.one wc .u32 254 1) J J (l9.Q4 J _) (l9.Small.cons J l9.Small.nil);rw[l9.L8 J,show l9.D6 1000000000 [1]=1 by decide]at hPl
  have HPl:=WP hPl;clear hPl;have hl3:=UK (b:=1) (n':=1) hs3.len O;have hlen3:n4≤n2:=hn4;have HMn:Hid (∀V,Below w3.heap.size w3 V→Calls prog 251 #[.slice A2 n2 c2,.slice A4 n4 c4] V (ik .u32 (l9.limbs 1000000000 (y.natAbs - x.natAbs % y.natAbs)) V)):=fun V hV=>by
   have:=GY A2 A4 n2 n4 c2 c4 _ _ V (JQ.below hV) (hs4.below hV) J hlen3 (l9.Q4 J _) (l9.Q4 J _) (by rw[l9.L8 J,l9.L8 J];exact Nat.le_of_lt (Nat.mod_lt _ hyp))
   rwa [l9.L8 J,l9.L8 J]at this
  go_upto_region 7 with (fail)
  go_wp2_with fail
  refine HPl.out.mono ?_;rintro e w5 ⟨A5,n5,c5,rfl,hs5,hb5,hf5⟩;have JS:=((Below.refl wc.heap.size wc).alloc (NE _) (.cells #[.int .u32 1] 254)).trans (hb5.mono I);have G0':=WP (G0.out.below JS);have G1':=WP (G1.out.below JS);have E1':=WP ((E1.out.below hbx).below JS);obtain⟨a00,a01,b00,b01,m2⟩:=G0'.out.two;obtain⟨a10,a11,b10,b11,m3⟩:=G1'.out.two;obtain⟨_,v51,_,_,m4⟩:=E1'.out.two;have a2o:Below w3.heap.size w3 (w5.setCell ⟨g,1,none⟩ (.slice A5 n5 c5)):=(hbx.trans (JS.mono hbx.size)).setCell (p:=⟨g,1,none⟩) hg1 _;have H0:=WP (a2m (v':=.slice A5 n5 c5) G0'.out);have H1:=WP (G1'.out.far (p:=⟨g,1,none⟩) (ZaR hgg) (.slice A5 n5 c5));have HE:=WP (E1'.out.far (p:=⟨g,1,none⟩) (show w2.heap.size+1≠g by omega) (.slice A5 n5 c5));have b7o:=hs5.far (p:=⟨g,1,none⟩) (fun b o e=>by have:=hf5 b o e;rw[World.size_alloc]at this;show b≠g;omega) (.slice A5 n5 c5);have oq:Below w.heap.size w (w5.setCell ⟨g,1,none⟩ (.slice A5 n5 c5)):=hbw3.trans (a2o.mono hbw3.size);have hn5:n5≤n3+2:=by rw[←hs5.len];exact hl3
  clear Bh q01 KG KH q10 q11 f10 f11 G0 G1
  go_wp2_with fail
  generalize (w5.setCell ⟨g,1,none⟩ (.slice A5 n5 c5))=V at *;obtain⟨_,v61,_,_,m5⟩:=HE.out.two;obtain⟨_,_,_,_,m6⟩:=H0.out.two;obtain⟨_,_,_,_,m7⟩:=H1.out.two;refine (HMn.out V a2o).mono ?_;rintro e w6 ⟨A6,n6,c6,rfl,hs6,hb6,hf6⟩;have J0:=WP (H0.out.below hb6);have J1:=WP (H1.out.below hb6);obtain⟨_,_,_,_,_⟩:=J0.out.two;obtain⟨_,d11,_,e11,m8⟩:=J1.out.two;have K0:=WP (J0.out.far (p:=⟨g',1,none⟩) hgg (.slice A6 n6 c6));have K1:=WP (a2m (v':=.slice A6 n6 c6) J1.out);have hs7:=hs6.far (p:=⟨g',1,none⟩) (fun b o e=>by have:=hf6 b o e;show b≠g';omega) (.slice A6 n6 c6);have hs8:=(b7o.below hb6).far (p:=⟨g',1,none⟩) (fun b o e=>by have:=hf5 b o e;rw[World.size_alloc]at this;show b≠g';omega) (.slice A6 n6 c6);have gJ:Below w.heap.size w (w6.setCell ⟨g',1,none⟩ (.slice A6 n6 c6)):=(oq.trans (hb6.mono oq.size)).setCell (p:=⟨g',1,none⟩) (by have:=hbw3.size;show w.heap.size≤g';omega) _;have hn6:n6≤n2:=by
   rw[←hs6.len,←hsB.len];exact l9.cu J (Nat.sub_le _ _)
  go_upto_region 9 with (fail)
  generalize (w6.setCell ⟨g',1,none⟩ (.slice A6 n6 c6))=U at *;obtain⟨r00,r01,_,_,_⟩:=K0.out.two;obtain⟨r10,r11,_,_,_⟩:=K1.out.two;have KI:=WP (wG true A5 n5 c5 _ U.drew hs8.qc J (ht.below gJ.drew));have KJ:Hid (∀w7,Below U.drew.heap.size U.drew w7→Calls prog 244 #[.agg #[.bool s',.slice A6 n6 c6]] w7 (dG (dF s' (y.natAbs - x.natAbs % y.natAbs)) w7)):=fun w7 h7=>wG s' A6 n6 c6 _ w7 (hs7.qc.below h7) J (ht.below (gJ.drew.trans (h7.mono gJ.drew.size)))
  go_region_held3 (fun w'=>w'.cell? ⟨g,0,none⟩=some (.bool true)∧w'.cell? ⟨g,1,none⟩=some (.slice A5 n5 c5)∧w'.cell? ⟨g',0,none⟩=some (.bool s')∧w'.cell? ⟨g',1,none⟩=some (.slice A6 n6 c6)) (go_keep)
   (first | (go_at_call 244;((with_reducible refine KI.out.mono ?_));rintro e w7 ⟨rfl,hb7⟩;obtain⟨TG,TI,_,_,_⟩:=(K0.out.drew.below hb7).two;obtain⟨t10,t11,_,_,_⟩:=(K1.out.drew.below hb7).two;have Ez:=WP (KJ.out w7 hb7)) | (go_at_call 244;((with_reducible refine Ez.out.mono ?_));rintro e w8 ⟨rfl,hb8⟩;obtain⟨u00,u01,_,_,_⟩:=((K0.out.drew.below hb7).below hb8).two;obtain⟨u10,u11,_,_,_⟩:=((K1.out.drew.below hb7).below hb8).two))
  go_wp2;go_ret2;exact⟨by rw[←HQ.out,←HR.out];rfl,(gJ.drew.trans (hb7.mono gJ.drew.size)).trans (hb8.mono (gJ.drew.trans (hb7.mono gJ.drew.size)).size)⟩
end Go.Proofs.YthhknjlmjefklaaGreatDoor
