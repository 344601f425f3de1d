/- number.divide: quotient and remainder of two absolute values. -/
import Derived.Test.YtdkehabacmlegaaGreatDoorVB
import Derived.Test.YtdkehabacmlegaaGreatDoorVA
import Derived.Deep.RegionHeld3
import Derived.Maps.AppendAt
import Derived.Deep.RegionLaw
import Derived.Deep.DeepCutAuto
set_option maxRecDepth 100000
set_option maxHeartbeats 4000000
namespace Go.Proofs.YtdkehabacmlegaaGreatDoor
open Tryz
open Go.RowKit
theorem Sl.one(w:World)(k:IntKind)(E:TypeId)(y:Nat):Sl (w.alloc (.cells #[.int k (y:Int)] E)) k (some ⟨w.heap.size,0,none⟩) 1 1 [y] :=
 ⟨rfl,Nat.le_refl _,fun _=>⟨w.heap.size,0,rfl,I,fun i hi=>by
  obtain rfl:i=0:=J;exact (y9.new w E #[.int k (y:Int)]).cell 0⟩⟩
def Vg(a b:Nat)(w:World)(e:Ending)(w':World):Prop:=e=.returned (.bool (decide (b < a)))∧Below w.heap.size w w'
theorem Sl.kr{w:World}{k:IntKind}{A:Option Addr}{n c:Nat}{l:List Nat}(h:Sl w k A n c l):Sl w.drew k A n c l:=⟨h.len,h.cap,h.cells⟩
theorem Sl.alloc{w:World}{k:IntKind}{A:Option Addr}{n c:Nat}{l:List Nat}(h:Sl w k A n c l)(o:Obj):Sl (w.alloc o) k A n c l:=h.below ((Below.refl _ _).alloc (Nat.le_refl _) _)
theorem BG{w w':World}{p q:Nat}{u v:Value}(hb:Below w.heap.size w w')(hp:w.cell? ⟨p,0,none⟩=some u)(hq:w.cell? ⟨q,0,none⟩=some v):w'.cell? ⟨p,0,none⟩=some u∧w'.cell? ⟨q,0,none⟩=some v :=
 ⟨(hb.cell (p:=⟨p,0,none⟩) (World.block_lt_of_cell? _ _ hp)).trans hp,(hb.cell (p:=⟨q,0,none⟩) (World.block_lt_of_cell? _ _ hq)).trans hq⟩
theorem a0l(a b:Nat):decide (0 < cu a b)=decide (b < a):=by
 rcases Nat.lt_trichotomy a b with h | h | h
 ·rw[jT h,decide_eq_false J,decide_eq_false J]
 ·subst h;rw[nO,decide_eq_false J,decide_eq_false J]
 ·rw[jU h,decide_eq_true J,decide_eq_true J]
theorem vW{b n:Nat}(h:(j4.limbs 1000000000 b).length=n):b < 1000000000 ^ n:=by
 have:=j4.iK (B:=1000000000) J (j4.K7 J b)
 rwa [j4.G7 J,h]at this
theorem WT{b k n:Nat}(h:(j4.limbs 1000000000 b).length=n)(hk:k < 1000000000):(j4.limbs 1000000000 (b * k)).length≤n+1:=by
 apply j4.vw J;have h1:=vW h;rw[Nat.pow_succ];rcases Nat.eq_zero_or_pos k with e | e
 ·subst e;rw[Nat.mul_zero];exact Nat.mul_pos (Nat.pow_pos J) J
 ·exact Nat.mul_lt_mul'' h1 hk
theorem XU(pb pr:Nat)(A A':Option Addr)(n n' c c' b r k:Nat)(w:World)(hpb:w.cell? ⟨pb,0,none⟩=some (.slice A n c))(hpr:w.cell? ⟨pr,0,none⟩=some (.slice A' n' c'))
  (hb:Sl w .u32 A n c (j4.limbs 1000000000 b)) (hr:Sl w .u32 A' n' c' (j4.limbs 1000000000 r)) (hn:n≤10000000) (hn':n'≤10000000) (hk:k < 1000000000) :
  Calls prog 287 #[.int .i64 (k:Int),.pointer (some ⟨pb,0,none⟩),.pointer (some ⟨pr,0,none⟩)] w (Vg (b * k) r w):=by
 have hlb:=World.block_lt_of_cell? _ _ hpb;have hlr:=World.block_lt_of_cell? _ _ hpr;have hbW:Below w.heap.size w (w.alloc (.cells #[.int .u32 (k:Int)] 268)).drew:=((Below.refl _ _).alloc (Nat.le_refl _) _).drew;have hT:=EH A (some ⟨w.heap.size,0,none⟩) n 1 c 1 _ [k] (w.alloc (.cells #[.int .u32 (k:Int)] 268)).drew ((hb.alloc _).kr) ((Sl.one w .u32 268 k).kr) J J (j4.K7 J b) (j4.Small.cons hk j4.Small.nil);rw[j4.G7 J,show j4.u7 1000000000 [k]=k by simp[j4.u7]]at hT
 have HT:=Lib.hid hT;clear hT;have HLb:=Lib.hid hb.len;have hw32:IntKind.u32.wrap (k:Int)=k:=by rw[IntKind.wrap_u32];omega
 go_enter func287,ntmps287
 go_wp2
 go_region_held3 (fun w'=>w'.cell? ⟨pb,0,none⟩=some (.slice A n c)∧w'.cell? ⟨pr,0,none⟩=some (.slice A' n' c')) (go_keep)
  (first | (go_at_call 259;refine HT.out.mono ?_;rintro e w1 ⟨A1,n1,c1,rfl,hs1,hb1,_⟩;have eH:=hbW.trans (hb1.mono hbW.size);obtain⟨q1,q2⟩:=BG eH hpb hpr;have HC:=Lib.hid (rX 1000000000 J A1 A' n1 n' c1 c' (b * k) r w1 hs1 (hr.below eH) (by have:=WT HLb.out hk;rw[hs1.len]at this;omega) J)) | (go_at_call 276;refine HC.out.mono ?_;rintro e w2 ⟨rfl,q,rfl⟩))
 go_wp2;go_ret;exact⟨by rw[←a0l];rfl,below_drewN eH _⟩
def QQ(k:IntKind)(v:Nat)(w:World)(e:Ending)(w':World):Prop:=e=.returned (.int k (v:Int))∧Below w.heap.size w w'
theorem XV{r b h:Nat}(hb:0 < b):r < b * h↔r / b < h:=by
 rw[Nat.div_lt_iff_lt_mul hb,Nat.mul_comm]
theorem Yy(pb pr:Nat)(A A':Option Addr)(n n' c c' b r:Nat)(w:World)(hpb:w.cell? ⟨pb,0,none⟩=some (.slice A n c))(hpr:w.cell? ⟨pr,0,none⟩=some (.slice A' n' c'))
  (hb:Sl w .u32 A n c (j4.limbs 1000000000 b)) (hr:Sl w .u32 A' n' c' (j4.limbs 1000000000 r)) (hn:n≤10000000) (hn':n'≤10000000) (hb0:0 < b) (hq:r / b < 1000000000) :
  Calls prog 286 #[.int .i64 1000000000,.func (.func 287) #[] #[.pointer (some ⟨pb,0,none⟩),.pointer (some ⟨pr,0,none⟩)]] w (QQ .i64 (r / b+1) w):=by
 have HQ:Hid (∀h,decide (r < b * h)=decide (r / b < h)):=fun h=>by rw[decide_eq_decide];exact XV hb0
 generalize r / b=d at hq HQ
 go_enter func286,ntmps286
 go_wp2
 go_loopw [5,6] (fun s5 s6 wr=>∃lo hi:Nat,s5=.int .i64 lo∧s6=.int .i64 hi∧lo≤d+1∧d+1≤hi∧hi≤1000000000∧Below w.heap.size w wr) (fun s5 s6 _=>(intOf s6 - intOf s5).toNat)
 case atStart=>exact⟨0,1000000000,rfl,rfl,J,J,J,Below.refl _ _⟩
 case round =>
  obtain⟨lo,hi,rfl,rfl,h1,h2,h3,hbr⟩:=hrel;by_cases hlt:lo < hi
  ·obtain⟨p1,p2⟩:=BG hbr hpb hpr;have hc:=XU pb pr A A' n n' c c' b r ((lo+hi) / 2) wr p1 p2 (hb.below hbr) (hr.below hbr) hn hn' J;unfold Vg at hc;rw[HQ.out,show (((lo+hi) / 2:Nat):Int)=((lo:Int)+(hi:Int)) / 2 by omega]at hc
   by_cases hm:d < (lo+hi) / 2
   ·rw[decide_eq_true hm]at hc;have HC:=Lib.hid hc;clear hc
    go_wp2_with (go_at_call 287;refine HC.out.mono ?_;rintro e w1 ⟨rfl,hb1⟩)
    go_roundw
    case rel=>exact⟨lo,(lo+hi) / 2,rfl,by go_num,h1,J,J,hbr.trans (hb1.mono hbr.size)⟩
    case measure=>simp only[intOf];omega
   ·rw[decide_eq_false hm]at hc;have HC:=Lib.hid hc;clear hc
    go_wp2_with (go_at_call 287;refine HC.out.mono ?_;rintro e w1 ⟨rfl,hb1⟩)
    go_roundw
    case rel=>exact⟨(lo+hi) / 2+1,hi,by go_num,rfl,J,h2,h3,hbr.trans (hb1.mono hbr.size)⟩
    case measure=>simp only[intOf];omega
  ·have e:lo=d+1:=J;subst e;go_wp2;go_ret;exact⟨rfl,hbr⟩
section
variable {P:Program} {w:World}
theorem a0m(base:Nat)(t ty E:TypeId)(k:IntKind)(bytes:Nat)(ht:P.underlying t=some (.slice E))(hinfo:(P.info? E).map (fun i=>(i.zero,i.size,i.bytes))=some (some (.int k 0),1,bytes))(hbytes:bytes≤8)
  (A:Option Addr) (n c:Nat) (l:List Nat) (hown:Own w base E k A n c l) (A':Option Addr) (m c':Nat) (l':List Nat) (hs:Sl w k A' m c' l')
  (hn:n+m≤1000000000000) (hbase:base≤w.heap.size) :
  ∃A2 c2 w2,(Builtin.append_ #[t,t] ty #[.slice A n c,.slice A' m c']).run P w=.ok (.slice A2 (n+m) c2) w2∧Own w2 base E k A2 (n+m) c2 (l++l') ∧
   (∀g,g < w.heap.size→A≠some ⟨g,0,none⟩→w2.heap[g]?=w.heap[g]?)∧w.heap.size≤w2.heap.size∧w2.os=w.os∧w2.tape=w.tape∧w2.output=w.output:=by
 obtain⟨i0,hi0,hz0,hz1,hz2⟩:=info_parts hinfo;have hAn:A=none∨∃g,A=some ⟨g,0,none⟩:=by
  rcases hown.own.2 with⟨hv,_⟩ | ⟨g,cap,cur,hv,_⟩
  ·simp only[Value.slice.injEq]at hv;exact .inl hv.1
  ·simp only[Value.slice.injEq]at hv;exact .inr ⟨g,hv.1⟩
 rcases A' with _ | ad
 ·have hm:m=0:=by
   rcases Nat.eq_zero_or_pos m with h0 | h0
   ·exact h0
   ·obtain⟨b,o,e,_⟩:=hs.cells h0;cases e
  subst hm;have hl:l'=[]:=List.eq_nil_of_length_eq_zero hs.len;subst hl;refine⟨A,c,w,?_,by simpa using hown,fun _ _ _=>rfl,Nat.le_refl _,rfl,rfl,rfl⟩;rcases hown.own.2 with⟨hv,h0⟩ | ⟨g,cap,cur,hv,_,_,hnc,_⟩
  ·simp only[Value.slice.injEq]at hv;obtain⟨rfl,rfl,rfl⟩:=hv;simp[Builtin.append_,run_underlying ht,sizeOf,typeInfo,hi0,Builtin.lenOf,Builtin.firstCells]
  ·simp only[Value.slice.injEq]at hv;obtain⟨rfl,_,rfl⟩:=hv;simp[Builtin.append_,run_underlying ht,sizeOf,typeInfo,hi0,Builtin.lenOf,Builtin.firstCells,hnc,storeCells]
 ·have hcells:∀j u,(l'.map fun x=>Value.int k (x:Nat))[j]?=some u→w.cell? (ad.add j)=some u:=by
   intro j u hu;have hj:j < m:=by
    rw[←hs.len];rcases Nat.lt_or_ge j l'.length with h | h
    ·exact h
    ·rw[List.getElem?_eq_none (by simpa using h)]at hu;cases hu
   obtain⟨b,o,e,_,hc⟩:=hs.cells J;injection e with e
   subst e;have e2:(⟨b,o,none⟩:Addr).add j=⟨b,o+j,none⟩:=by
    unfold Addr.add;split
    ·subst j;rfl
    ·rfl
   rw[e2,hc j hj];rw[List.getElem?_map,List.getElem?_eq_getElem (by rw[hs.len];exact hj)]at hu;rw[List.getD_eq_getElem?_getD,List.getElem?_eq_getElem (by rw[hs.len];exact hj)];simpa using hu
  obtain⟨v',w',hrun,h2,h3,h4,h5⟩:=run_append_own_at (P:=P) w base t ty E i0 (.int k 0) 1 bytes ht hi0 hz0 hz1 hz2 rfl J _ n _ hown.own ad m c' (l'.map fun x=>Value.int k (x:Nat)) (by simp[hs.len]) hcells (by
   intro u hu;obtain⟨x,_,rfl⟩:=List.mem_map.1 hu;rfl) (by unfold maxLen;omega) (by
   have:(n+m) * bytes≤1000000000000 * 8:=Nat.mul_le_mul hn hbytes;omega) hbase
  obtain⟨A2,c2,rfl⟩:∃A2 c2,v'=.slice A2 (n+m) c2:=by
   rcases h2.2 with⟨rfl,h0⟩ | ⟨g,cap,cur,rfl,_⟩
   ·exact⟨none,0,by rw[h0]⟩
   ·exact⟨_,_,rfl⟩
  refine⟨A2,c2,w',hrun,⟨by simpa using h2⟩,fun g hg hne=>h3.block g hg (fun e=>?_),h3.size,h3.os,h3.tape,h3.output⟩;rcases hAn with rfl | ⟨g',rfl⟩
  ·simp[Value.ownBlock]at e
  ·simp[Value.ownBlock]at e;subst e;exact hne rfl
theorem OZ{o:Oper}{a:Act}{K:Act→World→Prop}{Q:Exit→Act→World→Prop}(s x:Operand)(t:TypeId)
  (ho:o.op=.call { callee:=.builtin .append,args:=#[s,x],argTypes:=#[t,t] })
  (base:Nat) (E:TypeId) (k:IntKind) (bytes:Nat) (ht:P.underlying t=some (.slice E)) (hinfo:(P.info? E).map (fun i=>(i.zero,i.size,i.bytes))=some (some (.int k 0),1,bytes)) (hbytes:bytes≤8)
  (A:Option Addr) (n c:Nat) (l:List Nat) (hs:a.eval s=.slice A n c) (hown:Own w base E k A n c l) (A':Option Addr) (m c':Nat) (l':List Nat) (hx:a.eval x=.slice A' m c') (hsl:Sl w k A' m c' l')
  (hn:n+m≤1000000000000) (hbase:base≤w.heap.size)
  (h:∀A2 c2 w2,Own w2 base E k A2 (n+m) c2 (l++l')→(∀g,g < w.heap.size→A≠some ⟨g,0,none⟩→w2.heap[g]?=w.heap[g]?)→w.heap.size≤w2.heap.size→w2.os=w.os→w2.tape=w.tape→w2.output=w.output→K (a.put o.dst (.slice A2 (n+m) c2)) w2):o.wp P a w K Q:=by
 obtain⟨A2,c2,w2,hrun,h2,h3,h4,h5,h6,h7⟩:=a0m (P:=P) base t o.type E k bytes ht hinfo hbytes A n c l hown A' m c' l' hsl hn hbase;unfold Oper.wp execOp;simp only[ho,resolve,invoke,builtin,Sem.run_bind,Sem.run_pure,Result.andThen_ok,List.map_toArray,List.map_cons,List.map_nil,hs,hx,hrun];exact h A2 c2 w2 h2 h3 h4 h5 h6 h7
theorem Zg{ops:Array Oper}{o:Oper}{a:Act}{K:Act→World→Prop}{Q:Exit→Act→World→Prop}{F:Prop}(hgd:o.guard=none)(s x:Operand)(t:TypeId)
  (ho:o.op=.call { callee:=.builtin .append,args:=#[s,x],argTypes:=#[t,t] })
  (base:Nat) (E:TypeId) (k:IntKind) (bytes:Nat) (ht:P.underlying t=some (.slice E)) (hinfo:(P.info? E).map (fun i=>(i.zero,i.size,i.bytes))=some (some (.int k 0),1,bytes)) (hbytes:bytes≤8)
  (A:Option Addr) (n c:Nat) (l:List Nat) (hs:a.eval s=.slice A n c) (hown:Own w base E k A n c l) (A':Option Addr) (m c':Nat) (l':List Nat) (hx:a.eval x=.slice A' m c') (hsl:Sl w k A' m c' l')
  (hn:n+m≤1000000000000) (hbase:base≤w.heap.size)
  (h:∀A2 c2 w2,Own w2 base E k A2 (n+m) c2 (l++l')→(∀g,g < w.heap.size→A≠some ⟨g,0,none⟩→w2.heap[g]?=w.heap[g]?)→w.heap.size≤w2.heap.size→w2.os=w.os→w2.tape=w.tape→w2.output=w.output→K (a.put o.dst (.slice A2 (n+m) c2)) w2) :
  if Region.wanted o (yielded ops a.tmps)=true then Oper.wp P o a w K Q else F:=by
 have hw:Region.wanted o (yielded ops a.tmps)=true:=by simp[Region.wanted,hgd]
 rw[if_pos hw];exact OZ s x t ho base E k bytes ht hinfo hbytes A n c l hs hown A' m c' l' hx hsl hn hbase h
theorem XW{ops:Array Oper}{rest:List Oper}{o:Oper}{a:Act}{Q:Exit→Act→World→Prop}(hgd:o.guard=none)(s x:Operand)(t:TypeId)
  (ho:o.op=.call { callee:=.builtin .append,args:=#[s,x],argTypes:=#[t,t] })
  (base:Nat) (E:TypeId) (k:IntKind) (bytes:Nat) (ht:P.underlying t=some (.slice E)) (hinfo:(P.info? E).map (fun i=>(i.zero,i.size,i.bytes))=some (some (.int k 0),1,bytes)) (hbytes:bytes≤8)
  (A:Option Addr) (n c:Nat) (l:List Nat) (hs:a.eval s=.slice A n c) (hown:Own w base E k A n c l) (A':Option Addr) (m c':Nat) (l':List Nat) (hx:a.eval x=.slice A' m c') (hsl:Sl w k A' m c' l')
  (hn:n+m≤1000000000000) (hbase:base≤w.heap.size)
  (h:∀A2 c2 w2,Own w2 base E k A2 (n+m) c2 (l++l')→(∀g,g < w.heap.size→A≠some ⟨g,0,none⟩→w2.heap[g]?=w.heap[g]?)→w.heap.size≤w2.heap.size→w2.os=w.os→w2.tape=w.tape→w2.output=w.output→wpList P ops Q rest (a.put o.dst (.slice A2 (n+m) c2)) w2):wpList P ops Q (o::rest) a w :=
 wpList_plain hgd fun _ hK=>OZ s x t ho base E k bytes ht hinfo hbytes A n c l hs hown A' m c' l' hx hsl hn hbase fun A2 c2 w2 h2 h3 h4 h5 h6 h7=>hK _ _ (h A2 c2 w2 h2 h3 h4 h5 h6 h7)
end
theorem Sl.far{w:World}{k:IntKind}{A:Option Addr}{n c:Nat}{l:List Nat}(h:Sl w k A n c l){p:Addr}(hp:∀b o,A=some ⟨b,o,none⟩→b≠p.block)(u:Value):Sl (w.setCell p u) k A n c l :=
 ⟨h.len,h.cap,fun hn=>by
  obtain⟨b,o,e,hlt,hc⟩:=h.cells hn;refine⟨b,o,e,by simpa[World.setCell] using hlt,fun i hi=>?_⟩;have hne:=hp b o e;rw[World.cell?_setCell_other w p ⟨b,o+i,none⟩ u (fun e=>hne (by rw[e]))];exact hc i hi⟩
theorem Yz{wr w2:World}{o:Obj}(hblk:∀g,g < (wr.alloc o).drew.heap.size→(some ⟨wr.heap.size,0,none⟩:Option Addr)≠some ⟨g,0,none⟩→w2.heap[g]?=(wr.alloc o).drew.heap[g]?)(hsz:(wr.alloc o).drew.heap.size≤w2.heap.size)
    (hos:w2.os=(wr.alloc o).drew.os) (htp:w2.tape=(wr.alloc o).drew.tape) (hou:w2.output=(wr.alloc o).drew.output):Below wr.heap.size wr w2 :=
  ⟨hos,htp,hou,by
                     have:(wr.alloc o).drew.heap.size=wr.heap.size+1:=I;omega,fun g hg=>(hblk g (by simp;omega) (by intro e;injection e with e;injection e with e;omega)).trans (Below.heap_alloc wr _ g hg)⟩
theorem set_drop(q:List Nat)(i d:Nat)(h:i < q.length):(q.set i d).drop i=d::q.drop (i+1):=by
 rw[List.drop_eq_getElem_cons (by simpa using h),List.getElem_set_self,List.drop_set_of_lt J]
theorem WY(u R:Nat):j4.u7 1000000000 ([u]++j4.limbs 1000000000 R)=u+1000000000 * R:=by
 show u+1000000000 * j4.u7 1000000000 (j4.limbs 1000000000 R)=_;rw[j4.G7 J]
theorem WU{u:Nat}(hu:u < 1000000000)(R:Nat):j4.Small 1000000000 ([u]++j4.limbs 1000000000 R):=j4.Small.cons hu (j4.K7 J R)
theorem a0n{a b R u j:Nat}{q:List Nat}(hj:0 < j)(hja:j≤(j4.limbs 1000000000 a).length)(hjq:j≤q.length)(hu:(j4.limbs 1000000000 a).getD (j - 1) 0=u)
  (h:j4.u7 1000000000 ((j4.limbs 1000000000 a).drop j)=j4.u7 1000000000 (q.drop j) * b+R) :
  j4.u7 1000000000 ((j4.limbs 1000000000 a).drop (j - 1))=j4.u7 1000000000 ((q.set (j - 1) ((u+1000000000 * R) / b)).drop (j - 1)) * b+(u+1000000000 * R) % b:=by
 obtain⟨m,rfl⟩:∃m,j=m+1:=⟨j - 1,J⟩;rw[Nat.add_sub_cancel]at hu ⊢
 rw[set_drop _ _ _ J,j4.nD _ _ m J,hu,j4.u7];exact j4.MH h
theorem Ch{w:World}{g:Nat}{t:TypeId}{v:Value}(h:y9 w g t #[v]):w.cell? ⟨g,0,none⟩=some v∧w.frozen? ⟨g,0,none⟩=false:=⟨h.cell 0,h.frozen 0⟩
theorem Zh(A:Option Addr)(n c:Nat)(l:List Nat)(w:World)(h:Sl w .u32 A n c l)(hn:n≤1000000000) :
  Calls prog 279 #[.slice A n c] w fun e w'=>e=.returned (.slice A (j4.R3 l).length c)∧w'=w :=
 (nI A n c l w h hn).mono fun _ _ h=>⟨h.1,h.2.symm⟩
def a5r(a b:Nat)(w:World)(e:Ending)(w':World):Prop :=
 ∃A n c A' n' c',e=.returned (.tuple #[.slice A n c,.slice A' n' c'])∧Sl w' .u32 A n c (j4.limbs 1000000000 (a / b))∧Sl w' .u32 A' n' c' (j4.limbs 1000000000 (a % b))∧Below w.heap.size w w'
theorem EA(A A':Option Addr)(n n' c c' a b:Nat)(w:World)(hx:Sl w .u32 A n c (j4.limbs 1000000000 a))(hy:Sl w .u32 A' n' c' (j4.limbs 1000000000 b))(hn:n≤2500000)(hn':n'≤2500000)(hb0:0 < b) :
  Calls prog 265 #[.slice A n c,.slice A' n' c'] w (a5r a b w):=by
 have yC:=Lib.hid hx.len;have CG:=Lib.hid hy.len
 go_enter func265,ntmps265
 go_wp2_with (at_make;refine vN (w0:=w) rfl _ _ _ rfl 268 .u32 4 Tryz.underlying277 gH J _ _ _ _ n rfl rfl J J J ((Below.refl _ _).alloc (Nat.le_refl _) _) ?_;intro w1 hown1 hb1 hbW1 hsz1)
 simp only[World.size_alloc]at hsz1 hown1 hbW1
 go_loopw [8,9] (fun ix dg wr=>∃(j R nr cr:Nat) (Ar:Option Addr) (q:List Nat),j≤n∧ix=.int .i64 ((j:Int) - 1)∧Hid (y9 wr w.heap.size 277 #[.slice A' n' c'])∧Hid (y9 wr w1.heap.size 277 #[.slice Ar nr cr])∧Sl wr .u32 Ar nr cr (j4.limbs 1000000000 R)∧Hid (∀b o,Ar=some ⟨b,o,none⟩→b≠w.heap.size+1∧b≠w1.heap.size)∧R < b∧Own wr w.heap.size 268 .u32 (some ⟨w.heap.size+1,0,none⟩) n n q∧j4.Small 1000000000 q∧Hid (j4.u7 1000000000 ((j4.limbs 1000000000 a).drop j)=j4.u7 1000000000 (q.drop j) * b+R)∧Below w.heap.size w wr) (fun ix _ _=>(intOf ix+1).toNat)
 case atStart =>
  refine⟨n,0,0,0,none,List.replicate n 0,Nat.le_refl _,rfl,?_,?_,Sl.nil _ _ _ _,?_,hb0,?_,zM _ _ J,?_,?_⟩
  ·have h1:=(y9.new w 277 #[.slice A' n' c']).keep (hbW1.block w.heap.size J);exact Lib.hid (h1.alloc _)
  ·exact Lib.hid (y9.new w1 _ _)
  ·exact Lib.hid (fun _ _ e=>by cases e)
  ·exact hown1.alloc _
  ·exact Lib.hid (by rw[List.drop_of_length_le (by rw[yC.out];exact Nat.le_refl _),List.drop_of_length_le I];simp[j4.u7])
  ·exact hb1.alloc hb1.size _
 case round =>
  obtain⟨j,R,nr,cr,Ar,q,hj,rfl,HB1,HB2,mg,HA,hR,hown,uQ,HV,hb⟩:=hrel;have uR:=Lib.hid mg.len;have hnr:nr≤n':=by
   rw[←uR.out,←CG.out];exact j4.aA J J
  have c1:=HB1.out.cell 0;have c2:=HB2.out.cell 0;simp only[List.getElem?_toArray,List.getElem?_cons_zero]at c1 c2;have f2:=HB2.out.frozen 0;have hl2:=HB2.out.lt;by_cases hj0:0 < j
  ·obtain⟨bx,ox,rfl,hbx,hcx⟩:=(hx.below hb).cells J;have Z5:=hcx (j - 1) J;clear hcx;have hu:=getD_lt (l:=j4.limbs 1000000000 a) (j4.K7 J a) J (j - 1);generalize hu0:(j4.limbs 1000000000 a).getD (j - 1) 0=u at Z5 hu;have yD:=Lib.hid hu0;clear hu0;have hi1:(0:Int)≤(j:Int) - 1:=J;have hi2:(j:Int) - 1 < n:=J;have hi3:((j:Int) - 1).toNat=j - 1:=J;have yE:Own (wr.alloc (.cells #[.int .u32 (u:Int)] 268)).drew wr.heap.size 268 .u32 (some ⟨wr.heap.size,0,none⟩) 1 1 [u]:=⟨⟨rfl,.inr ⟨wr.heap.size,1,#[.int .u32 (u:Int)],rfl,Nat.le_refl _,heap_alloc_new wr _,Nat.le_refl _,by unfold maxLen;omega,rfl,rfl⟩⟩⟩;have yG:Sl (wr.alloc (.cells #[.int .u32 (u:Int)] 268)).drew .u32 Ar nr cr (j4.limbs 1000000000 R):=(mg.alloc _).kr;have HU:Hid ((j4.limbs 1000000000 a).getD (j - 1) 0=u):=yD;have hqn:q.length=n:=hown.len;have HST:=Lib.hid (a0n (b:=b) hj0 (by rw[yC.out];exact hj) J HU.out HV.out);clear hqn;obtain⟨R',hR'⟩:∃R',R'=u+1000000000 * R:=⟨_,rfl⟩;rw[←hR']at HST;have CJ:=Lib.hid hR';clear hR'
   go_upto_region 6 with (fail)
   go_cut [8] (fun s8 wx=>s8=.int .i64 ((j:Int) - 1)∧∃(A2:Option Addr) (n2 gz:Nat),Hid (y9 wx w.heap.size 277 #[.slice A' n' c'])∧Hid (y9 wx w1.heap.size 277 #[.slice A2 n2 gz])∧Sl wx .u32 A2 n2 gz (j4.limbs 1000000000 R')∧Hid (∀b o,A2=some ⟨b,o,none⟩→b≠w.heap.size+1∧b≠w1.heap.size)∧n2≤n'+1∧Own wx w.heap.size 268 .u32 (some ⟨w.heap.size+1,0,none⟩) n n q∧Below w.heap.size w wx)
   case first =>
    go_region_law
     (first | (refine Zg rfl _ _ _ rfl wr.heap.size 268 .u32 4 Tryz.underlying277 gH J _ _ _ [u] rfl yE _ _ _ _ rfl yG J I ?_;intro A2 gz w2 hown2 hblk2 hsz2 xL xM xN;have hbw2:=Yz hblk2 hsz2 xL xM xN;clear hblk2 hsz2 xL xM xN;have k1:=(hbw2.cell (p:=⟨w1.heap.size,0,none⟩) hl2).trans c2;have k3:=(hbw2.frozen (p:=⟨w1.heap.size,0,none⟩) hl2).trans f2;have k4:=Nat.lt_of_lt_of_le hl2 hbw2.size;have HTr:=Lib.hid (nI A2 (1+nr) gz _ w2 hown2.sl J)) | (go_simp;go_at_call 279;refine HTr.out.mono ?_;rintro e w3 ⟨rfl,rfl⟩))
    all_goals (go_wp2_with fail;go_meet)
    all_goals
     have hsl2:=hown2.sl.trimmed (B:=1000000000) J (WU hu R);rw[WY,←CJ.out]at hsl2;have hfr:=hown2.fresh;have hq1:=(hown.lt rfl).2;have htl:=rP ([u]++j4.limbs 1000000000 R);rw[List.length_append,uR.out]at htl;refine⟨rfl,A2,_,gz,Lib.hid ((HB1.out.below hbw2).far (by simp;omega) _),Lib.hid (by simpa using (HB2.out.below hbw2).dS 0 (.slice A2 (j4.R3 ([u]++j4.limbs 1000000000 R)).length gz)),hsl2.far (fun b o e=>by have:=hfr b o e;show b≠w1.heap.size;omega) _,Lib.hid (fun b o e=>by have:=hfr b o e;omega),?_,(hown.below hbw2).tJ (HB2.out.below hbw2) O _ _,(hb.trans (hbw2.mono hb.size)).setCell (p:=⟨w1.heap.size,0,none⟩) hb1.size _⟩
     ·simp only[List.length_singleton]at htl;omega
   case rest =>
    obtain⟨rfl,A2,n2,gz,X1,X2,hs2,HA2,hn2,ug,xO⟩:=hcut;clear HB1 HB2 c1 c2 f2 hl2 mg HA hown hb yE yG uR hnr Z5;obtain⟨m1,m2⟩:=Ch X1.out;obtain⟨m3,m4⟩:=Ch X2.out;have hl3:=X2.out.lt;have hl4:=X1.out.lt;obtain⟨hco,hfo,_,hlq⟩:=ug.cellAt (i:=j - 1) J;generalize q.getD (j - 1) 0=z at hco;have uS:=Lib.hid (rX 1000000000 J A2 A' n2 n' gz c' R' b wc hs2 (hy.below xO) J J);by_cases hge:R' < b
    ·have HO:Hid (cu R' b=-1):=jT hge
     go_wp2_with (go_at_call 276;refine uS.out.mono ?_;rintro e w2 ⟨rfl,qq,rfl⟩;rw[HO.out])
     go_roundw
     case rel =>
      refine⟨j - 1,R',n2,gz,A2,q.set (j - 1) 0,J,by go_num,Lib.hid (X1.out.far I _),Lib.hid (X2.out.far (by simp;omega) _),(hs2.drew qq).far (p:=⟨w.heap.size+1,j - 1,none⟩) (fun b o e=>(HA2.out b o e).1) _,HA2,hge,(ug.drewN qq).setInt (d:=0) rfl rfl,uQ.set J,?_,(below_drewN xO qq).setCell (p:=⟨w.heap.size+1,j - 1,none⟩) I _⟩;have h:=HST.out;rw[Nat.div_eq_of_lt hge,Nat.mod_eq_of_lt hge]at h;exact Lib.hid h
     case measure=>simp only[intOf];omega
    ·have hz:0≤cu R' b:=by
      rcases Nat.lt_or_ge b R' with h | h
      ·rw[jU h];omega
      ·obtain rfl:R'=b:=J;rw[nO];omega
     have hdg:R' / b < 1000000000:=by rw[CJ.out];exact j4.MI hu hR
     have JI:Hid (∀qq,Calls prog 286 #[.int .i64 1000000000,.func (.func 287) #[] #[.pointer (some ⟨w.heap.size,0,none⟩),.pointer (some ⟨w1.heap.size,0,none⟩)]] (wc.drewN qq) (QQ .i64 (R' / b+1) (wc.drewN qq))) :=
      fun qq=>Yy w.heap.size w1.heap.size A' A2 n' n2 c' gz b R' (wc.drewN qq) m1 m3 ((hy.below xO).drew qq) (hs2.drew qq) J J hb0 hdg
     have CK:=Lib.hid (Nat.div_add_mod R' b);have gy:R' % b < b:=Nat.mod_lt _ hb0;generalize R' / b=d at hdg JI HST CK;generalize R' % b=rr at HST CK gy
     go_upto_region 10 with (first | (go_at_call 276;refine uS.out.mono ?_;rintro e w2 ⟨rfl,qq,rfl⟩) | (go_at_call 286;refine (JI.out qq).mono ?_;rintro e w3 ⟨rfl,hb3⟩))
     have xP:Below wc.heap.size wc w3:=⟨hb3.os,hb3.tape,hb3.output,hb3.size,hb3.block⟩;have M7:Below w.heap.size w w3:=xO.trans (xP.mono xO.size);have Y1:=Lib.hid (X1.out.below xP);have Y2:=Lib.hid (X2.out.below xP);have hown3:=ug.below xP;have hs3:=hs2.below xP;have hy3:=hy.below M7;obtain⟨y1,_⟩:=Ch Y1.out;obtain⟨y3,y4⟩:=Ch Y2.out;have gq:=Y2.out.lt;have b4y:=Y1.out.lt;have hbW:Below w3.heap.size w3 (w3.alloc (.cells #[.int .u32 (d:Int)] 268)).drew:=((Below.refl _ _).alloc (Nat.le_refl _) _).drew;have hone:=(Sl.one w3 .u32 268 d).kr;have HT1:=Lib.hid (nI (some ⟨w3.heap.size,0,none⟩) 1 1 [d] (w3.alloc (.cells #[.int .u32 (d:Int)] 268)).drew hone J);have htr:=hone.trimmed (B:=1000000000) J (j4.Small.cons hdg j4.Small.nil);rw[show j4.u7 1000000000 [d]=d by simp[j4.u7]]at htr
     have htl:=rP [d];have JJ:=EH A' (some ⟨w3.heap.size,0,none⟩) n' _ c' 1 (j4.limbs 1000000000 b) (j4.limbs 1000000000 d) (w3.alloc (.cells #[.int .u32 (d:Int)] 268)).drew (hy3.below hbW) htr J (by simp only[List.length_singleton]at htl;omega) (j4.K7 J b) (j4.K7 J d);rw[j4.G7 J,j4.G7 J]at JJ;have HT2:=Lib.hid JJ;have hle:b * d≤R':=by have:=CK.out;omega
     have HSub:Hid (R' - b * d=rr):=by have:=CK.out;show _=_;omega
     clear JJ htl hone htr uS JI m1 m2 m3 m4 hl3 hl4 hco hfo hlq
     go_cut [8,9] (fun s8 s9 wx=>s8=.int .i64 ((j:Int) - 1)∧s9=.int .u32 (d:Int)∧∃(A5:Option Addr) (n5 c5:Nat),Hid (y9 wx w.heap.size 277 #[.slice A' n' c'])∧Hid (y9 wx w1.heap.size 277 #[.slice A5 n5 c5])∧Sl wx .u32 A5 n5 c5 (j4.limbs 1000000000 rr)∧Hid (∀b o,A5=some ⟨b,o,none⟩→b≠w.heap.size+1∧b≠w1.heap.size)∧Own wx w.heap.size 268 .u32 (some ⟨w.heap.size+1,0,none⟩) n n q∧Below w.heap.size w wx)
     case first =>
      go_region_law
       (first | (go_simp;go_at_call 279;refine HT1.out.mono ?_;rintro e wt ⟨rfl,rfl⟩) | (go_simp;go_at_call 259;refine HT2.out.mono ?_;rintro e w4 ⟨A4,n4,c4,rfl,hs4,hb4,JK⟩;have fV:=hbW.trans (hb4.mono hbW.size);have z3:=(fV.cell (p:=⟨w1.heap.size,0,none⟩) gq).trans y3;have Uh:=hs3.below fV;have HMi:=Lib.hid (Af A2 A4 n2 n4 gz c4 _ _ w4 Uh hs4 J (by rw[←Uh.len,←hs4.len];exact j4.aA J hle) (j4.K7 J _) (j4.K7 J _) (by rw[j4.G7 J,j4.G7 J];exact hle))) | (go_simp;go_at_call 267;refine HMi.out.mono ?_;rintro e w5 ⟨A5,n5,c5,rfl,hs5,hb5,yH⟩;have jv:=fV.trans (hb5.mono fV.size);have k1:=(jv.cell (p:=⟨w1.heap.size,0,none⟩) gq).trans y3;have k3:=(jv.frozen (p:=⟨w1.heap.size,0,none⟩) gq).trans y4;have k4:=Nat.lt_of_lt_of_le gq jv.size))
      all_goals (go_wp2_with fail;go_meet)
      all_goals
       rw[j4.G7 J,j4.G7 J,HSub.out]at hs5;have hq1:=(hown3.lt rfl).2;have hz4:=fV.size;refine⟨rfl,rfl,A5,n5,c5,Lib.hid ((Y1.out.below jv).far (by simp;omega) _),Lib.hid (by simpa using (Y2.out.below jv).dS 0 (.slice A5 n5 c5)),hs5.far (p:=⟨w1.heap.size,0,none⟩) (fun b o e=>by have:=yH b o e;show b≠w1.heap.size;omega) _,Lib.hid (fun b o e=>by have:=yH b o e;omega),(hown3.below jv).tJ (Y2.out.below jv) O _ _,(M7.trans (jv.mono M7.size)).setCell (p:=⟨w1.heap.size,0,none⟩) hb1.size _⟩
     case rest =>
      obtain⟨rfl,rfl,A5,n5,c5,V1,V2,hs5,Vh,hown5,hb5⟩:=hcut;obtain⟨hco,hfo,_,hlq⟩:=hown5.cellAt (i:=j - 1) J;generalize q.getD (j - 1) 0=z at hco;go_wp2
      go_roundw
      case rel=>exact⟨j - 1,rr,n5,c5,A5,q.set (j - 1) d,J,by go_num,Lib.hid (V1.out.far I _),Lib.hid (V2.out.far (by simp;omega) _),hs5.far (p:=⟨w.heap.size+1,j - 1,none⟩) (fun b o e=>(Vh.out b o e).1) _,Vh,gy,hown5.setInt J rfl,uQ.set hdg,HST,hb5.setCell (p:=⟨w.heap.size+1,j - 1,none⟩) I _⟩
      case measure=>simp only[intOf];omega
  ·have hjz:j=0:=J;subst hjz;have HQ:Hid (j4.u7 1000000000 q=a / b∧R=a % b):=by
    have h:=HV.out;rw[List.drop_zero,List.drop_zero,j4.G7 J]at h;show _∧_;rw[h];exact⟨by rw[Nat.add_comm,Nat.add_mul_div_right _ _ hb0,Nat.div_eq_of_lt hR,Nat.zero_add],by rw[Nat.add_comm,Nat.add_mul_mod_self_right,Nat.mod_eq_of_lt hR]⟩
   have xQ:=hown.sl
   go_upto_region 12 with (fail)
   go_quiet ((go_at_call 279;exact Calls.quiet_of_same (Zh _ _ _ _ _ (xQ.drew _) J)))
   go_wp2;go_ret2;refine⟨_,_,_,_,_,_,rfl,?_,?_,below_drewN hb _⟩
   ·have:=xQ.trimmed (B:=1000000000) J uQ;rw[HQ.out.1]at this;exact this.drew _
   ·rw[←HQ.out.2];exact mg.drew _
def dV(a b:Int):Int:=if a < b then -1 else if b < a then 1 else 0
theorem Pb{a b:Int}(h:a < b):dV a b=-1:=by simp[dV,h]
theorem Pd{a b:Int}(h:b < a):dV a b=1:=by simp[dV,h];omega
theorem Nw{a b:Int}(ha:¬a < 0)(hb:¬b < 0):cu a.natAbs b.natAbs=dV a b:=by
 unfold cu dV;by_cases h1:a < b
 ·rw[if_pos J,if_pos h1]
 ·rw[if_neg J,if_neg h1];by_cases h2:b < a
  ·rw[if_pos J,if_pos h2]
  ·rw[if_neg J,if_neg h2]
theorem Ny{a b:Int}(ha:a < 0)(hb:b < 0):cu b.natAbs a.natAbs=dV a b:=by
 unfold cu dV;by_cases h1:a < b
 ·rw[if_pos J,if_pos h1]
 ·rw[if_neg J,if_neg h1];by_cases h2:b < a
  ·rw[if_pos J,if_pos h2]
  ·rw[if_neg J,if_neg h2]
def jY(v:Int)(w:World)(e:Ending)(w':World):Prop:=e=.returned (.int .i64 v)∧Below w.heap.size w w'
theorem XA(a b:bi)(w:World)(ha:a.length≤2500000)(hb:b.length≤2500000) :
  Calls prog 263 #[.string ⟨a.toArray⟩,.string ⟨b.toArray⟩] w (jY (dV (j4.r9 a) (j4.r9 b)) w):=by
 have Q8:=Lib.hid (fJ a w ha);have Q5:Hid (∀w',Calls prog 256 #[.string ⟨b.toArray⟩] w' (fM (b.length+1) (j4.r9 b) w')):=fun w'=>fJ b w' hb
 generalize j4.r9 a=x at Q8;generalize j4.r9 b=y at Q5;by_cases hx:x < 0 <;> by_cases hy:y < 0
 ·have HF:=Lib.hid (Ny hx hy)
  go_enter func263,ntmps263
  go_wp2_with fail
  refine Q8.out.mono ?_;rintro e w1 ⟨A1,n1,c1,rfl,hs1,hn1,hb1⟩;rw[decide_eq_true hx]
  go_wp2_with fail
  refine (Q5.out _).mono ?_;rintro e w2 ⟨A2,n2,c2,rfl,hs2,hn2,hb2⟩;rw[decide_eq_true hy];have hbw2:Below w.heap.size w w2:=hb1.trans (hb2.mono hb1.size);have HC:Hid (∀o1 o2,Calls prog 276 #[.slice A2 n2 c2,.slice A1 n1 c1] ((w2.alloc o1).alloc o2) (oC y.natAbs x.natAbs ((w2.alloc o1).alloc o2))) :=
   fun o1 o2=>rX 1000000000 J A2 A1 n2 n1 c2 c1 _ _ _ ((hs2.alloc o1).alloc o2) (((hs1.below hb2).alloc o1).alloc o2) J J
  go_wp2_with (go_at_call 276;refine (HC.out _ _).mono ?_;rintro e w3 ⟨rfl,q,rfl⟩)
  go_ret;refine⟨?_,below_drewN ((hbw2.alloc hbw2.size _).alloc (by rw[World.size_alloc];have:=hbw2.size;omega) _) q⟩
  rw[←HF.out];rfl
 ·have HF:=Lib.hid (Pb (a:=x) (b:=y) J)
  go_enter func263,ntmps263
  go_wp2_with fail
  refine Q8.out.mono ?_;rintro e w1 ⟨A1,n1,c1,rfl,hs1,hn1,hb1⟩;rw[decide_eq_true hx]
  go_wp2_with fail
  refine (Q5.out _).mono ?_;rintro e w2 ⟨A2,n2,c2,rfl,hs2,hn2,hb2⟩;rw[decide_eq_false J];have hbw2:Below w.heap.size w w2:=hb1.trans (hb2.mono hb1.size);go_wp2;go_ret;refine⟨?_,(hbw2.alloc hbw2.size _).alloc (by rw[World.size_alloc];have:=hbw2.size;omega) _⟩
  rw[HF.out];rfl
 ·have HF:=Lib.hid (Pd (a:=x) (b:=y) J)
  go_enter func263,ntmps263
  go_wp2_with fail
  refine Q8.out.mono ?_;rintro e w1 ⟨A1,n1,c1,rfl,hs1,hn1,hb1⟩;rw[decide_eq_false J]
  go_wp2_with fail
  refine (Q5.out _).mono ?_;rintro e w2 ⟨A2,n2,c2,rfl,hs2,hn2,hb2⟩;rw[decide_eq_true hy];have hbw2:Below w.heap.size w w2:=hb1.trans (hb2.mono hb1.size);go_wp2;go_ret;refine⟨?_,(hbw2.alloc hbw2.size _).alloc (by rw[World.size_alloc];have:=hbw2.size;omega) _⟩
  rw[HF.out];rfl
 ·have HF:=Lib.hid (Nw hx hy)
  go_enter func263,ntmps263
  go_wp2_with fail
  refine Q8.out.mono ?_;rintro e w1 ⟨A1,n1,c1,rfl,hs1,hn1,hb1⟩;rw[decide_eq_false J]
  go_wp2_with fail
  refine (Q5.out _).mono ?_;rintro e w2 ⟨A2,n2,c2,rfl,hs2,hn2,hb2⟩;rw[decide_eq_false J];have hbw2:Below w.heap.size w w2:=hb1.trans (hb2.mono hb1.size);have HC:Hid (∀o1 o2,Calls prog 276 #[.slice A1 n1 c1,.slice A2 n2 c2] ((w2.alloc o1).alloc o2) (oC x.natAbs y.natAbs ((w2.alloc o1).alloc o2))) :=
   fun o1 o2=>rX 1000000000 J A1 A2 n1 n2 c1 c2 _ _ _ (((hs1.below hb2).alloc o1).alloc o2) ((hs2.alloc o1).alloc o2) J J
  go_wp2_with (go_at_call 276;refine (HC.out _ _).mono ?_;rintro e w3 ⟨rfl,q,rfl⟩)
  go_ret;refine⟨?_,below_drewN ((hbw2.alloc hbw2.size _).alloc (by rw[World.size_alloc];have:=hbw2.size;omega) _) q⟩
  rw[←HF.out];rfl
def a0o(x y:Int)(w:World)(e:Ending)(w':World):Prop:=e=.returned (.tuple #[.int .i64 x,.int .i64 y,.bool true])∧Below w.heap.size w w'
def a2F(w:World)(e:Ending)(w':World):Prop:=e=.returned (.tuple #[.int .i64 0,.int .i64 0,.bool false])∧w=w'
theorem MO(a b:bi)(m:Int)(w:World)(hm:m≤18)(ha:(a.length:Int)≤m)(hb:(b.length:Int)≤m)(hva:j4.M4 a=true)(hvb:j4.M4 b=true) :
  Calls prog 253 #[.string ⟨a.toArray⟩,.string ⟨b.toArray⟩,.int .i64 m] w (a0o (j4.r9 a) (j4.r9 b) w):=by
 have fe:Hid (∀w',Calls prog 274 #[.string ⟨a.toArray⟩] w' fun e w''=>e=.returned (.bool true)∧w'=w''):=fun w'=>by
  have:=jP a w' J;rwa [hva]at this
 have iV:Hid (∀w',Calls prog 274 #[.string ⟨b.toArray⟩] w' fun e w''=>e=.returned (.bool true)∧w'=w''):=fun w'=>by
  have:=jP b w' J;rwa [hvb]at this
 have Q8:=Lib.hid (Li a w hva J);have Q5:Hid (∀w',Calls prog 275 #[.string ⟨b.toArray⟩,.int .i64 10,.int .i64 64] w' fun e w''=>e=.returned (.tuple #[.int .i64 (j4.r9 b),.nilIface])∧Below w'.heap.size w' w''):=fun w'=>Li b w' hvb J
 clear hva hvb
 go_enter func253,ntmps253
 go_wp2_with fail
 refine (fe.out _).mono ?_;rintro e w' ⟨rfl,rfl⟩
 go_wp2_with fail
 refine (iV.out _).mono ?_;rintro e w' ⟨rfl,rfl⟩
 go_wp2_with fail
 refine Q8.out.mono ?_;rintro e w1 ⟨rfl,hb1⟩
 go_wp2_with fail
 refine (Q5.out _).mono ?_;rintro e w2 ⟨rfl,hb2⟩;go_wp2
 go_ret3
 exact⟨rfl,hb1.trans (hb2.mono hb1.size)⟩
theorem Nz(a b:bi)(m:Int)(w:World)(hla:a.length≤2500000)(hlb:b.length≤2500000)(h:¬((a.length:Int)≤m∧(b.length:Int)≤m∧j4.M4 a=true∧j4.M4 b=true)) :
  Calls prog 253 #[.string ⟨a.toArray⟩,.string ⟨b.toArray⟩,.int .i64 m] w (a2F w):=by
 by_cases h1:(a.length:Int)≤m
 ·by_cases h2:(b.length:Int)≤m
  ·cases h3:j4.M4 a with
   |true =>
    have h4:j4.M4 b=false:=by
     cases h4:j4.M4 b with
     |false=>rfl
     |true=>exact absurd ⟨h1,h2,h3,h4⟩ h
    have fe:Hid (∀w',Calls prog 274 #[.string ⟨a.toArray⟩] w' fun e w''=>e=.returned (.bool true)∧w'=w''):=fun w'=>by
     have:=jP a w' J;rwa [h3]at this
    have iV:Hid (∀w',Calls prog 274 #[.string ⟨b.toArray⟩] w' fun e w''=>e=.returned (.bool false)∧w'=w''):=fun w'=>by
     have:=jP b w' J;rwa [h4]at this
    clear h h3 h4
    go_enter func253,ntmps253
    go_wp2_with fail
    refine (fe.out _).mono ?_;rintro e w' ⟨rfl,rfl⟩
    go_wp2_with fail
    refine (iV.out _).mono ?_;rintro e w' ⟨rfl,rfl⟩;go_wp2
    go_ret3
    exact⟨rfl,rfl⟩
   |false =>
    have fe:Hid (∀w',Calls prog 274 #[.string ⟨a.toArray⟩] w' fun e w''=>e=.returned (.bool false)∧w'=w''):=fun w'=>by
     have:=jP a w' J;rwa [h3]at this
    clear h h3
    go_enter func253,ntmps253
    go_wp2_with fail
    refine (fe.out _).mono ?_;rintro e w' ⟨rfl,rfl⟩;go_wp2
    go_ret3
    exact⟨rfl,rfl⟩
  ·clear h;have d1:decide (m < (b.length:Int))=true:=by simp;omega
   go_enter func253,ntmps253
   go_wp2
   go_ret3
   exact⟨rfl,rfl⟩
 ·clear h;have d1:decide (m < (a.length:Int))=true:=by simp;omega
  go_enter func253,ntmps253
  go_wp2
  go_ret3
  exact⟨rfl,rfl⟩
def jW(v:Value)(w:World)(e:Ending)(w':World):Prop:=e=.returned v∧w=w'
theorem GI{D:ByteArray}{l:bi}(h:D.data.toList=l):D=⟨l.toArray⟩:=by
 subst h;rw[Lib.mk_data]
theorem pK{v:Int}(h:v < 0):Lib.itoa v=45::Lib.decDigits v.natAbs:=by
 obtain⟨u,rfl⟩:∃u:Nat,v=-(u:Int):=⟨v.natAbs,J⟩;rw[j4.vK J];simp
theorem rY{v:Int}(h:0≤v):Lib.itoa v=Lib.decDigits v.natAbs:=by
 obtain⟨u,rfl⟩:∃u:Nat,v=(u:Int):=⟨v.natAbs,J⟩;rw[j4.lh];simp
theorem Lm{v:Int}(h:v≠0):Lib.itoa v≠[48]:=fun e=>h (j4.vU (e.trans j4.fI.symm))
theorem Ad{D:ByteArray}{c:UInt8}{r:bi}(h:D.data.toList=c::r):∃hp:0 < D.size,D[0]=c:=by
 have hp:0 < D.size:=by rw[Lib.size_eq,h];simp
 obtain⟨hl,e⟩:=byte_at h 0 hp;exact⟨hp,by rw[e];rfl⟩
theorem EB(l:bi)(w:World)(hl:l.length≤2500000) :
    Calls prog 264 #[.string ⟨l.toArray⟩] w (jW (.string ⟨(Lib.itoa (-(j4.r9 l))).toArray⟩) w):=by
  have HD:=Lib.hid (pJ l w J);obtain⟨D,hD⟩:∃D:ByteArray,D=⟨(norm l).toArray⟩:=⟨_,rfl⟩;rw[←hD]at HD;have HT:Hid (D.data.toList=Lib.itoa (j4.r9 l)):=by rw[hD];exact norm_eq l
  have hsz:D.size≤2500001:=by rw[hD,Lib.size_eq];have:=jO l;show (norm l).length≤_;omega
  clear hD;generalize j4.r9 l=v at HT;by_cases h0:v=0
  · subst h0
    have hE:D.toList=[48]:=by rw[Lib.toList_data,HT.out,j4.fI]
    have hE2:(D.toList == [48])=true:=by rw[hE];rfl
    have HR:Hid (D=⟨(Lib.itoa (-0)).toArray⟩):=GI HT.out;clear hE
    go_enter func264,ntmps264
    go_wp2_with fail
    refine HD.out.mono ?_;rintro e w' ⟨rfl,rfl⟩;go_wp2;go_ret;exact⟨by rw[←HR.out];rfl,rfl⟩
  · have hE2:(D.toList == [48])=false:=by rw[Lib.toList_data,HT.out];simpa using Lm h0
    by_cases hn:v < 0
    · obtain⟨hp,e0⟩:=Ad (HT.out.trans (pK hn))
      have hb:((D[0].toNat:Int) == 45)=true:=by rw[e0];rfl
      have HR:Hid (D.extract 1 D.size=⟨(Lib.itoa (-v)).toArray⟩):=by
        apply GI;rw[Lib.extract_data,HT.out,pK hn,List.drop_succ_cons,List.drop_zero,rY J,List.take_of_length_le]
        · congr 1;omega
        · rw[Lib.size_eq,HT.out,pK hn];simp
      clear e0
      go_enter func264,ntmps264
      go_wp2_with fail
      refine HD.out.mono ?_;rintro e w' ⟨rfl,rfl⟩;go_wp2;go_ret;exact⟨by rw[←HR.out];rfl,rfl⟩
    · obtain⟨c,r,hcr,_⟩:=j4.rU (u:=v.natAbs) J
      have hD2:D.data.toList=c::r:=by rw[HT.out,rY J,hcr]
      obtain⟨hp,e0⟩:=Ad hD2;have h45:c≠45:=j4.vL (r:=r) (by rw[←hcr];exact j4.pI _);have hb:((D[0].toNat:Int) == 45)=false:=by
        rw[e0,beq_eq_false_iff_ne];intro e;exact h45 (UInt8.toNat_inj.1 (by
                                         have:c.toNat=45:=J;simpa using this))
      have HR:Hid ((⟨#[45]⟩:ByteArray)++D=⟨(Lib.itoa (-v)).toArray⟩):=by
        apply GI;rw[pK J,Int.natAbs_neg,←rY (v:=v) J,←HT.out];simp
      clear e0 hD2 h45 hcr
      go_enter func264,ntmps264
      go_wp2_with fail
      refine HD.out.mono ?_;rintro e w' ⟨rfl,rfl⟩;go_wp2;go_ret;exact⟨by rw[←HR.out];rfl,rfl⟩
theorem vG(l:bi)(w:World)(hl:l.length≤2500000) :
  Calls prog 260 #[.string ⟨l.toArray⟩] w (jW (.int .i64 ((j4.mag (norm l)).length:Nat)) w):=by
 have HD:=Lib.hid (pJ l w J);have hnl:=jO l;have gy:=j4.iF (norm l)
 go_enter func260,ntmps260
 go_wp2_with fail
 refine HD.out.mono ?_;rintro e w' ⟨rfl,rfl⟩
 go_wp2_with fail
 refine (Ee (norm l) _).mono ?_;rintro e w' ⟨rfl,rfl⟩;go_wp2;go_ret;exact⟨rfl,rfl⟩
theorem XX(n:Int)(w:World)(ht:Q4 w)(h0:-9223372036854775808≤n)(h1:n≤9223372036854775807) :
  Calls prog 230 #[.int .i64 n] w (aQ (Lib.itoa n) w):=by
 have HI:=Lib.hid (sH n w ht h0 h1);clear h0 h1
 go_enter func230,ntmps230
 go_wp2_with fail
 refine HI.out.mono ?_;rintro e w' ⟨rfl,hb⟩;go_wp2;go_ret;exact⟨rfl,hb⟩
def BH(K:Nat)(v:Int)(w:World)(e:Ending)(w':World):Prop :=
 ∃(s:Bool) (m:Nat) (A:Option Addr) (n c:Nat),e=.returned (.agg #[.bool s,.slice A n c])∧Sl w' .u32 A n c (j4.limbs 1000000000 m)∧n≤K∧(if s then -(m:Int) else m)=v∧Below w.heap.size w w'
theorem dZ{s:Bool}{m:Nat}{v:Int}(h:(if s then -(m:Int) else m)=v):aP s m=Lib.itoa v:=by unfold aP;rw[h]
theorem KV{a b n n':Nat}(h:(j4.limbs 1000000000 a).length=n)(h':(j4.limbs 1000000000 b).length=n'):(j4.limbs 1000000000 (a+b)).length≤n+n'+1:=by
 apply j4.vw J;have h1:=vW h;have h2:=vW h';have h3:1000000000 ^ n≤1000000000 ^ (n+n'):=Nat.pow_le_pow_right J J;have h4:1000000000 ^ n'≤1000000000 ^ (n+n'):=Nat.pow_le_pow_right J J;rw[Nat.pow_succ];omega
theorem El(w:World)(T:TypeId)(u0 v0 u1 v1 u2 v2:Value) :
  Hid (y9 (((w.alloc (.cells #[u0,v0] T)).alloc (.cells #[u1,v1] T)).alloc (.cells #[u2,v2] T)) w.heap.size T #[u0,v0])∧Hid (y9 (((w.alloc (.cells #[u0,v0] T)).alloc (.cells #[u1,v1] T)).alloc (.cells #[u2,v2] T)) (w.heap.size+1) T #[u1,v1]) ∧
  Hid (y9 (((w.alloc (.cells #[u0,v0] T)).alloc (.cells #[u1,v1] T)).alloc (.cells #[u2,v2] T)) (w.heap.size+1+1) T #[u2,v2])∧Below w.heap.size w (((w.alloc (.cells #[u0,v0] T)).alloc (.cells #[u1,v1] T)).alloc (.cells #[u2,v2] T)):=by
 refine⟨Lib.hid (((y9.new w T _).alloc _).alloc _),Lib.hid ?_,Lib.hid ?_,(((Below.refl _ _).alloc (Nat.le_refl _) _).alloc I _).alloc (by simp;omega) _⟩
 ·have:=(y9.new (w.alloc (.cells #[u0,v0] T)) T #[u1,v1]).alloc (.cells #[u2,v2] T);simpa using this
 ·have:=y9.new ((w.alloc (.cells #[u0,v0] T)).alloc (.cells #[u1,v1] T)) T #[u2,v2];simpa using this
theorem xR{w:World}{g:Nat}{t:TypeId}{u v u' v':Value}(h:y9 w g t #[u,v]):y9 ((w.setCell ⟨g,0,none⟩ u').setCell ⟨g,1,none⟩ v') g t #[u',v']:=by
 have:=(h.dS 0 u').dS 1 v';simpa using this
theorem add_same(s:Bool)(A A':Option Addr)(n n' c c' a b:Nat)(v:Int)(w:World)(hx:Sl w .u32 A n c (j4.limbs 1000000000 a))(hy:Sl w .u32 A' n' c' (j4.limbs 1000000000 b))(hn:n≤10000000)(hn':n'≤10000000)
  (HV:Hid ((if s then -((a+b:Nat):Int) else ((a+b:Nat):Int))=v)) :
  Calls prog 255 #[.agg #[.bool s,.slice A n c],.agg #[.bool s,.slice A' n' c']] w (BH (n+n'+1) v w):=by
 have hl:=KV hx.len hy.len;have HP:Hid (∀W,Below w.heap.size w W→Calls prog 266 #[.slice A n c,.slice A' n' c'] W (df .u32 (j4.limbs 1000000000 (a+b)) W)):=fun W hb=>by
  have:=Nv A A' n n' c c' _ _ W (hx.below hb) (hy.below hb) J J (j4.K7 J a) (j4.K7 J b)
  rwa [j4.G7 J,j4.G7 J]at this
 have hbb:(s == s)=true:=I
 go_enter func255,ntmps255
 go_wp2_with fail
 obtain⟨B0,B1,B2,hbw⟩:=El w 279 (.bool s) (.slice A n c) (.bool s) (.slice A' n' c') (.bool false) (.slice none 0 0);generalize (((w.alloc (.cells #[.bool s,.slice A n c] 279)).alloc (.cells #[.bool s,.slice A' n' c'] 279)).alloc (.cells #[.bool false,.slice none 0 0] 279))=W at *;obtain⟨yI,yJ,_,_,l0⟩:=B0.out.two;obtain⟨yK,yL,_,_,l1⟩:=B1.out.two;obtain⟨Vi,Vj,f20,f21,l2⟩:=B2.out.two;have HPW:=Lib.hid (HP.out W.drew hbw.drew);clear HP
 go_region_law (go_simp;go_at_call 266;refine HPW.out.mono ?_;rintro e w2 ⟨A2,n2,c2,rfl,hs2,hb2,hf2⟩;obtain⟨uT,q01,_,_,_⟩:=(B0.out.drew.below hb2).two;obtain⟨Vk,Vl,g20,g21,_⟩:=(B2.out.drew.below hb2).two)
 all_goals go_wp2
 all_goals
  have hfin:=xR (u':=.bool s) (v':=.slice A2 n2 c2) (B2.out.drew.below hb2);have hbz:Below w.heap.size w ((w2.setCell ⟨w.heap.size+1+1,0,none⟩ (.bool s)).setCell ⟨w.heap.size+1+1,1,none⟩ (.slice A2 n2 c2)) :=
   ((hbw.drew.trans (hb2.mono hbw.drew.size)).setCell (p:=⟨w.heap.size+1+1,0,none⟩) (by simp;omega) _).setCell (p:=⟨w.heap.size+1+1,1,none⟩) (by simp;omega) _
  have oh:Sl ((w2.setCell ⟨w.heap.size+1+1,0,none⟩ (.bool s)).setCell ⟨w.heap.size+1+1,1,none⟩ (.slice A2 n2 c2)) .u32 A2 n2 c2 (j4.limbs 1000000000 (a+b)) :=
   (hs2.far (p:=⟨w.heap.size+1+1,0,none⟩) (fun b o e=>by have:=hf2 b o e;show b≠w.heap.size+1+1;have:W.drew.heap.size=W.heap.size:=rfl;omega) _).far (p:=⟨w.heap.size+1+1,1,none⟩) (fun b o e=>by have:=hf2 b o e;show b≠w.heap.size+1+1;have:W.drew.heap.size=W.heap.size:=rfl;omega) _
  generalize ((w2.setCell ⟨w.heap.size+1+1,0,none⟩ (.bool s)).setCell ⟨w.heap.size+1+1,1,none⟩ (.slice A2 n2 c2))=Z at *;obtain⟨z0,z1,_,_,_⟩:=hfin.two;refine bodyPost_ret (v:=.agg #[.bool s,.slice A2 n2 c2]) ?_ rfl ⟨s,a+b,A2,n2,c2,rfl,oh,by rw[←oh.len];exact hl,HV.out,hbz⟩;simp[results,Tryz.results255,go_sem,z0,z1]
theorem QR(s s':Bool)(A A':Option Addr)(n n' c c' a b:Nat)(v:Int)(w:World)(hx:Sl w .u32 A n c (j4.limbs 1000000000 a))(hy:Sl w .u32 A' n' c' (j4.limbs 1000000000 b))(hn:n≤10000000)(hn':n'≤10000000)
  (hss:(s == s')=false) (hlt:b≤a) (HV:Hid ((if s then -((a - b:Nat):Int) else ((a - b:Nat):Int))=v)) :
  Calls prog 255 #[.agg #[.bool s,.slice A n c],.agg #[.bool s',.slice A' n' c']] w (BH (n+n'+1) v w):=by
 have hl:(j4.limbs 1000000000 (a - b)).length≤n+n'+1:=by
  have:=j4.aA (B:=1000000000) (a:=a) (b:=a - b) J J;rw[hx.len]at this;omega
 have hll:n'≤n:=by
  have:=j4.aA (B:=1000000000) (a:=a) (b:=b) J J
  rwa [hx.len,hy.len]at this
 have HC:Hid (∀W,Below w.heap.size w W→Calls prog 276 #[.slice A n c,.slice A' n' c'] W (oC a b W)):=fun W hb =>
  rX 1000000000 J A A' n n' c c' a b W (hx.below hb) (hy.below hb) J J
 have HM:Hid (∀W,Below w.heap.size w W→Calls prog 267 #[.slice A n c,.slice A' n' c'] W (df .u32 (j4.limbs 1000000000 (a - b)) W)):=fun W hb=>by
  have:=Af A A' n n' c c' _ _ W (hx.below hb) (hy.below hb) J hll (j4.K7 J _) (j4.K7 J _) (by rw[j4.G7 J,j4.G7 J];omega)
  rwa [j4.G7 J,j4.G7 J]at this
 have HO:=Lib.hid hlt;have hz:0≤cu a b:=by
  rcases Nat.lt_or_ge b a with h | h
  ·rw[jU h];omega
  ·obtain rfl:a=b:=J;rw[nO];omega
 clear hlt
 go_enter func255,ntmps255
 go_wp2_with fail
 obtain⟨B0,B1,B2,hbw⟩:=El w 279 (.bool s) (.slice A n c) (.bool s') (.slice A' n' c') (.bool false) (.slice none 0 0);generalize (((w.alloc (.cells #[.bool s,.slice A n c] 279)).alloc (.cells #[.bool s',.slice A' n' c'] 279)).alloc (.cells #[.bool false,.slice none 0 0] 279))=W at *;obtain⟨yI,yJ,CL,CO,l0⟩:=B0.out.two;obtain⟨yK,yL,f10,f11,l1⟩:=B1.out.two;have JL:=Lib.hid (HC.out W hbw);clear HC;refine JL.out.mono ?_;rintro e wq ⟨rfl,q,rfl⟩;have C0:Hid (y9 (W.drewN q) w.heap.size 279 #[.bool s,.slice A n c]):=B0;have C1:Hid (y9 (W.drewN q) (w.heap.size+1) 279 #[.bool s',.slice A' n' c']):=B1;have C2:Hid (y9 (W.drewN q) (w.heap.size+1+1) 279 #[.bool false,.slice none 0 0]):=B2;have qO:Below w.heap.size w (W.drewN q):=below_drewN hbw q
 go_wp2_with fail
 generalize W.drewN q=V at *;obtain⟨Vi,Vj,f20,f21,l2⟩:=C2.out.two;obtain⟨Vm,Vn,_,_,_⟩:=C0.out.two;obtain⟨Vo,Vp,_,_,_⟩:=C1.out.two;have JM:=Lib.hid (HM.out V.drew qO.drew);clear HM
 go_region_law (go_simp;go_at_call 267;refine JM.out.mono ?_;rintro e w2 ⟨A2,n2,c2,rfl,hs2,hb2,hf2⟩;obtain⟨uT,q01,_,_,_⟩:=(C0.out.drew.below hb2).two;obtain⟨Vk,Vl,g20,g21,_⟩:=(C2.out.drew.below hb2).two)
 all_goals go_wp2
 all_goals
  have hfin:=xR (u':=.bool s) (v':=.slice A2 n2 c2) (C2.out.drew.below hb2);have hbz:Below w.heap.size w ((w2.setCell ⟨w.heap.size+1+1,0,none⟩ (.bool s)).setCell ⟨w.heap.size+1+1,1,none⟩ (.slice A2 n2 c2)) :=
   ((qO.drew.trans (hb2.mono qO.drew.size)).setCell (p:=⟨w.heap.size+1+1,0,none⟩) (by simp;omega) _).setCell (p:=⟨w.heap.size+1+1,1,none⟩) (by simp;omega) _
  have oh:Sl ((w2.setCell ⟨w.heap.size+1+1,0,none⟩ (.bool s)).setCell ⟨w.heap.size+1+1,1,none⟩ (.slice A2 n2 c2)) .u32 A2 n2 c2 (j4.limbs 1000000000 (a - b)) :=
   (hs2.far (p:=⟨w.heap.size+1+1,0,none⟩) (fun b o e=>by have:=hf2 b o e;show b≠w.heap.size+1+1;have:V.drew.heap.size=V.heap.size:=rfl;omega) _).far (p:=⟨w.heap.size+1+1,1,none⟩) (fun b o e=>by have:=hf2 b o e;show b≠w.heap.size+1+1;have:V.drew.heap.size=V.heap.size:=rfl;omega) _
  generalize ((w2.setCell ⟨w.heap.size+1+1,0,none⟩ (.bool s)).setCell ⟨w.heap.size+1+1,1,none⟩ (.slice A2 n2 c2))=Z at *;obtain⟨z0,z1,_,_,_⟩:=hfin.two;refine bodyPost_ret (v:=.agg #[.bool s,.slice A2 n2 c2]) ?_ rfl ⟨s,a - b,A2,n2,c2,rfl,oh,by rw[←oh.len];exact hl,HV.out,hbz⟩;simp[results,Tryz.results255,go_sem,z0,z1]
theorem add_lt(s s':Bool)(A A':Option Addr)(n n' c c' a b:Nat)(v:Int)(w:World)(hx:Sl w .u32 A n c (j4.limbs 1000000000 a))(hy:Sl w .u32 A' n' c' (j4.limbs 1000000000 b))(hn:n≤10000000)(hn':n'≤10000000)
  (hss:(s == s')=false) (hlt:a < b) (HV:Hid ((if s' then -((b - a:Nat):Int) else ((b - a:Nat):Int))=v)) :
  Calls prog 255 #[.agg #[.bool s,.slice A n c],.agg #[.bool s',.slice A' n' c']] w (BH (n+n'+1) v w):=by
 have hl:(j4.limbs 1000000000 (b - a)).length≤n+n'+1:=by
  have:=j4.aA (B:=1000000000) (a:=b) (b:=b - a) J J;rw[hy.len]at this;omega
 have hll:n≤n':=by
  have:=j4.aA (B:=1000000000) (a:=b) (b:=a) J J
  rwa [hx.len,hy.len]at this
 have HC:Hid (∀W,Below w.heap.size w W→Calls prog 276 #[.slice A n c,.slice A' n' c'] W (oC a b W)):=fun W hb =>
  rX 1000000000 J A A' n n' c c' a b W (hx.below hb) (hy.below hb) J J
 have HM:Hid (∀W,Below w.heap.size w W→Calls prog 267 #[.slice A' n' c',.slice A n c] W (df .u32 (j4.limbs 1000000000 (b - a)) W)):=fun W hb=>by
  have:=Af A' A n' n c' c _ _ W (hy.below hb) (hx.below hb) J hll (j4.K7 J _) (j4.K7 J _) (by rw[j4.G7 J,j4.G7 J];omega)
  rwa [j4.G7 J,j4.G7 J]at this
 have HO:=Lib.hid hlt;have hz:cu a b < 0:=by rw[jT hlt];omega
 clear hlt
 go_enter func255,ntmps255
 go_wp2_with fail
 obtain⟨B0,B1,B2,hbw⟩:=El w 279 (.bool s) (.slice A n c) (.bool s') (.slice A' n' c') (.bool false) (.slice none 0 0);generalize (((w.alloc (.cells #[.bool s,.slice A n c] 279)).alloc (.cells #[.bool s',.slice A' n' c'] 279)).alloc (.cells #[.bool false,.slice none 0 0] 279))=W at *;obtain⟨yI,yJ,CL,CO,l0⟩:=B0.out.two;obtain⟨yK,yL,f10,f11,l1⟩:=B1.out.two;have JL:=Lib.hid (HC.out W hbw);clear HC;refine JL.out.mono ?_;rintro e wq ⟨rfl,q,rfl⟩
 go_wp2_with fail
 have qO:Below w.heap.size w (((((W.drewN q).setCell ⟨w.heap.size,0,none⟩ (.bool s')).setCell ⟨w.heap.size,1,none⟩ (.slice A' n' c')).setCell ⟨w.heap.size+1,0,none⟩ (.bool s)).setCell ⟨w.heap.size+1,1,none⟩ (.slice A n c)) :=
  ((((below_drewN hbw q).setCell (p:=⟨w.heap.size,0,none⟩) (Nat.le_refl _) _).setCell (p:=⟨w.heap.size,1,none⟩) (Nat.le_refl _) _).setCell (p:=⟨w.heap.size+1,0,none⟩) I _).setCell (p:=⟨w.heap.size+1,1,none⟩) I _
 have D0:y9 (W.drewN q) w.heap.size 279 #[.bool s,.slice A n c]:=B0.out;have D1:y9 (W.drewN q) (w.heap.size+1) 279 #[.bool s',.slice A' n' c']:=B1.out;have D2:y9 (W.drewN q) (w.heap.size+1+1) 279 #[.bool false,.slice none 0 0]:=B2.out;have C0:Hid (y9 (((((W.drewN q).setCell ⟨w.heap.size,0,none⟩ (.bool s')).setCell ⟨w.heap.size,1,none⟩ (.slice A' n' c')).setCell ⟨w.heap.size+1,0,none⟩ (.bool s)).setCell ⟨w.heap.size+1,1,none⟩ (.slice A n c)) w.heap.size 279 #[.bool s',.slice A' n' c']) :=
  Lib.hid (((xR D0).far (p:=⟨w.heap.size+1,0,none⟩) I _).far (p:=⟨w.heap.size+1,1,none⟩) I _)
 have C1:Hid (y9 (((((W.drewN q).setCell ⟨w.heap.size,0,none⟩ (.bool s')).setCell ⟨w.heap.size,1,none⟩ (.slice A' n' c')).setCell ⟨w.heap.size+1,0,none⟩ (.bool s)).setCell ⟨w.heap.size+1,1,none⟩ (.slice A n c)) (w.heap.size+1) 279 #[.bool s,.slice A n c]) :=
  Lib.hid (xR ((D1.far (p:=⟨w.heap.size,0,none⟩) I _).far (p:=⟨w.heap.size,1,none⟩) I _))
 have C2:Hid (y9 (((((W.drewN q).setCell ⟨w.heap.size,0,none⟩ (.bool s')).setCell ⟨w.heap.size,1,none⟩ (.slice A' n' c')).setCell ⟨w.heap.size+1,0,none⟩ (.bool s)).setCell ⟨w.heap.size+1,1,none⟩ (.slice A n c)) (w.heap.size+1+1) 279 #[.bool false,.slice none 0 0]) :=
  Lib.hid ((((D2.far (p:=⟨w.heap.size,0,none⟩) (by simp;omega) _).far (p:=⟨w.heap.size,1,none⟩) (by simp;omega) _).far (p:=⟨w.heap.size+1,0,none⟩) I _).far (p:=⟨w.heap.size+1,1,none⟩) I _)
 clear D0 D1 D2;generalize (((((W.drewN q).setCell ⟨w.heap.size,0,none⟩ (.bool s')).setCell ⟨w.heap.size,1,none⟩ (.slice A' n' c')).setCell ⟨w.heap.size+1,0,none⟩ (.bool s)).setCell ⟨w.heap.size+1,1,none⟩ (.slice A n c))=V at *;obtain⟨Vi,Vj,f20,f21,l2⟩:=C2.out.two;obtain⟨Vm,Vn,_,_,_⟩:=C0.out.two;obtain⟨Vo,Vp,_,_,_⟩:=C1.out.two;have JM:=Lib.hid (HM.out V.drew qO.drew);clear HM
 go_region_law (go_simp;go_at_call 267;refine JM.out.mono ?_;rintro e w2 ⟨A2,n2,c2,rfl,hs2,hb2,hf2⟩;obtain⟨uT,q01,_,_,_⟩:=(C0.out.drew.below hb2).two;obtain⟨Vk,Vl,g20,g21,_⟩:=(C2.out.drew.below hb2).two)
 all_goals go_wp2
 all_goals
  have hfin:=xR (u':=.bool s') (v':=.slice A2 n2 c2) (C2.out.drew.below hb2);have hbz:Below w.heap.size w ((w2.setCell ⟨w.heap.size+1+1,0,none⟩ (.bool s')).setCell ⟨w.heap.size+1+1,1,none⟩ (.slice A2 n2 c2)) :=
   ((qO.drew.trans (hb2.mono qO.drew.size)).setCell (p:=⟨w.heap.size+1+1,0,none⟩) (by simp;omega) _).setCell (p:=⟨w.heap.size+1+1,1,none⟩) (by simp;omega) _
  have oh:Sl ((w2.setCell ⟨w.heap.size+1+1,0,none⟩ (.bool s')).setCell ⟨w.heap.size+1+1,1,none⟩ (.slice A2 n2 c2)) .u32 A2 n2 c2 (j4.limbs 1000000000 (b - a)) :=
   (hs2.far (p:=⟨w.heap.size+1+1,0,none⟩) (fun b o e=>by have:=hf2 b o e;show b≠w.heap.size+1+1;have:V.drew.heap.size=V.heap.size:=rfl;omega) _).far (p:=⟨w.heap.size+1+1,1,none⟩) (fun b o e=>by have:=hf2 b o e;show b≠w.heap.size+1+1;have:V.drew.heap.size=V.heap.size:=rfl;omega) _
  generalize ((w2.setCell ⟨w.heap.size+1+1,0,none⟩ (.bool s')).setCell ⟨w.heap.size+1+1,1,none⟩ (.slice A2 n2 c2))=Z at *;obtain⟨z0,z1,_,_,_⟩:=hfin.two;refine bodyPost_ret (v:=.agg #[.bool s',.slice A2 n2 c2]) ?_ rfl ⟨s',b - a,A2,n2,c2,rfl,oh,by rw[←oh.len];exact hl,HV.out,hbz⟩;simp[results,Tryz.results255,go_sem,z0,z1]
theorem a2G(l:bi):(j4.r9 l).natAbs < 10 ^ (l.length)∨j4.r9 l=0:=by
 unfold j4.r9;cases hd:j4.M4 l with
 |false=>right;simp
 |true =>
  by_cases h0:l=[48]
  ·right;subst h0;decide
  ·left;obtain⟨h1,_⟩:=(j4.kZ h0).1 hd;have h2:=j4.wF _ h1;have h3:10 ^ (j4.mag l).length≤10 ^ l.length:=Nat.pow_le_pow_right J (j4.iF l);simp only[if_true];split <;> omega
theorem iH{l:bi}{k:Nat}(h:l.length≤k):(j4.r9 l).natAbs < 10 ^ k:=by
 have h3:10 ^ l.length≤10 ^ k:=Nat.pow_le_pow_right J h;have h4:0 < 10 ^ k:=Nat.pow_pos J;rcases a2G l with h1 | h1
 ·omega
 ·rw[h1];simpa using h4
theorem a2H(x y:Int)(A A':Option Addr)(n n' c c':Nat)(w:World)(hx:Sl w .u32 A n c (j4.limbs 1000000000 x.natAbs))(hy:Sl w .u32 A' n' c' (j4.limbs 1000000000 y.natAbs))(hn:n≤10000000)(hn':n'≤10000000) :
  Calls prog 255 #[.agg #[.bool (decide (x < 0)),.slice A n c],.agg #[.bool (decide (y < 0)),.slice A' n' c']] w (BH (n+n'+1) (x+y) w):=by
 by_cases h1:x < 0 <;> by_cases h2:y < 0
 ·rw[decide_eq_true h1,decide_eq_true h2];exact add_same true A A' n n' c c' _ _ _ w hx hy hn hn' (Lib.hid (by simp;omega))
 ·rw[decide_eq_true h1,decide_eq_false h2];rcases Nat.lt_or_ge x.natAbs y.natAbs with h | h
  ·exact add_lt true false A A' n n' c c' _ _ _ w hx hy hn hn' rfl h (Lib.hid (by simp;omega))
  ·exact QR true false A A' n n' c c' _ _ _ w hx hy hn hn' rfl h (Lib.hid (by simp;omega))
 ·rw[decide_eq_false h1,decide_eq_true h2];rcases Nat.lt_or_ge x.natAbs y.natAbs with h | h
  ·exact add_lt false true A A' n n' c c' _ _ _ w hx hy hn hn' rfl h (Lib.hid (by simp;omega))
  ·exact QR false true A A' n n' c c' _ _ _ w hx hy hn hn' rfl h (Lib.hid (by simp;omega))
 ·rw[decide_eq_false h1,decide_eq_false h2];exact add_same false A A' n n' c c' _ _ _ w hx hy hn hn' (Lib.hid (by simp;omega))
theorem a0p(a b:bi)(w:World)(ha:a.length≤2500000)(hb:b.length≤2500000)(ht:Q4 w) :
  Calls prog 224 #[.string ⟨a.toArray⟩,.string ⟨b.toArray⟩] w (aQ (Lib.itoa (j4.r9 a+j4.r9 b)) w):=by
 by_cases hs:(a.length:Int)≤18∧(b.length:Int)≤18∧j4.M4 a=true∧j4.M4 b=true
 ·obtain⟨h1,h2,h3,h4⟩:=hs;have HS:=Lib.hid (MO a b 18 w J h1 h2 h3 h4);have oF:=iH (l:=a) (k:=18) J;have hbb:=iH (l:=b) (k:=18) J;have HF:Hid (∀w',Q4 w'→Calls prog 254 #[.int .i64 (j4.r9 a+j4.r9 b),.int .i64 10] w' fun e w''=>e=.returned (.string ⟨(Lib.itoa (j4.r9 a+j4.r9 b)).toArray⟩)∧Below w'.heap.size w' w''):=fun w' ht'=>Lc _ w' ht' J J
  clear h3 h4;generalize j4.r9 a=x at *;generalize j4.r9 b=y at *;have b1:x≤1000000000000000000:=J;have b2:-1000000000000000000≤x:=J;have b3:y≤1000000000000000000:=J;have b4:-1000000000000000000≤y:=J;clear oF hbb
  go_enter func224,ntmps224
  go_wp2_with fail
  refine HS.out.mono ?_;rintro e w1 ⟨rfl,hb1⟩
  go_wp2_with fail
  refine (HF.out _ (ht.below hb1)).mono ?_;rintro e w2 ⟨rfl,hb2⟩;go_wp2;go_ret;exact⟨rfl,hb1.trans (hb2.mono hb1.size)⟩
 ·have HS:=Lib.hid (Nz a b 18 w ha hb hs);have Q8:Hid (∀w',Calls prog 256 #[.string ⟨a.toArray⟩] w' (fM (a.length+1) (j4.r9 a) w')):=fun w'=>fJ a w' ha
  have Q5:Hid (∀w',Calls prog 256 #[.string ⟨b.toArray⟩] w' (fM (b.length+1) (j4.r9 b) w')):=fun w'=>fJ b w' hb
  clear hs;generalize j4.r9 a=x at *;generalize j4.r9 b=y at *
  go_enter func224,ntmps224
  go_wp2_with fail
  refine HS.out.mono ?_;rintro e w' ⟨rfl,rfl⟩
  go_wp2_with fail
  refine (Q8.out _).mono ?_;rintro e w1 ⟨A1,n1,c1,rfl,hs1,hn1,hb1⟩
  go_wp2_with fail
  refine (Q5.out _).mono ?_;rintro e w2 ⟨A2,n2,c2,rfl,hs2,hn2,hb2⟩;have hbw2:=hb1.trans (hb2.mono hb1.size)
  go_wp2_with fail
  refine (a2H x y A1 A2 n1 n2 c1 c2 _ (hs1.below hb2) hs2 J J).mono ?_;rintro e w3 ⟨s,m,A3,n3,c3,rfl,hs3,fo,hv3,hb3⟩;have M7:=hbw2.trans (hb3.mono hbw2.size);have HV:=Lib.hid hv3;clear hv3
  go_wp2_with fail
  refine (pQ s A3 n3 c3 m _ hs3 J (ht.below M7)).mono ?_;rintro e w4 ⟨rfl,hb4⟩;rw[dZ HV.out];go_wp2;go_ret;exact⟨rfl,M7.trans (hb4.mono M7.size)⟩
theorem gG(v:Int){k:Nat}(hk:1≤k)(h:v.natAbs < 10 ^ k):(Lib.itoa v).length≤k+1:=by
 have h1:=j4.ny hk h;by_cases hv:v < 0
 ·rw[pK hv,List.length_cons];omega
 ·rw[rY J];omega
theorem NA(x y:Int):(if (decide (x < 0)) != (decide (y < 0)) then -((x.natAbs * y.natAbs:Nat):Int) else ((x.natAbs * y.natAbs:Nat):Int))=x * y:=by
 rw[←Int.natAbs_mul];by_cases h1:x < 0 <;> by_cases h2:y < 0
 ·have:=Int.mul_pos_of_neg_of_neg h1 h2;simp[h1,h2];omega
 ·have:x * y≤0:=Int.mul_nonpos_of_nonpos_of_nonneg J J;simp[h1,h2];omega
 ·have:x * y≤0:=Int.mul_nonpos_of_nonneg_of_nonpos J J;simp[h1,h2];omega
 ·have:0≤x * y:=Int.mul_nonneg J J;simp[h1,h2];omega
theorem a9Y{x y:Int}(hx:x.natAbs < 10 ^ 9)(hy:y.natAbs < 10 ^ 9):-1000000000000000000≤x * y∧x * y≤1000000000000000000:=by
 have h:(x * y).natAbs≤10 ^ 9 * 10 ^ 9:=by rw[Int.natAbs_mul];exact Nat.mul_le_mul J J
 omega
theorem WV{a b n n':Nat}(h:(j4.limbs 1000000000 a).length=n)(h':(j4.limbs 1000000000 b).length=n'):(j4.limbs 1000000000 (a * b)).length≤n+n':=by
 apply j4.vw J;rw[Nat.pow_add];have h1:=vW h;have h2:=vW h';rcases Nat.eq_zero_or_pos b with e | e
 ·subst e;rw[Nat.mul_zero];exact Nat.mul_pos (Nat.pow_pos J) (Nat.pow_pos J)
 ·exact Nat.mul_lt_mul'' h1 h2
theorem Ae(w:World)(T:TypeId)(u0 v0 u1 v1:Value) :
  Hid (y9 ((w.alloc (.cells #[u0,v0] T)).alloc (.cells #[u1,v1] T)) w.heap.size T #[u0,v0])∧Hid (y9 ((w.alloc (.cells #[u0,v0] T)).alloc (.cells #[u1,v1] T)) (w.heap.size+1) T #[u1,v1])∧Below w.heap.size w ((w.alloc (.cells #[u0,v0] T)).alloc (.cells #[u1,v1] T)):=by
 refine⟨Lib.hid ((y9.new w T _).alloc _),Lib.hid ?_,((Below.refl _ _).alloc (Nat.le_refl _) _).alloc I _⟩;have:=y9.new (w.alloc (.cells #[u0,v0] T)) T #[u1,v1];simpa using this
theorem NB(a b:bi)(w:World)(ha:a.length≤2500000)(hb:b.length≤2500000)(ht:Q4 w) :
  Calls prog 226 #[.string ⟨a.toArray⟩,.string ⟨b.toArray⟩] w (aQ (Lib.itoa (j4.r9 a * j4.r9 b)) w):=by
 by_cases hs:(a.length:Int)≤9∧(b.length:Int)≤9∧j4.M4 a=true∧j4.M4 b=true
 ·obtain⟨h1,h2,h3,h4⟩:=hs;have HS:=Lib.hid (MO a b 9 w J h1 h2 h3 h4);have oF:=iH (l:=a) (k:=9) J;have hbb:=iH (l:=b) (k:=9) J;obtain⟨m1,m2⟩:=a9Y oF hbb;have HF:Hid (∀w',Q4 w'→Calls prog 254 #[.int .i64 (j4.r9 a * j4.r9 b),.int .i64 10] w' fun e w''=>e=.returned (.string ⟨(Lib.itoa (j4.r9 a * j4.r9 b)).toArray⟩)∧Below w'.heap.size w' w''):=fun w' ht'=>Lc _ w' ht' J J
  clear h3 h4 oF hbb;generalize j4.r9 a=x at *;generalize j4.r9 b=y at *
  go_enter func226,ntmps226
  go_wp2_with fail
  refine HS.out.mono ?_;rintro e w1 ⟨rfl,hb1⟩
  go_wp2_with fail
  refine (HF.out _ (ht.below hb1)).mono ?_;rintro e w2 ⟨rfl,hb2⟩;go_wp2;go_ret;exact⟨rfl,hb1.trans (hb2.mono hb1.size)⟩
 ·have HS:=Lib.hid (Nz a b 9 w ha hb hs);have Q8:Hid (∀w',Calls prog 256 #[.string ⟨a.toArray⟩] w' (fM (a.length+1) (j4.r9 a) w')):=fun w'=>fJ a w' ha
  have Q5:Hid (∀w',Calls prog 256 #[.string ⟨b.toArray⟩] w' (fM (b.length+1) (j4.r9 b) w')):=fun w'=>fJ b w' hb
  clear hs;generalize j4.r9 a=x at *;generalize j4.r9 b=y at *;have hms:(if (!(decide (x < 0) == decide (y < 0)))=true then -((x.natAbs * y.natAbs:Nat):Int) else ((x.natAbs * y.natAbs:Nat):Int))=x * y:=NA x y;obtain⟨s,hsd⟩:∃s,s=decide (x < 0):=⟨_,rfl⟩;obtain⟨s',aL⟩:∃s',s'=decide (y < 0):=⟨_,rfl⟩;rw[←hsd,←aL]at hms;have bJ:=Lib.hid hsd;have eO:=Lib.hid aL;clear hsd aL;obtain⟨z,hz⟩:∃z,z=(!(s == s')):=⟨_,rfl⟩;rw[←hz]at hms;have JN:=Lib.hid hms;have hz':(!(s == s'))=z:=hz.symm;clear hz hms
  go_enter func226,ntmps226
  go_wp2_with fail
  refine HS.out.mono ?_;rintro e w' ⟨rfl,rfl⟩
  go_wp2_with fail
  refine (Q8.out _).mono ?_;rintro e w1 ⟨A1,n1,c1,rfl,hs1,hn1,hb1⟩;rw[←bJ.out]
  go_wp2_with fail
  refine (Q5.out _).mono ?_;rintro e w2 ⟨A2,n2,c2,rfl,hs2,hn2,hb2⟩;rw[←eO.out];have hbw2:=hb1.trans (hb2.mono hb1.size)
  go_wp2_with fail
  obtain⟨B0,B1,hbW⟩:=Ae w2 279 (.bool s) (.slice A1 n1 c1) (.bool s') (.slice A2 n2 c2);generalize ((w2.alloc (.cells #[.bool s,.slice A1 n1 c1] 279)).alloc (.cells #[.bool s',.slice A2 n2 c2] 279))=W at *;have om:=hbw2.trans (hbW.mono hbw2.size);obtain⟨yI,yJ,_,_,l0⟩:=B0.out.two;obtain⟨yK,yL,_,_,l1⟩:=B1.out.two;have hsA:=(hs1.below hb2).below hbW;have hsB:=hs2.below hbW;have hT:=EH A1 A2 n1 n2 c1 c2 _ _ W.drew hsA.kr hsB.kr J J (j4.K7 J _) (j4.K7 J _);rw[j4.G7 J,j4.G7 J]at hT;have HT:=Lib.hid hT;have hlm:=WV hsA.len hsB.len;clear hT
  go_region_held3 (fun w'=>w'.cell? ⟨w2.heap.size,0,none⟩=some (.bool s)∧w'.cell? ⟨w2.heap.size,1,none⟩=some (.slice A1 n1 c1)∧w'.cell? ⟨w2.heap.size+1,0,none⟩=some (.bool s')∧w'.cell? ⟨w2.heap.size+1,1,none⟩=some (.slice A2 n2 c2)) (go_keep)
   (first | (go_at_call 259;refine HT.out.mono ?_;rintro e w3 ⟨A3,n3,c3,rfl,hs3,hb3,hf3⟩;obtain⟨uT,q01,_,_,_⟩:=(B0.out.drew.below hb3).two;obtain⟨yM,JO,_,_,_⟩:=(B1.out.drew.below hb3).two;have M7:=om.drew.trans (hb3.mono om.drew.size);have HS3:=Lib.hid (pQ z A3 n3 c3 (x.natAbs * y.natAbs) w3 hs3 (by rw[←hs3.len];omega) (ht.below M7))) | (go_at_call 257;refine HS3.out.mono ?_;rintro e w4 ⟨rfl,hb4⟩;obtain⟨JP,JQ,_,_,_⟩:=((B0.out.drew.below hb3).below hb4).two;obtain⟨t10,t11,_,_,_⟩:=((B1.out.drew.below hb3).below hb4).two))
  go_wp2;go_ret;exact⟨by rw[←dZ JN.out];rfl,M7.trans (hb4.mono M7.size)⟩
end Go.Proofs.YtdkehabacmlegaaGreatDoor
namespace Go.Proofs.YtdkehabacmlegaaGreatDoor
open Tryz
def qd(x y:Int):Int:=if y=0 then 0 else if 0 < y then x / y else (-x) / (-y)
def rm(x y:Int):Int:=x - qd x y * y
theorem Pe(x:Int):qd x 0=0:=rfl
theorem Pf(x:Int):rm x 0=x:=by simp[rm]
theorem Pg{x Y q r:Int}(hY:0 < Y)(h:x=q * Y+r)(h0:0≤r)(h1:r < Y):x / Y=q :=
 ((Int.ediv_emod_unique hY).2 ⟨by rw[h,Int.mul_comm];omega,h0,h1⟩).1
theorem nE{x y q r:Int}(hy:0 < y)(h:x=q * y+r)(h0:0≤r)(h1:r < y):qd x y=q∧rm x y=r:=by
 have e:qd x y=q:=by unfold qd;rw[if_neg J,if_pos hy];exact Pg hy h h0 h1
 exact⟨e,by unfold rm;rw[e];omega⟩
theorem EL{x y q r:Int}(hy:y < 0)(h:x=q * y+r)(h0:r≤0)(h1:y < r):qd x y=q∧rm x y=r:=by
 have e:qd x y=q:=by
  unfold qd;rw[if_neg J,if_neg J];exact Pg J (by rw[h,Int.mul_neg];omega:-x=q * (-y)+(-r)) J J
 exact⟨e,by unfold rm;rw[e];omega⟩
theorem Ph{x y:Int}{s:Bool}(hy:y≠0)(hx:decide (x < 0)=s)(hs:decide (y < 0)=s) :
  ((x.natAbs / y.natAbs:Nat):Int)=qd x y∧(if s then -((x.natAbs % y.natAbs:Nat):Int) else ((x.natAbs % y.natAbs:Nat):Int))=rm x y:=by
 have h1:=Nat.div_add_mod x.natAbs y.natAbs;have h2:=Nat.mod_lt x.natAbs (show 0 < y.natAbs by omega);generalize x.natAbs / y.natAbs=Q at *;generalize x.natAbs % y.natAbs=R at *;have h3:(y.natAbs:Int) * Q+R=x.natAbs:=by rw[←h1];simp
 cases s with
 |true =>
  have hx':x < 0:=of_decide_eq_true hx;have hy':y < 0:=of_decide_eq_true hs;have e:x=(Q:Int) * y+-(R:Int):=by
   have:(y.natAbs:Int)=-y:=J;rw[this,Int.neg_mul,Int.mul_comm]at h3;omega
  obtain⟨a,b⟩:=EL hy' e J J;exact⟨a.symm,by simp;omega⟩
 |false =>
  have hx':¬x < 0:=of_decide_eq_false hx;have hy':¬y < 0:=of_decide_eq_false hs;have e:x=(Q:Int) * y+(R:Int):=by
   have:(y.natAbs:Int)=y:=J;rw[this,Int.mul_comm]at h3;omega
  obtain⟨a,b⟩:=nE J e J J;exact⟨a.symm,by simp;omega⟩
theorem NC{x y:Int}{s:Bool}(hy:y≠0)(hx:decide (x < 0)=!s)(hs:decide (y < 0)=s)(h0:x.natAbs % y.natAbs=0) :
  -((x.natAbs / y.natAbs:Nat):Int)=qd x y∧rm x y=0:=by
 have h1:=Nat.div_add_mod x.natAbs y.natAbs;rw[h0]at h1;generalize x.natAbs / y.natAbs=Q at *;have h3:(y.natAbs:Int) * Q=x.natAbs:=by rw[←h1];simp
 cases s with
 |true =>
  have hx':¬x < 0:=of_decide_eq_false hx;have hy':y < 0:=of_decide_eq_true hs;have e:x=-(Q:Int) * y+0:=by
   have:(y.natAbs:Int)=-y:=J;rw[this,Int.neg_mul,Int.mul_comm]at h3;rw[Int.neg_mul];omega
  obtain⟨a,b⟩:=EL hy' e J J;exact⟨a.symm,b⟩
 |false =>
  have hx':x < 0:=of_decide_eq_true hx;have hy':¬y < 0:=of_decide_eq_false hs;have e:x=-(Q:Int) * y+0:=by
   have:(y.natAbs:Int)=y:=J;rw[this,Int.mul_comm]at h3;rw[Int.neg_mul];omega
  obtain⟨a,b⟩:=nE J e J J;exact⟨a.symm,b⟩
theorem Pj{x y:Int}{s:Bool}(hy:y≠0)(hx:decide (x < 0)=!s)(hs:decide (y < 0)=s)(h0:x.natAbs % y.natAbs≠0) :
  -((x.natAbs / y.natAbs+1:Nat):Int)=qd x y∧(if s then -((y.natAbs - x.natAbs % y.natAbs:Nat):Int) else ((y.natAbs - x.natAbs % y.natAbs:Nat):Int))=rm x y:=by
 have h1:=Nat.div_add_mod x.natAbs y.natAbs;have h2:=Nat.mod_lt x.natAbs (show 0 < y.natAbs by omega);generalize x.natAbs / y.natAbs=Q at *;generalize x.natAbs % y.natAbs=R at *;have h3:(y.natAbs:Int) * Q+R=x.natAbs:=by rw[←h1];simp
 cases s with
 |true =>
  have hx':¬x < 0:=of_decide_eq_false hx;have hy':y < 0:=of_decide_eq_true hs;have e:x=-((Q:Int)+1) * y+(y+R):=by
   have:(y.natAbs:Int)=-y:=J;rw[this,Int.neg_mul,Int.mul_comm]at h3;rw[Int.neg_mul,Int.add_mul];omega
  obtain⟨a,b⟩:=EL hy' e J J;exact⟨by rw[a];omega,by simp;omega⟩
 |false =>
  have hx':x < 0:=of_decide_eq_true hx;have hy':¬y < 0:=of_decide_eq_false hs;have e:x=-((Q:Int)+1) * y+(y - R):=by
   have:(y.natAbs:Int)=y:=J;rw[this,Int.mul_comm]at h3;rw[Int.neg_mul,Int.add_mul];omega
  obtain⟨a,b⟩:=nE J e J J;exact⟨by rw[a];omega,by simp;omega⟩
end Go.Proofs.YtdkehabacmlegaaGreatDoor
namespace Go.Proofs.YtdkehabacmlegaaGreatDoor
open Tryz
open Go.RowKit
def dz(a b:bi)(w:World)(e:Ending)(w':World):Prop:=e=.returned (.tuple #[.string ⟨a.toArray⟩,.string ⟨b.toArray⟩])∧Below w.heap.size w w'
theorem Em{x:Int}{n:Nat}(h:(j4.limbs 1000000000 x.natAbs).length=n):n=0↔x=0:=by
 subst h;constructor
 ·intro h;have:=(j4.kW (B:=1000000000) J).1 (List.eq_nil_of_length_eq_zero h);omega
 ·rintro rfl;rfl
theorem KW{a b n:Nat}(h:(j4.limbs 1000000000 a).length=n):(j4.limbs 1000000000 (a / b)).length≤n:=by
 rw[←h];exact j4.aA J (Nat.div_le_self a b)
theorem Ea{a b n:Nat}(hb:0 < b)(h:(j4.limbs 1000000000 b).length=n):(j4.limbs 1000000000 (a % b)).length≤n:=by
 rw[←h];exact j4.aA J (Nat.le_of_lt (Nat.mod_lt a hb))
theorem AA(w:World)(T:TypeId)(u0 v0 u1 v1:Value):y9 ((w.alloc (.cells #[u0,v0] T)).alloc (.cells #[u1,v1] T)) w.heap.size T #[u0,v0]∧y9 ((w.alloc (.cells #[u0,v0] T)).alloc (.cells #[u1,v1] T)) (w.heap.size+1) T #[u1,v1]:=by
 obtain⟨a,b,_⟩:=Ae w T u0 v0 u1 v1;exact⟨a.out,b.out⟩
theorem Ui{w:World}{g:Nat}{t:TypeId}{u v v':Value}(h:y9 w g t #[u,v]):y9 (w.setCell ⟨g,1,none⟩ v') g t #[u,v']:=by
 have:=h.dS 1 v';simpa using this
theorem Zi(a b:bi)(w:World)(ha:a.length≤2400000)(hb:b.length≤2400000)(hy0:j4.r9 b=0) :
  Calls prog 236 #[.string ⟨a.toArray⟩,.string ⟨b.toArray⟩] w (dz [48] (Lib.itoa (j4.r9 a)) w):=by
 have Q8:Hid (∀w',Calls prog 256 #[.string ⟨a.toArray⟩] w' (fM (a.length+1) (j4.r9 a) w')):=fun w'=>fJ a w' J
 have Q5:Hid (∀w',Calls prog 256 #[.string ⟨b.toArray⟩] w' (fM (b.length+1) 0 w')):=fun w'=>by have:=fJ b w' J;rwa [hy0]at this
 have HDc:Hid (∀w',Calls prog 262 #[.string ⟨a.toArray⟩] w' fun e w''=>e=.returned (.string ⟨(Lib.itoa (j4.r9 a)).toArray⟩)∧w'=w''):=fun w'=>by have:=pJ a w' J;rwa [norm_eq]at this
 clear hy0
 go_enter func236,ntmps236
 go_wp2_with fail
 refine (Q8.out _).mono ?_;rintro e w1 ⟨A1,n1,c1,rfl,hs1,hn1,hb1⟩
 go_wp2_with fail
 refine (Q5.out _).mono ?_;rintro e w2 ⟨A2,n2,c2,rfl,hs2,hn2,hb2⟩;have hbw2:=hb1.trans (hb2.mono hb1.size);obtain rfl:n2=0:=(Em (x:=0) hs2.len).2 rfl
 go_wp2_with fail
 refine (HDc.out _).mono ?_;rintro e w' ⟨rfl,rfl⟩;go_wp2;go_ret2;exact⟨rfl,(hbw2.alloc hbw2.size _).alloc (by rw[World.size_alloc];have:=hbw2.size;omega) _⟩
theorem MP(a b:bi)(w:World)(ha:a.length≤2400000)(hb:b.length≤2400000)(ht:Q4 w)(x y:Int)(hxv:j4.r9 a=x)(hyv:j4.r9 b=y)(hy0:y≠0)(s s' z:Bool)(hsd:decide (x < 0)=s)(aL:decide (y < 0)=s')
  (hz:(!(s == s'))=z) (hcase:z=false∨x.natAbs % y.natAbs=0) (q r:bi) (HQ:Hid (aP z (x.natAbs / y.natAbs)=q)) (HR:Hid (aP s' (x.natAbs % y.natAbs)=r)) :
  Calls prog 236 #[.string ⟨a.toArray⟩,.string ⟨b.toArray⟩] w (dz q r w):=by
 have Q8:Hid (∀w',Calls prog 256 #[.string ⟨a.toArray⟩] w' (fM (a.length+1) x w')):=fun w'=>by have:=fJ a w' J;rwa [hxv]at this
 have Q5:Hid (∀w',Calls prog 256 #[.string ⟨b.toArray⟩] w' (fM (b.length+1) y w')):=fun w'=>by have:=fJ b w' J;rwa [hyv]at this
 have bJ:=Lib.hid hsd;have eO:=Lib.hid aL;have hyp:0 < y.natAbs:=J;have xm:=Lib.hid hcase;clear hcase;clear hsd aL hxv hyv
 go_enter func236,ntmps236
 go_wp2_with fail
 refine (Q8.out _).mono ?_;rintro e w1 ⟨A1,n1,c1,rfl,hs1,hn1,hb1⟩;rw[bJ.out]
 go_wp2_with fail
 refine (Q5.out _).mono ?_;rintro e w2 ⟨A2,n2,c2,rfl,hs2,hn2,hb2⟩;rw[eO.out];have hbw2:=hb1.trans (hb2.mono hb1.size);have Ci:((n2:Int) == 0)=false:=by rw[beq_eq_false_iff_ne];intro e;exact hy0 ((Em hs2.len).1 J)
 clear hy0
 go_wp2_with fail
 obtain⟨B0,B1,hbW⟩:=Ae w2 279 (.bool s) (.slice A1 n1 c1) (.bool s') (.slice A2 n2 c2);generalize ((w2.alloc (.cells #[.bool s,.slice A1 n1 c1] 279)).alloc (.cells #[.bool s',.slice A2 n2 c2] 279))=W at *;have om:=hbw2.trans (hbW.mono hbw2.size);have hsA:=(hs1.below hb2).below hbW;have hsB:=hs2.below hbW;have hl1:=hsA.len;have hl2:=hsB.len;have hlq:=KW (b:=y.natAbs) hl1;have hlr:=Ea (a:=x.natAbs) hyp hl2;clear hl1 hl2;refine (EA A1 A2 n1 n2 c1 c2 _ _ W hsA hsB J J hyp).mono ?_;rintro e w3 ⟨A3,n3,c3,A4,n4,c4,rfl,hs3,hs4,hb3⟩;have M7:=om.trans (hb3.mono om.size);have fo:n3≤n1:=by rw[←hs3.len];exact hlq
 have mh:n4≤n2:=by rw[←hs4.len];exact hlr
 have qP:=Lib.hid hs4.len;have E0:=Lib.hid (B0.out.below hb3);have E1:=Lib.hid (B1.out.below hb3);obtain⟨yI,yJ,_,_,l0⟩:=E0.out.two;obtain⟨yK,yL,_,_,l1⟩:=E1.out.two;have Cj:=hsB.below hb3;clear B0 B1
 go_upto_region 5 with (fail)
 go_cut [10,11] (fun s10 s11 wx=>∃g g':Nat,s10=.pointer (some ⟨g,0,none⟩)∧s11=.pointer (some ⟨g',0,none⟩)∧g≠g'∧w3.heap.size≤g∧w3.heap.size≤g'∧Hid (y9 wx g 279 #[.bool z,.slice A3 n3 c3])∧Hid (y9 wx g' 279 #[.bool s',.slice A4 n4 c4])∧Below w3.heap.size w3 wx)
 case first =>
  go_region
  all_goals (go_wp2_with fail;go_meet)
  all_goals (go_wp2_with fail)
  all_goals (obtain⟨t1,t2⟩:=AA w3 279 (.bool z) (.slice A3 n3 c3) (.bool s') (.slice A4 n4 c4))
  all_goals (obtain⟨t3,t4⟩:=AA w3 279 (.bool s') (.slice A4 n4 c4) (.bool z) (.slice A3 n3 c3))
  all_goals first
   |exact⟨w3.heap.size,w3.heap.size+1,rfl,rfl,J,J,J,Lib.hid t1,Lib.hid t2,(((Below.refl _ _).alloc (Nat.le_refl _) _).alloc I _).drew⟩
   |exact⟨w3.heap.size+1,w3.heap.size,rfl,rfl,J,J,J,Lib.hid t4,Lib.hid t3,(((Below.refl _ _).alloc (Nat.le_refl _) _).alloc I _).drew⟩
 case rest =>
  obtain⟨g,g',rfl,rfl,hgg,hg1,hg2,G0,G1,hbx⟩:=hcut;have Uj:=M7.trans (hbx.mono M7.size);obtain⟨uT,q01,CL,CO,m0⟩:=G0.out.two;obtain⟨yM,JO,f10,f11,m1⟩:=G1.out.two;obtain⟨_,v11,_,_,_⟩:=(E1.out.below hbx).two;have hgd:z=true→¬0 < n4:=fun e=>by
   rcases xm.out with h | h
   ·rw[h]at e;cases e
   ·have:=qP.out;rw[h]at this;simp[j4.pM]at this;omega
  have K0:=G0;have K1:=G1;have cz:=Uj;have CP:=Lib.hid (pQ z A3 n3 c3 _ wc.drew (hs3.below hbx).kr J (ht.below cz.drew));have CQ:Hid (∀w7,Below wc.drew.heap.size wc.drew w7→Calls prog 257 #[.agg #[.bool s',.slice A4 n4 c4]] w7 (aQ (aP s' (x.natAbs % y.natAbs)) w7)):=fun w7 h7=>pQ s' A4 n4 c4 _ w7 ((hs4.below hbx).kr.below h7) J (ht.below (cz.drew.trans (h7.mono cz.drew.size)))
  have HGD:=Lib.hid hgd;clear hgd;by_cases uU:z=true
  ·have Ck:n4=0:=by have:=HGD.out uU;omega
   subst Ck;subst uU
   go_upto_region 9 with (fail)
   go_region_held3 (fun w'=>w'.cell? ⟨g,0,none⟩=some (.bool true)∧w'.cell? ⟨g,1,none⟩=some (.slice A3 n3 c3)∧w'.cell? ⟨g',0,none⟩=some (.bool s')∧w'.cell? ⟨g',1,none⟩=some (.slice A4 0 c4)) (go_keep)
    (first | (go_at_call 257;((with_reducible refine CP.out.mono ?_));rintro e w7 ⟨rfl,U6⟩;obtain⟨JP,JQ,_,_,_⟩:=(K0.out.drew.below U6).two;obtain⟨t10,t11,_,_,_⟩:=(K1.out.drew.below U6).two;have xS:=Lib.hid (CQ.out w7 U6)) | (go_at_call 257;((with_reducible refine xS.out.mono ?_));rintro e w8 ⟨rfl,gZ⟩;obtain⟨Vq,Vr,_,_,_⟩:=((K0.out.drew.below U6).below gZ).two;obtain⟨Vs,Vt,_,_,_⟩:=((K1.out.drew.below U6).below gZ).two))
   go_wp2;go_ret2;exact⟨by rw[←HQ.out,←HR.out];rfl,(cz.drew.trans (U6.mono cz.drew.size)).trans (gZ.mono (cz.drew.trans (U6.mono cz.drew.size)).size)⟩
  ·have JR:z=false:=by cases z <;> simp_all
   subst JR
   go_upto_region 9 with (fail)
   go_region_held3 (fun w'=>w'.cell? ⟨g,0,none⟩=some (.bool false)∧w'.cell? ⟨g,1,none⟩=some (.slice A3 n3 c3)∧w'.cell? ⟨g',0,none⟩=some (.bool s')∧w'.cell? ⟨g',1,none⟩=some (.slice A4 n4 c4)) (go_keep)
    (first | (go_at_call 257;((with_reducible refine CP.out.mono ?_));rintro e w7 ⟨rfl,U6⟩;obtain⟨JP,JQ,_,_,_⟩:=(K0.out.drew.below U6).two;obtain⟨t10,t11,_,_,_⟩:=(K1.out.drew.below U6).two;have xS:=Lib.hid (CQ.out w7 U6)) | (go_at_call 257;((with_reducible refine xS.out.mono ?_));rintro e w8 ⟨rfl,gZ⟩;obtain⟨Vq,Vr,_,_,_⟩:=((K0.out.drew.below U6).below gZ).two;obtain⟨Vs,Vt,_,_,_⟩:=((K1.out.drew.below U6).below gZ).two))
   go_wp2;go_ret2;exact⟨by rw[←HQ.out,←HR.out];rfl,(cz.drew.trans (U6.mono cz.drew.size)).trans (gZ.mono (cz.drew.trans (U6.mono cz.drew.size)).size)⟩
theorem Zj(a b:bi)(w:World)(ha:a.length≤2400000)(hb:b.length≤2400000)(ht:Q4 w)(x y:Int)(hxv:j4.r9 a=x)(hyv:j4.r9 b=y)(hy0:y≠0)(s s' z:Bool)(hsd:decide (x < 0)=s)(aL:decide (y < 0)=s')
  (hz:(!(s == s'))=z) (hcase:z=true∧x.natAbs % y.natAbs≠0) (q r:bi) (HQ:Hid (aP z (x.natAbs / y.natAbs+1)=q)) (HR:Hid (aP s' (y.natAbs - x.natAbs % y.natAbs)=r)) :
  Calls prog 236 #[.string ⟨a.toArray⟩,.string ⟨b.toArray⟩] w (dz q r w):=by
 have Q8:Hid (∀w',Calls prog 256 #[.string ⟨a.toArray⟩] w' (fM (a.length+1) x w')):=fun w'=>by have:=fJ a w' J;rwa [hxv]at this
 have Q5:Hid (∀w',Calls prog 256 #[.string ⟨b.toArray⟩] w' (fM (b.length+1) y w')):=fun w'=>by have:=fJ b w' J;rwa [hyv]at this
 have bJ:=Lib.hid hsd;have eO:=Lib.hid aL;have hyp:0 < y.natAbs:=J;obtain⟨rfl,hrz⟩:=hcase;have HRZ:=Lib.hid hrz;clear hrz;clear hsd aL hxv hyv
 go_enter func236,ntmps236
 go_wp2_with fail
 refine (Q8.out _).mono ?_;rintro e w1 ⟨A1,n1,c1,rfl,hs1,hn1,hb1⟩;rw[bJ.out]
 go_wp2_with fail
 refine (Q5.out _).mono ?_;rintro e w2 ⟨A2,n2,c2,rfl,hs2,hn2,hb2⟩;rw[eO.out];have hbw2:=hb1.trans (hb2.mono hb1.size);have Ci:((n2:Int) == 0)=false:=by rw[beq_eq_false_iff_ne];intro e;exact hy0 ((Em hs2.len).1 J)
 clear hy0
 go_wp2_with fail
 obtain⟨B0,B1,hbW⟩:=Ae w2 279 (.bool s) (.slice A1 n1 c1) (.bool s') (.slice A2 n2 c2);generalize ((w2.alloc (.cells #[.bool s,.slice A1 n1 c1] 279)).alloc (.cells #[.bool s',.slice A2 n2 c2] 279))=W at *;have om:=hbw2.trans (hbW.mono hbw2.size);have hsA:=(hs1.below hb2).below hbW;have hsB:=hs2.below hbW;have hl1:=hsA.len;have hl2:=hsB.len;have hlq:=KW (b:=y.natAbs) hl1;have hlr:=Ea (a:=x.natAbs) hyp hl2;clear hl1 hl2;refine (EA A1 A2 n1 n2 c1 c2 _ _ W hsA hsB J J hyp).mono ?_;rintro e w3 ⟨A3,n3,c3,A4,n4,c4,rfl,hs3,hs4,hb3⟩;have M7:=om.trans (hb3.mono om.size);have fo:n3≤n1:=by rw[←hs3.len];exact hlq
 have mh:n4≤n2:=by rw[←hs4.len];exact hlr
 have qP:=Lib.hid hs4.len;have E0:=Lib.hid (B0.out.below hb3);have E1:=Lib.hid (B1.out.below hb3);obtain⟨yI,yJ,_,_,l0⟩:=E0.out.two;obtain⟨yK,yL,_,_,l1⟩:=E1.out.two;have Cj:=hsB.below hb3;clear B0 B1
 go_upto_region 5 with (fail)
 go_cut [10,11] (fun s10 s11 wx=>∃g g':Nat,s10=.pointer (some ⟨g,0,none⟩)∧s11=.pointer (some ⟨g',0,none⟩)∧g≠g'∧w3.heap.size≤g∧w3.heap.size≤g'∧Hid (y9 wx g 279 #[.bool true,.slice A3 n3 c3])∧Hid (y9 wx g' 279 #[.bool s',.slice A4 n4 c4])∧Below w3.heap.size w3 wx)
 case first =>
  go_region
  all_goals (go_wp2_with fail;go_meet)
  all_goals (go_wp2_with fail)
  all_goals (obtain⟨t1,t2⟩:=AA w3 279 (.bool true) (.slice A3 n3 c3) (.bool s') (.slice A4 n4 c4))
  all_goals (obtain⟨t3,t4⟩:=AA w3 279 (.bool s') (.slice A4 n4 c4) (.bool true) (.slice A3 n3 c3))
  all_goals first
   |exact⟨w3.heap.size,w3.heap.size+1,rfl,rfl,J,J,J,Lib.hid t1,Lib.hid t2,(((Below.refl _ _).alloc (Nat.le_refl _) _).alloc I _).drew⟩
   |exact⟨w3.heap.size+1,w3.heap.size,rfl,rfl,J,J,J,Lib.hid t4,Lib.hid t3,(((Below.refl _ _).alloc (Nat.le_refl _) _).alloc I _).drew⟩
 case rest =>
  obtain⟨g,g',rfl,rfl,hgg,hg1,hg2,G0,G1,hbx⟩:=hcut;have Uj:=M7.trans (hbx.mono M7.size);obtain⟨uT,q01,CL,CO,m0⟩:=G0.out.two;obtain⟨yM,JO,f10,f11,m1⟩:=G1.out.two;obtain⟨_,v11,_,_,_⟩:=(E1.out.below hbx).two;have Ck:0 < n4:=by
   rcases Nat.eq_zero_or_pos n4 with h | h
   ·exfalso
    have:=qP.out;rw[h]at this;exact HRZ.out ((j4.kW J).1 (List.eq_nil_of_length_eq_zero this))
   ·exact h
  have JS:=Nv A3 (some ⟨wc.heap.size,0,none⟩) n3 1 c3 1 _ [1] (wc.alloc (.cells #[.int .u32 1] 268)) ((hs3.below hbx).alloc _) (Sl.one wc .u32 268 1) J J (j4.K7 J _) (j4.Small.cons J j4.Small.nil);rw[j4.G7 J,show j4.u7 1000000000 [1]=1 by decide]at JS
  have HPl:=Lib.hid JS;clear JS;have hl3:=KV (b:=1) (n':=1) hs3.len O;have hlen3:n4≤n2:=mh;have HMn:Hid (∀V,Below w3.heap.size w3 V→Calls prog 267 #[.slice A2 n2 c2,.slice A4 n4 c4] V (df .u32 (j4.limbs 1000000000 (y.natAbs - x.natAbs % y.natAbs)) V)):=fun V hV=>by
   have:=Af A2 A4 n2 n4 c2 c4 _ _ V (Cj.below hV) (hs4.below hV) J hlen3 (j4.K7 J _) (j4.K7 J _) (by rw[j4.G7 J,j4.G7 J];exact Nat.le_of_lt (Nat.mod_lt _ hyp))
   rwa [j4.G7 J,j4.G7 J]at this
  go_upto_region 7 with (fail)
  go_wp2_with fail
  refine HPl.out.mono ?_;rintro e w5 ⟨A5,n5,c5,rfl,hs5,hb5,yH⟩;have Cm:=((Below.refl wc.heap.size wc).alloc (Nat.le_refl _) (.cells #[.int .u32 1] 268)).trans (hb5.mono I);have Vu:=Lib.hid (G0.out.below Cm);have Vv:=Lib.hid (G1.out.below Cm);have Vw:=Lib.hid ((E1.out.below hbx).below Cm);obtain⟨a00,a01,b00,b01,m2⟩:=Vu.out.two;obtain⟨a10,a11,b10,b11,m3⟩:=Vv.out.two;obtain⟨_,v51,_,_,m4⟩:=Vw.out.two;have Uk:Below w3.heap.size w3 (w5.setCell ⟨g,1,none⟩ (.slice A5 n5 c5)):=(hbx.trans (Cm.mono hbx.size)).setCell (p:=⟨g,1,none⟩) hg1 _;have H0:=Lib.hid (Ui (v':=.slice A5 n5 c5) Vu.out);have H1:=Lib.hid (Vv.out.far (p:=⟨g,1,none⟩) (Ne.symm hgg) (.slice A5 n5 c5));have HE:=Lib.hid (Vw.out.far (p:=⟨g,1,none⟩) (show w2.heap.size+1≠g by omega) (.slice A5 n5 c5));have a9Z:=hs5.far (p:=⟨g,1,none⟩) (fun b o e=>by have:=yH b o e;rw[World.size_alloc]at this;show b≠g;omega) (.slice A5 n5 c5);have jv:Below w.heap.size w (w5.setCell ⟨g,1,none⟩ (.slice A5 n5 c5)):=M7.trans (Uk.mono M7.size);have Vx:n5≤n3+2:=by rw[←hs5.len];exact hl3
  clear uT q01 CL CO yM JO f10 f11 G0 G1
  go_wp2_with fail
  generalize (w5.setCell ⟨g,1,none⟩ (.slice A5 n5 c5))=V at *;obtain⟨_,v61,_,_,m5⟩:=HE.out.two;obtain⟨_,_,_,_,m6⟩:=H0.out.two;obtain⟨_,_,_,_,m7⟩:=H1.out.two;refine (HMn.out V Uk).mono ?_;rintro e w6 ⟨A6,n6,c6,rfl,hs6,hb6,hf6⟩;have J0:=Lib.hid (H0.out.below hb6);have J1:=Lib.hid (H1.out.below hb6);obtain⟨_,_,_,_,_⟩:=J0.out.two;obtain⟨_,d11,_,e11,m8⟩:=J1.out.two;have K0:=Lib.hid (J0.out.far (p:=⟨g',1,none⟩) hgg (.slice A6 n6 c6));have K1:=Lib.hid (Ui (v':=.slice A6 n6 c6) J1.out);have hs7:=hs6.far (p:=⟨g',1,none⟩) (fun b o e=>by have:=hf6 b o e;show b≠g';omega) (.slice A6 n6 c6);have Vy:=(a9Z.below hb6).far (p:=⟨g',1,none⟩) (fun b o e=>by have:=yH b o e;rw[World.size_alloc]at this;show b≠g';omega) (.slice A6 n6 c6);have cz:Below w.heap.size w (w6.setCell ⟨g',1,none⟩ (.slice A6 n6 c6)):=(jv.trans (hb6.mono jv.size)).setCell (p:=⟨g',1,none⟩) (by have:=M7.size;show w.heap.size≤g';omega) _;have hn6:n6≤n2:=by
   rw[←hs6.len,←hsB.len];exact j4.aA J (Nat.sub_le _ _)
  go_upto_region 9 with (fail)
  generalize (w6.setCell ⟨g',1,none⟩ (.slice A6 n6 c6))=U at *;obtain⟨Vm,Vn,_,_,_⟩:=K0.out.two;obtain⟨Vo,Vp,_,_,_⟩:=K1.out.two;have CP:=Lib.hid (pQ true A5 n5 c5 _ U.drew Vy.kr J (ht.below cz.drew));have CQ:Hid (∀w7,Below U.drew.heap.size U.drew w7→Calls prog 257 #[.agg #[.bool s',.slice A6 n6 c6]] w7 (aQ (aP s' (y.natAbs - x.natAbs % y.natAbs)) w7)):=fun w7 h7=>pQ s' A6 n6 c6 _ w7 (hs7.kr.below h7) J (ht.below (cz.drew.trans (h7.mono cz.drew.size)))
  go_region_held3 (fun w'=>w'.cell? ⟨g,0,none⟩=some (.bool true)∧w'.cell? ⟨g,1,none⟩=some (.slice A5 n5 c5)∧w'.cell? ⟨g',0,none⟩=some (.bool s')∧w'.cell? ⟨g',1,none⟩=some (.slice A6 n6 c6)) (go_keep)
   (first | (go_at_call 257;((with_reducible refine CP.out.mono ?_));rintro e w7 ⟨rfl,U6⟩;obtain⟨JP,JQ,_,_,_⟩:=(K0.out.drew.below U6).two;obtain⟨t10,t11,_,_,_⟩:=(K1.out.drew.below U6).two;have xS:=Lib.hid (CQ.out w7 U6)) | (go_at_call 257;((with_reducible refine xS.out.mono ?_));rintro e w8 ⟨rfl,gZ⟩;obtain⟨Vq,Vr,_,_,_⟩:=((K0.out.drew.below U6).below gZ).two;obtain⟨Vs,Vt,_,_,_⟩:=((K1.out.drew.below U6).below gZ).two))
  go_wp2;go_ret2;exact⟨by rw[←HQ.out,←HR.out];rfl,(cz.drew.trans (U6.mono cz.drew.size)).trans (gZ.mono (cz.drew.trans (U6.mono cz.drew.size)).size)⟩
end Go.Proofs.YtdkehabacmlegaaGreatDoor
