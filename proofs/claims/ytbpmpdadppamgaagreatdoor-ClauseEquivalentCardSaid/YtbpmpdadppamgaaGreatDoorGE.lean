/- Lisp objects: a plain type, and how one lies in memory. -/
import Derived.Test.YtbpmpdadppamgaaGreatDoorGB
import Derived.Deep.LoopGhost
import Derived.Test.YtbpmpdadppamgaaGreatDoorGD
import Derived.Deep.RegionHeld3
import Derived.Deep.RegionLaw
import Derived.Deep.DeepCutAuto
import Derived.StillTailTactics
import Derived.Deep.QuietTactic
import Derived.BigQuiet
import Derived.Lib.Bytealg
import Derived.BigRegion
import Derived.IntWalk
set_option maxRecDepth 100000
set_option maxHeartbeats 4000000
namespace Go.Proofs.YtbpmpdadppamgaaGreatDoor
open Tryz
open Go.RowKit
structure Ob where
 kind:Int
 num:lw
 den:lw
 sp:lw
 sn:lw
 text:lw
 pair:List Ob
namespace Ob
mutual
def enc:Ob→List Dt
 |⟨k,n,d,p,s,t,l⟩=>[.val (.int .i64 k),.val (str n),.val (str d),.val (str p),.val (str s),.val (str t),.row (A9 l)]
def A9:List Ob→aa0
 |[]=>[]
 |o::r=>enc o::A9 r
end
mutual
def size:Ob→Nat
 |⟨_,_,_,_,_,_,l⟩=>eF l+1
def eF:List Ob→Nat
 |[]=>0
 |o::r=>size o+eF r
end
theorem IZ(l:List Ob):A9 l=l.map enc:=by
 induction l with
 |nil=>rfl
 |cons o r ih=>rw[A9,ih];rfl
theorem lU(o:Ob):o.enc=[.val (.int .i64 o.kind),.val (str o.num),.val (str o.den),.val (str o.sp),.val (str o.sn),.val (str o.text),.row (o.pair.map enc)]:=by
 cases o;rw[enc,IZ]
theorem kz(o:Ob):o.enc.length=7:=by rw[lU];rfl
theorem size_pos(o:Ob):0 < o.size:=by cases o;rw[size];omega
theorem IB{l:List Ob}{o:Ob}(h:o∈l):o.size≤eF l:=by
 induction l with
 |nil=>cases h
 |cons x r ih =>
  rw[eF];rcases Za3.1 h with rfl | h
  ·omega
  ·have:=ih h;omega
theorem jD{o x:Ob}(h:x∈o.pair):x.size < o.size:=by
 cases o with
 |mk k n d p s t l =>
  rw[size];have:=IB (l:=l) h;omega
theorem ind{motive:Ob→Prop}(step:∀o,(∀x∈o.pair,motive x)→motive o)(o:Ob):motive o:=by
 have:∀n (o:Ob),o.size≤n→motive o:=by
  intro n
  induction n with
  |zero=>intro o h;have:=size_pos o;omega
  |succ n ih=>intro o h;exact step o fun x hx=>ih x (by have:=jD hx;omega)
 exact this o.size o (PP _)
inductive Wf:Ob→Prop
 |mk (o:Ob) (hk0:-9223372036854775808≤o.kind) (hk1:o.kind≤9223372036854775807) (hn:o.num.length≤9223372036854775807) (hd:o.den.length≤9223372036854775807) (hp:o.sp.length≤9223372036854775807) (hs:o.sn.length≤9223372036854775807) (ht:o.text.length≤9223372036854775807) (hl:o.pair.length≤9223372036854775807) (h:∀x∈o.pair,Wf x):Wf o
theorem Wf.kids{o x:Ob}(h:o.Wf)(hx:x∈o.pair):x.Wf:=by
 cases h with
 |mk _ _ _ _ _ _ _ _ _ h=>exact h x hx
theorem Wf.len{o:Ob}(h:o.Wf):o.pair.length≤9223372036854775807:=by
 cases h with
 |mk _ _ _ _ _ _ _ _ hl _=>exact hl
end Ob
abbrev G6(o:Ob)(P:Value):Value:=.agg #[.int .i64 o.kind,str o.num,str o.den,str o.sp,str o.sn,str o.text,P]
abbrev U7(o:Ob)(P:Value):Array Value:=#[.int .i64 o.kind,str o.num,str o.den,str o.sp,str o.sn,str o.text,P]
theorem Rd.eG{ok:Nat→Prop}{w wr:World}{A:Option Addr}{n c:Nat}{l:List Ob}(h:Rd ok w (.slice A n c) (.row (l.map Ob.enc)))(hbr:Below w.heap.size w wr){i:Nat}(hi:i < n) :
  ∃(b o:Nat) (hl:i < l.length) (A':Option Addr) (n' c':Nat),A=some ⟨b,o,none⟩∧b < w.heap.size∧ok b ∧
   wr.cell? ⟨b,o+i * 7,none⟩=some (.int .i64 (l[i]).kind)∧wr.cell? ⟨b,o+i * 7+1,none⟩=some (str (l[i]).num)∧wr.cell? ⟨b,o+i * 7+2,none⟩=some (str (l[i]).den)∧wr.cell? ⟨b,o+i * 7+3,none⟩=some (str (l[i]).sp) ∧
   wr.cell? ⟨b,o+i * 7+4,none⟩=some (str (l[i]).sn)∧wr.cell? ⟨b,o+i * 7+5,none⟩=some (str (l[i]).text)∧wr.cell? ⟨b,o+i * 7+6,none⟩=some (.slice A' n' c')∧Rd ok w (.slice A' n' c') (.row ((l[i]).pair.map Ob.enc)):=by
 have hlen:=h.len;rw[Cc]at hlen;obtain⟨b,o,k,rfl,hb,hok,hk,hf⟩:=h.cells J;have e:(l.map Ob.enc)[i]'(by rw[Cc];omega)=(l[i]'J).enc:=List.getElem_map _;have hk':=hk i (by rw[Cc];omega);rw[e,Ob.kz]at hk';subst hk';have hf':∀j (hj:j < 7),∃u,w.cell? ⟨b,o+i * 7+j,none⟩=some u∧Rd ok w u ((l[i]'J).enc[j]'(by rw[Ob.kz];exact hj)):=fun j hj=>by
  obtain⟨u,h1,h2⟩:=hf i j (by rw[Cc];omega) (by rw[e,Ob.kz];exact hj);simp only[e]at h2;exact⟨u,h1,h2⟩
 simp only[Ob.lU]at hf';obtain⟨u0,h0,r0⟩:=hf' 0 J;obtain⟨u1,h1,r1⟩:=hf' 1 J;obtain⟨u2,h2,r2⟩:=hf' 2 J;obtain⟨u3,h3,r3⟩:=hf' 3 J;obtain⟨u4,h4,r4⟩:=hf' 4 J;obtain⟨u5,h5,r5⟩:=hf' 5 J;obtain⟨u6,h6,r6⟩:=hf' 6 J;simp only[Zay,List.getElem_cons_succ]at r0 r1 r2 r3 r4 r5 r6;rw[r0.Q7]at h0;rw[r1.Q7]at h1;rw[r2.Q7]at h2;rw[r3.Q7]at h3;rw[r4.Q7]at h4;rw[r5.Q7]at h5;obtain⟨A',n',c',rfl,_⟩:=r6.slice;exact⟨b,o,J,A',n',c',rfl,hb,hok,(hbr.cell (p:=⟨b,o+i * 7,none⟩) hb).trans h0,(hbr.cell (p:=⟨b,o+i * 7+1,none⟩) hb).trans h1,(hbr.cell (p:=⟨b,o+i * 7+2,none⟩) hb).trans h2,(hbr.cell (p:=⟨b,o+i * 7+3,none⟩) hb).trans h3,(hbr.cell (p:=⟨b,o+i * 7+4,none⟩) hb).trans h4,(hbr.cell (p:=⟨b,o+i * 7+5,none⟩) hb).trans h5,(hbr.cell (p:=⟨b,o+i * 7+6,none⟩) hb).trans h6,r6⟩
theorem D5.eH{w:World}{g:Nat}{t:TypeId}{c0 c1 c2 c3 c4 c5 c6 v0 v1 v2 v3 v4 v5 v6:Value}(h:D5 w g t #[c0,c1,c2,c3,c4,c5,c6]) :
  D5 (((((((w.setCell ⟨g,0,none⟩ v0).setCell ⟨g,1,none⟩ v1).setCell ⟨g,2,none⟩ v2).setCell ⟨g,3,none⟩ v3).setCell ⟨g,4,none⟩ v4).setCell ⟨g,5,none⟩ v5).setCell ⟨g,6,none⟩ v6) g t #[v0,v1,v2,v3,v4,v5,v6]:=by
 have:=((((((h.fD 0 v0).fD 1 v1).fD 2 v2).fD 3 v3).fD 4 v4).fD 5 v5).fD 6 v6;simpa using this
theorem D5.sZ{w:World}{g g':Nat}{t:TypeId}{cs:Array Value}(h:D5 w g t cs)(hg:g≠g')(v0 v1 v2 v3 v4 v5 v6:Value) :
  D5 (((((((w.setCell ⟨g',0,none⟩ v0).setCell ⟨g',1,none⟩ v1).setCell ⟨g',2,none⟩ v2).setCell ⟨g',3,none⟩ v3).setCell ⟨g',4,none⟩ v4).setCell ⟨g',5,none⟩ v5).setCell ⟨g',6,none⟩ v6) g t cs :=
 ((((((h.far (p:=⟨g',0,none⟩) hg _).far (p:=⟨g',1,none⟩) hg _).far (p:=⟨g',2,none⟩) hg _).far (p:=⟨g',3,none⟩) hg _).far (p:=⟨g',4,none⟩) hg _).far (p:=⟨g',5,none⟩) hg _).far (p:=⟨g',6,none⟩) hg _
theorem eO{a w:World}(h0:Below a.heap.size a w){g:Nat}(hg:a.heap.size≤g)(v0 v1 v2 v3 v4 v5 v6:Value) :
  Below a.heap.size a (((((((w.setCell ⟨g,0,none⟩ v0).setCell ⟨g,1,none⟩ v1).setCell ⟨g,2,none⟩ v2).setCell ⟨g,3,none⟩ v3).setCell ⟨g,4,none⟩ v4).setCell ⟨g,5,none⟩ v5).setCell ⟨g,6,none⟩ v6) :=
 set2 (set2 (set2 (set2 (set2 (set2 (set2 h0 hg _) hg _) hg _) hg _) hg _) hg _) hg _
theorem D5.dx{w:World}{g:Nat}{t:TypeId}{cs:Array Value}(h:D5 w g t cs):w.frozen? ⟨g,0,none⟩=false∧w.frozen? ⟨g,1,none⟩=false∧w.frozen? ⟨g,2,none⟩=false∧w.frozen? ⟨g,3,none⟩=false∧w.frozen? ⟨g,4,none⟩=false∧w.frozen? ⟨g,5,none⟩=false∧w.frozen? ⟨g,6,none⟩=false :=
 ⟨h.frozen 0,h.frozen 1,h.frozen 2,h.frozen 3,h.frozen 4,h.frozen 5,h.frozen 6⟩
namespace Ob
mutual
def nodes:Ob→Nat
 |⟨_,_,_,_,_,_,l⟩=>if l.length=2 then Kt l+1 else 1
def Kt:List Ob→Nat
 |[]=>0
 |o::r=>nodes o+Kt r
end
theorem IE{o a d:Ob}(h:o.pair=[a,d]):o.nodes=a.nodes+d.nodes+1:=by
 obtain⟨k,n,e,p,s,t,l⟩:=o;simp only at h;subst h;simp only[nodes,Kt,yM,List.length_nil,ZaG];omega
theorem CO{o:Ob}(h:o.pair.length≠2):o.nodes=1:=by
 obtain⟨k,n,e,p,s,t,l⟩:=o;rw[nodes,EQ h]
theorem rQ(o:Ob):1≤o.nodes:=by
 by_cases h:o.pair.length=2
 ·obtain⟨k,n,e,p,s,t,l⟩:=o;rw[nodes,Ch h];omega
 ·rw[CO h];omega
theorem Cr{l:List Ob}(h:l.length=2):∃a d,l=[a,d]:=by
 match l,h with
 |[a,d],_=>exact⟨a,d,rfl⟩
end Ob
def kH(ok:Nat→Prop)(o:Ob)(w:World)(e:Ending)(w':World):Prop :=
 ∃A n c,e=.returned (G6 o (.slice A n c))∧Rd (fun b=>ok b∨w.heap.size≤b) w' (.slice A n c) (.row (o.pair.map Ob.enc))∧Below w.heap.size w w'
def Y9(o:Ob)(w:World)(e:Ending)(w':World):Prop:=e=.returned (G6 o (.slice none 0 0))∧Below w.heap.size w w'
theorem Y9.obj{ok:Nat→Prop}{o:Ob}{w w':World}{e:Ending}(h:Y9 o w e w')(hp:o.pair=[]):kH ok o w e w' :=
 ⟨none,0,0,h.1,by rw[hp];exact .nil _ _,h.2⟩
theorem D5.Yr(w:World)(o o':Obj)(t:TypeId)(cs:Array Value):D5 (((w.alloc o).alloc o').alloc (.cells cs t)) (w.heap.size+1+1) t cs:=by
 have:=D5.new ((w.alloc o).alloc o') t cs;simpa using this
abbrev zeroCells:Array Value:=#[.int .i64 0,.string ⟨#[]⟩,.string ⟨#[]⟩,.string ⟨#[]⟩,.string ⟨#[]⟩,.string ⟨#[]⟩,.slice none 0 0]
abbrev o9:lw:=[108,105,115,112]
abbrev R8:lw:=[110,105,108]
abbrev jc(p s:lw):Ob:=⟨2,[],[],p,s,[],[]⟩
abbrev K8:Ob:=jc o9 R8
abbrev tO:Ob:=jc o9 [116]
abbrev Z4(n d:lw):Ob:=⟨1,n,d,[],[],[],[]⟩
abbrev kR(t:lw):Ob:=⟨3,[],[],[],[],t,[]⟩
abbrev dW(a d:Ob):Ob:=⟨4,[],[],[],[],[],[a,d]⟩
theorem fQ{fn:Func}{a:Act}{g r:Nat}{w:World}{t:TypeId}{c0 c1 c2 c3 c4 c5 c6:Value}{R:Ending→World→Prop}(hf:fn.results=#[.cell r 45])(ht:a.tmps[r]?=some (.pointer (some ⟨g,0,none⟩)))(hB:D5 w g t #[c0,c1,c2,c3,c4,c5,c6])(hd:a.defers=[])(hR:R (.returned (.agg #[c0,c1,c2,c3,c4,c5,c6])) w):bodyPost prog fn R .ret a w:=by
 obtain⟨h0,h1,h2,h3,h4,h5,h6,_⟩:=hB.seven;refine bodyPost_ret (v:=.agg #[c0,c1,c2,c3,c4,c5,c6]) ?_ hd hR;simp[results,hf,ht,go_sem,h0,h1,h2,h3,h4,h5,h6]
theorem Ie(w:World)(p s:lw):Calls prog 121 #[.agg #[str p,str s]] w (Y9 (jc p s) w):=by
 go_enter func121,ntmps121
 go_wp2;exact bodyPost_ret (v:=G6 (jc p s) (.slice none 0 0)) (by simp[results,Tryz.results121,go_sem]) rfl ⟨rfl,bH (box _ _) _⟩
theorem a2T(w:World)(t:lw):Calls prog 194 #[str t] w (Y9 (kR t) w):=by
 go_enter func194,ntmps194
 go_wp2;exact bodyPost_ret (v:=G6 (kR t) (.slice none 0 0)) (by simp[results,Tryz.results194,go_sem]) rfl ⟨rfl,box _ _⟩
theorem Ig(w:World)(p s:lw):Calls prog 76 #[.agg #[str p,str s]] w (Y9 (jc p s) w):=by
 go_enter func76,ntmps76
 go_wp2;exact bodyPost_ret (v:=G6 (jc p s) (.slice none 0 0)) (by simp[results,Tryz.results76,go_sem]) rfl ⟨rfl,bH (box _ _) _⟩
theorem a2U(w:World)(t:lw):Calls prog 80 #[str t] w (Y9 (kR t) w):=by
 go_enter func80,ntmps80
 go_wp2;exact bodyPost_ret (v:=G6 (kR t) (.slice none 0 0)) (by simp[results,Tryz.results80,go_sem]) rfl ⟨rfl,box _ _⟩
def nG(o:Ob)(left r:Int):Prop:=((o.nodes:Int)≤left→r=left - o.nodes)∧(left < o.nodes→r < 0)∧r < left∧(0≤left→-left - 1≤r)∧(left < 0→r=left - 1)
def a6G(o:Ob)(left:Int)(w:World)(e:Ending)(w':World):Prop:=∃r:Int,e=.returned (.int .i64 r)∧nG o left r∧Below w.heap.size w w'
theorem rest_end{x:Ob}{m:Int}(h:¬(0 < m∧x.pair.length=2)):nG x m (m - 1):=by
 have hp:=x.rQ;refine⟨fun h1=>?_,fun h1=>?_,J,fun h1=>J,fun _=>rfl⟩
 ·have:x.pair.length≠2:=fun e=>h ⟨J,e⟩
  rw[Ob.CO this];rfl
 ·rcases Int.lt_or_le 0 m with h2 | h2
  ·have:x.pair.length≠2:=fun e=>h ⟨h2,e⟩
   rw[Ob.CO this]at h1;omega
  ·omega
theorem rest_step{x a d:Ob}{m r1 r:Int}(hx:x.pair=[a,d])(hm:0 < m)(h1:nG a (m - 1) r1)(h2:nG d r1 r):nG x m r:=by
 have hn:=Ob.IE hx;have pa:=a.rQ;have pd:=d.rQ;obtain⟨a1,a2,a3,a4,a5⟩:=h1;obtain⟨b1,b2,b3,b4,b5⟩:=h2;have a4':=a4 J;refine⟨fun h=>?_,fun h=>?_,J,fun _=>?_,fun h=>J⟩
 ·have e1:=a1 J;have e2:=b1 J;omega
 ·by_cases h3:m - 1 < a.nodes
  ·have e1:=a2 h3;have e2:=b5 e1;omega
  ·have e1:=a1 J;exact b2 J
 ·by_cases h3:r1 < 0
  ·have:=b5 h3;omega
  ·have:=b4 J;omega
theorem a3U(ok:Nat→Prop):∀(N:Nat) (o:Ob),o.size≤N→∀(A:Option Addr) (n c:Nat) (left:Int) (w:World),Rd ok w (.slice A n c) (.row (o.pair.map Ob.enc))→-10≤left→left≤3001 →
  Calls prog 267 #[G6 o (.slice A n c),.int .i64 left] w (a6G o left w):=by
 intro N
 induction N with
 |zero=>intro o h;have:=Ob.size_pos o;omega
 |succ N ih =>
  intro o hN A n c left w hP hl0 hl1
  go_enter func267,ntmps267
  go_wp2
  go_loopg [1] o.size (fun gx lv wr=>∃(x:Ob) (m:Int) (A2:Option Addr) (n2 c2:Nat),lv=.int .i64 m∧Hid (D5 wr w.heap.size 45 (U7 x (.slice A2 n2 c2)))∧Rd ok w (.slice A2 n2 c2) (.row (x.pair.map Ob.enc))∧x.size≤N+1∧-4000≤m∧m≤3001∧Hid (∀r,nG x m r→nG o left r)∧x.size≤gx∧Below w.heap.size w wr)
  case atStart=>exact⟨o,left,A,n,c,rfl,WP (D5.new w _ _),hP,hN,J,hl1,WP (fun _ h=>h),PP _,box _ _⟩
  case round =>
   obtain⟨x,m,A2,n2,c2,rfl,HB,hr,NJ,hm0,hm1,HR,hg,hb⟩:=hrel;obtain⟨c0,c1,c3,c4,c5,c6,c7,hlt⟩:=HB.out.seven;obtain⟨f0,f1,f2,f3,f4,f5,f6⟩:=HB.out.dx;have hlen:=hr.len;rw[Cc]at hlen;by_cases hc:0 < m∧n2=2
   ·obtain⟨hmp,hn2⟩:=hc;subst hn2;obtain⟨a,d,had⟩:=Ob.Cr hlen;have HST:=WP (fun r1 r=>rest_step (r1:=r1) (r:=r) had hmp);have hsa:=Ob.jD (o:=x) (x:=a) (by rw[had];simp);have hsd:=Ob.jD (o:=x) (x:=d) (by rw[had];simp);rw[had]at hr;clear hlen had;obtain⟨b,q,_,A3,n3,c3',rfl,hbl,_,a0,a1,a2,a3,a4,a5,a6,ha⟩:=hr.eG hb (i:=0) J;simp only[Zay,Nat.zero_mul,Nat.add_zero]at a0 a1 a2 a3 a4 a5 a6 ha;have Ad:=kw hbl hb.size;have HC:=WP (ih a J A3 n3 c3' (m - 1) wr (ha.under hb) J J)
    go_wp2_with fail
    refine HC.out.mono ?_;rintro e w1 ⟨r1,rfl,hr1,hb1⟩;have fZ:=L6 hb hb1;have HB1:=WP (HB.out.below hb1);clear c0 c1 c3 c4 c5 c6 c7 f0 f1 f2 f3 f4 f5 f6 a0 a1 a2 a3 a4 a5 a6;obtain⟨c0,c1,c3,c4,c5,c6,c7,hlt1⟩:=HB1.out.seven;obtain⟨f0,f1,f2,f3,f4,f5,f6⟩:=HB1.out.dx;obtain⟨b',q',_,A4,n4,Be,eA,_,_,d0,d1,d2,d3,d4,d5,d6,hd⟩:=hr.eG fZ (i:=1) J;injection eA with eA
    injection eA with eb eq
    subst eb eq;simp only[Zay,List.getElem_cons_succ,Nat.one_mul]at d0 d1 d2 d3 d4 d5 d6 hd;have b9l:=kw hbl fZ.size;have hb4:=hr1.2.2.1;have hb5:=hr1.2.2.2.1 J;have HR1:=WP hr1;clear hr1;go_wp2
    go_roundg d.size
    case measure=>omega
    case rel=>exact⟨d,r1,A4,n4,Be,rfl,WP HB1.out.eH,hd,J,J,J,WP (fun r h=>HR.out r (HST.out r1 r HR1.out h)),PP _,eO fZ (PP _) _ _ _ _ _ _ _⟩
   ·have HE:Hid (nG o left (m - 1)):=HR.out _ (rest_end (by rw[hlen];exact hc));by_cases hmp:0 < m
    ·have hn2:((n2:Int) == 2)=false:=by rw[IR];omega
     clear hlen hc;go_wp2;go_ret;exact⟨m - 1,rfl,HE.out,hb⟩
    ·clear hlen hc;go_wp2;go_ret;exact⟨m - 1,rfl,HE.out,hb⟩
theorem a3V{o:Ob}{r:Int}(h:nG o 3001 r):3001 - max 0 r=if o.nodes≤3001 then (o.nodes:Int) else 3001:=by
 obtain⟨h1,h2,h3,_,_⟩:=h;have:=o.rQ;split
 ·have:=h1 J;omega
 ·have:=h2 J;omega
def U8(o:Ob):Int:=if o.nodes≤3001 then (o.nodes:Int) else 3001
theorem PQ(ok:Nat→Prop)(o:Ob)(A:Option Addr)(n c:Nat)(w:World)(hP:Rd ok w (.slice A n c) (.row (o.pair.map Ob.enc))) :
  Calls prog 237 #[G6 o (.slice A n c)] w (J7 (.int .i64 (U8 o)) w):=by
 go_enter func237,ntmps237
 go_wp2_with fail
 refine (a3U ok o.size o (PP _) A n c 3001 _ (hP.under (box _ _)) J J).mono ?_;rintro e w1 ⟨r,rfl,hr,hb1⟩;have HN:=WP (a3V hr);have h1:=hr.2.2.1;have h2:=hr.2.2.2.1 J;clear hr;by_cases h0:0 < r
 ·have HM:Hid (3001 - r=U8 o):=by show _=_;have:=HN.out;unfold U8;omega
  go_wp2;go_ret;exact⟨by first | (rw[←HM.out];rfl) | (rw[show U8 o=3001 - max 0 r from HN.out.symm];rfl),via hb1⟩
 ·have HM:Hid (3001=U8 o):=by show _=_;have:=HN.out;unfold U8;omega
  go_wp2;go_ret;exact⟨by first | (rw[←HM.out];rfl) | (rw[show U8 o=3001 - max 0 r from HN.out.symm];rfl),via hb1⟩
theorem Vm{x:Int}{g:Nat}(h:0 < g):qd x (g:Int)=x / g:=by
 unfold qd;rw[EQ J,Ch J]
theorem vW(x y:Int):aj x y=(Rat.divInt x y).num∧ak x y=((Rat.divInt x y).den:Int):=by
 rw[Rat.num_divInt,Rat.den_divInt];by_cases hy:y=0
 ·subst hy;simp[aj,ak]
 ·have hg:0 < Nat.gcd x.natAbs y.natAbs:=Nat.gcd_pos_of_pos_right _ J;have e:y.gcd x=Nat.gcd x.natAbs y.natAbs:=Nat.gcd_comm _ _;unfold aj ak;rw[EQ hy,EQ hy,EQ hy,Vm hg,Vm hg,e];refine⟨?_,?_⟩
  ·congr 1;unfold jg;split
   ·rw[Int.sign_eq_neg_one_of_neg (by assumption)];omega
   ·rw[Int.sign_eq_one_of_pos J];omega
  ·unfold ug;rw[Int.natCast_ediv];congr 1;split <;> omega
structure Rb (k:Nat) (q:Rat):Prop where
 num:q.num.natAbs < 10 ^ k
 den:q.den < 10 ^ k
 pos:1≤k
theorem Rb.mk'{k:Nat}{x y:Int}(hk:1≤k)(hx:x.natAbs < 10 ^ k)(hy:y.natAbs < 10 ^ k):Rb k (Rat.divInt x y):=by
 refine⟨?_,?_,hk⟩
 ·rw[Rat.num_divInt];refine Nat.lt_of_le_of_lt (pu (Int.natAbs_ediv_le_natAbs _ _) ?_) hx;rw[Int.natAbs_mul];rcases Int.lt_trichotomy y 0 with h | h | h
  ·rw[Int.sign_eq_neg_one_of_neg h];simp
  ·subst h;simp
  ·rw[Int.sign_eq_one_of_pos h];simp
 ·rw[Rat.den_divInt];split
  ·exact Nat.one_lt_pow J J
  ·exact Nat.lt_of_le_of_lt (Nat.div_le_self _ _) hy
theorem Rb.mono{k m:Nat}{q:Rat}(h:Rb k q)(hm:k≤m):Rb m q :=
 ⟨kw h.num (Zar J hm),kw h.den (Zar J hm),by have:=h.pos;omega⟩
theorem Rat.add_div(p q:Rat):p+q=Rat.divInt (p.num * q.den+q.num * p.den) (p.den * q.den):=by
 rw[Rat.add_def',←Rat.divInt_ofNat,Int.natCast_mul]
theorem Rat.mul_div(p q:Rat):p * q=Rat.divInt (p.num * q.num) (p.den * q.den):=by
 rw[Rat.mul_def',←Rat.divInt_ofNat,Int.natCast_mul]
theorem xV{a b k m:Nat}(ha:a < 10 ^ k)(hb:b < 10 ^ m):a * b < 10 ^ (k+m):=by
 rw[Nat.pow_add];exact Nat.mul_lt_mul'' ha hb
theorem Rb.add{k m:Nat}{p q:Rat}(h:Rb k p)(h':Rb m q):Rb (k+m+1) (p+q):=by
 rw[Rat.add_div];have h1:=xV h.num h'.den;have h2:=xV h.den h'.num;have h3:=xV h.den h'.den;have h4:10 ^ (k+m+1)=10 ^ (k+m) * 10:=ZaM _ _;refine Rb.mk' J ?_ ?_
 ·have e1:(p.num * (q.den:Int)).natAbs=p.num.natAbs * q.den:=by rw[Int.natAbs_mul,Int.natAbs_natCast]
  have e2:(q.num * (p.den:Int)).natAbs=p.den * q.num.natAbs:=by rw[Int.natAbs_mul,Int.natAbs_natCast,ZaW]
  omega
 ·rw[Int.natAbs_mul,Int.natAbs_natCast,Int.natAbs_natCast];omega
theorem Rb.mul{k m:Nat}{p q:Rat}(h:Rb k p)(h':Rb m q):Rb (k+m) (p * q):=by
 rw[Rat.mul_div];have:=h.pos;refine Rb.mk' J ?_ ?_
 ·rw[Int.natAbs_mul];exact xV h.num h'.num
 ·rw[Int.natAbs_mul,Int.natAbs_natCast,Int.natAbs_natCast];exact xV h.den h'.den
theorem Rb.neg{k:Nat}{p:Rat}(h:Rb k p):Rb k (-p):=⟨by rw[Rat.neg_num,Int.natAbs_neg];exact h.num,by rw[Rat.neg_den];exact h.den,h.pos⟩
theorem Rb.inv{k:Nat}{p:Rat}(h:Rb k p):Rb k p⁻¹:=by
 rw[Rat.inv_def];exact Rb.mk' h.pos (by rw[Int.natAbs_natCast];exact h.den) h.num
theorem Rb.zero:Rb 1 0:=⟨O,O,O⟩
theorem Rb.nV{k:Nat}{q:Rat}(h:Rb k q):(Lib.itoa q.num).length≤k+1:=iP _ h.pos h.num
theorem Rb.qy{k:Nat}{q:Rat}(h:Rb k q):(Lib.itoa (q.den:Int)).length≤k+1:=iP _ h.pos (by rw[Int.natAbs_natCast];exact h.den)
abbrev U4(q:Rat):Ob:=Z4 (Lib.itoa q.num) (Lib.itoa (q.den:Int))
theorem a3W{p q:Rat}:U4 p=U4 q↔p=q:=by
 refine⟨fun h=>?_,fun h=>by rw[h]⟩;injection h with _ h1 h2
 exact Rat.ext (j6.yu h1) (by have:=j6.yu h2;omega)
theorem Jb(n:Int):U4 (n:Rat)=Z4 (Lib.itoa n) [49]:=by
 have:Lib.itoa 1=[49]:=vB;rw[U4,Rat.num_intCast,Rat.den_intCast];show Z4 _ (Lib.itoa 1)=_;rw[this]
def Val(o:Ob)(q:Rat):Prop:=(o.kind=1∧o=U4 q)∨(o.kind≠1∧q=0)
theorem Val.rat(q:Rat):Val (U4 q) q:=.inl ⟨rfl,rfl⟩
def Lh(n d:lw)(w:World)(e:Ending)(w':World):Prop:=∃(A:Option Addr) (c:Nat),e=.returned (G6 (Z4 n d) (.slice A 0 c))∧Below w.heap.size w w'
abbrev qc(q:Rat)(w:World)(e:Ending)(w':World):Prop:=Lh (Lib.itoa q.num) (Lib.itoa (q.den:Int)) w e w'
def dL(p q:Rat):Int:=if p < q then -1 else if q < p then 1 else 0
theorem Ip(p q:Rat):fF (p.num * q.den) (q.num * p.den)=dL p q:=by
 unfold fF dL;simp only[Rat.lt_iff]
theorem a3X{p q:Rat}(h:p.den=q.den):fF p.num q.num=dL p q:=by
 rw[←Ip,h];have hp:0 < (q.den:Int):=by have:=q.den_nz;omega
 unfold fF;simp only[Int.mul_lt_mul_right hp]
theorem a3Y(w:World):Calls prog 90 #[] w (Y9 K8 w):=by
 go_enter func90,ntmps90
 go_wp2_with fail
 refine (Ie _ o9 R8).mono ?_;rintro e w1 ⟨rfl,hb⟩;have HB:=WP (D5.via hb);obtain⟨u0,u1,u2,u3,u4,u5,u6,hu⟩:=HB.out.seven;obtain⟨f0,f1,f2,f3,f4,f5,f6⟩:=HB.out.dx;go_wp2;exact fQ Tryz.results90 rfl HB.out.eH rfl ⟨rfl,eO (via hb) (PP _) _ _ _ _ _ _ _⟩
theorem a9F(w:World):Calls prog 89 #[] w (Y9 tO w):=by
 go_enter func89,ntmps89
 go_wp2_with fail
 refine (Ie _ o9 [116]).mono ?_;rintro e w1 ⟨rfl,hb⟩;have HB:=WP (D5.via hb);obtain⟨u0,u1,u2,u3,u4,u5,u6,hu⟩:=HB.out.seven;obtain⟨f0,f1,f2,f3,f4,f5,f6⟩:=HB.out.dx;go_wp2;exact fQ Tryz.results89 rfl HB.out.eH rfl ⟨rfl,eO (via hb) (PP _) _ _ _ _ _ _ _⟩
theorem Pp(a:lw)(w:World):Calls prog 222 #[str a] w (Y9 (Z4 a [49]) w):=by
 go_enter func222,ntmps222
 go_wp2
 go_outline
 exact bodyPost_ret (v:=G6 (Z4 a [49]) (.slice none 0 0)) (by simp[results,Tryz.results222,go_sem]) rfl ⟨rfl,box _ _⟩
theorem Rm(n:Int)(w:World)(ht:R9 w)(h0:-9223372036854775808≤n)(h1:n≤9223372036854775807):Calls prog 197 #[.int .i64 n] w (Y9 (Z4 (Lib.itoa n) [49]) w):=by
 have HF:=WP (fun w' (hb:Below w.heap.size w w')=>a1K n w' (ht.below hb) h0 h1);clear h0 h1
 go_enter func197,ntmps197
 go_wp2_with fail
 refine (HF.out _ (box _ _)).mono ?_;rintro e w1 ⟨rfl,hb⟩
 go_wp2_with fail
 refine (Pp _ _).mono ?_;rintro e w2 ⟨rfl,hb2⟩;have HB:=WP ((D5.via hb).below hb2);obtain⟨u0,u1,u2,u3,u4,u5,u6,hu⟩:=HB.out.seven;obtain⟨f0,f1,f2,f3,f4,f5,f6⟩:=HB.out.dx;go_wp2;exact fQ Tryz.results197 rfl HB.out.eH rfl ⟨rfl,eO (L6 (via hb) hb2) (PP _) _ _ _ _ _ _ _⟩
theorem a1c(a b:lw)(w:World)(ha:a.length≤1100000)(hb:b.length≤1100000)(ht:R9 w):Calls prog 224 #[str a,str b] w (Y9 (Z4 (Lib.itoa (aj (j6.x9 a) (j6.x9 b))) (Lib.itoa (ak (j6.x9 a) (j6.x9 b)))) w):=by
 have HF:=WP (fun w' (hw:Below w.heap.size w w')=>Ic a b w' ha hb (ht.below hw));clear ha hb;generalize Lib.itoa (aj (j6.x9 a) (j6.x9 b))=n at *;generalize Lib.itoa (ak (j6.x9 a) (j6.x9 b))=d at *
 go_enter func224,ntmps224
 go_wp2_with fail
 refine (HF.out _ (box _ _)).mono ?_;rintro e w1 ⟨rfl,hb⟩;have HB:=WP (D5.via hb);obtain⟨u0,u1,u2,u3,u4,u5,u6,hu⟩:=HB.out.seven;obtain⟨f0,f1,f2,f3,f4,f5,f6⟩:=HB.out.dx;go_wp2;exact fQ Tryz.results224 rfl HB.out.eH rfl ⟨rfl,eO (via hb) (PP _) _ _ _ _ _ _ _⟩
theorem a6H{ok:Nat→Prop}{a d:Ob}{A A':Option Addr}{n n' c c':Nat}{w:World}{g:Nat}{t:TypeId}(hB:D5 w g t #[.int .i64 a.kind,str a.num,str a.den,str a.sp,str a.sn,str a.text,.slice A n c,.int .i64 d.kind,str d.num,str d.den,str d.sp,str d.sn,str d.text,.slice A' n' c'])
  (hg:ok g) (ha:Rd ok w (.slice A n c) (.row (a.pair.map Ob.enc))) (hd:Rd ok w (.slice A' n' c') (.row (d.pair.map Ob.enc))):Rd ok w (.slice (some ⟨g,0,none⟩) 2 2) (.row ([a,d].map Ob.enc)):=by
 refine Rd.mk (k:=7) rfl (PP _) hB.lt hg (fun i hi=>?_) (fun i j hi hj=>?_)
 ·rw[List.getElem_map,Ob.kz]
 ·simp only[List.getElem_map,Ob.kz]at hj;have hi':i < 2:=hi;rw[hB.cell];rcases i with _ | _ | i
  ·rcases j with _ | _ | _ | _ | _ | _ | _ | j
   all_goals first | omega | skip
   all_goals simp only[Zaq,Zay,Ob.lU,List.getElem_cons_succ]
   all_goals first | exact⟨_,rfl,.val _⟩ | exact⟨_,rfl,ha⟩
  ·rcases j with _ | _ | _ | _ | _ | _ | _ | j
   all_goals first | omega | skip
   all_goals simp only[Zaq,Zay,Ob.lU,List.getElem_cons_succ]
   all_goals first | exact⟨_,rfl,.val _⟩ | exact⟨_,rfl,hd⟩
  ·omega
theorem Rn(ok:Nat→Prop)(a d:Ob)(A A':Option Addr)(n n' c c':Nat)(w:World){b1 b2 b3:Obj}{t:TypeId}(ha:Rd ok w (.slice A n c) (.row (a.pair.map Ob.enc)))(hd:Rd ok w (.slice A' n' c') (.row (d.pair.map Ob.enc))) :
  kH ok (dW a d) w (.returned (G6 (dW a d) (.slice (some ⟨w.heap.size+1+1+1,0,none⟩) 2 2))) ((((w.alloc b1).alloc b2).alloc b3).alloc (.cells #[.int .i64 a.kind,str a.num,str a.den,str a.sp,str a.sn,str a.text,.slice A n c,.int .i64 d.kind,str d.num,str d.den,str d.sp,str d.sn,str d.text,.slice A' n' c'] t)):=by
 have hb:Below w.heap.size w (((w.alloc b1).alloc b2).alloc b3):=bH (bH (box _ _) _) _;refine⟨_,2,2,rfl,?_,bH hb _⟩;have hB:=D5.new (((w.alloc b1).alloc b2).alloc b3) t #[.int .i64 a.kind,str a.num,str a.den,str a.sp,str a.sn,str a.text,.slice A n c,.int .i64 d.kind,str d.num,str d.den,str d.sp,str d.sn,str d.text,.slice A' n' c'];have e:(((w.alloc b1).alloc b2).alloc b3).heap.size=w.heap.size+1+1+1:=I;rw[e]at hB;exact a6H hB (.inr J) ((ha.under (bH hb _)).mono fun _ h _=>.inl h) ((hd.under (bH hb _)).mono fun _ h _=>.inl h)
theorem a2V(ok:Nat→Prop)(a d:Ob)(A A':Option Addr)(n n' c c':Nat)(w:World)(ha:Rd ok w (.slice A n c) (.row (a.pair.map Ob.enc)))(hd:Rd ok w (.slice A' n' c') (.row (d.pair.map Ob.enc))) :
  Calls prog 191 #[G6 a (.slice A n c),G6 d (.slice A' n' c')] w (kH ok (dW a d) w):=by
 go_enter func191,ntmps191
 go_wp2;exact fQ Tryz.results191 rfl ((D5.Yr w _ _ _ _).alloc _) rfl (Rn ok a d A A' n n' c c' w ha hd)
theorem a2h(a b:lw)(w:World)(ha:a.length≤1100000)(hb:b.length≤1100000)(ht:R9 w):Calls prog 224 #[str a,str b] w (Y9 (U4 (Rat.divInt (j6.x9 a) (j6.x9 b))) w):=by
 have:=a1c a b w ha hb ht
 rwa [(vW _ _).1,(vW _ _).2]at this
theorem a3Z(o:Ob)(q:Rat)(hv:Val o q)(A:Option Addr)(n c:Nat)(hn:o.pair.length=n)(w:World)(ht:R9 w):Calls prog 221 #[G6 o (.slice A n c)] w (qc q w):=by
 rcases hv with⟨hk,rfl⟩ | ⟨hk,rfl⟩
 ·obtain rfl:n=0:=by rw[←hn];rfl
  clear hk hn;generalize Lib.itoa q.num=ln at *;generalize Lib.itoa (q.den:Int)=ld at *
  go_enter func221,ntmps221
  go_wp2;exact fQ Tryz.results221 rfl (D5.nT w _ _ _) rfl ⟨A,c,rfl,bH (box _ _) _⟩
 ·obtain⟨k,nm,d,p,s,t,l⟩:=o;dsimp only at hk;have hz:(k == 1)=false:=by rw[IR];exact hk
  clear hk hn;have HI:Hid (∀w':World,Below w.heap.size w w'→Calls prog 197 #[.int .i64 0] w' (Y9 (Z4 (Lib.itoa (0:Rat).num) (Lib.itoa ((0:Rat).den:Int))) w')):=fun w' hb=>by
   have:=Rm 0 w' (ht.below hb) J J
   rwa [←Jb]at this
  unfold qc;generalize Lib.itoa (0:Rat).num=ln at *;generalize Lib.itoa ((0:Rat).den:Int)=ld at *
  go_enter func221,ntmps221
  go_wp2_with fail
  refine (HI.out _ (bH (box _ _) _)).mono ?_;rintro e w1 ⟨rfl,hb⟩;have HB:=WP ((D5.nT w _ _ _).below hb);obtain⟨u0,u1,u2,u3,u4,u5,u6,hu⟩:=HB.out.seven;obtain⟨f0,f1,f2,f3,f4,f5,f6⟩:=HB.out.dx;go_wp2;exact fQ Tryz.results221 rfl HB.out.eH rfl ⟨none,0,rfl,eO (via (via hb)) (Nat.le_succ _) _ _ _ _ _ _ _⟩
theorem a2i(p q:Rat){k m:Nat}(bp:Rb k p)(bq:Rb m q)(hk:k≤10000)(hm:m≤10000)(A A':Option Addr)(n n' c c':Nat)(w:World)(ht:R9 w) :
  Calls prog 230 #[G6 (U4 p) (.slice A n c),G6 (U4 q) (.slice A' n' c')] w (lV (dL p q) w):=by
 have n1:Num (k+1) (Lib.itoa p.num) p.num:=⟨j6.M7 _,bp.nV⟩;have d1:Num (k+1) (Lib.itoa (p.den:Int)) p.den:=⟨j6.M7 _,bp.qy⟩;have n2:Num (m+1) (Lib.itoa q.num) q.num:=⟨j6.M7 _,bq.nV⟩;have d2:Num (m+1) (Lib.itoa (q.den:Int)) q.den:=⟨j6.M7 _,bq.qy⟩;by_cases hd:p.den=q.den
 ·have HC:=fun w'=>WP (Rl n1 n2 J J (a3X hd) w')
  have hd':Lib.itoa (p.den:Int)=Lib.itoa (q.den:Int):=by rw[hd]
  unfold U4;rw[hd'];clear n1 n2 d1 d2 hd hd';generalize Lib.itoa p.num=ln at *;generalize Lib.itoa q.num=rn at *;generalize Lib.itoa (q.den:Int)=rd at *
  go_enter func230,ntmps230
  go_wp2_with fail
  refine (HC _).out.mono ?_;rintro e w1 ⟨rfl,hb⟩;go_wp2;go_ret;exact⟨rfl,via (via hb)⟩
 ·have hd':(Lib.itoa (p.den:Int) == Lib.itoa (q.den:Int))=false:=by rw[IR];exact fun e=>hd (by have:=j6.yu e;omega)
  have NK:Hid (∀w':World,Below w.heap.size w w'→Calls prog 225 #[str (Lib.itoa p.num),str (Lib.itoa (q.den:Int))] w' (bD (Lib.itoa (p.num * q.den)) w')):=fun w' hb=>Yq n1 d2 J J w' (ht.below hb)
  have NL:Hid (∀w':World,Below w.heap.size w w'→Calls prog 225 #[str (Lib.itoa q.num),str (Lib.itoa (p.den:Int))] w' (bD (Lib.itoa (q.num * p.den)) w')):=fun w' hb=>Yq n2 d1 J J w' (ht.below hb)
  have HC:Hid (∀w':World,Calls prog 262 #[str (Lib.itoa (p.num * q.den)),str (Lib.itoa (q.num * p.den))] w' (lV (dL p q) w')):=fun w'=>Rl (n1.mul d2) (n2.mul d1) J J (Ip p q) w'
  clear n1 n2 d1 d2 hd;unfold U4;generalize Lib.itoa (p.num * q.den)=l1 at *;generalize Lib.itoa (q.num * p.den)=l2 at *;generalize Lib.itoa p.num=ln at *;generalize Lib.itoa q.num=rn at *;generalize Lib.itoa (p.den:Int)=ld at *;generalize Lib.itoa (q.den:Int)=rd at *
  go_enter func230,ntmps230
  go_wp2_with fail
  have kZ:=WP ((D5.new w 45 (U7 (Z4 ln ld) (.slice A n c))).alloc (.cells (U7 (Z4 rn rd) (.slice A' n' c')) 45));have qG:=WP (D5.nT w (.cells (U7 (Z4 ln ld) (.slice A n c)) 45) 45 (U7 (Z4 rn rd) (.slice A' n' c')));have b0:=(bH (box w (.cells (U7 (Z4 ln ld) (.slice A n c)) 45)) (.cells (U7 (Z4 rn rd) (.slice A' n' c')) 45)).drew;generalize (w.alloc (.cells (U7 (Z4 ln ld) (.slice A n c)) 45)).alloc (.cells (U7 (Z4 rn rd) (.slice A' n' c')) 45)=W at *;have X0:=WP kZ.out.drew;have Y0:=WP qG.out.drew;obtain⟨NM,xD,NN,NP,NQ,NR,NT,NU⟩:=kZ.out.seven;obtain⟨ys0,ZK,ZL,ZM,ZN,ZO,ZP,ZQ⟩:=qG.out.seven
  go_region_held3 (fun w'=>w'.cell? ⟨w.heap.size,1,none⟩=some (str ln)∧w'.cell? ⟨w.heap.size,2,none⟩=some (str ld)∧w'.cell? ⟨w.heap.size+1,1,none⟩=some (str rn)∧w'.cell? ⟨w.heap.size+1,2,none⟩=some (str rd)) (go_keep)
   (first | (go_at_call 225;((with_reducible refine (NK.out _ b0).mono ?_));rintro e v1 ⟨rfl,hb1⟩;have b1:=L6 b0 hb1;have X1:=WP (X0.out.below hb1);have Y1:=WP (Y0.out.below hb1);obtain⟨Li,Lj,Ll,Lm,Lr,Ls,Lt,Lu⟩:=X1.out.seven;obtain⟨WI,WJ,WK,WL,WM,WN,WO,WQ⟩:=Y1.out.seven) | (go_at_call 225;((with_reducible refine (NL.out _ b1).mono ?_));rintro e v2 ⟨rfl,hb2⟩;have b2:=L6 b1 hb2;have X2:=WP (X1.out.below hb2);have Y2:=WP (Y1.out.below hb2);obtain⟨El,Em,Eo,Ep,Er,Es,Et,Lv⟩:=X2.out.seven;obtain⟨Lx,LB,LC,LD,LF,LG,LH,WR⟩:=Y2.out.seven) | (go_at_call 262;((with_reducible refine (HC.out _).mono ?_));rintro e v3 ⟨rfl,hb3⟩;have b3:=L6 b2 hb3;have X3:=WP (X2.out.below hb3);have Y3:=WP (Y2.out.below hb3);obtain⟨WS,WT,WU,WV,WW,WX,WY,WZ⟩:=X3.out.seven;obtain⟨Xa,Xb,Xc,Xd,Xe,Xf,Xg,Xh⟩:=Y3.out.seven))
  go_wp2;go_ret;exact⟨rfl,b3⟩
theorem sZ(w:World){g g':Nat}(hg:g≠g')(i:Nat)(v0 v1 v2 v3 v4 v5 v6:Value) :
  (((((((w.setCell ⟨g',0,none⟩ v0).setCell ⟨g',1,none⟩ v1).setCell ⟨g',2,none⟩ v2).setCell ⟨g',3,none⟩ v3).setCell ⟨g',4,none⟩ v4).setCell ⟨g',5,none⟩ v5).setCell ⟨g',6,none⟩ v6).cell? ⟨g,i,none⟩=w.cell? ⟨g,i,none⟩:=by
 have e:∀(w:World) (j:Nat) (v:Value),(w.setCell ⟨g',j,none⟩ v).cell? ⟨g,i,none⟩=w.cell? ⟨g,i,none⟩:=fun w j v=>World.cell?_of_block (Below.heap_setCell w ⟨g',j,none⟩ v g hg)
 rw[e,e,e,e,e,e,e]
theorem Ro(p q:Rat):decide (dL p q < 0)=decide (p < q):=by
 unfold dL;split
 ·simp[*]
 ·split <;> simp[*]
theorem PR(o:Ob)(A:Option Addr)(n c:Nat)(w:World):Calls prog 45 #[G6 o (.slice A n c)] w (J7 (.bool (decide (o.kind=2∧o.sp=o9∧o.sn=R8))) w):=by
 obtain⟨k,nm,d,p,s,t,l⟩:=o;dsimp only;by_cases hk:k=2
 ·subst hk;by_cases h1:p=o9
  ·subst h1;by_cases h2:s=R8
   ·subst h2;rw[Pi ⟨rfl,rfl,rfl⟩]
    go_enter func45,ntmps45
    go_wp2;go_ret;exact⟨rfl,box _ _⟩
   ·rw[WF (fun h=>h2 h.2.2)];have hz:(s == R8)=false:=by rw[IR];exact h2
    clear h2
    go_enter func45,ntmps45
    go_wp2;go_ret;exact⟨rfl,box _ _⟩
  ·rw[WF (fun h=>h1 h.2.1)];have hz:(p == o9)=false:=by rw[IR];exact h1
   clear h1
   go_enter func45,ntmps45
   go_wp2;go_ret;exact⟨rfl,box _ _⟩
 ·rw[WF (fun h=>hk h.1)];have hz:(k == 2)=false:=by rw[IR];exact hk
  clear hk
  go_enter func45,ntmps45
  go_wp2;go_ret;exact⟨rfl,box _ _⟩
def sO:List Ob→Ob
 |[]=>K8
 |a::r=>dW a (sO r)
theorem Rd.sZ{ok:Nat→Prop}{w:World}{v:Value}{d:Dt}{g:Nat}(h:Rd ok w v d)(hg:∀b,ok b→b≠g)(v0 v1 v2 v3 v4 v5 v6:Value) :
  Rd ok (((((((w.setCell ⟨g,0,none⟩ v0).setCell ⟨g,1,none⟩ v1).setCell ⟨g,2,none⟩ v2).setCell ⟨g,3,none⟩ v3).setCell ⟨g,4,none⟩ v4).setCell ⟨g,5,none⟩ v5).setCell ⟨g,6,none⟩ v6) v d :=
 ((((((h.far (p:=⟨g,0,none⟩) hg _).far (p:=⟨g,1,none⟩) hg _).far (p:=⟨g,2,none⟩) hg _).far (p:=⟨g,3,none⟩) hg _).far (p:=⟨g,4,none⟩) hg _).far (p:=⟨g,5,none⟩) hg _).far (p:=⟨g,6,none⟩) hg _
theorem drop_cons{l:List Ob}{j:Nat}(h:j < l.length):sO (l.drop j)=dW l[j] (sO (l.drop (j+1))):=by
 rw[ZaC h];rfl
theorem a2W(a d:Ob)(A:Option Addr)(n c:Nat)(w:World):Calls prog 268 #[G6 (dW a d) (.slice A n c),.bool false,.bool false,.bool false] w (J7 (.bool true) w):=by
 go_enter func268,ntmps268
 go_wp2;go_ret;exact⟨rfl,box _ _⟩
theorem a4a(l r:lw)(A:Option Addr)(n c:Nat)(w:World):Calls prog 268 #[G6 (Z4 l r) (.slice A n c),.bool true,.bool false,.bool false] w (J7 (.bool true) w):=by
 go_enter func268,ntmps268
 go_wp2;go_ret;exact⟨rfl,box _ _⟩
theorem a4b(l r:lw)(A:Option Addr)(n c:Nat)(w:World):Calls prog 268 #[G6 (jc l r) (.slice A n c),.bool false,.bool true,.bool false] w (J7 (.bool true) w):=by
 go_enter func268,ntmps268
 go_wp2;go_ret;exact⟨rfl,box _ _⟩
theorem a4c(l:lw)(A:Option Addr)(n c:Nat)(w:World):Calls prog 268 #[G6 (kR l) (.slice A n c),.bool false,.bool false,.bool true] w (J7 (.bool true) w):=by
 go_enter func268,ntmps268
 go_wp2;go_ret;exact⟨rfl,box _ _⟩
theorem a2j(w:World)(ht:R9 w):Calls prog 269 #[str [49],str [49]] w (J7 (.bool true) w):=by
 have HV:Hid (∀w':World,Calls prog 273 #[str [49]] w' (lM (.bool true) w')):=fun w'=>by
  have:=lG [49] w' O
  rwa [show j6.O5 [49]=true by decide]at this
 have HD:Hid (∀w':World,Calls prog 259 #[str [49]] w' (lM (.int .i64 1) w')):=fun w'=>by
  have:=xU [49] w' O
  rwa [show ((j6.mag (norm [49])).length:Nat)=1 by decide +kernel]at this
 have HR:Hid (∀w':World,Below w.heap.size w w'→Calls prog 257 #[str [49],str [49]] w' (eu [49] [49] w')):=fun w' hb=>by
  have:=Ic [49] [49] w' O O (ht.below hb)
  rwa [show Lib.itoa (aj (j6.x9 [49]) (j6.x9 [49]))=[49] by decide +kernel,show Lib.itoa (ak (j6.x9 [49]) (j6.x9 [49]))=[49] by decide +kernel]at this
 go_enter func269,ntmps269
 go_wp2_with (first | (go_at_call 273;refine (HV.out _).mono ?_;rintro e w' ⟨rfl,rfl⟩) | (go_at_call 259;refine (HD.out _).mono ?_;rintro e w' ⟨rfl,rfl⟩) | (go_at_call 257;refine (HR.out _ (Below.refl _ _)).mono ?_;rintro e w1 ⟨rfl,hb1⟩))
 go_ret;exact⟨rfl,hb1⟩
theorem a2k(w:World):Calls prog 270 #[.agg #[str o9,str R8]] w (J7 (.bool true) w):=by
 go_enter func270,ntmps270
 go_wp2
 go_loopw [31] (fun ix wr=>∃i:Nat,i≤4∧ix=.int .i64 i∧Hid (D5 wr w.heap.size 42 #[str o9,str R8])∧Below w.heap.size w wr) (fun ix _=>4 - (intOf ix).toNat)
 case atStart=>exact⟨0,J,rfl,WP (D5.new w _ _),box _ _⟩
 case round =>
  obtain⟨i,hi,rfl,X,hb⟩:=hrel;obtain⟨x0,x1,_,_,hlt⟩:=X.out.two;have hc:i=0∨i=1∨i=2∨i=3∨i=4:=J;rcases hc with rfl | rfl | rfl | rfl | rfl
  ·go_wp2
   go_roundw
   case rel=>exact⟨1,J,by go_num,X,hb⟩
   case measure=>simp only[intOf];omega
  ·go_wp2
   go_roundw
   case rel=>exact⟨2,J,by go_num,X,hb⟩
   case measure=>simp only[intOf];omega
  ·go_wp2
   go_roundw
   case rel=>exact⟨3,J,by go_num,X,hb⟩
   case measure=>simp only[intOf];omega
  ·go_wp2
   go_roundw
   case rel=>exact⟨4,J,by go_num,X,hb⟩
   case measure=>simp only[intOf];omega
  ·go_wp2;go_ret;exact⟨rfl,hb⟩
inductive Good:Ob→Prop
 |one:Good (Z4 [49] [49])
 |nil:Good K8
 |txt:Good (kR [97])
 |cons {a d:Ob} (ha:Good a) (hd:Good d):Good (dW a d)
theorem a1N(ok:Nat→Prop):∀(N:Nat) (o:Ob),o.size≤N→Good o→∀(A:Option Addr) (n c:Nat) (w:World),R9 w→Rd ok w (.slice A n c) (.row (o.pair.map Ob.enc)) →
  Calls prog 238 #[G6 o (.slice A n c)] w (J7 (.bool true) w):=by
 intro N
 induction N with
 |zero=>intro o h;have:=Ob.size_pos o;omega
 |succ N ih =>
  intro o hN hG A n c w ht hP
  go_enter func238,ntmps238
  go_wp2
  go_loopg [2] o.size (fun gx lv wr=>∃(x:Ob) (A2:Option Addr) (n2 c2:Nat),lv=.bool false∧Hid (D5 wr w.heap.size 45 (U7 x (.slice A2 n2 c2)))∧Rd ok w (.slice A2 n2 c2) (.row (x.pair.map Ob.enc))∧x.size≤N+1∧Good x∧x.size≤gx∧Below w.heap.size w wr)
  case atStart=>exact⟨o,A,n,c,rfl,WP (D5.new w _ _),hP,hN,hG,PP _,box _ _⟩
  case round =>
   obtain⟨x,A2,n2,c2,rfl,X,hr,NJ,hg,hgx,hb⟩:=hrel;have hlen:=hr.len;rw[Cc]at hlen;obtain⟨x0,x1,x2,x3,x4,x5,x6,xl⟩:=X.out.seven;obtain⟨gH,gI,gJ,gK,gL,gM,gN⟩:=X.out.dx;cases hg with
   |one =>
    obtain rfl:n2=0:=hlen.symm
    go_wp2_with fail
    refine (a4a [49] [49] A2 0 c2 _).mono ?_;rintro e w1 ⟨rfl,hb1⟩;have X1:=WP (X.out.below hb1);clear x0 gH x1 gI x2 gJ x3 gK x4 gL x5 gM x6 gN;obtain⟨y0,y1,y2,y3,y4,y5,y6,yl⟩:=X1.out.seven
    go_wp2_with fail
    refine (a2j _ (ht.below (L6 hb hb1))).mono ?_;rintro e w2 ⟨rfl,hb2⟩;go_wp2;go_ret;exact⟨rfl,L6 (L6 hb hb1) hb2⟩
   |nil =>
    obtain rfl:n2=0:=hlen.symm
    go_wp2_with fail
    refine (a4b o9 R8 A2 0 c2 _).mono ?_;rintro e w1 ⟨rfl,hb1⟩;have X1:=WP (X.out.below hb1);clear x0 gH x1 gI x2 gJ x3 gK x4 gL x5 gM x6 gN;obtain⟨y0,y1,y2,y3,y4,y5,y6,yl⟩:=X1.out.seven
    go_wp2_with fail
    refine (a2k _).mono ?_;rintro e w2 ⟨rfl,hb2⟩;go_wp2;go_ret;exact⟨rfl,L6 (L6 hb hb1) hb2⟩
   |txt =>
    obtain rfl:n2=0:=hlen.symm
    go_wp2_with fail
    refine (a4c [97] A2 0 c2 _).mono ?_;rintro e w1 ⟨rfl,hb1⟩;have X1:=WP (X.out.below hb1);clear x0 gH x1 gI x2 gJ x3 gK x4 gL x5 gM x6 gN;obtain⟨y0,y1,y2,y3,y4,y5,y6,yl⟩:=X1.out.seven;go_wp2;go_ret;exact⟨rfl,L6 hb hb1⟩
   |cons ga gd =>
    rename_i a d;obtain rfl:n2=2:=hlen.symm;have hsa:=Ob.jD (o:=dW a d) (x:=a) I;have hsd:=Ob.jD (o:=dW a d) (x:=d) I;clear hlen
    go_wp2_with fail
    refine (a2W a d A2 2 c2 _).mono ?_;rintro e w1 ⟨rfl,hb1⟩;have b1:=L6 hb hb1;have X1:=WP (X.out.below hb1);clear x0 gH x1 gI x2 gJ x3 gK x4 gL x5 gM x6 gN;obtain⟨y0,y1,y2,y3,y4,y5,y6,yl⟩:=X1.out.seven;obtain⟨b,q,_,A3,n3,c3',rfl,hbl,_,a0,a1,a2,a3,a4,a5,a6,ha⟩:=hr.eG b1 (i:=0) J;simp only[Zay,Nat.zero_mul,Nat.add_zero]at a0 a1 a2 a3 a4 a5 a6 ha;have Ad:=kw hbl b1.size
    go_wp2_with fail
    refine (ih a J ga A3 n3 c3' _ (ht.below b1) (ha.under b1)).mono ?_;rintro e w2 ⟨rfl,hb2⟩;have b2:=L6 b1 hb2;have X2:=WP (X1.out.below hb2);clear y0 y1 y2 y3 y4 y5 y6 a0 a1 a2 a3 a4 a5 a6;obtain⟨z0,z1,z2,z3,z4,z5,z6,zl⟩:=X2.out.seven;obtain⟨zf0,zf1,zf2,zf3,zf4,zf5,zf6⟩:=X2.out.dx;obtain⟨b',q',_,A4,n4,Be,eA,_,_,d0,d1,d2,d3,d4,d5,d6,hd⟩:=hr.eG b2 (i:=1) J;injection eA with eA
    injection eA with eb eq
    subst eb eq;simp only[Zay,List.getElem_cons_succ,Nat.one_mul]at d0 d1 d2 d3 d4 d5 d6 hd;have MJ:=kw hbl b2.size;go_wp2
    go_roundg d.size
    case measure=>omega
    case rel=>exact⟨d,A4,n4,Be,rfl,WP X2.out.eH,hd,J,gd,PP _,eO b2 (PP _) _ _ _ _ _ _ _⟩
theorem jB(ok:Nat→Prop)(o:Ob)(hG:Good o)(hn:o.nodes≤3000)(A:Option Addr)(n c:Nat)(w:World)(ht:R9 w)(hP:Rd ok w (.slice A n c) (.row (o.pair.map Ob.enc))) :
  Calls prog 201 #[G6 o (.slice A n c)] w (J7 (.bool true) w):=by
 have HN:Hid (∀w':World,Below w.heap.size w w'→Calls prog 237 #[G6 o (.slice A n c)] w' (J7 (.int .i64 (o.nodes:Int)) w')):=fun w' hb=>by
  have:=PQ ok o A n c w' (hP.under hb)
  rwa [U8,Ch J]at this
 have HF:Hid (∀w':World,Below w.heap.size w w'→Calls prog 238 #[G6 o (.slice A n c)] w' (J7 (.bool true) w')):=fun w' hb=>a1N ok o.size o (PP _) hG A n c w' (ht.below hb) (hP.under hb)
 generalize o.nodes=k at *
 go_enter func201,ntmps201
 go_wp2_with fail
 refine (HN.out _ (box _ _)).mono ?_;rintro e w1 ⟨rfl,hb1⟩;have X1:=WP (D5.via hb1);obtain⟨y0,y1,y2,y3,y4,y5,y6,yl⟩:=X1.out.seven;have hk:(k:Int)≤3000:=J
 go_wp2_with fail
 refine (HF.out _ (via hb1)).mono ?_;rintro e w2 ⟨rfl,hb2⟩;go_wp2;go_ret;exact⟨rfl,L6 (via hb1) hb2⟩
structure b4P {α:Type} (f:α→α→Int):Prop where
 rng:∀a b,f a b=-1∨f a b=0∨f a b=1
 swap:∀a b,f b a=- f a b
 zero:∀a b,f a b=0↔a=b
 trans:∀a b c,f a b≤0→f b c≤0→f a c≤0
abbrev wQ:lw→lw→Int:=Lib.compareBytes
theorem CP:∀a b:lw,wQ a b=0↔a=b
 |[],[]=>⟨fun _=>rfl,fun _=>rfl⟩
 |[],_::_=>⟨(fun h=>by cases h),(fun h=>by cases h)⟩
 |_::_,[]=>⟨(fun h=>by cases h),(fun h=>by cases h)⟩
 |a::x,b::y=>by
  unfold wQ Lib.compareBytes;have:=CP x y;unfold wQ at this;by_cases h1:a < b
  ·rw[Ch h1];exact⟨(fun h=>by cases h),fun h=>by injection h with h _;subst h;rw[UInt8.lt_iff_toNat_lt]at h1;omega⟩
  ·by_cases h2:b < a
   ·rw[EQ h1,Ch h2];exact⟨(fun h=>by cases h),fun h=>by injection h with h _;subst h;exact absurd h2 h1⟩
   ·rw[EQ h1,EQ h2,this];have e:a=b:=by
     rw[UInt8.lt_iff_toNat_lt]at h1 h2;exact UInt8.toNat_inj.1 J
    subst e;exact⟨fun h=>by rw[h],fun h=>by injection h⟩
theorem a6I:b4P dL where
 rng a b:=by unfold dL;split <;> (try split) <;> simp
 swap a b:=by
  unfold dL;by_cases h1:a < b
  ·have h2:¬b < a:=by grind
   simp only[Ch h1,EQ h2];rfl
  ·by_cases h2:b < a
   ·simp only[EQ h1,Ch h2]
   ·simp only[EQ h1,EQ h2];rfl
 zero a b:=by
  unfold dL;by_cases h1:a < b
  ·simp only[Ch h1];exact⟨(fun h=>by cases h),fun h=>by grind⟩
  ·by_cases h2:b < a
   ·simp only[EQ h1,Ch h2];exact⟨(fun h=>by cases h),fun h=>by grind⟩
   ·simp only[EQ h1,EQ h2];exact⟨fun _=>by grind,fun _=>trivial⟩
 trans a b c:=by
  unfold dL;intro h1 h2;have e1:¬b < a:=fun h=>by
   have:¬a < b:=by grind
   rw[EQ this,Ch h]at h1;omega
  have e2:¬c < b:=fun h=>by
   have:¬b < c:=by grind
   rw[EQ this,Ch h]at h2;omega
  have e3:¬c < a:=by grind
  rw[EQ e3];split <;> decide
def wR(x y:Int):Int:=if x=0 then y else x
theorem Qy{x y:Int}:wR x y=0↔x=0∧y=0:=by
 unfold wR;split <;> omega
inductive Tr where
 |num (q:Rat)
 |txt (t:lw)
 |sym (p s:lw)
 |cons (a d:Tr)
namespace Tr
def ob:Tr→Ob
 |.num q=>U4 q
 |.txt t=>kR t
 |.sym p s=>jc p s
 |.cons a d=>dW a.ob d.ob
def size:Tr→Nat
 |.cons a d=>a.size+d.size+1
 |_=>1
theorem size_pos(t:Tr):1≤t.size:=by cases t <;> simp[size]
theorem DR:∀{a b:Tr},a.ob=b.ob→a=b
 |.num p,.num q,h=>by rw[a3W.1 h]
 |.txt s,.txt t,h=>by injection h with _ _ _ _ _ h;rw[h]
 |.sym p s,.sym p' s',h=>by injection h with _ _ _ h1 h2;rw[h1,h2]
 |.cons a d,.cons a' d',h=>by
  injection h with _ _ _ _ _ _ h
  injection h with h1 h2
  injection h2 with h2
  rw[DR h1,DR h2]
 |.num _,.txt _,h=>by injection h with h;cases h
 |.num _,.sym _ _,h=>by injection h with h;cases h
 |.num _,.cons _ _,h=>by injection h with h;cases h
 |.txt _,.num _,h=>by injection h with h;cases h
 |.txt _,.sym _ _,h=>by injection h with h;cases h
 |.txt _,.cons _ _,h=>by injection h with h;cases h
 |.sym _ _,.num _,h=>by injection h with h;cases h
 |.sym _ _,.txt _,h=>by injection h with h;cases h
 |.sym _ _,.cons _ _,h=>by injection h with h;cases h
 |.cons _ _,.num _,h=>by injection h with h;cases h
 |.cons _ _,.txt _,h=>by injection h with h;cases h
 |.cons _ _,.sym _ _,h=>by injection h with h;cases h
theorem vX{a b:Tr}:a.ob=b.ob↔a=b:=⟨DR,fun h=>by rw[h]⟩
def Ok(k:Nat):Tr→Prop
 |.num q=>Rb k q
 |.txt t=>t.length≤100000
 |.sym p s=>p.length≤100000∧s.length≤100000
 |.cons a d=>a.Ok k∧d.Ok k
theorem Ok.mono{k m:Nat}(hm:k≤m):∀{t:Tr},t.Ok k→t.Ok m
 |.num _,h=>Rb.mono h hm
 |.txt _,h=>h
 |.sym _ _,h=>h
 |.cons _ _,h=>⟨Ok.mono hm h.1,Ok.mono hm h.2⟩
theorem Ok.wf{k:Nat}(hk:k≤100000):∀{t:Tr},t.Ok k→t.ob.Wf
 |.num q,h=>by
  have h1:=Rb.nV h;have h2:=Rb.qy h;exact .mk (U4 q) (by show (-9223372036854775808:Int)≤1;omega) (by show (1:Int)≤_;omega) (by show (Lib.itoa q.num).length≤_;omega) (by show (Lib.itoa (q.den:Int)).length≤_;omega) (Ci _) (Ci _) (Ci _) (Ci _) (fun x hx=>by cases hx)
 |.txt t,h=>by
  have h':t.length≤100000:=h;exact .mk (kR t) (by show (-9223372036854775808:Int)≤3;omega) (by show (3:Int)≤_;omega) (Ci _) (Ci _) (Ci _) (Ci _) (by show t.length≤_;omega) (Ci _) (fun x hx=>by cases hx)
 |.sym p s,h=>by
  obtain⟨h1,h2⟩:=h;exact .mk (jc p s) (by show (-9223372036854775808:Int)≤2;omega) (by show (2:Int)≤_;omega) (Ci _) (Ci _) (by show p.length≤_;omega) (by show s.length≤_;omega) (Ci _) (Ci _) (fun x hx=>by cases hx)
 |.cons a d,h=>by
  have h1:=Ok.wf hk h.1;have h2:=Ok.wf hk h.2;exact .mk (dW a.ob d.ob) (by show (-9223372036854775808:Int)≤4;omega) (by show (4:Int)≤_;omega) (Ci _) (Ci _) (Ci _) (Ci _) (Ci _) (by show 2≤9223372036854775807;omega) (fun x hx=>by
   simp only[Za3,Zat,Zb4]at hx;rcases hx with rfl | rfl <;> assumption)
def val:Tr→Rat
 |.num q=>q
 |_=>0
theorem DT(t:Tr):Val t.ob t.val:=by
 cases t with
 |num q=>exact Val.rat q
 |txt t=>exact .inr ⟨by show (3:Int)≠1;decide,rfl⟩
 |sym p s=>exact .inr ⟨by show (2:Int)≠1;decide,rfl⟩
 |cons a d=>exact .inr ⟨by show (4:Int)≠1;decide,rfl⟩
theorem Ok.val{k:Nat}{t:Tr}(h:t.Ok k)(hk:1≤k):Rb k t.val:=by
 cases t with
 |num q=>exact h
 |_=>exact Rb.zero.mono hk
def rank:Tr→Int
 |.num _=>0
 |.txt _=>1
 |.sym _ _=>2
 |.cons _ _=>3
def cmp:Tr→Tr→Int
 |.num p,.num q=>dL p q
 |.txt s,.txt t=>wQ s t
 |.sym p s,.sym p' s'=>wR (wQ s s') (wQ p p')
 |.cons a d,.cons a' d'=>wR (cmp a a') (cmp d d')
 |x,y=>if x.rank < y.rank then -1 else 1
theorem Jc:∀a b:Tr,cmp a b=0↔a=b
 |.num p,.num q=>(a6I.zero p q).trans ⟨fun h=>by rw[h],fun h=>by injection h⟩
 |.txt s,.txt t=>(CP s t).trans ⟨fun h=>by rw[h],fun h=>by injection h⟩
 |.sym p s,.sym p' s'=>by
  show wR _ _=0↔_;rw[Qy,CP,CP];exact⟨fun h=>by rw[h.1,h.2],fun h=>by injection h with h1 h2;exact⟨h2,h1⟩⟩
 |.cons a d,.cons a' d'=>by
  show wR _ _=0↔_;rw[Qy,Jc a a',Jc d d'];exact⟨fun h=>by rw[h.1,h.2],fun h=>by injection h with h1 h2;exact⟨h1,h2⟩⟩
 |.num _,.txt _=>⟨(fun h=>by cases h),(fun h=>by cases h)⟩
 |.num _,.sym _ _=>⟨(fun h=>by cases h),(fun h=>by cases h)⟩
 |.num _,.cons _ _=>⟨(fun h=>by cases h),(fun h=>by cases h)⟩
 |.txt _,.num _=>⟨(fun h=>by cases h),(fun h=>by cases h)⟩
 |.txt _,.sym _ _=>⟨(fun h=>by cases h),(fun h=>by cases h)⟩
 |.txt _,.cons _ _=>⟨(fun h=>by cases h),(fun h=>by cases h)⟩
 |.sym _ _,.num _=>⟨(fun h=>by cases h),(fun h=>by cases h)⟩
 |.sym _ _,.txt _=>⟨(fun h=>by cases h),(fun h=>by cases h)⟩
 |.sym _ _,.cons _ _=>⟨(fun h=>by cases h),(fun h=>by cases h)⟩
 |.cons _ _,.num _=>⟨(fun h=>by cases h),(fun h=>by cases h)⟩
 |.cons _ _,.txt _=>⟨(fun h=>by cases h),(fun h=>by cases h)⟩
 |.cons _ _,.sym _ _=>⟨(fun h=>by cases h),(fun h=>by cases h)⟩
def list:List Tr→Tr
 |[]=>.sym o9 R8
 |a::r=>.cons a (list r)
theorem Tt:∀l:List Tr,(list l).ob=sO (l.map ob)
 |[]=>rfl
 |a::r=>by show dW a.ob (list r).ob=_;rw[Tt r];rfl
end Tr
def ik(p:Prop)(w:World)(e:Ending)(w':World):Prop:=∃b:Bool,e=.returned (.bool b)∧(b=true↔p)∧Below w.heap.size w w'
theorem fw{p:Prop}(h:¬p):(false=true)↔p:=⟨(fun e=>by cases e),fun e=>absurd e h⟩
theorem Tu{p:Prop}(h:p):(true=true)↔p:=⟨fun _=>h,fun _=>rfl⟩
theorem vX(k:Int)(n d p s t:lw)(l m:List Ob):l=m↔(⟨k,n,d,p,s,t,l⟩:Ob)=⟨k,n,d,p,s,t,m⟩:=⟨fun e=>by rw[e],fun e=>by injection e⟩
theorem a2X{l m:List Ob}{n:Nat}(hl:l.length=n)(hm:m.length=n)(h0:0 < n)(h:∀j (h1:j < l.length) (h2:j < m.length),j < n - 1→l[j]=m[j]):(l[n - 1]'J=m[n - 1]'J)↔l=m:=by
 constructor
 ·intro e;apply List.ext_getElem J;intro i h1 h2;by_cases hi:i < n - 1
  ·exact h i h1 h2 hi
  ·obtain rfl:i=n - 1:=J;exact e
 ·intro e;subst e;rfl
theorem PS(ok ok':Nat→Prop):∀(N:Nat) (a b:Ob),a.size≤N→a.Wf→∀(A A':Option Addr) (n n' c c':Nat) (w:World),Rd ok w (.slice A n c) (.row (a.pair.map Ob.enc))→Rd ok' w (.slice A' n' c') (.row (b.pair.map Ob.enc)) →
  Calls prog 104 #[G6 a (.slice A n c),G6 b (.slice A' n' c')] w (ik (a=b) w):=by
 intro N
 induction N with
 |zero=>intro a b h;have:=Ob.size_pos a;omega
 |succ N ih =>
  intro a b hN hW A A' n n' c c' w hA hB
  go_enter func104,ntmps104
  go_wp2
  go_loopg [5] a.size (fun gx _ wr=>∃(x y:Ob) (A2 A3:Option Addr) (n2 n3 c2 c3:Nat),Hid (D5 wr w.heap.size 45 (U7 x (.slice A2 n2 c2)))∧Hid (D5 wr (w.heap.size+1) 45 (U7 y (.slice A3 n3 c3)))∧Rd ok w (.slice A2 n2 c2) (.row (x.pair.map Ob.enc))∧Rd ok' w (.slice A3 n3 c3) (.row (y.pair.map Ob.enc))∧x.size≤N+1∧x.Wf∧Hid (x=y↔a=b)∧x.size≤gx∧Below w.heap.size w wr)
  case atStart=>exact⟨a,b,A,A',n,n',c,c',WP ((D5.new w _ _).alloc _),WP (D5.nT w _ _ _),hA,hB,hN,hW,WP Iff.rfl,PP _,bH (box _ _) _⟩
  case round =>
   obtain⟨⟨xk,xn,xd,xp,xs,xt,xl⟩,⟨yk,yn,yd,yp,ys,yt,yl⟩,A2,A3,n2,n3,c2,c3,HX,HY,hx,hy,NJ,NV,HI,hg,hb⟩:=hrel;obtain⟨u0,u1,u2,u3,u4,u5,u6,hu⟩:=HX.out.seven;obtain⟨v0,v1,v2,v3,v4,v5,v6,hv⟩:=HY.out.seven;have hxl:=hx.len;have hyl:=hy.len;rw[Cc]at hxl hyl;have hw1:=NV.len;dsimp only at hxl hyl hw1 u0 u1 u2 u3 u4 u5 u6 v0 v1 v2 v3 v4 v5 v6;have HN:=fun (h:¬((Ob.mk xk xn xd xp xs xt xl)=(Ob.mk yk yn yd yp ys yt yl)))=>WP (fun e=>h (HI.out.2 e))
   by_cases hk:xk=yk
   case neg =>
    have hz:(xk != yk)=true:=by rw[bne_iff_ne];exact hk
    have HF:=HN (fun e=>hk (by injection e));clear HN hk hxl hyl;go_wp2;go_ret;exact⟨false,rfl,fw HF.out,hb⟩
   subst hk;by_cases hn:xn=yn
   case neg =>
    have hz:(xn == yn)=false:=by rw[IR];exact hn
    have HF:=HN (fun e=>hn (by injection e));clear HN hn hxl hyl;go_wp2;go_ret;exact⟨false,rfl,fw HF.out,hb⟩
   subst hn;by_cases hd:xd=yd
   case neg =>
    have hz:(xd == yd)=false:=by rw[IR];exact hd
    have HF:=HN (fun e=>hd (by injection e));clear HN hd hxl hyl;go_wp2;go_ret;exact⟨false,rfl,fw HF.out,hb⟩
   subst hd;by_cases hp:xp=yp
   case neg =>
    have hz:(xp == yp)=false:=by rw[IR];exact hp
    have HF:=HN (fun e=>hp (by injection e));clear HN hp hxl hyl;go_wp2;go_ret;exact⟨false,rfl,fw HF.out,hb⟩
   subst hp;by_cases hs:xs=ys
   case neg =>
    have hz:(xs == ys)=false:=by rw[IR];exact hs
    have HF:=HN (fun e=>hs (by injection e));clear HN hs hxl hyl;go_wp2;go_ret;exact⟨false,rfl,fw HF.out,hb⟩
   subst hs;by_cases ht:xt=yt
   case neg =>
    have hz:(xt == yt)=false:=by rw[IR];exact ht
    have HF:=HN (fun e=>ht (by injection e));clear HN ht hxl hyl;go_wp2;go_ret;exact⟨false,rfl,fw HF.out,hb⟩
   subst ht;by_cases hl:n2=n3
   case neg =>
    have hz:((n2:Int) != (n3:Int))=true:=by rw[bne_iff_ne];omega
    have HF:=HN (fun e=>hl (by injection e with _ _ _ _ _ _ e;rw[←hxl,←hyl,e]));clear HN hl hxl hyl;go_wp2;go_ret;exact⟨false,rfl,fw HF.out,hb⟩
   subst hl;clear HN;have FK:=WP hxl;have FL:=WP hyl;rw[hxl]at hw1;clear hxl hyl;by_cases h0:n2=0
   ·subst h0;have HT:Hid (a=b):=HI.out.1 (by rw[q9 FK.out,q9 FL.out]);go_wp2;go_ret;exact⟨true,rfl,Tu HT.out,hb⟩
   ·have hz0:((n2:Int) == 0)=false:=by rw[IR];omega
    go_wp2;clear u0 u1 u2 u3 u4 u5 u6 hu v0 v1 v2 v3 v4 v5 v6 hv
    go_loopw [56] (fun ix wq=>∃i:Nat,i≤n2 - 1∧ix=.int .i64 i∧Hid (∀j (h1:j < xl.length) (h2:j < yl.length),j < i→xl[j]=yl[j])∧Hid (D5 wq w.heap.size 45 (U7 ⟨xk,xn,xd,xp,xs,xt,xl⟩ (.slice A2 n2 c2)))∧Hid (D5 wq (w.heap.size+1) 45 (U7 ⟨xk,xn,xd,xp,xs,xt,yl⟩ (.slice A3 n2 c3)))∧Below w.heap.size w wq) (fun ix _=>n2 - 1 - (intOf ix).toNat)
    case atStart=>exact⟨0,Ci _,rfl,WP (fun j _ _ h=>absurd h J),HX,HY,hb⟩
    case round =>
     clear HX HY hb;obtain⟨i,hi,rfl,HJ,HX,HY,hb⟩:=hrel;obtain⟨u0,u1,u2,u3,u4,u5,u6,hu⟩:=HX.out.seven;obtain⟨v0,v1,v2,v3,v4,v5,v6,hv⟩:=HY.out.seven;obtain⟨f0,f1,f2,f3,f4,f5,f6⟩:=HX.out.dx;obtain⟨g0,g1,g2,g3,g4,g5,g6⟩:=HY.out.dx;by_cases hin:i < n2 - 1
     ·obtain⟨p1,q1,hil,A4,n4,c4,rfl,hp1,_,a0,a1,a2,a3,a4,a5,a6,ha⟩:=hx.eG hb (i:=i) J;obtain⟨p2,q2,Yt,A5,n5,c5,rfl,hp2,_,b0,b1,b2,b3,b4,b5,b6,hb'⟩:=hy.eG hb (i:=i) J;have hp1':=kw hp1 hb.size;have Yu:=kw hp2 hb.size;have hsz:=Ob.jD (o:=⟨xk,xn,xd,xp,xs,xt,xl⟩) (x:=xl[i]) (Zaj hil);have hwf:=NV.kids (x:=xl[i]) (Zaj hil);have HC:Hid (∀wd:World,Below w.heap.size w wd→Calls prog 104 #[G6 xl[i] (.slice A4 n4 c4),G6 yl[i] (.slice A5 n5 c5)] wd (ik (xl[i]=yl[i]) wd)):=fun wd hd=>ih xl[i] yl[i] J hwf A4 A5 n4 n5 c4 c5 wd (ha.under hd) (hb'.under hd)
      have hi1:(0:Int)≤(i:Int):=J;have hi2:(i:Int) < n2:=J;have hi3:i < n2:=J;have hbd:=hb.drew
      go_upto_region 9 with (fail)
      go_still_tail 10,(by kernel_rfl)
      go_wp2_with fail
      refine (HC.out _ hbd).mono ?_;rintro e w1 ⟨bb,rfl,hbb,hb1⟩;have fZ:=L6 hbd hb1;cases bb with
      |false =>
       have HF:Hid (¬a=b):=fun e=>by
        have e2:=HI.out.2 e;injection e2 with _ _ _ _ _ _ e2
        have:=hbb.2 (by subst e2;rfl);cases this
       clear hbb;go_wp2;go_ret;exact⟨false,rfl,fw HF.out,fZ⟩
      |true =>
       have HE:=WP (hbb.1 rfl);clear hbb;go_wp2
       go_roundw
       case rel=>exact⟨i+1,J,by go_num,WP (fun j h1 h2 h=>by
        rcases Za5 j i with h3 | h3
        ·exact HJ.out j h1 h2 h3
        ·obtain rfl:j=i:=J;exact HE.out),WP (HX.out.drew.below hb1),WP (HY.out.drew.below hb1),fZ⟩
       case measure=>simp only[intOf];omega
     ·obtain rfl:i=n2 - 1:=J;obtain⟨p1,q1,hil,A4,n4,c4,rfl,hp1,_,a0,a1,a2,a3,a4,a5,a6,ha⟩:=hx.eG hb (i:=n2 - 1) J;obtain⟨p2,q2,Yt,A5,n5,c5,rfl,hp2,_,b0,b1,b2,b3,b4,b5,b6,hb'⟩:=hy.eG hb (i:=n2 - 1) J;have hp1':=kw hp1 hb.size;have Yu:=kw hp2 hb.size;have hsz:=Ob.jD (o:=⟨xk,xn,xd,xp,xs,xt,xl⟩) (x:=xl[n2 - 1]) (Zaj hil);have hwf:=NV.kids (x:=xl[n2 - 1]) (Zaj hil);have HL:=WP (a2X FK.out FL.out J HJ.out);have hi1:(0:Int)≤(n2:Int) - 1:=J;have hi2:(n2:Int) - 1 < n2:=J;have hi3:((n2:Int) - 1).toNat=n2 - 1:=J;have hbd:=hb.drew
      go_upto_region 12 with (fail)
      have w1:IntKind.i64.wrap ((n2:Int) - 1)=(n2:Int) - 1:=IntWalk.i64_in _ J
      go_region
      clear w1;go_wp2
      go_roundg (xl[n2 - 1].size)
      case measure=>omega
      case rel =>
       exact⟨xl[n2 - 1],yl[n2 - 1],A4,A5,n4,n5,c4,c5,WP ((HX.out.eH.sZ J _ _ _ _ _ _ _).drew),WP ((HY.out.sZ J _ _ _ _ _ _ _).eH.drew),ha,hb',J,hwf,WP (HL.out.trans ((vX xk xn xd xp xs xt xl yl).trans HI.out)),PP _,(eO (eO hb (PP _) _ _ _ _ _ _ _) (Nat.le_succ _) _ _ _ _ _ _ _).drew⟩
def sn(q:Rat):lw:=Lib.itoa q.num
def sd(q:Rat):lw:=Lib.itoa (q.den:Int)
abbrev nv(q:Rat)(A:Option Addr)(c:Nat):Value:=G6 (Z4 (sn q) (sd q)) (.slice A 0 c)
end Go.Proofs.YtbpmpdadppamgaaGreatDoor
