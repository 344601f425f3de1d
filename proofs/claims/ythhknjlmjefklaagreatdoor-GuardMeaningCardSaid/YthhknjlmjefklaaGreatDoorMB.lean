/- Quotient rounded down, and remainder: plain arithmetic. -/
import Derived.Test.YthhknjlmjefklaaGreatDoorMA
import Derived.Deep.LoopGhost
import Derived.Deep.RegionHeld3
import Derived.Deep.RegionLaw
import Derived.Deep.DeepCutAuto
import Derived.StillTailTactics
import Derived.Deep.QuietTactic
import Derived.BigQuiet
import Derived.Lib.Bytealg
import Derived.BigRegion
import Derived.IntWalk
namespace Go.Proofs.YthhknjlmjefklaaGreatDoor
def qd (x y:Int):Int:=if y=0 then 0 else if 0 < y then x / y else (-x) / (-y)
def rm (x y:Int):Int:=x - qd x y * y
theorem qd_zero (x:Int):qd x 0=0:=rfl
theorem rm_zero (x:Int):rm x 0=x:=by simp [rm]
theorem ediv_of {x Y q r:Int} (hY:0 < Y) (h:x=q * Y+r) (h0:0≤r) (h1:r < Y):x / Y=q :=
 ((Int.ediv_emod_unique hY).2 ⟨by rw [h,Int.mul_comm];omega,h0,h1⟩).1
theorem qd_of_pos {x y q r:Int} (hy:0 < y) (h:x=q * y+r) (h0:0≤r) (h1:r < y):qd x y=q∧rm x y=r:=by
 have e:qd x y=q:=by unfold qd;rw [if_neg (by omega),if_pos hy];exact ediv_of hy h h0 h1
 exact ⟨e,by unfold rm;rw [e];omega⟩
theorem qd_of_neg {x y q r:Int} (hy:y < 0) (h:x=q * y+r) (h0:r≤0) (h1:y < r):qd x y=q∧rm x y=r:=by
 have e:qd x y=q:=by
  unfold qd;rw [if_neg (by omega),if_neg (by omega)]
  exact ediv_of (by omega) (by rw [h,Int.mul_neg];omega:-x=q * (-y)+(-r)) (by omega) (by omega)
 exact ⟨e,by unfold rm;rw [e];omega⟩
theorem qd_same {x y:Int} {s:Bool} (hy:y≠0) (hx:decide (x < 0)=s) (hs:decide (y < 0)=s) :
  ((x.natAbs / y.natAbs:Nat):Int)=qd x y∧(if s then -((x.natAbs % y.natAbs:Nat):Int) else ((x.natAbs % y.natAbs:Nat):Int))=rm x y:=by
 have h1:=Nat.div_add_mod x.natAbs y.natAbs
 have h2:=Nat.mod_lt x.natAbs (show 0 < y.natAbs by omega)
 generalize x.natAbs / y.natAbs=Q at *
 generalize x.natAbs % y.natAbs=R at *
 have h3:(y.natAbs:Int) * Q+R=x.natAbs:=by rw [← h1];simp
 cases s with
 | true =>
  have hx':x < 0:=of_decide_eq_true hx
  have hy':y < 0:=of_decide_eq_true hs
  have e:x=(Q:Int) * y+-(R:Int):=by
   have:(y.natAbs:Int)=-y:=by omega
   rw [this,Int.neg_mul,Int.mul_comm] at h3
   omega
  obtain ⟨a,b⟩:=qd_of_neg hy' e (by omega) (by omega)
  exact ⟨a.symm,by simp;omega⟩
 | false =>
  have hx':¬ x < 0:=of_decide_eq_false hx
  have hy':¬ y < 0:=of_decide_eq_false hs
  have e:x=(Q:Int) * y+(R:Int):=by
   have:(y.natAbs:Int)=y:=by omega
   rw [this,Int.mul_comm] at h3
   omega
  obtain ⟨a,b⟩:=qd_of_pos (by omega) e (by omega) (by omega)
  exact ⟨a.symm,by simp;omega⟩
theorem qd_diff0 {x y:Int} {s:Bool} (hy:y≠0) (hx:decide (x < 0)=!s) (hs:decide (y < 0)=s) (h0:x.natAbs % y.natAbs=0) :
  -((x.natAbs / y.natAbs:Nat):Int)=qd x y∧rm x y=0:=by
 have h1:=Nat.div_add_mod x.natAbs y.natAbs
 rw [h0] at h1
 generalize x.natAbs / y.natAbs=Q at *
 have h3:(y.natAbs:Int) * Q=x.natAbs:=by rw [← h1];simp
 cases s with
 | true =>
  have hx':¬ x < 0:=of_decide_eq_false hx
  have hy':y < 0:=of_decide_eq_true hs
  have e:x=-(Q:Int) * y+0:=by
   have:(y.natAbs:Int)=-y:=by omega
   rw [this,Int.neg_mul,Int.mul_comm] at h3
   rw [Int.neg_mul];omega
  obtain ⟨a,b⟩:=qd_of_neg hy' e (by omega) (by omega)
  exact ⟨a.symm,b⟩
 | false =>
  have hx':x < 0:=of_decide_eq_true hx
  have hy':¬ y < 0:=of_decide_eq_false hs
  have e:x=-(Q:Int) * y+0:=by
   have:(y.natAbs:Int)=y:=by omega
   rw [this,Int.mul_comm] at h3
   rw [Int.neg_mul];omega
  obtain ⟨a,b⟩:=qd_of_pos (by omega) e (by omega) (by omega)
  exact ⟨a.symm,b⟩
theorem qd_diff {x y:Int} {s:Bool} (hy:y≠0) (hx:decide (x < 0)=!s) (hs:decide (y < 0)=s) (h0:x.natAbs % y.natAbs≠0) :
  -((x.natAbs / y.natAbs+1:Nat):Int)=qd x y∧(if s then -((y.natAbs - x.natAbs % y.natAbs:Nat):Int) else ((y.natAbs - x.natAbs % y.natAbs:Nat):Int))=rm x y:=by
 have h1:=Nat.div_add_mod x.natAbs y.natAbs
 have h2:=Nat.mod_lt x.natAbs (show 0 < y.natAbs by omega)
 generalize x.natAbs / y.natAbs=Q at *
 generalize x.natAbs % y.natAbs=R at *
 have h3:(y.natAbs:Int) * Q+R=x.natAbs:=by rw [← h1];simp
 cases s with
 | true =>
  have hx':¬ x < 0:=of_decide_eq_false hx
  have hy':y < 0:=of_decide_eq_true hs
  have e:x=-((Q:Int)+1) * y+(y+R):=by
   have:(y.natAbs:Int)=-y:=by omega
   rw [this,Int.neg_mul,Int.mul_comm] at h3
   rw [Int.neg_mul,Int.add_mul];omega
  obtain ⟨a,b⟩:=qd_of_neg hy' e (by omega) (by omega)
  exact ⟨by rw [a];omega,by simp;omega⟩
 | false =>
  have hx':x < 0:=of_decide_eq_true hx
  have hy':¬ y < 0:=of_decide_eq_false hs
  have e:x=-((Q:Int)+1) * y+(y - R):=by
   have:(y.natAbs:Int)=y:=by omega
   rw [this,Int.mul_comm] at h3
   rw [Int.neg_mul,Int.add_mul];omega
  obtain ⟨a,b⟩:=qd_of_pos (by omega) e (by omega) (by omega)
  exact ⟨by rw [a];omega,by simp;omega⟩
end Go.Proofs.YthhknjlmjefklaaGreatDoor
namespace Go.Proofs.YthhknjlmjefklaaGreatDoor
open Go.RowKit
def RetStr2 (a b:List UInt8) (w:World) (e:Ending) (w':World):Prop:=e=.returned (.tuple #[.string ⟨a.toArray⟩,.string ⟨b.toArray⟩])∧Below w.heap.size w w'
end Go.Proofs.YthhknjlmjefklaaGreatDoor
namespace Go.Proofs.YthhknjlmjefklaaGreatDoor
open Go.RowKit
end Go.Proofs.YthhknjlmjefklaaGreatDoor
namespace Go.Proofs.YthhknjlmjefklaaGreatDoor
open Go.RowKit
end Go.Proofs.YthhknjlmjefklaaGreatDoor
namespace Go.Proofs.YthhknjlmjefklaaGreatDoor
open Go.RowKit
end Go.Proofs.YthhknjlmjefklaaGreatDoor
namespace Go.Proofs.YthhknjlmjefklaaGreatDoor
open Go.RowKit
def rdX (x y:Int):Int:=if y < 0 then -x else x
def rdY (y:Int):Int:=if y < 0 then -y else y
def rdN (x y:Int):Int:=if y=0 then 0 else qd (rdX x y) (Nat.gcd x.natAbs y.natAbs:Nat)
def rdD (x y:Int):Int:=if y=0 then 1 else qd (rdY y) (Nat.gcd x.natAbs y.natAbs:Nat)
theorem itoa_one:Lib.itoa 1=[49]:=by decide +kernel
theorem itoa_eq_one {v:Int}:(Lib.itoa v == [49])=decide (v=1):=by
 rw [← itoa_one]
 by_cases h:v=1
 ·subst h;simp
 ·rw [decide_eq_false h,beq_eq_false_iff_ne]
  exact fun e=>h (Dec.itoa_inj e)
theorem gcd_len {K:Nat} {x y:Int} (hK:1≤K) (hx:x.natAbs < 10 ^ K) (hy:y.natAbs < 10 ^ K):(Lib.itoa (Nat.gcd x.natAbs y.natAbs:Nat)).length≤K+1:=by
 have h:Nat.gcd x.natAbs y.natAbs < 10 ^ K:=by
  rcases Nat.eq_zero_or_pos x.natAbs with h1 | h1
  ·rw [h1,Nat.gcd_zero_left];exact hy
  ·exact Nat.lt_of_le_of_lt (Nat.gcd_le_left _ h1) hx
 exact itoa_length_any ((Nat.gcd x.natAbs y.natAbs:Nat):Int) hK (by rw [Int.natAbs_natCast];exact h)
end Go.Proofs.YthhknjlmjefklaaGreatDoor
namespace Go.Proofs.YthhknjlmjefklaaGreatDoor
open Go.RowKit
structure Num (k:Nat) (l:List UInt8) (X:Int):Prop where
 val:Dec.dval l=X
 len:l.length≤k
theorem Num.abs {k:Nat} {l:List UInt8} {X:Int} (h:Num k l X):X.natAbs < 10 ^ k:=by rw [← h.val];exact dval_lt18 h.len
theorem Num.mul {k m:Nat} {l r:List UInt8} {X Y:Int} (h:Num k l X) (h':Num m r Y):Num (k+m+2) (Lib.itoa (X * Y)) (X * Y):=by
 refine ⟨Dec.dval_itoa _,itoa_length_any _ (k:=k+m+1) (by omega) ?_⟩
 rw [Int.natAbs_mul,Nat.pow_succ,Nat.pow_add]
 have h1:=h.abs
 have h2:=h'.abs
 have:X.natAbs * Y.natAbs≤10 ^ k * 10 ^ m:=Nat.mul_le_mul (by omega) (by omega)
 have:0 < 10 ^ k * 10 ^ m:=Nat.mul_pos (Nat.pow_pos (by omega)) (Nat.pow_pos (by omega))
 omega
end Go.Proofs.YthhknjlmjefklaaGreatDoor
namespace Go.Proofs.YthhknjlmjefklaaGreatDoor
open Go.RowKit
theorem norm_mag_len (l:List UInt8):(norm l).length≤(Dec.mag (norm l)).length+1:=by
 cases h:Dec.neg (norm l) with
 | true=>have:=congrArg List.length (Dec.cons_of_neg h);simp only [List.length_cons] at this;omega
 | false=>rw [Dec.mag_of_not h];omega
def RetSmall (n:Int) (b:Bool) (w:World) (e:Ending) (w':World):Prop:=e=.returned (.tuple #[.int .i64 n,.bool b])∧Below w.heap.size w w'
end Go.Proofs.YthhknjlmjefklaaGreatDoor
namespace Go.Proofs.YthhknjlmjefklaaGreatDoor
open Go.RowKit
structure Ob where
 kind:Int
 num:List UInt8
 den:List UInt8
 sp:List UInt8
 sn:List UInt8
 text:List UInt8
 pair:List Ob
namespace Ob
mutual
def enc:Ob→List Dt
 | ⟨k,n,d,p,s,t,l⟩=>[.val (.int .i64 k),.val (str n),.val (str d),.val (str p),.val (str s),.val (str t),.row (encL l)]
def encL:List Ob→List (List Dt)
 | []=>[]
 | o::r=>enc o::encL r
end
mutual
def size:Ob→Nat
 | ⟨_,_,_,_,_,_,l⟩=>sizeL l+1
def sizeL:List Ob→Nat
 | []=>0
 | o::r=>size o+sizeL r
end
theorem encL_map (l:List Ob):encL l=l.map enc:=by
 induction l with
 | nil=>rfl
 | cons o r ih=>rw [encL,ih];rfl
theorem enc_eq (o:Ob):o.enc=[.val (.int .i64 o.kind),.val (str o.num),.val (str o.den),.val (str o.sp),.val (str o.sn),.val (str o.text),.row (o.pair.map enc)]:=by
 cases o;rw [enc,encL_map]
theorem enc_len (o:Ob):o.enc.length=7:=by rw [enc_eq];rfl
theorem size_pos (o:Ob):0 < o.size:=by cases o;rw [size];omega
theorem sizeL_mem {l:List Ob} {o:Ob} (h:o∈l):o.size≤sizeL l:=by
 induction l with
 | nil=>cases h
 | cons x r ih =>
  rw [sizeL]
  rcases List.mem_cons.1 h with rfl | h
  ·omega
  ·have:=ih h;omega
theorem size_pair {o x:Ob} (h:x∈o.pair):x.size < o.size:=by
 cases o with
 | mk k n d p s t l =>
  rw [size]
  have:=sizeL_mem (l:=l) h
  omega
theorem ind {motive:Ob→Prop} (step:∀ o,(∀ x∈o.pair,motive x)→motive o) (o:Ob):motive o:=by
 have:∀ n (o:Ob),o.size≤n→motive o:=by
  intro n
  induction n with
  | zero=>intro o h;have:=size_pos o;omega
  | succ n ih=>intro o h;exact step o fun x hx=>ih x (by have:=size_pair hx;omega)
 exact this o.size o (Nat.le_refl _)
inductive Wf:Ob→Prop
 | mk (o:Ob) (hk0:-9223372036854775808≤o.kind) (hk1:o.kind≤9223372036854775807) (hn:o.num.length≤9223372036854775807) (hd:o.den.length≤9223372036854775807) (hp:o.sp.length≤9223372036854775807) (hs:o.sn.length≤9223372036854775807) (ht:o.text.length≤9223372036854775807) (hl:o.pair.length≤9223372036854775807) (h:∀ x∈o.pair,Wf x):Wf o
theorem Wf.kids {o x:Ob} (h:o.Wf) (hx:x∈o.pair):x.Wf:=by
 cases h with
 | mk _ _ _ _ _ _ _ _ _ h=>exact h x hx
theorem Wf.len {o:Ob} (h:o.Wf):o.pair.length≤9223372036854775807:=by
 cases h with
 | mk _ _ _ _ _ _ _ _ hl _=>exact hl
end Ob
abbrev objV (o:Ob) (P:Value):Value:=.agg #[.int .i64 o.kind,str o.num,str o.den,str o.sp,str o.sn,str o.text,P]
abbrev obCells (o:Ob) (P:Value):Array Value:=#[.int .i64 o.kind,str o.num,str o.den,str o.sp,str o.sn,str o.text,P]
theorem Rd.objs {ok:Nat→Prop} {w wr:World} {A:Option Addr} {n c:Nat} {l:List Ob} (h:Rd ok w (.slice A n c) (.row (l.map Ob.enc))) (hbr:Below w.heap.size w wr) {i:Nat} (hi:i < n) :
  ∃ (b o:Nat) (hl:i < l.length) (A':Option Addr) (n' c':Nat),A=some ⟨b,o,none⟩∧b < w.heap.size∧ok b ∧
   wr.cell? ⟨b,o+i * 7,none⟩=some (.int .i64 (l[i]).kind)∧wr.cell? ⟨b,o+i * 7+1,none⟩=some (str (l[i]).num)∧wr.cell? ⟨b,o+i * 7+2,none⟩=some (str (l[i]).den)∧wr.cell? ⟨b,o+i * 7+3,none⟩=some (str (l[i]).sp) ∧
   wr.cell? ⟨b,o+i * 7+4,none⟩=some (str (l[i]).sn)∧wr.cell? ⟨b,o+i * 7+5,none⟩=some (str (l[i]).text)∧wr.cell? ⟨b,o+i * 7+6,none⟩=some (.slice A' n' c')∧Rd ok w (.slice A' n' c') (.row ((l[i]).pair.map Ob.enc)):=by
 have hlen:=h.len
 rw [List.length_map] at hlen
 obtain ⟨b,o,k,rfl,hb,hok,hk,hf⟩:=h.cells (by omega)
 have e:(l.map Ob.enc)[i]'(by rw [List.length_map];omega)=(l[i]'(by omega)).enc:=List.getElem_map _
 have hk':=hk i (by rw [List.length_map];omega)
 rw [e,Ob.enc_len] at hk'
 subst hk'
 have hf':∀ j (hj:j < 7),∃ u,w.cell? ⟨b,o+i * 7+j,none⟩=some u∧Rd ok w u ((l[i]'(by omega)).enc[j]'(by rw [Ob.enc_len];exact hj)):=fun j hj=>by
  obtain ⟨u,h1,h2⟩:=hf i j (by rw [List.length_map];omega) (by rw [e,Ob.enc_len];exact hj)
  simp only [e] at h2
  exact ⟨u,h1,h2⟩
 simp only [Ob.enc_eq] at hf'
 obtain ⟨u0,h0,r0⟩:=hf' 0 (by omega)
 obtain ⟨u1,h1,r1⟩:=hf' 1 (by omega)
 obtain ⟨u2,h2,r2⟩:=hf' 2 (by omega)
 obtain ⟨u3,h3,r3⟩:=hf' 3 (by omega)
 obtain ⟨u4,h4,r4⟩:=hf' 4 (by omega)
 obtain ⟨u5,h5,r5⟩:=hf' 5 (by omega)
 obtain ⟨u6,h6,r6⟩:=hf' 6 (by omega)
 simp only [List.getElem_cons_zero,List.getElem_cons_succ] at r0 r1 r2 r3 r4 r5 r6
 rw [r0.val_eq] at h0
 rw [r1.val_eq] at h1
 rw [r2.val_eq] at h2
 rw [r3.val_eq] at h3
 rw [r4.val_eq] at h4
 rw [r5.val_eq] at h5
 obtain ⟨A',n',c',rfl,_⟩:=r6.slice
 exact ⟨b,o,by omega,A',n',c',rfl,hb,hok,(hbr.cell (p:=⟨b,o+i * 7,none⟩) hb).trans h0,(hbr.cell (p:=⟨b,o+i * 7+1,none⟩) hb).trans h1,(hbr.cell (p:=⟨b,o+i * 7+2,none⟩) hb).trans h2,(hbr.cell (p:=⟨b,o+i * 7+3,none⟩) hb).trans h3,(hbr.cell (p:=⟨b,o+i * 7+4,none⟩) hb).trans h4,(hbr.cell (p:=⟨b,o+i * 7+5,none⟩) hb).trans h5,(hbr.cell (p:=⟨b,o+i * 7+6,none⟩) hb).trans h6,r6⟩
theorem BlkIs.put7 {w:World} {g:Nat} {t:TypeId} {c0 c1 c2 c3 c4 c5 c6 v0 v1 v2 v3 v4 v5 v6:Value} (h:BlkIs w g t #[c0,c1,c2,c3,c4,c5,c6]) :
  BlkIs (((((((w.setCell ⟨g,0,none⟩ v0).setCell ⟨g,1,none⟩ v1).setCell ⟨g,2,none⟩ v2).setCell ⟨g,3,none⟩ v3).setCell ⟨g,4,none⟩ v4).setCell ⟨g,5,none⟩ v5).setCell ⟨g,6,none⟩ v6) g t #[v0,v1,v2,v3,v4,v5,v6]:=by
 have:=((((((h.set_ 0 v0).set_ 1 v1).set_ 2 v2).set_ 3 v3).set_ 4 v4).set_ 5 v5).set_ 6 v6
 simpa using this
theorem BlkIs.far7 {w:World} {g g':Nat} {t:TypeId} {cs:Array Value} (h:BlkIs w g t cs) (hg:g≠g') (v0 v1 v2 v3 v4 v5 v6:Value) :
  BlkIs (((((((w.setCell ⟨g',0,none⟩ v0).setCell ⟨g',1,none⟩ v1).setCell ⟨g',2,none⟩ v2).setCell ⟨g',3,none⟩ v3).setCell ⟨g',4,none⟩ v4).setCell ⟨g',5,none⟩ v5).setCell ⟨g',6,none⟩ v6) g t cs :=
 ((((((h.far (p:=⟨g',0,none⟩) hg _).far (p:=⟨g',1,none⟩) hg _).far (p:=⟨g',2,none⟩) hg _).far (p:=⟨g',3,none⟩) hg _).far (p:=⟨g',4,none⟩) hg _).far (p:=⟨g',5,none⟩) hg _).far (p:=⟨g',6,none⟩) hg _
theorem set7 {a w:World} (h0:Below a.heap.size a w) {g:Nat} (hg:a.heap.size≤g) (v0 v1 v2 v3 v4 v5 v6:Value) :
  Below a.heap.size a (((((((w.setCell ⟨g,0,none⟩ v0).setCell ⟨g,1,none⟩ v1).setCell ⟨g,2,none⟩ v2).setCell ⟨g,3,none⟩ v3).setCell ⟨g,4,none⟩ v4).setCell ⟨g,5,none⟩ v5).setCell ⟨g,6,none⟩ v6) :=
 set2 (set2 (set2 (set2 (set2 (set2 (set2 h0 hg _) hg _) hg _) hg _) hg _) hg _) hg _
theorem BlkIs.frozen7 {w:World} {g:Nat} {t:TypeId} {cs:Array Value} (h:BlkIs w g t cs):w.frozen? ⟨g,0,none⟩=false∧w.frozen? ⟨g,1,none⟩=false∧w.frozen? ⟨g,2,none⟩=false∧w.frozen? ⟨g,3,none⟩=false∧w.frozen? ⟨g,4,none⟩=false∧w.frozen? ⟨g,5,none⟩=false∧w.frozen? ⟨g,6,none⟩=false :=
 ⟨h.frozen 0,h.frozen 1,h.frozen 2,h.frozen 3,h.frozen 4,h.frozen 5,h.frozen 6⟩
end Go.Proofs.YthhknjlmjefklaaGreatDoor
namespace Go.Proofs.YthhknjlmjefklaaGreatDoor
open Go.RowKit
namespace Ob
mutual
def nodes:Ob→Nat
 | ⟨_,_,_,_,_,_,l⟩=>if l.length=2 then nodesL l+1 else 1
def nodesL:List Ob→Nat
 | []=>0
 | o::r=>nodes o+nodesL r
end
theorem nodes_two {o a d:Ob} (h:o.pair=[a,d]):o.nodes=a.nodes+d.nodes+1:=by
 obtain ⟨k,n,e,p,s,t,l⟩:=o
 simp only at h
 subst h
 simp only [nodes,nodesL,List.length_cons,List.length_nil,if_true]
 omega
theorem nodes_one {o:Ob} (h:o.pair.length≠2):o.nodes=1:=by
 obtain ⟨k,n,e,p,s,t,l⟩:=o
 rw [nodes,if_neg h]
theorem nodes_pos (o:Ob):1≤o.nodes:=by
 by_cases h:o.pair.length=2
 ·obtain ⟨k,n,e,p,s,t,l⟩:=o
  rw [nodes,if_pos h];omega
 ·rw [nodes_one h];omega
theorem two_of_length {l:List Ob} (h:l.length=2):∃ a d,l=[a,d]:=by
 match l,h with
 | [a,d],_=>exact ⟨a,d,rfl⟩
end Ob
end Go.Proofs.YthhknjlmjefklaaGreatDoor
namespace Go.Proofs.YthhknjlmjefklaaGreatDoor
open Go.RowKit
def RetObj (ok:Nat→Prop) (o:Ob) (w:World) (e:Ending) (w':World):Prop :=
 ∃ A n c,e=.returned (objV o (.slice A n c))∧Rd (fun b=>ok b∨w.heap.size≤b) w' (.slice A n c) (.row (o.pair.map Ob.enc))∧Below w.heap.size w w'
def RetLeaf (o:Ob) (w:World) (e:Ending) (w':World):Prop:=e=.returned (objV o (.slice none 0 0))∧Below w.heap.size w w'
theorem RetLeaf.obj {ok:Nat→Prop} {o:Ob} {w w':World} {e:Ending} (h:RetLeaf o w e w') (hp:o.pair=[]):RetObj ok o w e w' :=
 ⟨none,0,0,h.1,by rw [hp];exact .nil _ _,h.2⟩
theorem BlkIs.new2 (w:World) (o o':Obj) (t:TypeId) (cs:Array Value):BlkIs (((w.alloc o).alloc o').alloc (.cells cs t)) (w.heap.size+1+1) t cs:=by
 have:=BlkIs.new ((w.alloc o).alloc o') t cs
 simpa using this
abbrev zeroCells:Array Value:=#[.int .i64 0,.string ⟨#[]⟩,.string ⟨#[]⟩,.string ⟨#[]⟩,.string ⟨#[]⟩,.string ⟨#[]⟩,.slice none 0 0]
abbrev lispB:List UInt8:=[108,105,115,112]
abbrev nilB:List UInt8:=[110,105,108]
abbrev symO (p s:List UInt8):Ob:=⟨2,[],[],p,s,[],[]⟩
abbrev nilO:Ob:=symO lispB nilB
abbrev tO:Ob:=symO lispB [116]
abbrev numO (n d:List UInt8):Ob:=⟨1,n,d,[],[],[],[]⟩
abbrev txtO (t:List UInt8):Ob:=⟨3,[],[],[],[],t,[]⟩
abbrev consO (a d:Ob):Ob:=⟨4,[],[],[],[],[],[a,d]⟩
set_option maxHeartbeats 400000 in
theorem ret_obj {fn:Func} {a:Act} {g r:Nat} {w:World} {t:TypeId} {c0 c1 c2 c3 c4 c5 c6:Value} {R:Ending→World→Prop} (hf:fn.results=#[.cell r 37]) (ht:a.tmps[r]?=some (.pointer (some ⟨g,0,none⟩))) (hB:BlkIs w g t #[c0,c1,c2,c3,c4,c5,c6]) (hd:a.defers=[]) (hR:R (.returned (.agg #[c0,c1,c2,c3,c4,c5,c6])) w):bodyPost Tryz.prog fn R .ret a w:=by
 obtain ⟨h0,h1,h2,h3,h4,h5,h6,_⟩:=hB.seven
 refine bodyPost_ret (v:=.agg #[c0,c1,c2,c3,c4,c5,c6]) ?_ hd hR
 simp [results,hf,ht,go_sem,h0,h1,h2,h3,h4,h5,h6]
set_option maxHeartbeats 400000 in
theorem oSymbol_any (w:World) (p s:List UInt8):Calls Tryz.prog 82 #[.agg #[str p,str s]] w (RetLeaf (symO p s) w):=by
 go_enter Tryz.func82,Tryz.ntmps82
 go_wp2
 exact bodyPost_ret (v:=objV (symO p s) (.slice none 0 0)) (by simp [results,Tryz.results82,go_sem]) rfl ⟨rfl,box2 (box _ _) _⟩
set_option maxHeartbeats 400000 in
theorem rSymbol_any (w:World) (p s:List UInt8):Calls Tryz.prog 59 #[.agg #[str p,str s]] w (RetLeaf (symO p s) w):=by
 go_enter Tryz.func59,Tryz.ntmps59
 go_wp2
 exact bodyPost_ret (v:=objV (symO p s) (.slice none 0 0)) (by simp [results,Tryz.results59,go_sem]) rfl ⟨rfl,box2 (box _ _) _⟩
set_option maxHeartbeats 400000 in
theorem rText_any (w:World) (t:List UInt8):Calls Tryz.prog 68 #[str t] w (RetLeaf (txtO t) w):=by
 go_enter Tryz.func68,Tryz.ntmps68
 go_wp2
 exact bodyPost_ret (v:=objV (txtO t) (.slice none 0 0)) (by simp [results,Tryz.results68,go_sem]) rfl ⟨rfl,box _ _⟩
end Go.Proofs.YthhknjlmjefklaaGreatDoor
namespace Go.Proofs.YthhknjlmjefklaaGreatDoor
open Go.RowKit
def nodesP (o:Ob):Int:=if o.nodes≤3001 then (o.nodes:Int) else 3001
end Go.Proofs.YthhknjlmjefklaaGreatDoor
namespace Go.Proofs.YthhknjlmjefklaaGreatDoor
open Go.RowKit
theorem qd_pos {x:Int} {g:Nat} (h:0 < g):qd x (g:Int)=x / g:=by
 unfold qd
 rw [if_neg (by omega),if_pos (by omega)]
theorem rd_rat (x y:Int):rdN x y=(Rat.divInt x y).num∧rdD x y=((Rat.divInt x y).den:Int):=by
 rw [Rat.num_divInt,Rat.den_divInt]
 by_cases hy:y=0
 ·subst hy;simp [rdN,rdD]
 ·have hg:0 < Nat.gcd x.natAbs y.natAbs:=Nat.gcd_pos_of_pos_right _ (by omega)
  have e:y.gcd x=Nat.gcd x.natAbs y.natAbs:=Nat.gcd_comm _ _
  unfold rdN rdD
  rw [if_neg hy,if_neg hy,if_neg hy,qd_pos hg,qd_pos hg,e]
  refine ⟨?_,?_⟩
  ·congr 1
   unfold rdX
   split
   ·rw [Int.sign_eq_neg_one_of_neg (by assumption)];omega
   ·rw [Int.sign_eq_one_of_pos (by omega)];omega
  ·unfold rdY
   rw [Int.natCast_ediv]
   congr 1
   split <;> omega
structure Rb (k:Nat) (q:Rat):Prop where
 num:q.num.natAbs < 10 ^ k
 den:q.den < 10 ^ k
 pos:1≤k
theorem Rb.mk' {k:Nat} {x y:Int} (hk:1≤k) (hx:x.natAbs < 10 ^ k) (hy:y.natAbs < 10 ^ k):Rb k (Rat.divInt x y):=by
 refine ⟨?_,?_,hk⟩
 ·rw [Rat.num_divInt]
  refine Nat.lt_of_le_of_lt (Nat.le_trans (Int.natAbs_ediv_le_natAbs _ _) ?_) hx
  rw [Int.natAbs_mul]
  rcases Int.lt_trichotomy y 0 with h | h | h
  ·rw [Int.sign_eq_neg_one_of_neg h];simp
  ·subst h;simp
  ·rw [Int.sign_eq_one_of_pos h];simp
 ·rw [Rat.den_divInt]
  split
  ·exact Nat.one_lt_pow (by omega) (by omega)
  ·exact Nat.lt_of_le_of_lt (Nat.div_le_self _ _) hy
theorem Rb.mono {k m:Nat} {q:Rat} (h:Rb k q) (hm:k≤m):Rb m q :=
 ⟨Nat.lt_of_lt_of_le h.num (Nat.pow_le_pow_right (by omega) hm),Nat.lt_of_lt_of_le h.den (Nat.pow_le_pow_right (by omega) hm),by have:=h.pos;omega⟩
theorem Rat.add_div (p q:Rat):p+q=Rat.divInt (p.num * q.den+q.num * p.den) (p.den * q.den):=by
 rw [Rat.add_def',← Rat.divInt_ofNat,Int.natCast_mul]
theorem Rat.mul_div (p q:Rat):p * q=Rat.divInt (p.num * q.num) (p.den * q.den):=by
 rw [Rat.mul_def',← Rat.divInt_ofNat,Int.natCast_mul]
theorem mul_lt_pow {a b k m:Nat} (ha:a < 10 ^ k) (hb:b < 10 ^ m):a * b < 10 ^ (k+m):=by
 rw [Nat.pow_add]
 exact Nat.mul_lt_mul'' ha hb
theorem Rb.add {k m:Nat} {p q:Rat} (h:Rb k p) (h':Rb m q):Rb (k+m+1) (p+q):=by
 rw [Rat.add_div]
 have h1:=mul_lt_pow h.num h'.den
 have h2:=mul_lt_pow h.den h'.num
 have h3:=mul_lt_pow h.den h'.den
 have h4:10 ^ (k+m+1)=10 ^ (k+m) * 10:=Nat.pow_succ _ _
 refine Rb.mk' (by omega) ?_ ?_
 ·have e1:(p.num * (q.den:Int)).natAbs=p.num.natAbs * q.den:=by rw [Int.natAbs_mul,Int.natAbs_natCast]
  have e2:(q.num * (p.den:Int)).natAbs=p.den * q.num.natAbs:=by rw [Int.natAbs_mul,Int.natAbs_natCast,Nat.mul_comm]
  omega
 ·rw [Int.natAbs_mul,Int.natAbs_natCast,Int.natAbs_natCast];omega
theorem Rb.mul {k m:Nat} {p q:Rat} (h:Rb k p) (h':Rb m q):Rb (k+m) (p * q):=by
 rw [Rat.mul_div]
 have:=h.pos
 refine Rb.mk' (by omega) ?_ ?_
 ·rw [Int.natAbs_mul];exact mul_lt_pow h.num h'.num
 ·rw [Int.natAbs_mul,Int.natAbs_natCast,Int.natAbs_natCast];exact mul_lt_pow h.den h'.den
theorem Rb.neg {k:Nat} {p:Rat} (h:Rb k p):Rb k (-p):=⟨by rw [Rat.neg_num,Int.natAbs_neg];exact h.num,by rw [Rat.neg_den];exact h.den,h.pos⟩
theorem Rb.inv {k:Nat} {p:Rat} (h:Rb k p):Rb k p⁻¹:=by
 rw [Rat.inv_def]
 exact Rb.mk' h.pos (by rw [Int.natAbs_natCast];exact h.den) h.num
theorem Rb.zero:Rb 1 0:=⟨by decide,by decide,by decide⟩
theorem Rb.nlen {k:Nat} {q:Rat} (h:Rb k q):(Lib.itoa q.num).length≤k+1:=itoa_length_any _ h.pos h.num
theorem Rb.dlen {k:Nat} {q:Rat} (h:Rb k q):(Lib.itoa (q.den:Int)).length≤k+1:=itoa_length_any _ h.pos (by rw [Int.natAbs_natCast];exact h.den)
abbrev ratO (q:Rat):Ob:=numO (Lib.itoa q.num) (Lib.itoa (q.den:Int))
theorem ratO_inj {p q:Rat}:ratO p=ratO q↔p=q:=by
 refine ⟨fun h=>?_,fun h=>by rw [h]⟩
 injection h with _ h1 h2
 exact Rat.ext (Dec.itoa_inj h1) (by have:=Dec.itoa_inj h2;omega)
theorem ratO_int (n:Int):ratO (n:Rat)=numO (Lib.itoa n) [49]:=by
 have:Lib.itoa 1=[49]:=itoa_one
 rw [ratO,Rat.num_intCast,Rat.den_intCast]
 show numO _ (Lib.itoa 1)=_
 rw [this]
def Val (o:Ob) (q:Rat):Prop:=(o.kind=1∧o=ratO q)∨(o.kind≠1∧q=0)
theorem Val.rat (q:Rat):Val (ratO q) q:=.inl ⟨rfl,rfl⟩
def RetNL (n d:List UInt8) (w:World) (e:Ending) (w':World):Prop:=∃ (A:Option Addr) (c:Nat),e=.returned (objV (numO n d) (.slice A 0 c))∧Below w.heap.size w w'
abbrev RetNum (q:Rat) (w:World) (e:Ending) (w':World):Prop:=RetNL (Lib.itoa q.num) (Lib.itoa (q.den:Int)) w e w'
def cmpQ (p q:Rat):Int:=if p < q then -1 else if q < p then 1 else 0
theorem cmpQ_cross (p q:Rat):cmpI (p.num * q.den) (q.num * p.den)=cmpQ p q:=by
 unfold cmpI cmpQ
 simp only [Rat.lt_iff]
end Go.Proofs.YthhknjlmjefklaaGreatDoor
namespace Go.Proofs.YthhknjlmjefklaaGreatDoor
open Go.RowKit
set_option maxHeartbeats 400000 in
theorem oNil_any (w:World):Calls Tryz.prog 48 #[] w (RetLeaf nilO w):=by
 go_enter Tryz.func48,Tryz.ntmps48
 go_wp2_with fail
 refine (oSymbol_any _ lispB nilB).mono ?_
 rintro e w1 ⟨rfl,hb⟩
 have HB:=Lib.hid (BlkIs.via hb)
 obtain ⟨u0,u1,u2,u3,u4,u5,u6,hu⟩:=HB.out.seven
 obtain ⟨f0,f1,f2,f3,f4,f5,f6⟩:=HB.out.frozen7
 go_wp2
 exact ret_obj Tryz.results48 rfl HB.out.put7 rfl ⟨rfl,set7 (via hb) (Nat.le_refl _) _ _ _ _ _ _ _⟩
set_option maxHeartbeats 400000 in
theorem oInteger_any (a:List UInt8) (w:World):Calls Tryz.prog 80 #[str a] w (RetLeaf (numO a [49]) w):=by
 go_enter Tryz.func80,Tryz.ntmps80
 go_wp2
 go_outline
 exact bodyPost_ret (v:=objV (numO a [49]) (.slice none 0 0)) (by simp [results,Tryz.results80,go_sem]) rfl ⟨rfl,box _ _⟩
set_option maxHeartbeats 400000 in
theorem oInt_any (n:Int) (w:World) (ht:Tab w) (h0:-9223372036854775808≤n) (h1:n≤9223372036854775807):Calls Tryz.prog 46 #[.int .i64 n] w (RetLeaf (numO (Lib.itoa n) [49]) w):=by
 have HF:=Lib.hid (fun w' (hb:Below w.heap.size w w')=>fromInt_any n w' (ht.below hb) h0 h1)
 clear h0 h1
 go_enter Tryz.func46,Tryz.ntmps46
 go_wp2_with fail
 refine (HF.out _ (box _ _)).mono ?_
 rintro e w1 ⟨rfl,hb⟩
 go_wp2_with fail
 refine (oInteger_any _ _).mono ?_
 rintro e w2 ⟨rfl,hb2⟩
 have HB:=Lib.hid ((BlkIs.via hb).below hb2)
 obtain ⟨u0,u1,u2,u3,u4,u5,u6,hu⟩:=HB.out.seven
 obtain ⟨f0,f1,f2,f3,f4,f5,f6⟩:=HB.out.frozen7
 go_wp2
 exact ret_obj Tryz.results46 rfl HB.out.put7 rfl ⟨rfl,set7 (then_ (via hb) hb2) (Nat.le_refl _) _ _ _ _ _ _ _⟩
theorem rd_pair {ok:Nat→Prop} {a d:Ob} {A A':Option Addr} {n n' c c':Nat} {w:World} {g:Nat} {t:TypeId} (hB:BlkIs w g t #[.int .i64 a.kind,str a.num,str a.den,str a.sp,str a.sn,str a.text,.slice A n c,.int .i64 d.kind,str d.num,str d.den,str d.sp,str d.sn,str d.text,.slice A' n' c'])
  (hg:ok g) (ha:Rd ok w (.slice A n c) (.row (a.pair.map Ob.enc))) (hd:Rd ok w (.slice A' n' c') (.row (d.pair.map Ob.enc))):Rd ok w (.slice (some ⟨g,0,none⟩) 2 2) (.row ([a,d].map Ob.enc)):=by
 refine Rd.mk (k:=7) rfl (Nat.le_refl _) hB.lt hg (fun i hi=>?_) (fun i j hi hj=>?_)
 ·rw [List.getElem_map,Ob.enc_len]
 ·simp only [List.getElem_map,Ob.enc_len] at hj
  have hi':i < 2:=hi
  rw [hB.cell]
  rcases i with _ | _ | i
  ·rcases j with _ | _ | _ | _ | _ | _ | _ | j
   all_goals first | omega | skip
   all_goals simp only [List.map_cons,List.getElem_cons_zero,Ob.enc_eq,List.getElem_cons_succ]
   all_goals first | exact ⟨_,rfl,.val _⟩ | exact ⟨_,rfl,ha⟩
  ·rcases j with _ | _ | _ | _ | _ | _ | _ | j
   all_goals first | omega | skip
   all_goals simp only [List.map_cons,List.getElem_cons_zero,Ob.enc_eq,List.getElem_cons_succ]
   all_goals first | exact ⟨_,rfl,.val _⟩ | exact ⟨_,rfl,hd⟩
  ·omega
theorem cons_ret (ok:Nat→Prop) (a d:Ob) (A A':Option Addr) (n n' c c':Nat) (w:World) {b1 b2 b3:Obj} {t:TypeId} (ha:Rd ok w (.slice A n c) (.row (a.pair.map Ob.enc))) (hd:Rd ok w (.slice A' n' c') (.row (d.pair.map Ob.enc))) :
  RetObj ok (consO a d) w (.returned (objV (consO a d) (.slice (some ⟨w.heap.size+1+1+1,0,none⟩) 2 2))) ((((w.alloc b1).alloc b2).alloc b3).alloc (.cells #[.int .i64 a.kind,str a.num,str a.den,str a.sp,str a.sn,str a.text,.slice A n c,.int .i64 d.kind,str d.num,str d.den,str d.sp,str d.sn,str d.text,.slice A' n' c'] t)):=by
 have hb:Below w.heap.size w (((w.alloc b1).alloc b2).alloc b3):=box2 (box2 (box _ _) _) _
 refine ⟨_,2,2,rfl,?_,box2 hb _⟩
 have hB:=BlkIs.new (((w.alloc b1).alloc b2).alloc b3) t #[.int .i64 a.kind,str a.num,str a.den,str a.sp,str a.sn,str a.text,.slice A n c,.int .i64 d.kind,str d.num,str d.den,str d.sp,str d.sn,str d.text,.slice A' n' c']
 have e:(((w.alloc b1).alloc b2).alloc b3).heap.size=w.heap.size+1+1+1:=by simp
 rw [e] at hB
 exact rd_pair hB (.inr (by omega)) ((ha.under (box2 hb _)).mono fun _ h _=>.inl h) ((hd.under (box2 hb _)).mono fun _ h _=>.inl h)
end Go.Proofs.YthhknjlmjefklaaGreatDoor
namespace Go.Proofs.YthhknjlmjefklaaGreatDoor
open Go.RowKit
end Go.Proofs.YthhknjlmjefklaaGreatDoor
namespace Go.Proofs.YthhknjlmjefklaaGreatDoor
open Go.RowKit
theorem far7 (w:World) {g g':Nat} (hg:g≠g') (i:Nat) (v0 v1 v2 v3 v4 v5 v6:Value) :
  (((((((w.setCell ⟨g',0,none⟩ v0).setCell ⟨g',1,none⟩ v1).setCell ⟨g',2,none⟩ v2).setCell ⟨g',3,none⟩ v3).setCell ⟨g',4,none⟩ v4).setCell ⟨g',5,none⟩ v5).setCell ⟨g',6,none⟩ v6).cell? ⟨g,i,none⟩=w.cell? ⟨g,i,none⟩:=by
 have e:∀ (w:World) (j:Nat) (v:Value),(w.setCell ⟨g',j,none⟩ v).cell? ⟨g,i,none⟩=w.cell? ⟨g,i,none⟩:=fun w j v=>World.cell?_of_block (Below.heap_setCell w ⟨g',j,none⟩ v g hg)
 rw [e,e,e,e,e,e,e]
end Go.Proofs.YthhknjlmjefklaaGreatDoor
namespace Go.Proofs.YthhknjlmjefklaaGreatDoor
open Go.RowKit
theorem cmpQ_neg (p q:Rat):decide (cmpQ p q < 0)=decide (p < q):=by
 unfold cmpQ
 split
 ·simp [*]
 ·split <;> simp [*]
set_option maxHeartbeats 400000 in
theorem oIsNil_any (o:Ob) (A:Option Addr) (n c:Nat) (w:World):Calls Tryz.prog 119 #[objV o (.slice A n c)] w (RetBel (.bool (decide (o.kind=2∧o.sp=lispB∧o.sn=nilB))) w):=by
 obtain ⟨k,nm,d,p,s,t,l⟩:=o
 dsimp only
 by_cases hk:k=2
 ·subst hk
  by_cases h1:p=lispB
  ·subst h1
   by_cases h2:s=nilB
   ·subst h2
    rw [decide_eq_true ⟨rfl,rfl,rfl⟩]
    go_enter Tryz.func119,Tryz.ntmps119
    go_wp2
    go_ret
    exact ⟨rfl,box _ _⟩
   ·rw [decide_eq_false (fun h=>h2 h.2.2)]
    have hz:(s == nilB)=false:=by rw [beq_eq_false_iff_ne];exact h2
    clear h2
    go_enter Tryz.func119,Tryz.ntmps119
    go_wp2
    go_ret
    exact ⟨rfl,box _ _⟩
  ·rw [decide_eq_false (fun h=>h1 h.2.1)]
   have hz:(p == lispB)=false:=by rw [beq_eq_false_iff_ne];exact h1
   clear h1
   go_enter Tryz.func119,Tryz.ntmps119
   go_wp2
   go_ret
   exact ⟨rfl,box _ _⟩
 ·rw [decide_eq_false (fun h=>hk h.1)]
  have hz:(k == 2)=false:=by rw [beq_eq_false_iff_ne];exact hk
  clear hk
  go_enter Tryz.func119,Tryz.ntmps119
  go_wp2
  go_ret
  exact ⟨rfl,box _ _⟩
end Go.Proofs.YthhknjlmjefklaaGreatDoor
namespace Go.Proofs.YthhknjlmjefklaaGreatDoor
open Go.RowKit
def listO:List Ob→Ob
 | []=>nilO
 | a::r=>consO a (listO r)
theorem Rd.far7 {ok:Nat→Prop} {w:World} {v:Value} {d:Dt} {g:Nat} (h:Rd ok w v d) (hg:∀ b,ok b→b≠g) (v0 v1 v2 v3 v4 v5 v6:Value) :
  Rd ok (((((((w.setCell ⟨g,0,none⟩ v0).setCell ⟨g,1,none⟩ v1).setCell ⟨g,2,none⟩ v2).setCell ⟨g,3,none⟩ v3).setCell ⟨g,4,none⟩ v4).setCell ⟨g,5,none⟩ v5).setCell ⟨g,6,none⟩ v6) v d :=
 ((((((h.far (p:=⟨g,0,none⟩) hg _).far (p:=⟨g,1,none⟩) hg _).far (p:=⟨g,2,none⟩) hg _).far (p:=⟨g,3,none⟩) hg _).far (p:=⟨g,4,none⟩) hg _).far (p:=⟨g,5,none⟩) hg _).far (p:=⟨g,6,none⟩) hg _
theorem drop_cons {l:List Ob} {j:Nat} (h:j < l.length):listO (l.drop j)=consO l[j] (listO (l.drop (j+1))):=by
 rw [List.drop_eq_getElem_cons h];rfl
end Go.Proofs.YthhknjlmjefklaaGreatDoor
namespace Go.Proofs.YthhknjlmjefklaaGreatDoor
open Go.RowKit
end Go.Proofs.YthhknjlmjefklaaGreatDoor
namespace Go.Proofs.YthhknjlmjefklaaGreatDoor
open Go.RowKit
structure Cmp3 {α:Type} (f:α→α→Int):Prop where
 rng:∀ a b,f a b=-1∨f a b=0∨f a b=1
 swap:∀ a b,f b a=- f a b
 zero:∀ a b,f a b=0↔a=b
 trans:∀ a b c,f a b≤0→f b c≤0→f a c≤0
abbrev cmpB:List UInt8→List UInt8→Int:=Lib.compareBytes
theorem cmpB_zero:∀ a b:List UInt8,cmpB a b=0↔a=b
 | [],[]=>⟨fun _=>rfl,fun _=>rfl⟩
 | [],_::_=>⟨(fun h=>by cases h),(fun h=>by cases h)⟩
 | _::_,[]=>⟨(fun h=>by cases h),(fun h=>by cases h)⟩
 | a::x,b::y=>by
  unfold cmpB Lib.compareBytes
  have:=cmpB_zero x y
  unfold cmpB at this
  by_cases h1:a < b
  ·rw [if_pos h1]
   exact ⟨(fun h=>by cases h),fun h=>by injection h with h _;subst h;rw [UInt8.lt_iff_toNat_lt] at h1;omega⟩
  ·by_cases h2:b < a
   ·rw [if_neg h1,if_pos h2]
    exact ⟨(fun h=>by cases h),fun h=>by injection h with h _;subst h;exact absurd h2 h1⟩
   ·rw [if_neg h1,if_neg h2,this]
    have e:a=b:=by
     rw [UInt8.lt_iff_toNat_lt] at h1 h2
     exact UInt8.toNat_inj.1 (by omega)
    subst e
    exact ⟨fun h=>by rw [h],fun h=>by injection h⟩
theorem cmpQ_ok:Cmp3 cmpQ where
 rng a b:=by unfold cmpQ;split <;> (try split) <;> simp
 swap a b:=by
  unfold cmpQ
  by_cases h1:a < b
  ·have h2:¬ b < a:=by grind
   simp only [if_pos h1,if_neg h2];rfl
  ·by_cases h2:b < a
   ·simp only [if_neg h1,if_pos h2]
   ·simp only [if_neg h1,if_neg h2];rfl
 zero a b:=by
  unfold cmpQ
  by_cases h1:a < b
  ·simp only [if_pos h1]
   exact ⟨(fun h=>by cases h),fun h=>by grind⟩
  ·by_cases h2:b < a
   ·simp only [if_neg h1,if_pos h2]
    exact ⟨(fun h=>by cases h),fun h=>by grind⟩
   ·simp only [if_neg h1,if_neg h2]
    exact ⟨fun _=>by grind,fun _=>trivial⟩
 trans a b c:=by
  unfold cmpQ
  intro h1 h2
  have e1:¬ b < a:=fun h=>by
   have:¬ a < b:=by grind
   rw [if_neg this,if_pos h] at h1;omega
  have e2:¬ c < b:=fun h=>by
   have:¬ b < c:=by grind
   rw [if_neg this,if_pos h] at h2;omega
  have e3:¬ c < a:=by grind
  rw [if_neg e3]
  split <;> decide
def lex3 (x y:Int):Int:=if x=0 then y else x
theorem lex3_zero {x y:Int}:lex3 x y=0↔x=0∧y=0:=by
 unfold lex3
 split <;> omega
inductive Tr where
 | num (q:Rat)
 | txt (t:List UInt8)
 | sym (p s:List UInt8)
 | cons (a d:Tr)
namespace Tr
def ob:Tr→Ob
 | .num q=>ratO q
 | .txt t=>txtO t
 | .sym p s=>symO p s
 | .cons a d=>consO a.ob d.ob
def size:Tr→Nat
 | .cons a d=>a.size+d.size+1
 | _=>1
theorem size_pos (t:Tr):1≤t.size:=by cases t <;> simp [size]
theorem ob_inj:∀ {a b:Tr},a.ob=b.ob→a=b
 | .num p,.num q,h=>by rw [ratO_inj.1 h]
 | .txt s,.txt t,h=>by injection h with _ _ _ _ _ h;rw [h]
 | .sym p s,.sym p' s',h=>by injection h with _ _ _ h1 h2;rw [h1,h2]
 | .cons a d,.cons a' d',h=>by
  injection h with _ _ _ _ _ _ h
  injection h with h1 h2
  injection h2 with h2
  rw [ob_inj h1,ob_inj h2]
 | .num _,.txt _,h=>by injection h with h;cases h
 | .num _,.sym _ _,h=>by injection h with h;cases h
 | .num _,.cons _ _,h=>by injection h with h;cases h
 | .txt _,.num _,h=>by injection h with h;cases h
 | .txt _,.sym _ _,h=>by injection h with h;cases h
 | .txt _,.cons _ _,h=>by injection h with h;cases h
 | .sym _ _,.num _,h=>by injection h with h;cases h
 | .sym _ _,.txt _,h=>by injection h with h;cases h
 | .sym _ _,.cons _ _,h=>by injection h with h;cases h
 | .cons _ _,.num _,h=>by injection h with h;cases h
 | .cons _ _,.txt _,h=>by injection h with h;cases h
 | .cons _ _,.sym _ _,h=>by injection h with h;cases h
theorem ob_iff {a b:Tr}:a.ob=b.ob↔a=b:=⟨ob_inj,fun h=>by rw [h]⟩
def Ok (k:Nat):Tr→Prop
 | .num q=>Rb k q
 | .txt t=>t.length≤100000
 | .sym p s=>p.length≤100000∧s.length≤100000
 | .cons a d=>a.Ok k∧d.Ok k
theorem Ok.mono {k m:Nat} (hm:k≤m):∀ {t:Tr},t.Ok k→t.Ok m
 | .num _,h=>Rb.mono h hm
 | .txt _,h=>h
 | .sym _ _,h=>h
 | .cons _ _,h=>⟨Ok.mono hm h.1,Ok.mono hm h.2⟩
theorem Ok.wf {k:Nat} (hk:k≤100000):∀ {t:Tr},t.Ok k→t.ob.Wf
 | .num q,h=>by
  have h1:=Rb.nlen h
  have h2:=Rb.dlen h
  exact .mk (ratO q) (by show (-9223372036854775808:Int)≤1;omega) (by show (1:Int)≤_;omega) (by show (Lib.itoa q.num).length≤_;omega) (by show (Lib.itoa (q.den:Int)).length≤_;omega) (Nat.zero_le _) (Nat.zero_le _) (Nat.zero_le _) (Nat.zero_le _) (fun x hx=>by cases hx)
 | .txt t,h=>by
  have h':t.length≤100000:=h
  exact .mk (txtO t) (by show (-9223372036854775808:Int)≤3;omega) (by show (3:Int)≤_;omega) (Nat.zero_le _) (Nat.zero_le _) (Nat.zero_le _) (Nat.zero_le _) (by show t.length≤_;omega) (Nat.zero_le _) (fun x hx=>by cases hx)
 | .sym p s,h=>by
  obtain ⟨h1,h2⟩:=h
  exact .mk (symO p s) (by show (-9223372036854775808:Int)≤2;omega) (by show (2:Int)≤_;omega) (Nat.zero_le _) (Nat.zero_le _) (by show p.length≤_;omega) (by show s.length≤_;omega) (Nat.zero_le _) (Nat.zero_le _) (fun x hx=>by cases hx)
 | .cons a d,h=>by
  have h1:=Ok.wf hk h.1
  have h2:=Ok.wf hk h.2
  exact .mk (consO a.ob d.ob) (by show (-9223372036854775808:Int)≤4;omega) (by show (4:Int)≤_;omega) (Nat.zero_le _) (Nat.zero_le _) (Nat.zero_le _) (Nat.zero_le _) (Nat.zero_le _) (by show 2≤9223372036854775807;omega) (fun x hx=>by
   simp only [List.mem_cons,List.not_mem_nil,or_false] at hx
   rcases hx with rfl | rfl <;> assumption)
def val:Tr→Rat
 | .num q=>q
 | _=>0
theorem val_ob (t:Tr):Val t.ob t.val:=by
 cases t with
 | num q=>exact Val.rat q
 | txt t=>exact .inr ⟨by show (3:Int)≠1;decide,rfl⟩
 | sym p s=>exact .inr ⟨by show (2:Int)≠1;decide,rfl⟩
 | cons a d=>exact .inr ⟨by show (4:Int)≠1;decide,rfl⟩
theorem Ok.val {k:Nat} {t:Tr} (h:t.Ok k) (hk:1≤k):Rb k t.val:=by
 cases t with
 | num q=>exact h
 | _=>exact Rb.zero.mono hk
def rank:Tr→Int
 | .num _=>0
 | .txt _=>1
 | .sym _ _=>2
 | .cons _ _=>3
def cmp:Tr→Tr→Int
 | .num p,.num q=>cmpQ p q
 | .txt s,.txt t=>cmpB s t
 | .sym p s,.sym p' s'=>lex3 (cmpB s s') (cmpB p p')
 | .cons a d,.cons a' d'=>lex3 (cmp a a') (cmp d d')
 | x,y=>if x.rank < y.rank then -1 else 1
theorem cmp_zero:∀ a b:Tr,cmp a b=0↔a=b
 | .num p,.num q=>(cmpQ_ok.zero p q).trans ⟨fun h=>by rw [h],fun h=>by injection h⟩
 | .txt s,.txt t=>(cmpB_zero s t).trans ⟨fun h=>by rw [h],fun h=>by injection h⟩
 | .sym p s,.sym p' s'=>by
  show lex3 _ _=0↔_
  rw [lex3_zero,cmpB_zero,cmpB_zero]
  exact ⟨fun h=>by rw [h.1,h.2],fun h=>by injection h with h1 h2;exact ⟨h2,h1⟩⟩
 | .cons a d,.cons a' d'=>by
  show lex3 _ _=0↔_
  rw [lex3_zero,cmp_zero a a',cmp_zero d d']
  exact ⟨fun h=>by rw [h.1,h.2],fun h=>by injection h with h1 h2;exact ⟨h1,h2⟩⟩
 | .num _,.txt _=>⟨(fun h=>by cases h),(fun h=>by cases h)⟩
 | .num _,.sym _ _=>⟨(fun h=>by cases h),(fun h=>by cases h)⟩
 | .num _,.cons _ _=>⟨(fun h=>by cases h),(fun h=>by cases h)⟩
 | .txt _,.num _=>⟨(fun h=>by cases h),(fun h=>by cases h)⟩
 | .txt _,.sym _ _=>⟨(fun h=>by cases h),(fun h=>by cases h)⟩
 | .txt _,.cons _ _=>⟨(fun h=>by cases h),(fun h=>by cases h)⟩
 | .sym _ _,.num _=>⟨(fun h=>by cases h),(fun h=>by cases h)⟩
 | .sym _ _,.txt _=>⟨(fun h=>by cases h),(fun h=>by cases h)⟩
 | .sym _ _,.cons _ _=>⟨(fun h=>by cases h),(fun h=>by cases h)⟩
 | .cons _ _,.num _=>⟨(fun h=>by cases h),(fun h=>by cases h)⟩
 | .cons _ _,.txt _=>⟨(fun h=>by cases h),(fun h=>by cases h)⟩
 | .cons _ _,.sym _ _=>⟨(fun h=>by cases h),(fun h=>by cases h)⟩
def list:List Tr→Tr
 | []=>.sym lispB nilB
 | a::r=>.cons a (list r)
theorem list_ob:∀ l:List Tr,(list l).ob=listO (l.map ob)
 | []=>rfl
 | a::r=>by show consO a.ob (list r).ob=_;rw [list_ob r];rfl
end Tr
end Go.Proofs.YthhknjlmjefklaaGreatDoor
namespace Go.Proofs.YthhknjlmjefklaaGreatDoor
open Go.RowKit
def RetEq (p:Prop) (w:World) (e:Ending) (w':World):Prop:=∃ b:Bool,e=.returned (.bool b)∧(b=true↔p)∧Below w.heap.size w w'
theorem iff_no {p:Prop} (h:¬ p):(false=true)↔p:=⟨(fun e=>by cases e),fun e=>absurd e h⟩
theorem iff_yes {p:Prop} (h:p):(true=true)↔p:=⟨fun _=>h,fun _=>rfl⟩
theorem ob_iff (k:Int) (n d p s t:List UInt8) (l m:List Ob):l=m↔(⟨k,n,d,p,s,t,l⟩:Ob)=⟨k,n,d,p,s,t,m⟩:=⟨fun e=>by rw [e],fun e=>by injection e⟩
theorem init_last {l m:List Ob} {n:Nat} (hl:l.length=n) (hm:m.length=n) (h0:0 < n) (h:∀ j (h1:j < l.length) (h2:j < m.length),j < n - 1→l[j]=m[j]):(l[n - 1]'(by omega)=m[n - 1]'(by omega))↔l=m:=by
 constructor
 ·intro e
  apply List.ext_getElem (by omega)
  intro i h1 h2
  by_cases hi:i < n - 1
  ·exact h i h1 h2 hi
  ·obtain rfl:i=n - 1:=by omega
   exact e
 ·intro e;subst e;rfl
set_option maxHeartbeats 8000000 in
set_option maxRecDepth 100000 in
theorem oEqual_any (ok ok':Nat→Prop):∀ (N:Nat) (a b:Ob),a.size≤N→a.Wf→∀ (A A':Option Addr) (n n' c c':Nat) (w:World),Rd ok w (.slice A n c) (.row (a.pair.map Ob.enc))→Rd ok' w (.slice A' n' c') (.row (b.pair.map Ob.enc)) →
  Calls Tryz.prog 112 #[objV a (.slice A n c),objV b (.slice A' n' c')] w (RetEq (a=b) w):=by
 intro N
 induction N with
 | zero=>intro a b h;have:=Ob.size_pos a;omega
 | succ N ih =>
  intro a b hN hW A A' n n' c c' w hA hB
  go_enter Tryz.func112,Tryz.ntmps112
  go_wp2
  go_loopg [5] a.size (fun gx _ wr=>∃ (x y:Ob) (A2 A3:Option Addr) (n2 n3 c2 c3:Nat),Hid (BlkIs wr w.heap.size 37 (obCells x (.slice A2 n2 c2)))∧Hid (BlkIs wr (w.heap.size+1) 37 (obCells y (.slice A3 n3 c3)))∧Rd ok w (.slice A2 n2 c2) (.row (x.pair.map Ob.enc))∧Rd ok' w (.slice A3 n3 c3) (.row (y.pair.map Ob.enc))∧x.size≤N+1∧x.Wf∧Hid (x=y↔a=b)∧x.size≤gx∧Below w.heap.size w wr)
  case atStart=>exact ⟨a,b,A,A',n,n',c,c',Lib.hid ((BlkIs.new w _ _).alloc _),Lib.hid (BlkIs.new1 w _ _ _),hA,hB,hN,hW,Lib.hid Iff.rfl,Nat.le_refl _,box2 (box _ _) _⟩
  case round =>
   obtain ⟨⟨xk,xn,xd,xp,xs,xt,xl⟩,⟨yk,yn,yd,yp,ys,yt,yl⟩,A2,A3,n2,n3,c2,c3,HX,HY,hx,hy,hxN,hxW,HI,hg,hb⟩:=hrel
   obtain ⟨u0,u1,u2,u3,u4,u5,u6,hu⟩:=HX.out.seven
   obtain ⟨v0,v1,v2,v3,v4,v5,v6,hv⟩:=HY.out.seven
   have hxl:=hx.len
   have hyl:=hy.len
   rw [List.length_map] at hxl hyl
   have hw1:=hxW.len
   dsimp only at hxl hyl hw1 u0 u1 u2 u3 u4 u5 u6 v0 v1 v2 v3 v4 v5 v6
   have HN:=fun (h:¬ ((Ob.mk xk xn xd xp xs xt xl)=(Ob.mk yk yn yd yp ys yt yl)))=>Lib.hid (fun e=>h (HI.out.2 e))
   by_cases hk:xk=yk
   case neg =>
    have hz:(xk != yk)=true:=by rw [bne_iff_ne];exact hk
    have HF:=HN (fun e=>hk (by injection e))
    clear HN hk hxl hyl
    go_wp2
    go_ret
    exact ⟨false,rfl,iff_no HF.out,hb⟩
   subst hk
   by_cases hn:xn=yn
   case neg =>
    have hz:(xn == yn)=false:=by rw [beq_eq_false_iff_ne];exact hn
    have HF:=HN (fun e=>hn (by injection e))
    clear HN hn hxl hyl
    go_wp2
    go_ret
    exact ⟨false,rfl,iff_no HF.out,hb⟩
   subst hn
   by_cases hd:xd=yd
   case neg =>
    have hz:(xd == yd)=false:=by rw [beq_eq_false_iff_ne];exact hd
    have HF:=HN (fun e=>hd (by injection e))
    clear HN hd hxl hyl
    go_wp2
    go_ret
    exact ⟨false,rfl,iff_no HF.out,hb⟩
   subst hd
   by_cases hp:xp=yp
   case neg =>
    have hz:(xp == yp)=false:=by rw [beq_eq_false_iff_ne];exact hp
    have HF:=HN (fun e=>hp (by injection e))
    clear HN hp hxl hyl
    go_wp2
    go_ret
    exact ⟨false,rfl,iff_no HF.out,hb⟩
   subst hp
   by_cases hs:xs=ys
   case neg =>
    have hz:(xs == ys)=false:=by rw [beq_eq_false_iff_ne];exact hs
    have HF:=HN (fun e=>hs (by injection e))
    clear HN hs hxl hyl
    go_wp2
    go_ret
    exact ⟨false,rfl,iff_no HF.out,hb⟩
   subst hs
   by_cases ht:xt=yt
   case neg =>
    have hz:(xt == yt)=false:=by rw [beq_eq_false_iff_ne];exact ht
    have HF:=HN (fun e=>ht (by injection e))
    clear HN ht hxl hyl
    go_wp2
    go_ret
    exact ⟨false,rfl,iff_no HF.out,hb⟩
   subst ht
   by_cases hl:n2=n3
   case neg =>
    have hz:((n2:Int) != (n3:Int))=true:=by rw [bne_iff_ne];omega
    have HF:=HN (fun e=>hl (by injection e with _ _ _ _ _ _ e;rw [← hxl,← hyl,e]))
    clear HN hl hxl hyl
    go_wp2
    go_ret
    exact ⟨false,rfl,iff_no HF.out,hb⟩
   subst hl
   clear HN
   have HXL:=Lib.hid hxl
   have HYL:=Lib.hid hyl
   rw [hxl] at hw1
   clear hxl hyl
   by_cases h0:n2=0
   ·subst h0
    have HT:Hid (a=b):=HI.out.1 (by rw [List.eq_nil_of_length_eq_zero HXL.out,List.eq_nil_of_length_eq_zero HYL.out])
    go_wp2
    go_ret
    exact ⟨true,rfl,iff_yes HT.out,hb⟩
   ·have hz0:((n2:Int) == 0)=false:=by rw [beq_eq_false_iff_ne];omega
    go_wp2
    clear u0 u1 u2 u3 u4 u5 u6 hu v0 v1 v2 v3 v4 v5 v6 hv
    go_loopw [56] (fun ix wq=>∃ i:Nat,i≤n2 - 1∧ix=.int .i64 i∧Hid (∀ j (h1:j < xl.length) (h2:j < yl.length),j < i→xl[j]=yl[j])∧Hid (BlkIs wq w.heap.size 37 (obCells ⟨xk,xn,xd,xp,xs,xt,xl⟩ (.slice A2 n2 c2)))∧Hid (BlkIs wq (w.heap.size+1) 37 (obCells ⟨xk,xn,xd,xp,xs,xt,yl⟩ (.slice A3 n2 c3)))∧Below w.heap.size w wq) (fun ix _=>n2 - 1 - (intOf ix).toNat)
    case atStart=>exact ⟨0,Nat.zero_le _,rfl,Lib.hid (fun j _ _ h=>absurd h (by omega)),HX,HY,hb⟩
    case round =>
     clear HX HY hb
     obtain ⟨i,hi,rfl,HJ,HX,HY,hb⟩:=hrel
     obtain ⟨u0,u1,u2,u3,u4,u5,u6,hu⟩:=HX.out.seven
     obtain ⟨v0,v1,v2,v3,v4,v5,v6,hv⟩:=HY.out.seven
     obtain ⟨f0,f1,f2,f3,f4,f5,f6⟩:=HX.out.frozen7
     obtain ⟨g0,g1,g2,g3,g4,g5,g6⟩:=HY.out.frozen7
     by_cases hin:i < n2 - 1
     ·obtain ⟨p1,q1,hil,A4,n4,c4,rfl,hp1,_,a0,a1,a2,a3,a4,a5,a6,ha⟩:=hx.objs hb (i:=i) (by omega)
      obtain ⟨p2,q2,hil',A5,n5,c5,rfl,hp2,_,b0,b1,b2,b3,b4,b5,b6,hb'⟩:=hy.objs hb (i:=i) (by omega)
      have hp1':=Nat.lt_of_lt_of_le hp1 hb.size
      have hp2':=Nat.lt_of_lt_of_le hp2 hb.size
      have hsz:=Ob.size_pair (o:=⟨xk,xn,xd,xp,xs,xt,xl⟩) (x:=xl[i]) (List.getElem_mem hil)
      have hwf:=hxW.kids (x:=xl[i]) (List.getElem_mem hil)
      have HC:Hid (∀ wd:World,Below w.heap.size w wd→Calls Tryz.prog 112 #[objV xl[i] (.slice A4 n4 c4),objV yl[i] (.slice A5 n5 c5)] wd (RetEq (xl[i]=yl[i]) wd)):=fun wd hd=>ih xl[i] yl[i] (by omega) hwf A4 A5 n4 n5 c4 c5 wd (ha.under hd) (hb'.under hd)
      have hi1:(0:Int)≤(i:Int):=by omega
      have hi2:(i:Int) < n2:=by omega
      have hi3:i < n2:=by omega
      have hbd:=hb.drew
      go_upto_region 9 with (fail)
      go_still_tail 10,(by kernel_rfl)
      go_wp2_with fail
      refine (HC.out _ hbd).mono ?_
      rintro e w1 ⟨bb,rfl,hbb,hb1⟩
      have hbw1:=then_ hbd hb1
      cases bb with
      | false =>
       have HF:Hid (¬ a=b):=fun e=>by
        have e2:=HI.out.2 e
        injection e2 with _ _ _ _ _ _ e2
        have:=hbb.2 (by subst e2;rfl)
        cases this
       clear hbb
       go_wp2
       go_ret
       exact ⟨false,rfl,iff_no HF.out,hbw1⟩
      | true =>
       have HE:=Lib.hid (hbb.1 rfl)
       clear hbb
       go_wp2
       go_roundw
       case rel=>exact ⟨i+1,by omega,by go_num,Lib.hid (fun j h1 h2 h=>by
        rcases Nat.lt_or_ge j i with h3 | h3
        ·exact HJ.out j h1 h2 h3
        ·obtain rfl:j=i:=by omega
         exact HE.out),Lib.hid (HX.out.drew.below hb1),Lib.hid (HY.out.drew.below hb1),hbw1⟩
       case measure=>simp only [intOf];omega
     ·obtain rfl:i=n2 - 1:=by omega
      obtain ⟨p1,q1,hil,A4,n4,c4,rfl,hp1,_,a0,a1,a2,a3,a4,a5,a6,ha⟩:=hx.objs hb (i:=n2 - 1) (by omega)
      obtain ⟨p2,q2,hil',A5,n5,c5,rfl,hp2,_,b0,b1,b2,b3,b4,b5,b6,hb'⟩:=hy.objs hb (i:=n2 - 1) (by omega)
      have hp1':=Nat.lt_of_lt_of_le hp1 hb.size
      have hp2':=Nat.lt_of_lt_of_le hp2 hb.size
      have hsz:=Ob.size_pair (o:=⟨xk,xn,xd,xp,xs,xt,xl⟩) (x:=xl[n2 - 1]) (List.getElem_mem hil)
      have hwf:=hxW.kids (x:=xl[n2 - 1]) (List.getElem_mem hil)
      have HL:=Lib.hid (init_last HXL.out HYL.out (by omega) HJ.out)
      have hi1:(0:Int)≤(n2:Int) - 1:=by omega
      have hi2:(n2:Int) - 1 < n2:=by omega
      have hi3:((n2:Int) - 1).toNat=n2 - 1:=by omega
      have hbd:=hb.drew
      go_upto_region 12 with (fail)
      have w1:IntKind.i64.wrap ((n2:Int) - 1)=(n2:Int) - 1:=IntWalk.i64_in _ (by omega)
      go_region
      clear w1
      go_wp2
      go_roundg (xl[n2 - 1].size)
      case measure=>omega
      case rel =>
       exact ⟨xl[n2 - 1],yl[n2 - 1],A4,A5,n4,n5,c4,c5,Lib.hid ((HX.out.put7.far7 (by omega) _ _ _ _ _ _ _).drew),Lib.hid ((HY.out.far7 (by omega) _ _ _ _ _ _ _).put7.drew),ha,hb',by omega,hwf,Lib.hid (HL.out.trans ((ob_iff xk xn xd xp xs xt xl yl).trans HI.out)),Nat.le_refl _,(set7 (set7 hb (Nat.le_refl _) _ _ _ _ _ _ _) (Nat.le_succ _) _ _ _ _ _ _ _).drew⟩
end Go.Proofs.YthhknjlmjefklaaGreatDoor
namespace Go.Proofs.YthhknjlmjefklaaGreatDoor
open Go.RowKit
def sn (q:Rat):List UInt8:=Lib.itoa q.num
def sd (q:Rat):List UInt8:=Lib.itoa (q.den:Int)
abbrev nv (q:Rat) (A:Option Addr) (c:Nat):Value:=objV (numO (sn q) (sd q)) (.slice A 0 c)
end Go.Proofs.YthhknjlmjefklaaGreatDoor
namespace Go.Proofs.YthhknjlmjefklaaGreatDoor
open Go.RowKit
theorem isDec_nil {l:List UInt8} (h0:(l == [48])=false) (h:Dec.mag l=[]):Dec.isDec l=false:=by
 unfold Dec.isDec;rw [h0,h];rfl
theorem isDec_48 {l:List UInt8} {c:UInt8} {r:List UInt8} (h0:(l == [48])=false) (h:Dec.mag l=c::r) (hc:c.toNat=48):Dec.isDec l=false:=by
 rw [isDec_head48 h hc,h0]
theorem byte_drop {D:ByteArray} {l:List UInt8} (h:D.data.toList=l) (f k:Nat) (hf:f≤k) (hk:k < D.size):∃ hl:k - f < (l.drop f).length,D[k]=(l.drop f)[k - f]:=by
 obtain ⟨h1,e⟩:=byte_at h k hk
 refine ⟨by rw [List.length_drop];omega,?_⟩
 rw [e]
 simp only [List.getElem_drop]
 congr 1
 omega
theorem cons_of_pos {l:List UInt8} (h:0 < l.length):∃ c r,l=c::r:=by
 cases l with
 | nil=>simp at h
 | cons c r=>exact ⟨c,r,rfl⟩
set_option maxHeartbeats 1000000 in
theorem refValid_any (l : List UInt8) (w : World) (hl : l.length ≤ 9223372036854775807) :
    Calls Tryz.prog 141 #[.string ⟨l.toArray⟩] w fun e w' => e = .returned (.bool (Dec.isDec l)) ∧ w = w' := by
  obtain ⟨D, hD⟩ : ∃ D : ByteArray, D = ⟨l.toArray⟩ := ⟨_, rfl⟩
  rw [← hD]
  have HT : Hid (D.data.toList = l) := by rw [hD]; exact (rfl : l.toArray.toList = l)
  clear hD
  have hsz : D.size ≤ 9223372036854775807 := by rw [Lib.size_eq, HT.out]; exact hl
  cases h48 : (l == [48]) with
  | true =>
    have hE : (D.toList == [48]) = true := by rw [Lib.toList_data, HT.out]; exact h48
    have HR : Hid (Dec.isDec l = true) := by show _ = _; unfold Dec.isDec; rw [h48]; rfl
    clear h48
    go_enter Tryz.func141, Tryz.ntmps141
    go_wp2
    go_ret
    exact ⟨by rw [HR.out]; rfl, rfl⟩
  | false =>
    have hE : (D.toList == [48]) = false := by rw [Lib.toList_data, HT.out]; exact h48
    have H48 := Lib.hid h48
    clear h48
    by_cases h0 : D.size = 0
    · have HR := Lib.hid (isDec_nil H48.out (by rw [← HT.out, List.eq_nil_of_length_eq_zero (l := D.data.toList) (by rw [← Lib.size_eq]; exact h0)]; rfl))
      go_enter Tryz.func141, Tryz.ntmps141
      go_wp2
      go_ret
      exact ⟨by rw [HR.out]; rfl, rfl⟩
    · have hpos : 0 < D.size := by omega
      obtain ⟨hl0, e0⟩ := byte_at HT.out 0 hpos
      obtain ⟨c0, r0, hcr⟩ := cons_of_pos hl0
      have ec : D[0] = c0 := by rw [e0]; simp [hcr]
      by_cases h45 : c0 = 45
      · have HM : Hid (Dec.mag l = l.drop 1) := by show _ = _; rw [hcr, h45, Dec.mag_cons45]; rfl
        have hb45 : ((D[0].toNat : Int) == 45) = true := by rw [ec, h45]; rfl
        clear h45 e0 ec hcr hl0
        by_cases hf : D.size ≤ 1
        · have HR := Lib.hid (isDec_nil H48.out (by rw [HM.out, List.drop_of_length_le (by rw [← HT.out, ← Lib.size_eq]; exact hf)]))
          go_enter Tryz.func141, Tryz.ntmps141
          go_wp2
          go_ret
          exact ⟨by rw [HR.out]; rfl, rfl⟩
        · have hfs : 1 < D.size := by omega
          obtain ⟨hlf, ef⟩ := byte_drop HT.out 1 1 (Nat.le_refl _) hfs
          obtain ⟨c, r, hcr⟩ := cons_of_pos (l := l.drop 1) (by omega)
          have ec : D[1] = c := by rw [ef]; simp [hcr]
          by_cases h8 : D[1].toNat = 48
          · have HR := Lib.hid (isDec_48 H48.out (HM.out.trans hcr) (by rw [← ec]; exact h8))
            have hb48 : ((D[1].toNat : Int) == 48) = true := by rw [beq_iff_eq]; omega
            clear h8 ef ec hcr hlf
            go_enter Tryz.func141, Tryz.ntmps141
            go_wp2
            go_ret
            exact ⟨by rw [HR.out]; rfl, rfl⟩
          · have HF := Lib.hid (isDec_head (HM.out.trans hcr) (by rw [← ec]; exact h8))
            have hb48 : ((D[1].toNat : Int) == 48) = false := by rw [beq_eq_false_iff_ne]; omega
            clear h8 ef ec hcr hlf
            go_enter Tryz.func141, Tryz.ntmps141
            go_wp2
            go_loop [4] (fun ix => ∃ k : Nat, 1 ≤ k ∧ k ≤ D.size ∧ ix = .int .i64 k ∧ Hid (Dec.digs ((Dec.mag l).take (k - 1)) = true)) (fun ix => D.size - (intOf ix).toNat)
            case atStart => exact ⟨1, Nat.le_refl _, by omega, rfl, (rfl : Dec.digs ((Dec.mag l).take 0) = true)⟩
            case round =>
              obtain ⟨k, hfk, hk, rfl, HK⟩ := hrel
              by_cases hlt : k < D.size
              · obtain ⟨hkl, ek⟩ := byte_drop HT.out 1 k hfk hlt
                have EK := Lib.hid ek
                clear ek
                rcases Nat.lt_or_ge D[k].toNat 48 with h1 | h1
                · have HR : Hid (Dec.isDec l = false) := by show _ = _; rw [HF.out, HM.out]; exact digs_not hkl (.inl (by rw [← EK.out]; exact h1))
                  go_wp2
                  go_ret
                  exact ⟨by rw [HR.out]; rfl, rfl⟩
                · rcases Nat.lt_or_ge 57 D[k].toNat with h2 | h2
                  · have HR : Hid (Dec.isDec l = false) := by show _ = _; rw [HF.out, HM.out]; exact digs_not hkl (.inr (by rw [← EK.out]; exact h2))
                    go_wp2
                    go_ret
                    exact ⟨by rw [HR.out]; rfl, rfl⟩
                  · go_wp2
                    go_round
                    case rel => exact ⟨k + 1, by omega, by omega, by go_num, Lib.hid (by
                      have h3 := HK.out
                      rw [HM.out] at h3 ⊢
                      rw [show k + 1 - 1 = (k - 1) + 1 by omega]
                      exact digs_take_succ hkl h3 (by rw [← EK.out]; exact h1) (by rw [← EK.out]; exact h2))⟩
                    case measure => simp only [intOf]; omega
              · have HR : Hid (Dec.isDec l = true) := by
                  show _ = _
                  rw [HF.out]
                  have := HK.out
                  rwa [List.take_of_length_le (by rw [HM.out, List.length_drop, ← HT.out, ← Lib.size_eq]; omega)] at this
                go_wp2
                go_ret
                exact ⟨by rw [HR.out]; rfl, rfl⟩
      · have HM : Hid (Dec.mag l = l.drop 0) := by show _ = _; rw [hcr]; simp [Dec.mag, h45]
        have hb45 : ((D[0].toNat : Int) == 45) = false := by
          rw [ec, beq_eq_false_iff_ne]; intro e
          exact h45 (UInt8.toNat_inj.1 (by have : c0.toNat = 45 := by omega
                                           simpa using this))
        clear h45 e0 ec hcr hl0
        by_cases hf : D.size ≤ 0
        · omega
        · have hfs : 0 < D.size := by omega
          obtain ⟨hlf, ef⟩ := byte_drop HT.out 0 0 (Nat.le_refl _) hfs
          obtain ⟨c, r, hcr⟩ := cons_of_pos (l := l.drop 0) (by omega)
          have ec : D[0] = c := by rw [ef]; simp [hcr]
          by_cases h8 : D[0].toNat = 48
          · have HR := Lib.hid (isDec_48 H48.out (HM.out.trans hcr) (by rw [← ec]; exact h8))
            have hb48 : ((D[0].toNat : Int) == 48) = true := by rw [beq_iff_eq]; omega
            clear h8 ef ec hcr hlf
            go_enter Tryz.func141, Tryz.ntmps141
            go_wp2
            go_ret
            exact ⟨by rw [HR.out]; rfl, rfl⟩
          · have HF := Lib.hid (isDec_head (HM.out.trans hcr) (by rw [← ec]; exact h8))
            have hb48 : ((D[0].toNat : Int) == 48) = false := by rw [beq_eq_false_iff_ne]; omega
            clear h8 ef ec hcr hlf
            go_enter Tryz.func141, Tryz.ntmps141
            go_wp2
            go_loop [4] (fun ix => ∃ k : Nat, 0 ≤ k ∧ k ≤ D.size ∧ ix = .int .i64 k ∧ Hid (Dec.digs ((Dec.mag l).take (k - 0)) = true)) (fun ix => D.size - (intOf ix).toNat)
            case atStart => exact ⟨0, Nat.le_refl _, by omega, rfl, (rfl : Dec.digs ((Dec.mag l).take 0) = true)⟩
            case round =>
              obtain ⟨k, hfk, hk, rfl, HK⟩ := hrel
              by_cases hlt : k < D.size
              · obtain ⟨hkl, ek⟩ := byte_drop HT.out 0 k hfk hlt
                have EK := Lib.hid ek
                clear ek
                rcases Nat.lt_or_ge D[k].toNat 48 with h1 | h1
                · have HR : Hid (Dec.isDec l = false) := by show _ = _; rw [HF.out, HM.out]; exact digs_not hkl (.inl (by rw [← EK.out]; exact h1))
                  go_wp2
                  go_ret
                  exact ⟨by rw [HR.out]; rfl, rfl⟩
                · rcases Nat.lt_or_ge 57 D[k].toNat with h2 | h2
                  · have HR : Hid (Dec.isDec l = false) := by show _ = _; rw [HF.out, HM.out]; exact digs_not hkl (.inr (by rw [← EK.out]; exact h2))
                    go_wp2
                    go_ret
                    exact ⟨by rw [HR.out]; rfl, rfl⟩
                  · go_wp2
                    go_round
                    case rel => exact ⟨k + 1, by omega, by omega, by go_num, Lib.hid (by
                      have h3 := HK.out
                      rw [HM.out] at h3 ⊢
                      rw [show k + 1 - 0 = (k - 0) + 1 by omega]
                      exact digs_take_succ hkl h3 (by rw [← EK.out]; exact h1) (by rw [← EK.out]; exact h2))⟩
                    case measure => simp only [intOf]; omega
              · have HR : Hid (Dec.isDec l = true) := by
                  show _ = _
                  rw [HF.out]
                  have := HK.out
                  rwa [List.take_of_length_le (by rw [HM.out, List.length_drop, ← HT.out, ← Lib.size_eq]; omega)] at this
                go_wp2
                go_ret
                exact ⟨by rw [HR.out]; rfl, rfl⟩
theorem refv (l:List UInt8) (z:Bool) (hz:Dec.isDec l=z) (hl:l.length≤9223372036854775807) (w:World):Calls Tryz.prog 141 #[.string ⟨l.toArray⟩] w fun e w'=>e=.returned (.bool z)∧w=w':=by
 have:=refValid_any l w hl
 rwa [hz] at this
end Go.Proofs.YthhknjlmjefklaaGreatDoor
namespace Go.Proofs.YthhknjlmjefklaaGreatDoor
open Go.RowKit
theorem infoInt:(Tryz.prog.info? 3).map (fun i=>(i.zero,i.size,i.bytes))=some (some (.int .i64 0),1,8):=by kernel_rfl
set_option maxHeartbeats 400000 in
theorem refTrim_any (A:Option Addr) (n c:Nat) (l:List Nat) (w:World) (h:Sl w .i64 A n c l) (hn:n≤1000000000) :
  Calls Tryz.prog 142 #[.slice A n c] w fun e w'=>e=.returned (.slice A (Dec.trimZ l).length c)∧w=w':=by
 have hlen:=h.len
 have hcap:=h.cap
 go_enter Tryz.func142,Tryz.ntmps142
 go_wp2
 go_loop [3] (fun v=>∃ m:Nat,v=.int .i64 m∧m≤n∧Hid (Dec.trimZ (l.take m)=Dec.trimZ l)) (fun v=>(intOf v).toNat)
 case atStart=>exact ⟨n,rfl,Nat.le_refl _,Lib.hid (by rw [List.take_of_length_le (by omega)])⟩
 case round =>
  obtain ⟨m,rfl,hm,HT⟩:=hrel
  by_cases h0:0 < m
  ·obtain ⟨b,o,rfl,hb,hc⟩:=h.cells (by omega)
   have hcm:=hc (m - 1) (by omega)
   clear hc
   go_wp2
   ·have hz:l.getD (m - 1) 0=0:=by simpa using ‹((l[m - 1]?.getD 0:Nat) == (0:Int))=true›
    go_round
    case rel=>exact ⟨m - 1,by go_num,by omega,Lib.hid (by rw [trimZ_step h0 (by omega) hz];exact HT.out)⟩
    case measure=>simp only [intOf];omega
   ·have hz:l.getD (m - 1) 0≠0:=by simpa using ‹((l[m - 1]?.getD 0:Nat) == (0:Int))=false›
    go_ret
    refine ⟨?_,rfl⟩
    have e:(Dec.trimZ l).length=m:=by
     rw [← HT.out,trimZ_stop h0 (by omega) hz,List.length_take];omega
    rw [e];rfl
  ·have e:(Dec.trimZ l).length=m:=by
    rw [← HT.out,show m=0 by omega];rfl
   have HE:=Lib.hid e
   clear e
   go_wp2
   go_ret
   refine ⟨?_,rfl⟩
   rw [HE.out];rfl
def RetDig (K:Nat) (v:Int) (w:World) (e:Ending) (w':World):Prop :=
 ∃ A n c,e=.returned (.tuple #[.bool (decide (v < 0)),.slice A n c])∧Sl w' .i64 A n c (Dec.limbs 10 v.natAbs)∧n≤K∧Below w.heap.size w w'
theorem revDigs_cons (c:UInt8) (r:List UInt8):Dec.revDigs (c::r)=Dec.revDigs r++[c.toNat - 48]:=by simp [Dec.revDigs]
theorem revDigs_drop (l:List UInt8) (j:Nat) (h0:0 < j) (hj:j≤l.length):Dec.revDigs (l.drop (j - 1))=Dec.revDigs (l.drop j)++[(l[j - 1]'(by omega)).toNat - 48]:=by
 obtain ⟨m,rfl⟩:∃ m,j=m+1:=⟨j - 1,by omega⟩
 simp only [Nat.add_sub_cancel]
 rw [List.drop_eq_getElem_cons (by omega),revDigs_cons]
set_option maxHeartbeats 1000000 in
theorem refDigits_any (l : List UInt8) (w : World) (hl : l.length ≤ 2500000) :
    Calls Tryz.prog 105 #[.string ⟨l.toArray⟩] w (RetDig (l.length + 1) (Dec.dval l) w) := by
  cases hv : Dec.isDec l with
  | false =>
    have HV := Lib.hid (refv l false hv (by omega) w)
    have HD : Hid (Dec.dval l = 0) := by show _ = _; unfold Dec.dval; rw [hv]; rfl
    clear hv
    go_enter Tryz.func105, Tryz.ntmps105
    go_wp2_with fail
    refine HV.out.mono ?_
    rintro e w' ⟨rfl, rfl⟩
    go_wp2
    go_ret2
    exact ⟨none, 0, 0, by rw [HD.out]; rfl, by rw [HD.out]; exact Sl.nil _ _ _ _, by omega, Below.refl _ _⟩
  | true =>
    have HV := Lib.hid (refv l true hv (by omega) w)
    obtain ⟨D, hD⟩ : ∃ D : ByteArray, D = ⟨l.toArray⟩ := ⟨_, rfl⟩
    rw [← hD] at HV
    rw [← hD]
    have HT : Hid (D.data.toList = l) := by rw [hD]; exact (rfl : l.toArray.toList = l)
    clear hD
    have hsz : D.size ≤ 2500000 := by rw [Lib.size_eq, HT.out]; exact hl
    have HSz : Hid (D.size = l.length) := by show _ = _; rw [Lib.size_eq, HT.out]
    by_cases h0 : l = [48]
    · have hE : (D.toList == [48]) = true := by rw [Lib.toList_data, HT.out, h0]; rfl
      have HD : Hid (Dec.dval l = 0) := by rw [h0]; exact Dec.dval_zero
      clear hv h0
      go_enter Tryz.func105, Tryz.ntmps105
      go_wp2_with fail
      refine HV.out.mono ?_
      rintro e w' ⟨rfl, rfl⟩
      go_wp2
      go_ret2
      exact ⟨none, 0, 0, by rw [HD.out]; rfl, by rw [HD.out]; exact Sl.nil _ _ _ _, by omega, Below.refl _ _⟩
    · have hE : (D.toList == [48]) = false := by rw [Lib.toList_data, HT.out]; simpa using h0
      obtain ⟨hd, hh⟩ := (Dec.isDec_iff h0).1 hv
      have hz := (Dec.decDigits_nval _ hd hh).2
      have HDv : Hid (Dec.dval l = if Dec.neg l then -(Dec.nval (Dec.mag l) : Int) else Dec.nval (Dec.mag l)) := by show _ = _; unfold Dec.dval; rw [if_pos hv]
      have HRv := Lib.hid (Dec.revDigs_limbs hd hh)
      have HDg := Lib.hid hd
      have hlp : 0 < l.length := by
        rcases Nat.eq_zero_or_pos l.length with e | e
        · obtain ⟨c, r, e2, _⟩ := hh
          have := Dec.mag_length_le l
          rw [e2, List.length_cons] at this
          omega
        · exact e
      have hpos : 0 < D.size := by rw [HSz.out]; exact hlp
      obtain ⟨_, e0⟩ := byte_at HT.out 0 hpos
      obtain ⟨c0, r0, hcr⟩ := cons_of_pos hlp
      have ec : D[0] = c0 := by rw [e0]; simp [hcr]
      clear hv h0 hd hh e0
      by_cases h45 : c0 = 45
      · have HM : Hid (Dec.mag l = l.drop 1) := by show _ = _; rw [hcr, h45, Dec.mag_cons45]; rfl
        have hng : Dec.neg l = true := by rw [hcr, h45]; rfl
        have HN : Hid (decide (Dec.dval l < 0) = true ∧ (Dec.dval l).natAbs = Dec.nval (Dec.mag l)) := by show _ ∧ _; rw [HDv.out, hng, if_pos rfl]; exact ⟨decide_eq_true (by omega), by omega⟩
        have hb45 : ((D[0].toNat : Int) == 45) = true := by rw [ec, h45]; rfl
        clear h45 ec hcr hng hz
        go_enter Tryz.func105, Tryz.ntmps105
        go_wp2_with fail
        refine HV.out.mono ?_
        rintro e w' ⟨rfl, rfl⟩
        go_wp2
        go_loopw [6, 7] (fun out ix wr => ∃ (j c2 m : Nat) (A2 : Option Addr), 1 ≤ j ∧ j ≤ D.size ∧ ix = .int .i64 ((j : Int) - 1) ∧ out = .slice A2 m c2 ∧ m + j = D.size ∧ Own wr w.heap.size 3 .i64 A2 m c2 (Dec.revDigs (l.drop j)) ∧ Below w.heap.size w wr) (fun _ ix _ => (intOf ix + 1).toNat)
        case atStart => exact ⟨D.size, 0, 0, none, by omega, Nat.le_refl _, rfl, rfl, by omega, by rw [List.drop_of_length_le (by rw [HSz.out]; exact Nat.le_refl _)]; exact Own.nil _ _ _ _, Below.refl _ _⟩
        case round =>
          obtain ⟨j, c2, m, A2, hfj, hj, rfl, rfl, hmj, hown, hb⟩ := hrel
          have HMJ := Lib.hid hmj
          have hmle : m ≤ 2500000 := by omega
          clear hmj
          by_cases hlt : 1 < j
          · have hj1 : j - 1 < D.size := by omega
            obtain ⟨hkl, ek⟩ := byte_at HT.out (j - 1) hj1
            have hdg := List.all_eq_true.1 HDg.out D[j - 1] (by rw [HM.out, ek]; exact List.mem_drop_iff_getElem.2 ⟨j - 1 - 1, by omega, by congr 1; omega⟩)
            simp only [Dec.dig, Bool.and_eq_true, decide_eq_true_eq] at hdg
            obtain ⟨g1, g2⟩ := hdg
            have HRD := Lib.hid (revDigs_drop l j (by omega) (by rw [← HSz.out]; exact hj))
            have EK := Lib.hid ek
            clear ek
            have hi1 : (0 : Int) ≤ (j : Int) - 1 := by omega
            have hi2 : (j : Int) - 1 < D.size := by omega
            have hi3 : ((j : Int) - 1).toNat = j - 1 := by omega
            go_wp2_with (at_builtin; refine wpList_app (w0 := w) rfl _ _ _ rfl 3 .i64 8 Tryz.underlying175 infoInt (by omega) _ _ _ _ rfl hown _ (D[j - 1].toNat - 48) (by omega) rfl (by omega) hb ?_; intro A3 c3 w2 hown2 hb2 _ _ _)
            go_roundw
            case rel => exact ⟨j - 1, c3, m + 1, A3, by omega, by omega, by go_num, rfl, by have := HMJ.out; omega, by rw [HRD.out, ← EK.out]; exact hown2, hb2⟩
            case measure => simp only [intOf]; omega
          · obtain rfl : j = 1 := by omega
            go_wp2
            go_ret2
            refine ⟨A2, m, c2, by rw [HN.out.1]; rfl, ?_, by have := HMJ.out; have := HSz.out; omega, hb⟩
            rw [HN.out.2, ← HRv.out, HM.out]
            exact hown.sl
      · have HM : Hid (Dec.mag l = l.drop 0) := by show _ = _; rw [hcr]; simp [Dec.mag, h45]
        have hng : Dec.neg l = false := by rw [hcr]; simp [Dec.neg, h45]
        have HN : Hid (decide (Dec.dval l < 0) = false ∧ (Dec.dval l).natAbs = Dec.nval (Dec.mag l)) := by show _ ∧ _; rw [HDv.out, hng, if_neg (by simp)]; exact ⟨decide_eq_false (by omega), by omega⟩
        have hb45 : ((D[0].toNat : Int) == 45) = false := by
          rw [ec, beq_eq_false_iff_ne]; intro e
          exact h45 (UInt8.toNat_inj.1 (by have : c0.toNat = 45 := by omega
                                           simpa using this))
        clear h45 ec hcr hng hz
        go_enter Tryz.func105, Tryz.ntmps105
        go_wp2_with fail
        refine HV.out.mono ?_
        rintro e w' ⟨rfl, rfl⟩
        go_wp2
        go_loopw [6, 7] (fun out ix wr => ∃ (j c2 m : Nat) (A2 : Option Addr), 0 ≤ j ∧ j ≤ D.size ∧ ix = .int .i64 ((j : Int) - 1) ∧ out = .slice A2 m c2 ∧ m + j = D.size ∧ Own wr w.heap.size 3 .i64 A2 m c2 (Dec.revDigs (l.drop j)) ∧ Below w.heap.size w wr) (fun _ ix _ => (intOf ix + 1).toNat)
        case atStart => exact ⟨D.size, 0, 0, none, by omega, Nat.le_refl _, rfl, rfl, by omega, by rw [List.drop_of_length_le (by rw [HSz.out]; exact Nat.le_refl _)]; exact Own.nil _ _ _ _, Below.refl _ _⟩
        case round =>
          obtain ⟨j, c2, m, A2, hfj, hj, rfl, rfl, hmj, hown, hb⟩ := hrel
          have HMJ := Lib.hid hmj
          have hmle : m ≤ 2500000 := by omega
          clear hmj
          by_cases hlt : 0 < j
          · have hj1 : j - 1 < D.size := by omega
            obtain ⟨hkl, ek⟩ := byte_at HT.out (j - 1) hj1
            have hdg := List.all_eq_true.1 HDg.out D[j - 1] (by rw [HM.out, ek]; exact List.mem_drop_iff_getElem.2 ⟨j - 1 - 0, by omega, by congr 1; omega⟩)
            simp only [Dec.dig, Bool.and_eq_true, decide_eq_true_eq] at hdg
            obtain ⟨g1, g2⟩ := hdg
            have HRD := Lib.hid (revDigs_drop l j (by omega) (by rw [← HSz.out]; exact hj))
            have EK := Lib.hid ek
            clear ek
            have hi1 : (0 : Int) ≤ (j : Int) - 1 := by omega
            have hi2 : (j : Int) - 1 < D.size := by omega
            have hi3 : ((j : Int) - 1).toNat = j - 1 := by omega
            go_wp2_with (at_builtin; refine wpList_app (w0 := w) rfl _ _ _ rfl 3 .i64 8 Tryz.underlying175 infoInt (by omega) _ _ _ _ rfl hown _ (D[j - 1].toNat - 48) (by omega) rfl (by omega) hb ?_; intro A3 c3 w2 hown2 hb2 _ _ _)
            go_roundw
            case rel => exact ⟨j - 1, c3, m + 1, A3, by omega, by omega, by go_num, rfl, by have := HMJ.out; omega, by rw [HRD.out, ← EK.out]; exact hown2, hb2⟩
            case measure => simp only [intOf]; omega
          · obtain rfl : j = 0 := by omega
            go_wp2
            go_ret2
            refine ⟨A2, m, c2, by rw [HN.out.1]; rfl, ?_, by have := HMJ.out; have := HSz.out; omega, hb⟩
            rw [HN.out.2, ← HRv.out, HM.out]
            exact hown.sl
end Go.Proofs.YthhknjlmjefklaaGreatDoor
namespace Go.Proofs.YthhknjlmjefklaaGreatDoor
open Go.RowKit
set_option maxHeartbeats 400000 in
theorem order_same (B:Nat) (hB:2≤B) (A A':Option Addr) (n c c':Nat) (x y:List Nat) (w:World) (hx:Sl w .i64 A n c x) (hy:Sl w .i64 A' n c' y) (hn:n≤1000000000)
  (hsx:Dec.Small B x) (hsy:Dec.Small B y) :
  Calls Tryz.prog 143 #[.slice A n c,.slice A' n c'] w (Cmp (Dec.lval B x) (Dec.lval B y) w):=by
 have hlx:=hx.len
 have hly:=hy.len
 have HX:=Lib.hid hlx
 have HY:=Lib.hid hly
 clear hlx hly
 go_enter Tryz.func143,Tryz.ntmps143
 go_wp2
 go_loopw [5] (fun i wr=>∃ k q:Nat,k≤n∧i=.int .i64 ((k:Int) - 1)∧Hid (x.drop k=y.drop k)∧wr=w.drewN q) (fun i _=>(intOf i+1).toNat)
 case atStart=>exact ⟨n,0,Nat.le_refl _,rfl,(by rw [List.drop_of_length_le (by rw [HX.out];exact Nat.le_refl _),List.drop_of_length_le (by rw [HY.out];exact Nat.le_refl _)]:x.drop n=y.drop n),rfl⟩
 case round =>
  obtain ⟨k,q,hk,rfl,HD,rfl⟩:=hrel
  by_cases h0:0 < k
  ·obtain ⟨b,o,rfl,hb,hc⟩:=hx.cells (by omega)
   obtain ⟨b',o',rfl,hb',hc'⟩:=hy.cells (by omega)
   have hcm:=hc (k - 1) (by omega)
   have hcm':=hc' (k - 1) (by omega)
   clear hc hc' hb hb'
   have hi1:(0:Int)≤(k:Int) - 1:=by omega
   have hi2:(k:Int) - 1 < n:=by omega
   have hi3:((k:Int) - 1).toNat=k - 1:=by omega
   generalize hu:x.getD (k - 1) 0=u at hcm
   generalize hv:y.getD (k - 1) 0=v at hcm'
   have HU:=Lib.hid hu
   have HV:=Lib.hid hv
   clear hu hv
   rcases Nat.lt_trichotomy u v with hlt | heq | hgt
   ·have e2:decide ((u:Int) < v)=true:=by simp;omega
    go_wp2
    go_quiet (fail)
    go_wp2
    go_ret
    refine ⟨?_,ex_drew2 _ _ _⟩
    rw [ordI_lt (Dec.lval_lt_of_top (i:=k - 1) hsx hB (by rw [HX.out];omega) (by rw [HX.out,HY.out]) (by rw [Nat.sub_add_cancel h0];exact HD.out) (by rw [HU.out,HV.out];exact hlt))]
    rfl
   ·have e2:decide ((u:Int) < v)=false:=by simp;omega
    have e3:decide ((v:Int) < u)=false:=by simp;omega
    go_wp2
    go_quiet (fail)
    go_wp2
    go_quiet (fail)
    go_wp2
    go_roundw
    case rel=>exact ⟨k - 1,_,by omega,by go_num,drop_pred h0 (by rw [HX.out];exact hk) (by rw [HX.out,HY.out]) HD.out (by rw [HU.out,HV.out,heq]),rfl⟩
    case measure=>simp only [intOf];omega
   ·have e2:decide ((u:Int) < v)=false:=by simp;omega
    have e3:decide ((v:Int) < u)=true:=by simp;omega
    go_wp2
    go_quiet (fail)
    go_wp2
    go_quiet (fail)
    go_wp2
    go_ret
    refine ⟨?_,ex_drew3 _ _ _ _⟩
    rw [ordI_gt (Dec.lval_lt_of_top (i:=k - 1) hsy hB (by rw [HY.out];omega) (by rw [HX.out,HY.out]) (by rw [Nat.sub_add_cancel h0];exact HD.out.symm) (by rw [HU.out,HV.out];exact hgt))]
    rfl
  ·have hk0:k=0:=by omega
   subst hk0
   go_wp2
   go_ret
   refine ⟨?_,_,rfl⟩
   have e:x=y:=by simpa using HD.out
   rw [e,ordI_eq]
   rfl
set_option maxHeartbeats 400000 in
theorem orderR_any (B:Nat) (hB:2≤B) (A A':Option Addr) (n n' c c' a b:Nat) (w:World) (hx:Sl w .i64 A n c (Dec.limbs B a)) (hy:Sl w .i64 A' n' c' (Dec.limbs B b)) (hn:n≤1000000000) (hn':n'≤1000000000) :
  Calls Tryz.prog 143 #[.slice A n c,.slice A' n' c'] w (Cmp a b w):=by
 rcases Nat.lt_trichotomy n n' with hlt | heq | hgt
 ·have e1:((n:Int) != n')=true:=by rw [bne_iff_ne];omega
  have hv:a < b:=Dec.lt_of_length_lt hB (by rw [hx.len,hy.len];exact hlt)
  have HV:=Lib.hid (ordI_lt hv)
  clear hv hx hy
  go_enter Tryz.func143,Tryz.ntmps143
  go_wp2
  go_ret
  refine ⟨?_,0,rfl⟩
  rw [HV.out]
  rfl
 ·subst heq
  have:=order_same B hB A A' n c c' _ _ w hx hy hn (Dec.limbs_small hB a) (Dec.limbs_small hB b)
  rwa [Dec.lval_limbs hB,Dec.lval_limbs hB] at this
 ·have e1:((n:Int) != n')=true:=by rw [bne_iff_ne];omega
  have e2:decide (n < n')=false:=by simp;omega
  have hv:b < a:=Dec.lt_of_length_lt hB (by rw [hx.len,hy.len];exact hgt)
  have HV:=Lib.hid (ordI_gt hv)
  clear hv hx hy
  go_enter Tryz.func143,Tryz.ntmps143
  go_wp2
  go_ret
  refine ⟨?_,0,rfl⟩
  rw [HV.out]
  rfl
end Go.Proofs.YthhknjlmjefklaaGreatDoor
namespace Go.Proofs.YthhknjlmjefklaaGreatDoor
open Go.RowKit
def RetSm (K v:Nat) (w:World) (e:Ending) (w':World):Prop:=∃ A n c o,e=.returned (.slice A n c)∧n≤K∧Sl w' .i64 A n c o∧Dec.Small 10 o∧Dec.lval 10 o=v∧Below w.heap.size w w'∧∀ b o,A=some ⟨b,o,none⟩→w.heap.size≤b
theorem getD_out {l:List Nat} {k n:Nat} (h:l.length=n) (hk:¬ k < n):l.getD k 0=0:=by
 rw [List.getD_eq_getElem?_getD,List.getElem?_eq_none (by omega)];rfl
set_option maxHeartbeats 2000000 in
theorem refPlus_any (A A':Option Addr) (n n' c c':Nat) (x y:List Nat) (w:World) (hx:Sl w .i64 A n c x) (hy:Sl w .i64 A' n' c' y) (hn:n≤100000000) (hn':n'≤100000000)
  (hsx:Dec.Small 10 x) (hsy:Dec.Small 10 y) :
  Calls Tryz.prog 198 #[.slice A n c,.slice A' n' c'] w (RetSm (max n n'+1) (Dec.lval 10 x+Dec.lval 10 y) w):=by
 go_enter Tryz.func198,Tryz.ntmps198
 go_wp2
 go_loopg [5,6,7] (2 * max n n') (fun gx out cr ix wr=>∃ (k:Nat) (A2:Option Addr) (c2:Nat) (o:List Nat) (cy:Nat),k+cy≤max n n'+1∧ix=.int .i64 k∧out=.slice A2 k c2∧cr=.int .i64 cy∧cy≤1∧Own wr w.heap.size 3 .i64 A2 k c2 o∧Dec.Small 10 o∧Hid (Dec.lval 10 o+10 ^ k * cy=Dec.lval 10 (x.take k)+Dec.lval 10 (y.take k))∧Below w.heap.size w wr∧2 * (max n n' - k)+cy≤gx)
 case atStart=>exact ⟨0,none,0,[],0,by omega,rfl,rfl,rfl,by omega,Own.nil _ _ _ _,Dec.Small.nil,Lib.hid (by simp [Dec.lval]),Below.refl _ _,by omega⟩
 case round =>
  obtain ⟨k,A2,c2,o,cy,hk,rfl,rfl,rfl,hcy,hown,hso,HV,hb,hg⟩:=hrel
  have HO:=Lib.hid hown.len
  by_cases hkn:k < n
  ·obtain ⟨b,off,rfl,_,hcx⟩:=(hx.below hb).cells (by omega)
   have hcu:=hcx k hkn
   clear hcx
   have hu:=getD_lt (l:=x) hsx (by omega) k
   by_cases hkm:k < n'
   ·obtain ⟨b',off',rfl,_,hcy'⟩:=(hy.below hb).cells (by omega)
    have hcv:=hcy' k hkm
    clear hcy'
    have hv:=getD_lt (l:=y) hsy (by omega) k
    have HR:=Lib.hid (Dec.plus_round (B:=10) (a:=x) (b:=y) (n:=cy+x.getD k 0+y.getD k 0) HO.out HV.out (by omega))
    generalize x.getD k 0=u at hcu hu HR
    generalize y.getD k 0=v at hcv hv HR
    go_wp2_with (at_builtin;refine wpList_app (w0:=w) rfl _ _ _ rfl 3 .i64 8 Tryz.underlying175 infoInt (by omega) _ _ _ o rfl hown _ ((cy+u+v) % 10) (by omega) rfl (by omega) hb ?_;intro A3 c3 w2 hown2 hb2 _ _ _)
    go_roundg (2 * (max n n' - (k+1))+(cy+u+v) / 10)
    case measure=>omega
    case rel=>exact ⟨k+1,A3,c3,o++[(cy+u+v) % 10],(cy+u+v) / 10,by omega,by go_num,rfl,by go_num,by omega,hown2,hso.append (Dec.Small.cons (by omega) Dec.Small.nil),HR,hb2,Nat.le_refl _⟩
   ·have hv:=getD_out hy.len hkm
    have HR:=Lib.hid (Dec.plus_round (B:=10) (a:=x) (b:=y) (n:=cy+x.getD k 0) HO.out HV.out (by omega))
    clear hv
    generalize x.getD k 0=u at hcu hu HR
    go_wp2_with (at_builtin;refine wpList_app (w0:=w) rfl _ _ _ rfl 3 .i64 8 Tryz.underlying175 infoInt (by omega) _ _ _ o rfl hown _ ((cy+u) % 10) (by omega) rfl (by omega) hb ?_;intro A3 c3 w2 hown2 hb2 _ _ _)
    go_roundg (2 * (max n n' - (k+1))+(cy+u) / 10)
    case measure=>omega
    case rel=>exact ⟨k+1,A3,c3,o++[(cy+u) % 10],(cy+u) / 10,by omega,by go_num,rfl,by go_num,by omega,hown2,hso.append (Dec.Small.cons (by omega) Dec.Small.nil),HR,hb2,Nat.le_refl _⟩
  ·have hu:=getD_out hx.len hkn
   by_cases hkm:k < n'
   ·obtain ⟨b',off',rfl,_,hcy'⟩:=(hy.below hb).cells (by omega)
    have hcv:=hcy' k hkm
    clear hcy'
    have hv:=getD_lt (l:=y) hsy (by omega) k
    have HR:=Lib.hid (Dec.plus_round (B:=10) (a:=x) (b:=y) (n:=cy+y.getD k 0) HO.out HV.out (by omega))
    clear hu
    generalize y.getD k 0=v at hcv hv HR
    go_wp2_with (at_builtin;refine wpList_app (w0:=w) rfl _ _ _ rfl 3 .i64 8 Tryz.underlying175 infoInt (by omega) _ _ _ o rfl hown _ ((cy+v) % 10) (by omega) rfl (by omega) hb ?_;intro A3 c3 w2 hown2 hb2 _ _ _)
    go_roundg (2 * (max n n' - (k+1))+(cy+v) / 10)
    case measure=>omega
    case rel=>exact ⟨k+1,A3,c3,o++[(cy+v) % 10],(cy+v) / 10,by omega,by go_num,rfl,by go_num,by omega,hown2,hso.append (Dec.Small.cons (by omega) Dec.Small.nil),HR,hb2,Nat.le_refl _⟩
   ·have hv:=getD_out hy.len hkm
    have HR:=Lib.hid (Dec.plus_round (B:=10) (a:=x) (b:=y) (n:=cy) HO.out HV.out (by omega))
    clear hu hv
    have HX:Hid (x.take k=x):=Lib.hid (List.take_of_length_le (by rw [hx.len];omega))
    have HY:Hid (y.take k=y):=Lib.hid (List.take_of_length_le (by rw [hy.len];omega))
    by_cases hc0:0 < cy
    ·obtain rfl:cy=1:=by omega
     have HF:Hid (Dec.lval 10 (o++[1 % 10])+10 ^ (k+1) * (1 / 10)=Dec.lval 10 (x.take (k+1))+Dec.lval 10 (y.take (k+1))):=HR
     go_wp2_with (at_builtin;refine wpList_app (w0:=w) rfl _ _ _ rfl 3 .i64 8 Tryz.underlying175 infoInt (by omega) _ _ _ o rfl hown _ 1 (by omega) rfl (by omega) hb ?_;intro A3 c3 w2 hown2 hb2 _ _ _)
     go_roundg 0
     case measure=>omega
     case rel=>exact ⟨k+1,A3,c3,o++[1],0,by omega,by go_num,rfl,rfl,by omega,hown2,hso.append (Dec.Small.cons (by omega) Dec.Small.nil),HF,hb2,by omega⟩
    ·obtain rfl:cy=0:=by omega
     have HF:Hid (Dec.lval 10 o=Dec.lval 10 x+Dec.lval 10 y):=by
      have h:=HV.out
      rw [HX.out,HY.out] at h
      show _=_
      omega
     go_wp2
     go_ret
     exact ⟨A2,k,c2,o,rfl,by omega,hown.sl,hso,HF.out,hb,hown.fresh⟩
end Go.Proofs.YthhknjlmjefklaaGreatDoor
namespace Go.Proofs.YthhknjlmjefklaaGreatDoor
open Go.RowKit
set_option maxHeartbeats 2000000 in
theorem refMinus_any (A A':Option Addr) (n n' c c':Nat) (x y:List Nat) (w:World) (hx:Sl w .i64 A n c x) (hy:Sl w .i64 A' n' c' y) (hn:n≤100000000) (hnn:n'≤n)
  (hsx:Dec.Small 10 x) (hsy:Dec.Small 10 y) (hle:Dec.lval 10 y≤Dec.lval 10 x) :
  Calls Tryz.prog 144 #[.slice A n c,.slice A' n' c'] w (RetSl .i64 (Dec.limbs 10 (Dec.lval 10 x - Dec.lval 10 y)) w):=by
 go_enter Tryz.func144,Tryz.ntmps144
 go_wp2
 go_loopw [5,6,7] (fun out br ix wr=>∃ (k:Nat) (A2:Option Addr) (c2:Nat) (o:List Nat) (bw:Nat),k≤n∧ix=.int .i64 k∧out=.slice A2 k c2∧br=.int .i64 bw∧bw≤1∧Own wr w.heap.size 3 .i64 A2 k c2 o∧Dec.Small 10 o∧Hid (Dec.lval 10 (x.take k)+10 ^ k * bw=Dec.lval 10 o+Dec.lval 10 (y.take k))∧Below w.heap.size w wr) (fun _ _ ix _=>n - (intOf ix).toNat)
 case atStart=>exact ⟨0,none,0,[],0,by omega,rfl,rfl,rfl,by omega,Own.nil _ _ _ _,Dec.Small.nil,Lib.hid (by simp [Dec.lval]),Below.refl _ _⟩
 case round =>
  obtain ⟨k,A2,c2,o,bw,hk,rfl,rfl,rfl,hbw,hown,hso,HV,hb⟩:=hrel
  have HO:=Lib.hid hown.len
  by_cases hkn:k < n
  ·obtain ⟨b,off,rfl,_,hcx⟩:=(hx.below hb).cells (by omega)
   have hcu:=hcx k hkn
   clear hcx
   have hu:=getD_lt (l:=x) hsx (by omega) k
   have HR:=fun d t=>Lib.hid (Dec.minus_round (B:=10) (a:=x) (b:=y) (d:=d) (n:=t) HO.out HV.out)
   by_cases hkm:k < n'
   ·obtain ⟨b',off',rfl,_,hcy'⟩:=(hy.below hb).cells (by omega)
    have hcv:=hcy' k hkm
    clear hcy'
    have hv:=getD_lt (l:=y) hsy (by omega) k
    generalize x.getD k 0=u at hcu hu HR
    generalize y.getD k 0=v at hcv hv HR
    by_cases hneg:(u:Int) - bw - v < 0
    ·have HR1:=Lib.hid ((HR 1 (u+10 - bw - v)).out (by omega))
     clear HR
     go_wp2_with (at_builtin;refine wpList_app (w0:=w) rfl _ _ _ rfl 3 .i64 8 Tryz.underlying175 infoInt (by omega) _ _ _ o rfl hown _ (u+10 - bw - v) (by omega) rfl (by omega) hb ?_;intro A3 c3 w2 hown2 hb2 _ _ _)
     go_roundw
     case rel=>exact ⟨k+1,A3,c3,o++[u+10 - bw - v],1,by omega,by go_num,rfl,rfl,by omega,hown2,hso.append (Dec.Small.cons (by omega) Dec.Small.nil),HR1,hb2⟩
     case measure=>simp only [intOf];omega
    ·have HR1:=Lib.hid ((HR 0 (u - bw - v)).out (by omega))
     clear HR
     go_wp2_with (at_builtin;refine wpList_app (w0:=w) rfl _ _ _ rfl 3 .i64 8 Tryz.underlying175 infoInt (by omega) _ _ _ o rfl hown _ (u - bw - v) (by omega) rfl (by omega) hb ?_;intro A3 c3 w2 hown2 hb2 _ _ _)
     go_roundw
     case rel=>exact ⟨k+1,A3,c3,o++[u - bw - v],0,by omega,by go_num,rfl,rfl,by omega,hown2,hso.append (Dec.Small.cons (by omega) Dec.Small.nil),HR1,hb2⟩
     case measure=>simp only [intOf];omega
   ·have hv:=getD_out hy.len hkm
    rw [hv] at HR
    clear hv
    generalize x.getD k 0=u at hcu hu HR
    by_cases hneg:(u:Int) - bw < 0
    ·have HR1:=Lib.hid ((HR 1 (u+10 - bw)).out (by omega))
     clear HR
     go_wp2_with (at_builtin;refine wpList_app (w0:=w) rfl _ _ _ rfl 3 .i64 8 Tryz.underlying175 infoInt (by omega) _ _ _ o rfl hown _ (u+10 - bw) (by omega) rfl (by omega) hb ?_;intro A3 c3 w2 hown2 hb2 _ _ _)
     go_roundw
     case rel=>exact ⟨k+1,A3,c3,o++[u+10 - bw],1,by omega,by go_num,rfl,rfl,by omega,hown2,hso.append (Dec.Small.cons (by omega) Dec.Small.nil),HR1,hb2⟩
     case measure=>simp only [intOf];omega
    ·have HR1:=Lib.hid ((HR 0 (u - bw)).out (by omega))
     clear HR
     go_wp2_with (at_builtin;refine wpList_app (w0:=w) rfl _ _ _ rfl 3 .i64 8 Tryz.underlying175 infoInt (by omega) _ _ _ o rfl hown _ (u - bw) (by omega) rfl (by omega) hb ?_;intro A3 c3 w2 hown2 hb2 _ _ _)
     go_roundw
     case rel=>exact ⟨k+1,A3,c3,o++[u - bw],0,by omega,by go_num,rfl,rfl,by omega,hown2,hso.append (Dec.Small.cons (by omega) Dec.Small.nil),HR1,hb2⟩
     case measure=>simp only [intOf];omega
  ·have hkk:k=n:=by omega
   subst hkk
   have HF:Hid (Dec.lval 10 o=Dec.lval 10 x - Dec.lval 10 y):=by
    have h:=HV.out
    rw [List.take_of_length_le (by rw [hx.len];omega),List.take_of_length_le (by rw [hy.len];omega)] at h
    have hlt:=Dec.lval_lt (B:=10) (by omega) hso
    rw [HO.out] at hlt
    show _=_
    rcases Nat.eq_zero_or_pos bw with e | e
    ·subst e;omega
    ·obtain rfl:bw=1:=by omega
     omega
   have hsl:=hown.sl
   go_wp2_with fail
   refine (refTrim_any _ _ _ _ _ hsl (by omega)).mono ?_
   rintro e w' ⟨rfl,rfl⟩
   go_wp2
   go_ret
   refine ⟨_,_,_,rfl,?_,hb,hown.fresh⟩
   have:=hsl.trimmed (B:=10) (by omega) hso
   rw [HF.out] at this
   exact this
end Go.Proofs.YthhknjlmjefklaaGreatDoor
