/- Plain walks, second form: a region that draws its order ends as in its text's order, where operations that touch the same place wait for each other. -/
import Derived.Test.YtbpmpdadppamgaaGreatDoorGK
import Derived.Scope
import Derived.Deep.LoopGhost
import Derived.Test.YtbpmpdadppamgaaGreatDoorGJ
namespace Go.Proofs.YtbpmpdadppamgaaGreatDoor
open Go.RowKit
def jI(ops:Array Oper)(tm:Nat→AV)(o:Oper):Option Bool:=match o.guard with
 |none=>some true
 |some (g,b)=>match (ops[g]?).bind (·.dst) with
  |none=>none
  |some d=>match tm d with
   |.dt (.val (.bool c))=>some (c == b)
   |.dt (.val (.tuple _))=>some false
   |_=>none
theorem Df{X:Nat→Prop}{n0:Nat}{w0:World×Mm}{ok0:Nat→Prop}{M:Mm}{nt:Nat}{tm:Nat→AV}{bx:Nat→Option Bx}{a:Act}{w:World}{ops:Array Oper}{o:Oper}{c:Bool}(hI:Inv X n0 w0 ok0 M nt tm bx a w)(h:jI ops tm o=some c):Region.wanted o (yielded ops a.tmps)=c:=by
 unfold jI at h;unfold Region.wanted;cases hg:o.guard with
 |none=>rw[hg]at h;cases h;rfl
 |some x =>
  obtain⟨g,b⟩:=x;rw[hg]at h;simp only at h ⊢;unfold yielded;cases hd:(ops[g]?).bind (·.dst) with
  |none=>rw[hd]at h;cases h
  |some d =>
   rw[hd]at h;simp only[Option.bind_some]at h ⊢
   have hv:=hI.tmps d;split at h
   ·rename_i c' hc;cases h;rw[hc]at hv;have hv':a.tmps.getD d undef=.bool c':=Rd.Q7 hv;have:a.tmps[d]?=some (.bool c'):=by
     cases ht:a.tmps[d]? with
     |none=>simp[Array.getD_eq_getD_getElem?,ht,undef]at hv'
     |some u=>simp[Array.getD_eq_getD_getElem?,ht]at hv';rw[hv']
    rw[this];cases c' <;> cases b <;> rfl
   ·rename_i us hc;cases h;rw[hc]at hv;have hv':a.tmps.getD d undef=.tuple us:=Rd.Q7 hv;cases ht:a.tmps[d]? with
    |none=>rfl
    |some u=>simp[Array.getD_eq_getD_getElem?,ht]at hv';rw[hv'];rfl
   ·cases h
structure Fp where
 rt:List Nat
 wt:Option Nat
 bt:List Nat
 bw:Bool
 all:Bool
structure Stp (E:En) (ops:Array Oper) (nt:Nat) (o:Oper) (tm:Nat→AV) (bx:Nat→Option Bx) (tm':Nat→AV) (bx':Nat→Option Bx) (f:Fp):Prop where
 rt:∀t∈o.looksAt ops,t∈f.rt
 wt:f.wt=o.dst
 lt:∀t,o.dst=some t→t < nt
 go:(jI ops tm o=some false∧tm'=Q6 tm o.dst (.dt (.val undef))∧bx'=bx) ∨
  (jI ops tm o=some true∧∃act an J9 k r ups ps,aG E o.op (H7 tm) an=some (act,J9)∧act.run E bx k=some (r,ups,ps)∧K7 ps∧(∀q∈act.news k,bx q=none)∧tm'=Q6 tm o.dst r∧bx'=J2 bx ups∧(∀b∈act.bt bx k,b∈f.bt)∧(ups≠[]→f.bw=true)) ∨
  (f.all=true∧(∀t,o.dst≠some t→tm' t=tm t)∧(∀b,¬(b∈f.bt∧f.bw=true)→bx' b=bx b) ∧
   ∀(X:Nat→Prop) (n0:Nat) (w0:World×Mm) (ok0:Nat→Prop) (Q:Exit→Act→World→Prop) (i:Nat) (a:Act) (w:World) (K:Act→World→Prop),ops[i]?=some o→(∀w,W9 X n0 w0.1 w→E.G w)→Left X n0 w0 ok0 nt tm bx a w→(∀a w,Left X n0 w0 ok0 nt tm' bx' a w→K a w)→wpOp E.P ops Q i K a w) ∨
  (∃r,tm'=Q6 tm o.dst r∧(∀b,¬(b∈f.bt∧f.bw=true)→bx' b=bx b) ∧
   ∀(gQ:Nat→AV) (dS:Nat→Option Bx),(∀t∈f.rt,gQ t=tm t)→(∀b∈f.bt,dS b=bx b)→(∃K,∀k,K≤k→dS k=none) →
   ∀(X:Nat→Prop) (n0:Nat) (w0:World×Mm) (ok0:Nat→Prop) (Q:Exit→Act→World→Prop) (i:Nat) (a:Act) (w:World) (K:Act→World→Prop),ops[i]?=some o→(∀w,W9 X n0 w0.1 w→E.G w)→Left X n0 w0 ok0 nt gQ dS a w→(∀a w,Left X n0 w0 ok0 nt (Q6 gQ o.dst r) (fun b=>if b∈f.bt∧f.bw=true then bx' b else dS b) a w→K a w)→wpOp E.P ops Q i K a w)
theorem Dy{tm:Nat→AV}{d:Option Nat}{r:AV}{t:Nat}(h:d≠some t):Q6 tm d r t=tm t:=by
 cases d with
 |none=>rfl
 |some d=>exact EQ fun e=>h (by rw[e])
theorem vM{tm:Nat→AV}{d:Option Nat}{r:AV}{t:Nat}(h:d=some t):Q6 tm d r t=r:=by
 subst h;exact Ch rfl
theorem Stp.Xw{E:En}{ops:Array Oper}{nt:Nat}{o:Oper}{tm tm':Nat→AV}{bx bx':Nat→Option Bx}{f:Fp}(h:Stp E ops nt o tm bx tm' bx' f){t:Nat}(ht:f.wt≠some t):tm' t=tm t:=by
 rw[h.wt]at ht;rcases h.go with⟨_,rfl,_⟩ | ⟨_,_,_,_,_,_,_,_,_,_,_,_,rfl,_⟩ | ⟨_,h1,_⟩ | ⟨_,rfl,_⟩
 ·exact Dy ht
 ·exact Dy ht
 ·exact h1 t ht
 ·exact Dy ht
theorem Stp.Xx{E:En}{ops:Array Oper}{nt:Nat}{o:Oper}{tm tm':Nat→AV}{bx bx':Nat→Option Bx}{f:Fp}(h:Stp E ops nt o tm bx tm' bx' f){b:Nat}(hb:¬(b∈f.bt∧f.bw=true)):bx' b=bx b:=by
 rcases h.go with⟨_,_,rfl⟩ | ⟨_,act,an,J9,k,r,ups,ps,_,hr,_,_,_,rfl,h1,h2⟩ | ⟨_,_,h1,_⟩ | ⟨_,_,h1,_⟩
 ·rfl
 ·refine rZ fun x hx=>hb ⟨h1 _ (a7q hr b x hx),h2 fun e=>?_⟩
  rw[e]at hx;cases hx
 ·exact h1 b hb
 ·exact h1 b hb
theorem Stp.wp{E:En}{ops:Array Oper}{nt:Nat}{o:Oper}{tm tm':Nat→AV}{bx bx':Nat→Option Bx}{f:Fp}(h:Stp E ops nt o tm bx tm' bx' f)
  {X:Nat→Prop} {n0:Nat} {w0:World×Mm} {ok0:Nat→Prop} {a:Act} {w:World} {Q:Exit→Act→World→Prop} {i:Nat} (ho:ops[i]?=some o) (hfin:∃K,∀k,K≤k→bx k=none) (hL:Left X n0 w0 ok0 nt tm bx a w) (hG:∀w,W9 X n0 w0.1 w→E.G w) {K:Act→World→Prop} (hK:∀a w,Left X n0 w0 ok0 nt tm' bx' a w→K a w):wpOp E.P ops Q i K a w:=by
 rcases h.go with hg | hg | ⟨_,_,_,hg⟩ | ⟨r,ht,hb,hg⟩
 case inr.inr.inl=>exact hg X n0 w0 ok0 Q i a w K ho hG hL hK
 case inr.inr.inr =>
  refine hg tm bx (fun _ _=>rfl) (fun _ _=>rfl) hfin X n0 w0 ok0 Q i a w K ho hG hL fun a w h2=>hK a w ?_
  have e:(fun b=>if b∈f.bt∧f.bw=true then bx' b else bx b)=bx':=funext fun b=>by
   by_cases c:b∈f.bt∧f.bw=true
   ·rw[Ch c]
   ·rw[EQ c,hb b c]
  rw[e,←ht]at h2;exact h2
 all_goals
  obtain⟨M,hI⟩:=hL;unfold wpOp;simp only[ho]
 ·obtain⟨hw,rfl,rfl⟩:=hg;rw[Df hI hw];simp only[ZaL,Zav];exact hK _ _ ⟨M,hI.val o.dst h.lt rX⟩
 ·obtain⟨hw,act,an,J9,k,r,ups,ps,h1,h2,h3,h4,rfl,rfl,_,_⟩:=hg;rw[Df hI hw];simp only[ZaG];left;exact Oper.wp_mono hK (a2y h1 h2 h3 hI h.lt (hG _ hI.below) h4)
theorem xX{bx bx':Nat→Option Bx}{b:Nat}(h:bx b=bx' b):∀{ups:List (Nat×Bx)},J2 bx ups b=J2 bx' ups b
 |[]=>h
 | (b0,x)::r=>by
  show (if b=b0 then some x else J2 bx r b)=if b=b0 then some x else J2 bx' r b
  rw[xX h]
theorem a96{bx bx':Nat→Option Bx}{act:I1}{k:Nat}(h:∀b∈act.bt bx k,bx b=bx' b):act.bt bx k=act.bt bx' k:=by
 cases act with
 |sG b i k' vs=>exact congrArg (b::·) (ib (kn:=false) fun q hq=>h q (Cg _ hq)).2
 |mk e sz len cs=>exact (ib (js:=[]) (kn:=false) (cs:=cs) h).2
 |idx x i sz r=>exact (ib (js:=[]) (kn:=false) (cs:=[x]) h).2
 |qO x sz lo hi mx r=>exact (ib (js:=[]) (kn:=false) (cs:=[x]) h).2
 |uq x l=>exact (ib (js:=[]) (kn:=false) (cs:=[x]) h).2
 |call f args aZ r =>
  cases hs:r.fG with
  |true =>
   simp only[I1.bt,hs]at h ⊢
   exact (nz (yE 4) args [] false h).2
  |false =>
   simp only[I1.bt,hs]at h ⊢
   exact (ib (js:=[]) (kn:=false) (cs:=args) h).2
 |_=>rfl
theorem a2z{P:Program}{ops:Array Oper}{Q:Exit→Act→World→Prop}{md:Region.Mode}(I:Array Bool→Act→World→Prop)
  (back:∀(i:Nat) (o:Oper),ops[i]?=some o→∀e∈o.after,Region.binds md e=true→e.on < i)
  (step:∀listed a w i,I listed a w→listed.size=ops.size→i∈Region.ready md ops listed→wpOp P ops Q i (I (listed.setIfInBounds i true)) a w)
  (done:∀listed a w,I listed a w→(∀i,i < ops.size→listed.getD i false=true)→Q .normal a w) :
  ∀(fuel:Nat) (listed:Array Bool) (a:Act) (w:World),listed.size=ops.size→listed.toList.countP (fun b=>!b)≤fuel→I listed a w→wpAny P md ops Q fuel listed a w:=by
 have full:∀listed:Array Bool,listed.size=ops.size→Region.ready md ops listed=[]→∀i,i < ops.size→listed.getD i false=true:=by
  intro listed hs hr i
  induction i using Nat.strongRecOn with
  |_ i ih =>
   intro hi;rcases hb:listed.getD i false with _ | _
   ·exfalso
    have hmem:i∈Region.ready md ops listed:=by
     rw[mem_ready];refine⟨?_,ops[i],Array.getElem?_eq_getElem hi,fun e he hbd=>?_⟩
     ·have hlt:i < listed.size:=J;simpa[hlt] using hb
     ·have:=back i _ (Array.getElem?_eq_getElem hi) e he hbd;exact ih e.on this J
    rw[hr]at hmem;cases hmem
   ·rfl
 intro fuel
 induction fuel with
 |zero =>
  intro listed a w hs hc hI;have hall:∀i,i < ops.size→listed.getD i false=true:=by
   intro i hi;have h0:listed.toList.countP (fun b=>!b)=0:=J;rw[List.countP_eq_zero]at h0;have hlt:i < listed.size:=J;have:=h0 listed[i] (by simp);simpa[hlt] using this
  have hr:Region.ready md ops listed=[]:=by
   cases hr:Region.ready md ops listed with
   |nil=>rfl
   |cons x xs =>
    have hx:x∈Region.ready md ops listed:=by rw[hr];exact NE ..
    rw[mem_ready]at hx;obtain⟨h0,o,ho,_⟩:=hx;have hlt:=(Array.getElem?_eq_some_iff.1 ho).1;have:=hall x hlt;have hlt':x < listed.size:=J;simp[hlt']at h0 this;rw[h0]at this;cases this
  exact⟨hr,done _ _ _ hI hall⟩
 |succ fuel ih =>
  intro listed a w hs hc hI;refine⟨fun hr=>done _ _ _ hI (full listed hs hr),fun i hi=>?_⟩;refine wpOp_mono (fun a' w' hI'=>?_) (step listed a w i hI hs hi);refine ih _ _ _ (by simp[hs]) ?_ hI';rw[mem_ready]at hi;obtain⟨h0,o,ho,_⟩:=hi;have hlt:i < listed.size:=by rw[hs];exact (Array.getElem?_eq_some_iff.1 ho).1
  have hf:listed[i]=false:=by simpa[hlt] using h0
  have hl:listed.toList=listed.toList.take i++false::listed.toList.drop (i+1):=by
   have h1:i < listed.toList.length:=by simpa using hlt
   conv=>lhs;rw[←List.take_append_drop i listed.toList,ZaC h1]
   simp[hf]
  have hl':(listed.setIfInBounds i true).toList=listed.toList.take i++true::listed.toList.drop (i+1):=by
   have h1:i < listed.toList.length:=by simpa using hlt
   rw[Array.toList_setIfInBounds,List.set_eq_take_append_cons_drop,Ch h1]
  rw[hl]at hc;rw[hl'];simp only[List.countP_append,List.countP_cons,Bool.not_false,Bool.not_true,ZaG,ZaL,Zav]at hc ⊢
  omega
def vN(ops:Array Oper):Bool:=(List.range ops.size).all fun i=>match ops[i]? with | some o=>o.after.all fun e=>!Region.binds .any e || Nat.ble (e.on+1) i | none=>true
theorem a1D{ops:Array Oper}(h:vN ops=true)(i:Nat)(o:Oper)(ho:ops[i]?=some o):∀e∈o.after,Region.binds .any e=true→e.on < i:=by
 unfold vN at h;rw[Zag]at h;have:=h i (List.mem_range.2 (Array.getElem?_eq_some_iff.1 ho).1);rw[ho]at this;simp only[Array.all_eq_true_iff_forall_mem]at this;intro e he hb;have h2:=this e he;rw[hb]at h2;exact Zap h2
inductive ll (ops:Array Oper):Nat→Nat→Prop
 |one {i j:Nat}:i∈waits ops j→ll ops i j
 |more {i m j:Nat}:m∈waits ops j→ll ops i m→ll ops i j
def Fp.conf(x y:Fp):Bool:=(x.all || y.all) ||
 ((match x.wt with | some d=>y.rt.contains d || (match y.wt with | some e=>Nat.beq d e | none=>false) | none=>false) ||
 (match y.wt with | some d=>x.rt.contains d | none=>false) ||
 (x.bt.any y.bt.contains && (x.bw || y.bw)))
theorem VA{x y:Fp}(h:x.all=true):x.conf y=true:=by simp only[Fp.conf,h,Bool.true_or]
theorem VB{x y:Fp}(h:y.all=true):x.conf y=true:=by simp only[Fp.conf,h,Bool.or_true,Bool.true_or]
theorem a7s{x y:Fp}{d:Nat}(h1:x.wt=some d)(h2:d∈y.rt):x.conf y=true:=by
 have:y.rt.contains d=true:=List.contains_iff_mem.2 h2;simp only[Fp.conf,h1,this,Bool.true_or,Bool.or_true]
theorem a7t{x y:Fp}{d:Nat}(h1:y.wt=some d)(h2:d∈x.rt):x.conf y=true:=by
 have:x.rt.contains d=true:=List.contains_iff_mem.2 h2;simp only[Fp.conf,h1,this,Bool.true_or,Bool.or_true]
theorem TU{x y:Fp}{d:Nat}(h1:x.wt=some d)(h2:y.wt=some d):x.conf y=true:=by
 simp only[Fp.conf,h1,h2,Nat.beq_refl,Bool.or_true,Bool.true_or]
theorem DW{x y:Fp}{d:Nat}(h1:d∈x.bt)(h2:d∈y.bt)(h:x.bw=true∨y.bw=true):x.conf y=true:=by
 have e:(x.bw || y.bw)=true:=by rcases h with h | h <;> rw[h] <;> simp
 have e2:x.bt.any y.bt.contains=true:=List.any_eq_true.2 ⟨d,h1,List.contains_iff_mem.2 h2⟩;simp only[Fp.conf,e,e2,Bool.and_self,Bool.or_true]
theorem a2A{E:En}{ops:Array Oper}{nt:Nat}{Q0:Nat→Nat→AV}{J6:Nat→Nat→Option Bx}{fp:Nat→Fp}
  (hstp:∀i o,ops[i]?=some o→Stp E ops nt o (Q0 i) (J6 i) (Q0 (i+1)) (J6 (i+1)) (fp i))
  (Xy:∀i j,i < j→j < ops.size→(fp i).conf (fp j)=true→ll ops i j) (hback:vN ops=true) (hfin:∃K,∀i,i≤ops.size→∀k,K≤k→J6 i k=none)
  {X:Nat→Prop} {n0:Nat} {w0:World×Mm} {ok0:Nat→Prop} (hG:∀w,W9 X n0 w0.1 w→E.G w) {Q:Exit→Act→World→Prop} {a:Act} {w:World} (h0:Left X n0 w0 ok0 nt (Q0 0) (J6 0) a w) (hQ:∀a w,Left X n0 w0 ok0 nt (Q0 ops.size) (J6 ops.size) a w→Q .normal a w) :
  wpAny E.P .any ops Q ops.size (Array.replicate ops.size false) a w:=by
 have hst:∀i,i < ops.size→∃o,ops[i]?=some o∧Stp E ops nt o (Q0 i) (J6 i) (Q0 (i+1)) (J6 (i+1)) (fp i):=fun i hi=>⟨ops[i],Array.getElem?_eq_getElem hi,hstp i _ (Array.getElem?_eq_getElem hi)⟩
 -- versions
 have vt':∀t k d,k+d≤ops.size→(∀j,j < ops.size→(fp j).wt=some t→(j < k↔j < k+d))→Q0 (k+d) t=Q0 k t:=by
  intro t k d
  induction d with
  |zero=>intro _ _;rfl
  |succ d ih =>
   intro hn hw;obtain⟨o,_,hs⟩:=hst (k+d) J;rw[show k+(d+1)=k+d+1 by omega,hs.Xw (fun e=>by have:=hw (k+d) J e;omega)]
   exact ih J fun j hj e=>by have:=hw j hj e;omega
 have vt:∀t k k',k≤ops.size→k'≤ops.size→(∀j,j < ops.size→(fp j).wt=some t→(j < k↔j < k'))→Q0 k t=Q0 k' t:=by
  intro t k k' hk hk' hw;rcases Nat.le_total k k' with h | h
  ·have:=vt' t k (k' - k) J fun j hj e=>by have:=hw j hj e;omega
   rw[show k+(k' - k)=k' by omega]at this
   exact this.symm
  ·have:=vt' t k' (k - k') J fun j hj e=>by have:=hw j hj e;omega
   rw[show k'+(k - k')=k by omega]at this
   exact this
 have vb':∀t k d,k+d≤ops.size→(∀j,j < ops.size→t∈(fp j).bt→(fp j).bw=true→(j < k↔j < k+d))→J6 (k+d) t=J6 k t:=by
  intro t k d
  induction d with
  |zero=>intro _ _;rfl
  |succ d ih =>
   intro hn hw;obtain⟨o,_,hs⟩:=hst (k+d) J;rw[show k+(d+1)=k+d+1 by omega,hs.Xx (fun e=>by have:=hw (k+d) J e.1 e.2;omega)]
   exact ih J fun j hj e e'=>by have:=hw j hj e e';omega
 have vb:∀t k k',k≤ops.size→k'≤ops.size→(∀j,j < ops.size→t∈(fp j).bt→(fp j).bw=true→(j < k↔j < k'))→J6 k t=J6 k' t:=by
  intro t k k' hk hk' hw;rcases Nat.le_total k k' with h | h
  ·have:=vb' t k (k' - k) J fun j hj e e'=>by have:=hw j hj e e';omega
   rw[show k+(k' - k)=k' by omega]at this
   exact this.symm
  ·have:=vb' t k' (k - k') J fun j hj e e'=>by have:=hw j hj e e';omega
   rw[show k'+(k - k')=k by omega]at this
   exact this
 refine a2z (md:=.any) (fun listed a w=>∃tm bx,Left X n0 w0 ok0 nt tm bx a w∧(∀i,listed.getD i false=true→∀j∈waits ops i,listed.getD j false=true) ∧
   (∀t,∃k,k≤ops.size∧tm t=Q0 k t∧∀j,j < ops.size→(fp j).wt=some t→(listed.getD j false=true↔j < k)) ∧
   (∀b,∃k,k≤ops.size∧bx b=J6 k b∧∀j,j < ops.size→b∈(fp j).bt→(fp j).bw=true→(listed.getD j false=true↔j < k))) (fun i o ho=>a1D hback i o ho) ?_ ?_ _ _ _ _ I (by simp[List.countP_replicate]) ?_
 ·intro listed a w i hI hs hr;rw[mem_ready]at hr;obtain⟨hn0,o,ho,hafter⟩:=hr;have hlt:=(Array.getElem?_eq_some_iff.1 ho).1;have hD0:¬listed.getD i false=true:=by
   have hlt':i < listed.size:=J;simp[hlt']at hn0 ⊢
   exact hn0
  obtain⟨tm,bx,hL,MS,hT,hB⟩:=hI;have hset:(listed.setIfInBounds i true).getD i false=true:=by
   have hlt':i < listed.size:=J;simp[hlt']
  have hup:∀j,listed.getD j false=true→(listed.setIfInBounds i true).getD j false=true:=fun j h=>getD_set_true h
  have hdn:∀j,(listed.setIfInBounds i true).getD j false=true→j=i∨listed.getD j false=true:=fun j h=>getD_upd h
  have hw8:∀j∈waits ops i,listed.getD j false=true:=fun j hj=>by
   obtain⟨e,he,hb,rfl⟩:=(QL ho).1 hj;exact hafter e he hb
  have Xz:∀x y,ll ops x y→listed.getD y false=true→listed.getD x false=true:=by
   intro x y h
   induction h with
   |one h=>exact fun hy=>MS _ hy _ h
   |more h _ ih=>exact fun hy=>ih (MS _ hy _ h)
  have b2D:∀x,ll ops x i→listed.getD x false=true:=by
   intro x h;cases h with
   |one h=>exact hw8 _ h
   |more h h'=>exact Xz _ _ h' (hw8 _ h)
  -- who touches the same place as i: before i are done,behind i are not
  have side:∀j,j < ops.size→(j < i→(fp j).conf (fp i)=true)→(i < j→(fp i).conf (fp j)=true)→(listed.getD j false=true↔j < i):=by
   intro j hj h1 h2;rcases Nat.lt_trichotomy j i with e | e | e
   ·exact⟨fun _=>e,fun _=>b2D j (Xy j i e hlt (h1 e))⟩
   ·subst e;exact⟨fun h=>absurd h hD0,fun h=>absurd h (Nat.lt_irrefl _)⟩
   ·refine⟨fun h=>absurd (Xz i j (Xy i j e hj (h2 e)) h) hD0,fun h=>J⟩
  have hS:=hstp i o ho;have hrt:∀t∈(fp i).rt,tm t=Q0 i t:=by
   intro t ht;obtain⟨k,hk,e,hv⟩:=hT t;rw[e];refine vt t k i hk J fun j hj dn=>?_
   rw[←hv j hj dn];exact side j hj (fun _=>a7s dn ht) (fun _=>a7t dn ht)
  have hbt:∀b,b∈(fp i).bt→(bx b=J6 i b∨(fp i).bw=false)∧((fp i).bw=false→bx b=J6 i b):=by
   intro b hb;have key:bx b=J6 i b:=by
    obtain⟨k,hk,e,hv⟩:=hB b;rw[e];refine vb b k i hk J fun j hj hbj dn=>?_
    rw[←hv j hj hbj dn];exact side j hj (fun _=>DW hbj hb (.inl dn)) (fun _=>DW hb hbj (.inr dn))
   exact⟨.inl key,fun _=>key⟩
  have Aj:∀b,b∈(fp i).bt→bx b=J6 i b:=fun b hb=>by
   rcases (hbt b hb).1 with h | h
   ·exact h
   ·exact (hbt b hb).2 h
  -- the step in the present state
  have zF:∀t∈o.looksAt ops,tm t=Q0 i t:=fun t ht=>hrt t (hS.rt t ht)
  have hev:∀x∈o.op.operands.toList,H7 tm x=H7 (Q0 i) x:=by
   intro x hx;cases x with
   |tmp t =>
    refine zF t ?_;unfold Oper.looksAt;refine Zan _ (List.mem_filterMap.2 ⟨.tmp t,hx,rfl⟩)
   |_=>rfl
  have hwant:jI ops tm o=jI ops (Q0 i) o:=by
   unfold jI;cases hg:o.guard with
   |none=>rfl
   |some x =>
    obtain⟨g,b⟩:=x;simp only;cases hd:(ops[g]?).bind (·.dst) with
    |none=>rfl
    |some d =>
     simp only;have:tm d=Q0 i d:=zF d (by
      unfold Oper.looksAt;refine ZaE _ ?_;rw[hg];simp[hd])
     rw[this]
  have hst':∃tm' bx',Stp E ops nt o tm bx tm' bx' (fp i)∧(∀t,(fp i).wt=some t→tm' t=Q0 (i+1) t)∧(∀b,b∈(fp i).bt→(fp i).bw=true→bx' b=J6 (i+1) b):=by
   rcases hS.go with⟨hw,e1,e2⟩ | ⟨hw,act,an,J9,k,r,ups,ps,h1,h2,h3,h4,e1,e2,h5,h6⟩ | ⟨hall,_⟩ | ⟨r,e1,e2,hg⟩
   ·refine⟨Q6 tm o.dst (.dt (.val undef)),bx,⟨hS.rt,hS.wt,hS.lt,.inl ⟨hwant.trans hw,rfl,rfl⟩⟩,fun t ht=>?_,fun b hb hbw=>?_⟩
    ·rw[hS.wt]at ht;rw[e1,vM ht,vM ht]
    ·rw[e2];exact Aj b hb
   ·have VC:∀b∈act.bt (J6 i) k,J6 i b=bx b:=fun b hb=>(Aj b (h5 b hb)).symm
    have hrun:act.run E bx k=some (r,ups,ps):=by rw[←h2];exact (a7p VC).symm
    have b5i:∀b∈act.bt bx k,b∈(fp i).bt:=fun b hb=>h5 b (by rw[a96 VC];exact hb)
    have hk':∀q∈act.news k,bx q=none:=fun q hq=>by rw[Aj q (h5 q (a7r q hq))];exact h4 q hq
    refine⟨Q6 tm o.dst r,J2 bx ups,⟨hS.rt,hS.wt,hS.lt,.inr (.inl ⟨hwant.trans hw,act,an,J9,k,r,ups,ps,(a4H hev).trans h1,hrun,h3,hk',rfl,rfl,b5i,h6⟩)⟩,fun t ht=>?_,fun b hb hbw=>?_⟩
    ·rw[hS.wt]at ht;rw[e1,vM ht,vM ht]
    ·rw[e2];exact xX (Aj b hb)
   ·have e1:tm=Q0 i:=funext fun t=>by
     obtain⟨k,hk,e,hv⟩:=hT t;rw[e];refine vt t k i hk J fun j hj dn=>?_
     rw[←hv j hj dn];exact side j hj (fun _=>VB hall) (fun _=>VA hall)
    have e2:bx=J6 i:=funext fun b=>by
     obtain⟨k,hk,e,hv⟩:=hB b;rw[e];refine vb b k i hk J fun j hj hbj dn=>?_
     rw[←hv j hj hbj dn];exact side j hj (fun _=>VB hall) (fun _=>VA hall)
    exact⟨Q0 (i+1),J6 (i+1),by rw[e1,e2];exact hS,fun _ _=>rfl,fun _ _ _=>rfl⟩
   ·refine⟨Q6 tm o.dst r,fun b=>if b∈(fp i).bt∧(fp i).bw=true then J6 (i+1) b else bx b,⟨hS.rt,hS.wt,hS.lt,.inr (.inr (.inr ⟨r,rfl,fun b hb=>EQ hb,fun gQ dS h1 h2 hf X n0 w0 ok0 Q i' a w K ho' hG' hL' hK'=>?_⟩))⟩,fun t ht=>?_,fun b hb hbw=>Ch ⟨hb,hbw⟩⟩
    ·refine hg gQ dS (fun t ht=>(h1 t ht).trans (hrt t ht)) (fun b hb=>(h2 b hb).trans (Aj b hb)) hf X n0 w0 ok0 Q i' a w K ho' hG' hL' fun a w h3=>hK' a w ?_
     have e:(fun b=>if b∈(fp i).bt∧(fp i).bw=true then (if b∈(fp i).bt∧(fp i).bw=true then J6 (i+1) b else bx b) else dS b)=fun b=>if b∈(fp i).bt∧(fp i).bw=true then J6 (i+1) b else dS b:=funext fun b=>by
      by_cases c:b∈(fp i).bt∧(fp i).bw=true
      ·simp only[Ch c]
      ·simp only[EQ c]
     rw[e];exact h3
    ·rw[hS.wt]at ht;rw[e1,vM ht,vM ht]
  obtain⟨tm',bx',hS',hTn,hBn⟩:=hst';have bZ:∃K,∀k,K≤k→bx k=none:=by
   obtain⟨K,hK⟩:=hfin;refine⟨K,fun b hb=>?_⟩;obtain⟨k,hk,e,_⟩:=hB b;rw[e];exact hK k hk b hb
  refine hS'.wp ho bZ hL hG fun a2 w2 hL2=>⟨tm',bx',hL2,?_,?_,?_⟩
  ·intro k hk j hj;rcases hdn k hk with rfl | e
   ·exact hup j (hw8 j hj)
   ·exact hup j (MS k e j hj)
  ·intro t;by_cases hw:(fp i).wt=some t
   ·refine⟨i+1,J,hTn t hw,fun j hj dn=>?_⟩;have:=side j hj (fun _=>TU dn hw) (fun _=>TU hw dn);constructor
    ·intro h;rcases hdn j h with rfl | e
     ·omega
     ·have:=this.1 e;omega
    ·intro h;by_cases e:j=i
     ·subst e;exact hset
     ·exact hup j (this.2 J)
   ·obtain⟨k,hk,e,hv⟩:=hT t;refine⟨k,hk,(hS'.Xw hw).trans e,fun j hj dn=>?_⟩;have hji:j≠i:=fun e=>hw (e ▸ dn)
    rw[←hv j hj dn];exact⟨fun h=>(hdn j h).resolve_left hji,hup j⟩
  ·intro b;by_cases hw:b∈(fp i).bt∧(fp i).bw=true
   ·refine⟨i+1,J,hBn b hw.1 hw.2,fun j hj hbj dn=>?_⟩;have:=side j hj (fun _=>DW hbj hw.1 (.inl dn)) (fun _=>DW hw.1 hbj (.inl hw.2));constructor
    ·intro h;rcases hdn j h with rfl | e
     ·omega
     ·have:=this.1 e;omega
    ·intro h;by_cases e:j=i
     ·subst e;exact hset
     ·exact hup j (this.2 J)
   ·obtain⟨k,hk,e,hv⟩:=hB b;refine⟨k,hk,(hS'.Xx hw).trans e,fun j hj hbj dn=>?_⟩;have hji:j≠i:=fun e=>hw (e ▸ ⟨hbj,dn⟩)
    rw[←hv j hj hbj dn];exact⟨fun h=>(hdn j h).resolve_left hji,hup j⟩
 ·intro listed a w hI hall;obtain⟨tm,bx,hL,_,hT,hB⟩:=hI;have e1:tm=Q0 ops.size:=funext fun t=>by
   obtain⟨k,hk,e,hv⟩:=hT t;rw[e];exact vt t k _ hk (PP _) fun j hj hw=>⟨fun _=>hj,fun _=>(hv j hj hw).1 (hall j hj)⟩
  have e2:bx=J6 ops.size:=funext fun b=>by
   obtain⟨k,hk,e,hv⟩:=hB b;rw[e];exact vb b k _ hk (PP _) fun j hj hb hw=>⟨fun _=>hj,fun _=>(hv j hj hb hw).1 (hall j hj)⟩
  rw[e1,e2]at hL;exact hQ a w hL
 ·have hno:∀i,¬(Array.replicate ops.size false).getD i false=true:=fun i=>by
   by_cases h:i < ops.size <;> simp[h]
  exact⟨Q0 0,J6 0,h0,fun i h=>absurd h (hno _),fun t=>⟨0,Ci _,rfl,fun j _ _=>⟨fun h=>absurd h (hno _),fun h=>J⟩⟩,fun t=>⟨0,Ci _,rfl,fun j _ _ _=>⟨fun h=>absurd h (hno _),fun h=>J⟩⟩⟩
structure AS where
 tm:List AV
 bx:List (Option Bx)
def AS.G9(s:AS):Nat→AV:=fun t=>s.tm.getD t (.dt (.val undef))
def AS.E9(s:AS):Nat→Option Bx:=fun b=>match s.bx[b]? with
 |some x=>x
 |none=>none
def tu(tm:List AV)(d:Option Nat)(r:AV):List AV:=match d with
 |some d=>tm.set d r
 |none=>tm
def kN:List (Option Bx)→Nat→Bx→List (Option Bx)
 |[],0,x=>[some x]
 |[],b+1,x=>none::kN [] b x
 |_::r,0,x=>some x::r
 |y::r,b+1,x=>y::kN r b x
def EA(bx:List (Option Bx)):List (Nat×Bx)→List (Option Bx)
 |[]=>bx
 | (b,x)::r=>kN (EA bx r) b x
theorem a7u{tm:List AV}:∀(bx:List (Option Bx)) (b:Nat) (x:Bx),(AS.mk tm (kN bx b x)).E9=fun k=>if k=b then some x else (AS.mk tm bx).E9 k:=by
 intro bx b
 induction b generalizing bx with
 |zero =>
  intro x;funext k;cases bx with
  |nil=>cases k with
   |zero=>rfl
   |succ k=>simp[kN,AS.E9]
  |cons y r=>cases k with
   |zero=>rfl
   |succ k=>simp[kN,AS.E9]
 |succ b ih =>
  intro x;funext k;cases bx with
  |nil =>
   have:=congrFun (ih [] x);cases k with
   |zero=>simp[kN,AS.E9]
   |succ k=>have:=this k;simp[kN,AS.E9]at this ⊢;exact this
  |cons y r =>
   have:=congrFun (ih r x);cases k with
   |zero=>simp[kN,AS.E9]
   |succ k=>have:=this k;simp[kN,AS.E9]at this ⊢;exact this
theorem TV{s:AS}{tm:List AV}:∀(ups:List (Nat×Bx)),(AS.mk tm (EA s.bx ups)).E9=J2 s.E9 ups
 |[]=>rfl
 | (b,x)::r=>by
  funext k;show (AS.mk tm (kN (EA s.bx r) b x)).E9 k=if k=b then some x else J2 s.E9 r k
  rw[a7u,←TV (tm:=tm) r]
theorem zi{s:AS}{d:Option Nat}{r:AV}{bx:List (Option Bx)}(h:∀t,d=some t→t < s.tm.length):(AS.mk (tu s.tm d r) bx).G9=Q6 s.G9 d r:=by
 funext t;cases d with
 |none=>rfl
 |some d =>
  show (s.tm.set d r).getD t _=if t=d then r else s.tm.getD t _
  have:=h d rfl;by_cases e:t=d
  ·subst e;simp[this]
  ·rw[EQ e];simp[ZaJ e]
theorem a7v(s:AS):s.E9 s.bx.length=none:=by
 unfold AS.E9;rw[Za4 (PP _)]
theorem a97{act:I1}{k q:Nat}(h:q∈act.news k):q=k:=by
 cases act with
 |app e kk bytes s x c=>cases s <;> first | exact Cf.1 h | cases h
 |_=>first | exact Cf.1 h | cases h
def EB(E:En)(ops:Array Oper)(o:Oper)(s:AS)(an:List An):Option (AS×Fp×List Prop×List An) :=
 match (match o.dst with | some d=>Nat.ble (d+1) s.tm.length | none=>true) with
 |false=>none
 |true=>match jI ops s.G9 o with
  |none=>none
  |some false=>some (⟨tu s.tm o.dst (.dt (.val undef)),s.bx⟩,⟨o.looksAt ops,o.dst,[],false,false⟩,[],an)
  |some true=>match aG E o.op (H7 s.G9) an with
   |none=>none
   |some (act,J9)=>match act.run E s.E9 s.bx.length with
    |none=>none
    |some (r,ups,ps)=>some (⟨tu s.tm o.dst r,EA s.bx ups⟩,⟨o.looksAt ops,o.dst,act.bt s.E9 s.bx.length,match ups with | []=>false | _=>true,false⟩,ps,J9)
theorem Dg(tm:List AV)(d:Option Nat)(r:AV):(tu tm d r).length=tm.length:=by
 cases d with
 |none=>rfl
 |some d=>exact List.length_set
theorem QM{E:En}{ops:Array Oper}{o:Oper}{s s':AS}{an J9:List An}{f:Fp}{ps:List Prop}(h:EB E ops o s an=some (s',f,ps,J9))(hp:K7 ps) :
  Stp E ops s.tm.length o s.G9 s.E9 s'.G9 s'.E9 f∧s'.tm.length=s.tm.length:=by
 unfold EB at h;split at h
 ·cases h
 rename_i hd;have hd':∀t,o.dst=some t→t < s.tm.length:=fun t ht=>by
  rw[ht]at hd;have hd2:Nat.ble (t+1) s.tm.length=true:=hd;exact Zap hd2
 split at h
 ·cases h
 ·rename_i hw;cases h;exact⟨⟨fun t ht=>ht,rfl,hd',.inl ⟨hw,zi hd',rfl⟩⟩,Dg _ _ _⟩
 ·rename_i hw;split at h
  ·cases h
  ·rename_i act b9o hdec;split at h
   ·cases h
   ·rename_i r ups ps' hr;cases h;refine⟨⟨fun t ht=>ht,rfl,hd',.inr (.inl ⟨hw,act,an,_,s.bx.length,r,ups,_,hdec,hr,hp,fun q hq=>?_,zi hd',TV ups,fun b hb=>hb,fun hu=>?_⟩)⟩,Dg _ _ _⟩
    ·rw[a97 hq];exact a7v s
    ·cases ups with
     |nil=>exact absurd rfl hu
     |cons _ _=>rfl
def Fb(E:En)(ops:Array Oper):List Oper→AS→List An→Option (AS×List Fp×List Prop×List An)
 |[],s,an=>some (s,[],[],an)
 |o::os,s,an=>match EB E ops o s an with
  |none=>none
  |some (s1,f,ps,dB)=>match Fb E ops os s1 dB with
   |none=>none
   |some (s2,fs,qs,ay)=>some (s2,f::fs,ps++qs,ay)
theorem JD(s:AS){k:Nat}(h:s.bx.length≤k):s.E9 k=none:=by
 unfold AS.E9;rw[Za4 h]
theorem RH{s:AS}{J6:Nat→Nat→Option Bx}{n Kf:Nat}(h:∀i,i≤n→∀k,Kf≤k→J6 i k=none):∃K,∀i,i≤n+1→∀k,K≤k→(match i with | 0=>s.E9 | i+1=>J6 i) k=none :=
 ⟨s.bx.length+Kf,fun i hi k hk=>match i with
  |0=>JD s J
  |i+1=>h i J k J⟩
theorem Jm{E:En}{ops:Array Oper}:∀{os:List Oper} {s s':AS} {an J9:List An} {fs:List Fp} {ps:List Prop},Fb E ops os s an=some (s',fs,ps,J9)→K7 ps →
  s'.tm.length=s.tm.length∧fs.length=os.length∧∃(Q0:Nat→Nat→AV) (J6:Nat→Nat→Option Bx),Q0 0=s.G9∧J6 0=s.E9∧Q0 os.length=s'.G9∧J6 os.length=s'.E9∧(∃K,∀i,i≤os.length→∀k,K≤k→J6 i k=none) ∧
   ∀i o f,os[i]?=some o→fs[i]?=some f→Stp E ops s.tm.length o (Q0 i) (J6 i) (Q0 (i+1)) (J6 (i+1)) f
 |[],s,s',an,J9,fs,ps,h,_=>by
  cases h;exact⟨rfl,rfl,fun _=>s.G9,fun _=>s.E9,rfl,rfl,rfl,rfl,⟨s.bx.length,fun _ _ k hk=>JD s hk⟩,fun i o f hi=>by simp at hi⟩
 |o::os,s,s',an,J9,fs,ps,h,hp=>by
  unfold Fb at h;split at h
  ·cases h
  ·rename_i s1 f bJ dB h1;split at h
   ·cases h
   ·rename_i s2 ji qs ay h2;cases h;obtain⟨hp1,hp2⟩:=fO hp;obtain⟨hs,hl⟩:=QM h1 hp1;obtain⟨hl2,hf2,Q0,J6,e1,e2,e3,e4,⟨Kf,hKf⟩,hst⟩:=Jm h2 hp2;refine⟨hl2.trans hl,by simp[hf2],fun i=>match i with | 0=>s.G9 | i+1=>Q0 i,fun i=>match i with | 0=>s.E9 | i+1=>J6 i,rfl,rfl,e3,e4,RH hKf,?_⟩;intro i o' f' hi hf;cases i with
    |zero =>
     cases hi;cases hf;simp only[e1,e2];exact hs
    |succ i =>
     rw[hl]at hst;exact hst i o' f' (by simpa using hi) (by simpa using hf)
def Ak:List Oper→List Nat→List Nat
 |[],acc=>acc
 |o::os,acc=>Ak os (acc++[o.after.toList.foldl (fun m e=>match Region.binds .any e with | true=>m ||| (2 ^ e.on ||| acc.getD e.on 0) | false=>m) 0])
theorem QN{ops:Array Oper}{acc:List Nat}(hacc:∀j m,acc[j]?=some m→∀i,m.testBit i=true→ll ops i j){n:Nat}:∀(es:List Edge) (m0:Nat),(∀i,m0.testBit i=true→ll ops i n)→(∀e∈es,Region.binds .any e=true→e.on∈waits ops n) →
  ∀i,(es.foldl (fun m e=>match Region.binds .any e with | true=>m ||| (2 ^ e.on ||| acc.getD e.on 0) | false=>m) m0).testBit i=true→ll ops i n
 |[],_,h,_=>h
 |e::es,m0,h,hw=>by
  rw[List.foldl_cons];refine QN hacc es _ ?_ (fun e' he'=>hw e' (Cg _ he'));intro i hi;cases hb:Region.binds .any e with
  |false=>rw[hb]at hi;exact h i hi
  |true =>
   rw[hb]at hi;simp only[Nat.testBit_or,Bool.or_eq_true]at hi;have hwe:=hw e (NE) hb;rcases hi with hi | hi | hi
   ·exact h i hi
   ·rw[Nat.testBit_two_pow]at hi;have:e.on=i:=bv hi;subst this;exact .one hwe
   ·cases ha:acc[e.on]? with
    |none=>simp[List.getD,ha]at hi
    |some m=>exact .more hwe (hacc e.on m ha i (by simpa[List.getD,ha] using hi))
theorem TW{ops:Array Oper}:∀(os:List Oper) (acc:List Nat),(∀i o,os[i]?=some o→ops[acc.length+i]?=some o)→(∀j m,acc[j]?=some m→∀i,m.testBit i=true→ll ops i j) →
  ∀j m,(Ak os acc)[j]?=some m→∀i,m.testBit i=true→ll ops i j
 |[],acc,_,h=>h
 |o::os,acc,ho,h=>by
  refine TW os _ (fun i o' hi=>?_) ?_
  ·have:=ho (i+1) o' (by simpa using hi);rw[lm,Zak];rw[←this];congr 1;omega
  ·intro j m hj;by_cases hlt:j < acc.length
   ·rw[ZaD hlt]at hj;exact h j m hj
   ·have hj':j=acc.length:=by
     have:=(UV.1 hj).1;simp at this;omega
    subst hj';rw[ZaI (PP _),Zb5]at hj;simp only[List.getElem?_cons_zero,Option.some.injEq]at hj;subst hj;refine QN h _ 0 (fun i hi=>by simp at hi) fun e he hb=>?_
    have:=ho 0 o rfl;rw[Nat.add_zero]at this;exact (QL this).2 ⟨e,Array.mem_toList_iff.1 he,hb,rfl⟩
def Fe(m:Nat)(y:Fp):List Fp→Nat→Bool
 |[],_=>true
 |x::xs,i=>(match x.conf y with | true=>m.testBit i | false=>true) && Fe m y xs (i+1)
def tC:List Fp→List Fp→List Nat→Bool
 |_,[],_=>true
 |pre,y::ys,m::ms=>Fe m y pre 0 && tC (pre++[y]) ys ms
 |_,_::_,[]=>false
theorem TY{m:Nat}{y:Fp}:∀{xs:List Fp} {k:Nat},Fe m y xs k=true→∀i x,xs[i]?=some x→x.conf y=true→m.testBit (k+i)=true
 |[],_,_,i,x,hi,_=>by simp at hi
 |x0::xs,k,h,i,x,hi,hc=>by
  unfold Fe at h;rw[Ce]at h;cases i with
  |zero =>
   cases hi;rw[hc]at h;exact h.1
  |succ i =>
   have:=TY h.2 i x (by simpa using hi) hc;rw[←this];congr 1;omega
theorem TZ:∀{ys pre:List Fp} {ms:List Nat},tC pre ys ms=true→∀i j x y,i < j→(pre++ys)[i]?=some x→ys[j - pre.length]?=some y→pre.length≤j→x.conf y=true→∃m,ms[j - pre.length]?=some m∧m.testBit i=true
 |[],_,_,_,i,j,x,y,_,_,hy,_,_=>by simp at hy
 |y0::ys,pre,[],h,_,_,_,_,_,_,_,_,_=>by simp[tC]at h
 |y0::ys,pre,m0::ms,h,i,j,x,y,hij,hx,hy,hj,hc=>by
  unfold tC at h;rw[Ce]at h;by_cases e:j=pre.length
  ·subst e;rw[Zb5]at hy ⊢
   cases hy;rw[ZaD hij]at hx;have:=TY h.1 i x hx hc;rw[Zau]at this;exact⟨m0,rfl,this⟩
  ·have hs:j - pre.length=(j - (pre++[y0]).length)+1:=by simp;omega
   rw[hs]at hy ⊢
   obtain⟨m,h1,h2⟩:=TZ h.2 i j x y hij (by simpa using hx) (by simpa using hy) (by simp;omega) hc;exact⟨m,by simpa using h1,h2⟩
def Dz(E:En)(ops:Array Oper)(draw:Bool)(s:AS)(an:List An):Option (AS×List Prop×List An) :=
 match Fb E ops ops.toList s an with
 |none=>none
 |some (s',fs,ps,J9)=>match !draw || (vN ops && tC [] fs (Ak ops.toList [])) with
  |true=>some (s',ps,J9)
  |false=>none
theorem QO{E:En}{ops:Array Oper}{draw:Bool}{id nt:Nat}{fs:List Fp}{Q0:Nat→Nat→AV}{J6:Nat→Nat→Option Bx}(hfl:fs.length=ops.toList.length)(gu:(!draw || (vN ops && tC [] fs (Ak ops.toList [])))=true)
  (hst:∀i o f,ops.toList[i]?=some o→fs[i]?=some f→Stp E ops nt o (Q0 i) (J6 i) (Q0 (i+1)) (J6 (i+1)) f) (hfin:∃K,∀i,i≤ops.toList.length→∀k,K≤k→J6 i k=none)
  {X:Nat→Prop} {n0:Nat} {w0:World×Mm} {ok0:Nat→Prop} (hG:∀w,W9 X n0 w0.1 w→E.G w) {Q:Exit→Act→World→Prop} {a:Act} {w:World} (h0:Left X n0 w0 ok0 nt (Q0 0) (J6 0) a w) (hQ:∀a w,Left X n0 w0 ok0 nt (Q0 ops.toList.length) (J6 ops.toList.length) a w→Q .normal a w) :
  (Code.region id ops draw).wp E.P Q a w:=by
 have hsz:ops.toList.length=ops.size:=I;have hst':∀i o,ops[i]?=some o→Stp E ops nt o (Q0 i) (J6 i) (Q0 (i+1)) (J6 (i+1)) (fs.getD i ⟨[],none,[],false,false⟩):=by
  intro i o ho;have hi:=(Array.getElem?_eq_some_iff.1 ho).1;have hf:fs[i]?=some (fs.getD i ⟨[],none,[],false,false⟩):=by
   have hi':i < fs.length:=J;simp[hi']
  exact hst i o _ (by simpa using ho) hf
 rw[hsz]at hQ hfin;cases draw with
 |true =>
  simp only[Bool.not_true,Bool.false_or,Ce]at gu;refine wp_region_any E.hm ?_;refine a2A (Q0:=Q0) (J6:=J6) (fp:=fun i=>fs.getD i ⟨[],none,[],false,false⟩) hst' ?_ gu.1 hfin hG ?_ hQ
  ·intro i j hij hj hc;have hi':i < fs.length:=J;have hj':j < fs.length:=J;obtain⟨m,h1,h2⟩:=TZ gu.2 i j (fs.getD i ⟨[],none,[],false,false⟩) (fs.getD j ⟨[],none,[],false,false⟩) hij (by simp[hi']) (by simp[hj']) (Ci _) hc;exact TW ops.toList [] (fun i o hi=>by simpa using hi) (fun j m hj=>by simp at hj) j m (by simpa using h1) i h2
  ·obtain⟨M,hI⟩:=h0;have g:P5 X n0 M w M { w with drawn:=w.drawn+1 }:=⟨⟨rfl,rfl,rfl,PP _,fun _ _ _=>rfl⟩,fun _ _ _=>rfl,fun _ h _=>h,fun _ _ h=>h,fun _=>nI rfl⟩;exact⟨M,hI.same g (hI.I9.grow g rfl rfl (fun _ _ _ _ _=>rfl) fun q hq=>⟨hI.I9.fz q hq,.inl hq⟩) fun _ h=>.inl h⟩
 |false =>
  refine wp_region ?_;have key:∀k i,i+k=ops.size→∀a w,Left X n0 w0 ok0 nt (Q0 i) (J6 i) a w→wpOps E.P ops Q (List.range' i k) a w:=by
   intro k
   induction k with
   |zero =>
    intro i hi a w hL;obtain rfl:i=ops.size:=J;exact hQ a w hL
   |succ k ih =>
    intro i hi a w hL;have ho:ops[i]?=some ops[i]:=Array.getElem?_eq_getElem J;rw[List.range'_succ,wpOps_cons];exact (hst' i _ ho).wp ho (by obtain⟨K,h⟩:=hfin;exact⟨K,h i J⟩) hL hG fun a w hL'=>ih (i+1) J a w hL'
  rw[List.range_eq_range'];exact key ops.size 0 J a w h0
theorem a1i{E:En}{ops:Array Oper}{draw:Bool}{id:Nat}{s s':AS}{an J9:List An}{ps:List Prop}(h:Dz E ops draw s an=some (s',ps,J9))(hp:K7 ps)
  {X:Nat→Prop} {n0:Nat} {w0:World×Mm} {ok0:Nat→Prop} (hG:∀w,W9 X n0 w0.1 w→E.G w) {Q:Exit→Act→World→Prop} {a:Act} {w:World} (h0:Left X n0 w0 ok0 s.tm.length s.G9 s.E9 a w) (hQ:∀a w,Left X n0 w0 ok0 s.tm.length s'.G9 s'.E9 a w→Q .normal a w) :
  (Code.region id ops draw).wp E.P Q a w:=by
 unfold Dz at h;split at h
 ·cases h
 rename_i s1 fs bJ dB hrun;split at h
 case h_2=>cases h
 rename_i gu;cases h;obtain⟨_,hfl,Q0,J6,e1,e2,e3,e4,hfin,hst⟩:=Jm hrun hp;exact QO hfl gu hst hfin hG (by rw[e1,e2];exact h0) (by rw[e3,e4];exact hQ)
section
variable {w:World} {ρ:Nat→Nat}
mutual
theorem RV.ren:∀{M M':Mm},M'.F=M.F→(∀i,M'.m (ρ i)=M.m i)→(∀i,M'.o (ρ i)=M.o i)→∀(a:AV) (v:Value),RV M w a v→RV M' w (jd ρ a) v
 |_,_,hF,_,_,.dt d,v,h=>by show Rd _ w v d;rw[hF];exact h
 |_,_,_,_,_,.nil,_,h=>h
 |_,_,hF,_,_,.ax es,v,⟨A,h1,h2⟩=>⟨A,h1,by rw[hF];exact h2⟩
 |_,_,_,_,ho,.own b n,v,⟨A,c,A',n',c',h1,h2,h3,h4⟩=>⟨A,c,A',n',c',h1,(ho b).trans h2,h3,h4⟩
 |_,_,_,hm,_,.sl b n,v,⟨g,h1,h2⟩=>⟨g,(hm b).trans h1,h2⟩
 |_,_,_,hm,_,.Q5 b,v,⟨g,h1,h2⟩=>⟨g,(hm b).trans h1,h2⟩
 |_,_,_,hm,_,.ptr b off,v,⟨g,h1,h2⟩=>⟨g,(hm b).trans h1,h2⟩
 |_,_,_,hm,_,.df b i k,v,⟨g,h1,h2⟩=>⟨g,(hm b).trans h1,h2⟩
 |_,_,_,_,_,.gl _ _,_,h=>h
 |_,_,hF,_,_,.pin cs,v,⟨g,o,vs,h1,h2,h3,h4,h5⟩=>⟨g,o,vs,h1,by rw[hF];exact h2,h3,h4,by rw[hF];exact h5⟩
 |_,_,hF,hm,ho,.agg cs,v,⟨vs,h1,h2⟩=>⟨vs,h1,RL.ren hF hm ho cs vs h2⟩
 |_,_,hF,hm,ho,.l7 cs,v,⟨vs,h1,h2⟩=>⟨vs,h1,RL.ren hF hm ho cs vs h2⟩
 |_,_,hF,hm,ho,.dm f cs,v,⟨vs,h1,h2⟩=>⟨vs,h1,RL.ren hF hm ho cs vs h2⟩
 |_,_,hF,_,_,.au _ _,_,⟨vs,h1,h2⟩=>⟨vs,h1,by rw[hF];exact h2⟩
 |_,_,_,_,_,.un,_,_=>trivial
theorem RL.ren:∀{M M':Mm},M'.F=M.F→(∀i,M'.m (ρ i)=M.m i)→(∀i,M'.o (ρ i)=M.o i)→∀(cs:List AV) (vs:List Value),RL M w cs vs→RL M' w (qA ρ cs) vs
 |_,_,_,_,_,[],_,h=>h
 |_,_,hF,hm,ho,c::cs,_,⟨u,us,h1,h2,h3⟩=>⟨u,us,h1,RV.ren hF hm ho c u h2,RL.ren hF hm ho cs us h3⟩
end
variable {M M':Mm} (hF:M'.F=M.F) (hm:∀i,M'.m (ρ i)=M.m i) (ho:∀i,M'.o (ρ i)=M.o i)
include hF hm ho
theorem MK.ren:∀{y9:List (Value×AV)} {es:List MapEntry},MK M w y9 es→MK M' w (y9.map fun x=>(x.1,jd ρ x.2)) es
 |[],_,h=>h
 | (_k,_a)::_kvs,_,⟨e,es',h1,h2,h3,h4⟩=>⟨e,es',h1,h2,RV.ren hF hm ho _ _ h3,MK.ren h4⟩
theorem kT.ren{b:Nat}{x:Bx}(h:kT M w b x):kT M' w (ρ b) (mr ρ x):=by
 cases x with
 |cells cs=>obtain⟨g,T,vs,h1,h2,h3⟩:=h;exact⟨g,T,vs,(hm b).trans h1,h2,RL.ren hF hm ho _ _ h3⟩
 |buf e k es=>obtain⟨A,n,c,h1,h2⟩:=h;exact⟨A,n,c,(ho b).trans h1,by rw[hF];exact h2⟩
 |aI es=>obtain⟨A,n,c,h1,h2⟩:=h;exact⟨A,n,c,(ho b).trans h1,by rw[hF];exact h2⟩
 |mp y9=>obtain⟨g,es,Z6,h1,h2,h3⟩:=h;exact⟨g,es,Z6,(hm b).trans h1,h2,MK.ren hF hm ho h3⟩
 |V3 y9=>obtain⟨g,es,Z6,h1,h2,h3⟩:=h;exact⟨g,es,Z6,(hm b).trans h1,h2,by rw[hF];exact h3⟩
 |rws e k es=>obtain⟨g,vs,h1,h2,h3⟩:=h;exact⟨g,vs,(hm b).trans h1,h2,by rw[hF];exact h3⟩
 |oF es=>obtain⟨g,h1,h2⟩:=h;exact⟨g,(hm b).trans h1,by rw[hF];exact h2⟩
 |cst cs=>obtain⟨g,vs,h1,h2,h3,h4,h5⟩:=h;exact⟨g,vs,(hm b).trans h1,by rw[hF];exact h2,h3,h4,by rw[hF];exact h5⟩
omit hF in
theorem Hx.ren{b:Nat}{x:Bx}{q:Nat}:Hx M' (ρ b) (mr ρ x) q↔Hx M b x q:=by
 cases x <;> simp[Hx,mr,hm,ho]
end
theorem a4J{ρ:Nat→Nat}(x:Bx):(mr ρ x).qM=x.qM:=by cases x <;> rfl
def inv(js:List Nat)(K k:Nat):Option Nat:=match aB k js 0 with
 |some i=>some i
 |none=>if K≤k then some (js.length+(k - K)) else none
theorem Jn{b:Nat}:∀{js:List Nat} {k:Nat},b∈js→∃i,aB b js k=some i
 |j::js,k,h=>by
  unfold aB;cases e:Nat.beq b j with
  |true=>exact⟨k,rfl⟩
  |false =>
   rcases Za3.1 h with rfl | h
   ·rw[Nat.beq_refl]at e;cases e
   ·exact Jn h
theorem lI{js:List Nat}{K k i:Nat}(h:inv js K k=some i):bA js K i=k:=by
 unfold inv at h;split at h
 ·rename_i i' hi;cases h;have h2:=(pU hi).2;unfold bA;rw[Nat.sub_zero]at h2;rw[h2]
 ·split at h
  ·rename_i hi hk;cases h;unfold bA;rw[Za4 J];show K+(js.length+(k - K) - js.length)=k;omega
  ·cases h
theorem a7w{js:List Nat}{K:Nat}(hn:js.Nodup)(hK:∀j∈js,j < K)(i:Nat):inv js K (bA js K i)=some i:=by
 rcases Za5 i js.length with h | h
 ·have e:bA js K i=js[i]:=by unfold bA;rw[ww h]
  rw[e];unfold inv;obtain⟨i',hi'⟩:=Jn (k:=0) (Zaj h);rw[hi'];have h2:=(pU hi').2;rw[Nat.sub_zero]at h2;obtain⟨h3,h4⟩:=UV.1 h2;exact congrArg some ((List.getElem_inj hn).1 h4)
 ·have e:bA js K i=K+(i - js.length):=by unfold bA;rw[Za4 h]
  rw[e];unfold inv;cases hi:aB (K+(i - js.length)) js 0 with
  |some i' =>
   have h2:=(pU hi).2;have:=hK _ (q8 h2);omega
  |none =>
   show (if K≤K+(i - js.length) then some (js.length+(K+(i - js.length) - K)) else none)=some i;rw[Ch J];exact congrArg some J
theorem a4K{js:List Nat}{K k:Nat}(h:inv js K k=none):k ∉ js∧k < K:=by
 unfold inv at h;split at h
 ·cases h
 ·rename_i hi;split at h
  ·cases h
  ·refine⟨fun hm=>?_,J⟩;obtain⟨i,e⟩:=Jn (k:=0) hm;rw[hi]at e;cases e
section
variable {E:En} {X:Nat→Prop} {n0:Nat} {w0:World×Mm} {ok0:Nat→Prop} {M:Mm} {nt:Nat} {tm:Nat→AV} {bx:Nat→Option Bx} {a:Act} {w:World}
def jL(M:Mm)(js:List Nat):Mm:=⟨fun i=>(js[i]?).bind M.m,M.F,fun i=>(js[i]?).bind M.o⟩
def qB(M:Mm)(bx:Nat→Option Bx)(js:List Nat)(g:Nat):Prop:=∃j∈js,∃x,bx j=some x∧Hx M j x g
def fA(bx:Nat→Option Bx)(js:List Nat)(K:Nat)(xs:List (Option Bx))(k:Nat):Option Bx:=match inv js K k with
 |some i=>(lk xs i).map (mr (bA js K))
 |none=>bx k
theorem Inv.b2E(hI:Inv X n0 w0 ok0 M nt tm bx a w){js:List Nat}{K:Nat}(hn:js.Nodup)(Om:∀j∈js,j < K)(hK:∀k,K≤k→bx k=none){M2:Mm}{w':World}{xs:List (Option Bx)}
  (g:P5 (qB M bx js) w.heap.size (jL M js) w M2 w') (hS:aa (qB M bx js) w.heap.size M2 (lk xs) w') (hF:∀b,M2.F b→M.F b∨w.heap.size≤b∨qB M bx js b) {r:AV} {v:Value} (hr:RV M2 w' r v) (d:Option Nat) (hd:∀t,d=some t→t < nt) :
  ∃M3,Inv X n0 w0 ok0 M3 nt (Q6 tm d (jd (bA js K) r)) (fA bx js K xs) (a.put d v) w':=by
 have hir:=a7w hn Om
 let M3:Mm:=⟨fun k=>match inv js K k with | some i=>M2.m i | none=>M.m k,M2.F,fun k=>match inv js K k with | some i=>M2.o i | none=>M.o k⟩
 have hm:∀i,M3.m (bA js K i)=M2.m i:=fun i=>by show (match inv js K (bA js K i) with | some i=>M2.m i | none=>_)=_;rw[hir]
 have ho:∀i,M3.o (bA js K i)=M2.o i:=fun i=>by show (match inv js K (bA js K i) with | some i=>M2.o i | none=>_)=_;rw[hir]
 have mn:∀k,inv js K k=none→M3.m k=M.m k∧M3.o k=M.o k:=fun k h=>⟨by show (match inv js K k with | some i=>M2.m i | none=>_)=_;rw[h],by show (match inv js K k with | some i=>M2.o i | none=>_)=_;rw[h]⟩
 have Al:∀q,qB M bx js q→(n0≤q∨X q)∧q < w.heap.size∧¬M.F q:=fun q ⟨j,_,x,hx,hq⟩=>hI.I9.dom j x q hx hq
 have hle:=hI.le;have bel:W9 X n0 w w':=g.below.mono J fun k hk hx=>by
  rcases (Al k hx).1 with h | h
  ·omega
  ·exact h
 have cases':∀k i,inv js K k=some i→(i < js.length∧js[i]?=some k)∨(js.length≤i∧bx k=none):=fun k i h=>by
  have h1:=lI h;rcases Za5 i js.length with h2 | h2
  ·refine .inl ⟨h2,?_⟩;unfold bA at h1;rw[ww h2]at h1 ⊢
   exact congrArg some h1
  ·refine .inr ⟨h2,hK k ?_⟩;unfold bA at h1;rw[Za4 h2]at h1;have h3:K+(i - js.length)=k:=h1;omega
 have G:P5 X n0 M w M3 w':=by
  refine⟨bel,g.keep,g.F,fun k q hq=>?_,fun k A n c hq=>?_⟩
  ·cases hi:inv js K k with
   |none=>rw[(mn k hi).1];exact hq
   |some i =>
    rcases cases' k i hi with⟨h1,h2⟩ | ⟨h1,h2⟩
    ·have:=g.m i q (by show (js[i]?).bind M.m=_;rw[h2];exact hq);rw[←lI hi,hm];exact this
    ·rw[hI.I9.yO h2]at hq;cases hq
  ·cases hi:inv js K k with
   |none=>rw[(mn k hi).2];exact⟨A,n,c,hq,PP _,fun _=>⟨rfl,rfl⟩⟩
   |some i =>
    rcases cases' k i hi with⟨h1,h2⟩ | ⟨h1,h2⟩
    ·have:=g.o i A n c (by show (js[i]?).bind M.o=_;rw[h2];exact hq);rw[←lI hi,ho];exact this
    ·rw[hI.I9.Dn h2]at hq;cases hq
 -- another box's blocks are not touched
 have far:∀k x q,inv js K k=none→bx k=some x→Hx M k x q→w'.heap[q]?=w.heap[q]?∧¬qB M bx js q:=fun k x q hi hx hq=>by
  have hno:¬qB M bx js q:=fun⟨j,hj,y,hy,hyq⟩=>by
   have:=hI.I9.inj k j x y q hx hy hq hyq;subst this;exact (a4K hi).1 hj
  exact⟨g.below.block q (hI.I9.dom k x q hx hq).2.1 hno,hno⟩
 have lq:∀k,inv js K k=none→fA bx js K xs k=bx k:=fun k h=>by unfold fA;rw[h]
 have MU:∀k i,inv js K k=some i→fA bx js K xs k=(lk xs i).map (mr (bA js K)):=fun k i h=>by unfold fA;rw[h]
 have Am:∀k i y,inv js K k=some i→fA bx js K xs k=some y→∃x,lk xs i=some x∧y=mr (bA js K) x:=fun k i y h hy=>by
  rw[MU k i h]at hy;cases hx:lk xs i with
  |none=>rw[hx]at hy;cases hy
  |some x=>rw[hx]at hy;exact⟨x,rfl,(Zao hy).symm⟩
 have hx':∀k i x q,inv js K k=some i→(Hx M3 k (mr (bA js K) x) q↔Hx M2 i x q):=fun k i x q h=>by
  have e:=lI h;subst e;exact Hx.ren hm ho
 have I9:aa X n0 M3 (fA bx js K xs) w':=by
  refine⟨?_,?_,?_,?_,?_,fun q hq=>hS.fz q hq⟩
  ·intro k y hy;cases hi:inv js K k with
   |none =>
    rw[lq k hi]at hy;exact (hI.I9.box k y hy).go G (mn k hi).2 fun q hq=>(far k y q hi hy hq).1
   |some i =>
    obtain⟨x,hx,rfl⟩:=Am k i y hi hy;have e:=lI hi;subst e;exact kT.ren (M:=M2) (M':=M3) rfl hm ho (hS.box i x hx)
  ·intro k y q hy hq;cases hi:inv js K k with
   |none =>
    rw[lq k hi]at hy;have hq':Hx M k y q:=(Hx.eq (mn k hi).1 (mn k hi).2).1 hq;obtain⟨h1,h2,h3⟩:=hI.I9.dom k y q hy hq';refine⟨h1,kw h2 g.below.size,fun hf=>?_⟩;rcases hF q hf with h4 | h4 | h4
    ·exact h3 h4
    ·omega
    ·exact (far k y q hi hy hq').2 h4
   |some i =>
    obtain⟨x,hx,rfl⟩:=Am k i y hi hy;obtain⟨h1,h2,h3⟩:=hS.dom i x q hx ((hx' k i x q hi).1 hq);refine⟨?_,h2,h3⟩;rcases h1 with h1 | h1
    ·exact .inl J
    ·exact (Al q h1).1
  ·intro k k' y y' q hy hy' hq hq';have cross:∀{k k' y y'},inv js K k=none→(∃i,inv js K k'=some i)→fA bx js K xs k=some y→fA bx js K xs k'=some y'→Hx M3 k y q→Hx M3 k' y' q→False:=by
    intro k k' y y' hi ⟨i',hi'⟩ hy hy' hq hq';rw[lq k hi]at hy;have h1:Hx M k y q:=(Hx.eq (mn k hi).1 (mn k hi).2).1 hq;obtain⟨x',hx2,rfl⟩:=Am k' i' y' hi' hy';rcases (hS.dom i' x' q hx2 ((hx' k' i' x' q hi').1 hq')).1 with h2 | h2
    ·have:=(hI.I9.dom k y q hy h1).2.1;omega
    ·exact (far k y q hi hy h1).2 h2
   cases hi:inv js K k with
   |none =>
    cases hi':inv js K k' with
    |none =>
     rw[lq k hi]at hy;rw[lq k' hi']at hy';exact hI.I9.inj k k' y y' q hy hy' ((Hx.eq (mn k hi).1 (mn k hi).2).1 hq) ((Hx.eq (mn k' hi').1 (mn k' hi').2).1 hq')
    |some i'=>exact (cross hi ⟨i',hi'⟩ hy hy' hq hq').elim
   |some i =>
    cases hi':inv js K k' with
    |none=>exact (cross hi' ⟨i,hi⟩ hy' hy hq' hq).elim
    |some i' =>
     obtain⟨x,hx,rfl⟩:=Am k i y hi hy;obtain⟨x',hx2,rfl⟩:=Am k' i' y' hi' hy';have:=hS.inj i i' x x' q hx hx2 ((hx' k i x q hi).1 hq) ((hx' k' i' x' q hi').1 hq');subst this;rw[←lI hi,←lI hi']
  ·intro k q hq;cases hi:inv js K k with
   |none =>
    rw[(mn k hi).1]at hq;rw[lq k hi];exact hI.I9.hm k q hq
   |some i =>
    have e:=lI hi;rw[←e,hm]at hq;obtain⟨x,h1,h2⟩:=hS.hm i q hq;exact⟨mr (bA js K) x,by rw[MU k i hi,h1];rfl,by rw[a4J];exact h2⟩
  ·intro k u hq;cases hi:inv js K k with
   |none =>
    rw[(mn k hi).2]at hq;rw[lq k hi];exact hI.I9.ho k u hq
   |some i =>
    have e:=lI hi;rw[←e,ho]at hq;have h1:=hS.ho i u hq;rw[MU k i hi];cases hx:lk xs i with
    |none=>rw[hx]at h1;cases h1
    |some x=>rfl
 refine⟨M3,hI.put G I9 (fun b hb=>?_) d hd (RV.ren (M:=M2) (M':=M3) rfl hm ho r v hr)⟩;rcases hF b hb with h | h | h
 ·exact .inl h
 ·exact .inr (.inl J)
 ·rcases (Al b h).1 with h | h
  ·exact .inr (.inl h)
  ·exact .inr (.inr h)
theorem Inv.XA(hI:Inv X n0 w0 ok0 M nt tm bx a w){js:List Nat}{kn:Bool}{cs cs':List AV}{ps:List Prop}(hc:bz js kn bx cs=some (cs',ps))(hp:K7 ps){vs:List Value}(hr:RL M w cs vs) :
  ∃M1,Inv X n0 w0 ok0 M1 nt tm (J2 bx (O8 bx (K6 js bx cs))) a w∧RL (jL M1 js) w cs' vs∧M1.m=M.m∧M1.o=M.o:=by
 have hst:=KE hc hp (S:=(·∈K6 js bx cs)) fun b hb=>hb
 refine⟨_,hI.freeze _ hst,?_,rfl,rfl⟩;refine kC hI.I9 (F1:=eX M bx (K6 js bx cs)) (fun q h _=>.inl h) (rY hI.I9 (fun q h _=>.inl h) 1) cs js kn cs' ps vs (jL ⟨M.m,eX M bx (K6 js bx cs),M.o⟩ js) rfl (fun b i h=>?_) hc hp (fun b hb=>Ex hst b hb) hr;have h2:=(pU h).2;rw[Nat.sub_zero]at h2;exact⟨by show (js[i]?).bind M.m=_;rw[h2];rfl,by show (js[i]?).bind M.o=_;rw[h2];rfl⟩
def qm(js:List Nat)(bx:Nat→Option Bx):Bx→Option (Bx×List Prop)
 |.cells cs=>match K6 js bx cs,bz js true bx cs with
  |[],some (cs',ps)=>some (.cells cs',ps)
  |_,_=>none
 |.buf e k es=>some (.buf e k es,[])
 |.V3 y9=>some (.V3 y9,[])
 |_=>none
def iW(mK:List Nat)(bx:Nat→Option Bx):List Nat→Option (List (Option Bx)×List Prop)
 |[]=>some ([],[])
 |j::js=>match bx j with
  |some x=>match qm mK bx x,iW mK bx js with
   |some (x',ps),some (xs,qs)=>some (some x'::xs,ps++qs)
   |_,_=>none
  |none=>none
theorem Qc{mK:List Nat}:∀{js:List Nat} {xs:List (Option Bx)} {ps:List Prop},iW mK bx js=some (xs,ps)→K7 ps→xs.length=js.length∧∀i j,js[i]?=some j→∃x x' qs,bx j=some x∧qm mK bx x=some (x',qs)∧K7 qs∧lk xs i=some x'
 |[],_,_,h,_=>by cases h;exact⟨rfl,fun i j h=>by simp at h⟩
 |j::js,xs,ps,h,hp=>by
  unfold iW at h;split at h
  ·rename_i x hx;split at h
   ·rename_i x' bJ xD mH e1 e2;cases h;obtain⟨hp1,hp2⟩:=fO hp;obtain⟨h1,h2⟩:=Qc e2 hp2;refine⟨by simp[h1],fun i j' hi=>?_⟩;cases i with
    |zero=>cases hi;exact⟨x,x',bJ,hx,e1,hp1,rfl⟩
    |succ i =>
     obtain⟨y,y',qs,h3,h4,h5,h6⟩:=h2 i j' (by simpa using hi);exact⟨y,y',qs,h3,h4,h5,by simpa[lk] using h6⟩
   ·cases h
  ·cases h
theorem Ua(hI:Inv X n0 w0 ok0 M nt tm bx a w){js:List Nat}(hn:js.Nodup){xs:List (Option Bx)}{ps:List Prop}(h:iW js bx js=some (xs,ps))(hp:K7 ps){Y:Nat→Prop}{m0:Nat}(hY:∀j∈js,∀x q,bx j=some x→Hx M j x q→m0≤q∨Y q):aa Y m0 (jL M js) (lk xs) w:=by
 obtain⟨hlen,hget⟩:=Qc h hp;have Gg:∀i x',lk xs i=some x'→∃j x qs,js[i]?=some j∧bx j=some x∧qm js bx x=some (x',qs)∧K7 qs:=by
  intro i x' hx;rcases Za5 i js.length with hi | hi
  ·obtain⟨x,x2,qs,h1,h2,h3,h4⟩:=hget i js[i] (ww hi);rw[hx]at h4;cases h4;exact⟨js[i],x,qs,ww hi,h1,h2,h3⟩
  ·unfold lk at hx;rw[Za4 J]at hx;cases hx
 have sm:∀i j,js[i]?=some j→(jL M js).m i=M.m j∧(jL M js).o i=M.o j:=fun i j h=>⟨by show (js[i]?).bind M.m=_;rw[h];rfl,by show (js[i]?).bind M.o=_;rw[h];rfl⟩
 have hx':∀i j x x' qs q,js[i]?=some j→qm js bx x=some (x',qs)→(Hx (jL M js) i x' q↔Hx M j x q)∧x'.qM=x.qM:=by
  intro i j x x' qs q hj hg;obtain⟨e1,e2⟩:=sm i j hj;cases x with
  |cells cs =>
   simp only[qm]at hg;split at hg
   ·cases hg;exact⟨by simp[Hx,e1],rfl⟩
   ·cases hg
  |buf e k es=>cases hg;exact⟨by simp[Hx,e2],rfl⟩
  |V3 y9=>cases hg;exact⟨by simp[Hx,e1],rfl⟩
  |_=>cases hg
 have b5j:∀i i' j,js[i]?=some j→js[i']?=some j→i=i':=fun i i' j h h'=>by
  obtain⟨h1,h2⟩:=UV.1 h;obtain⟨h3,h4⟩:=UV.1 h';exact (List.getElem_inj hn).1 (h2.trans h4.symm)
 refine⟨?_,?_,?_,?_,?_,fun q hq=>hI.I9.fz q hq⟩
 ·intro i x' hx;obtain⟨j,x,qs,hj,hb,hg,hq⟩:=Gg i x' hx;obtain⟨e1,e2⟩:=sm i j hj;have MV:=hI.I9.box j x hb;cases x with
  |cells cs =>
   simp only[qm]at hg;split at hg
   ·rename_i cs' ps' ho hc;cases hg;obtain⟨g,T,vs,h1,h2,h3⟩:=MV;refine⟨g,T,vs,e1.trans h1,h2,?_⟩;refine kC hI.I9 (F1:=M.F) (fun q h _=>h) (rY hI.I9 (fun q h _=>h) 1) cs js true cs' _ vs (jL M js) rfl (fun b i h=>?_) hc hq (fun b hb=>?_) h3
    ·have h2:=(pU h).2;rw[Nat.sub_zero]at h2;exact sm i b h2
    ·have hb':b∈K6 js bx cs:=hb;rw[ho]at hb';cases hb'
   ·cases hg
  |buf e k es =>
   cases hg;obtain⟨A,n,c,h1,h2⟩:=MV;exact⟨A,n,c,e2.trans h1,h2⟩
  |V3 y9 =>
   cases hg;obtain⟨g,es,Z6,h1,h2,h3⟩:=MV;exact⟨g,es,Z6,e1.trans h1,h2,h3⟩
  |_=>cases hg
 ·intro i x' q hx hq;obtain⟨j,x,qs,hj,hb,hg,_⟩:=Gg i x' hx;have h1:=((hx' i j x x' qs q hj hg).1).1 hq;obtain⟨_,h2,h3⟩:=hI.I9.dom j x q hb h1;exact⟨hY j (q8 hj) x q hb h1,h2,h3⟩
 ·intro i i' x y q hx hy hq hq';obtain⟨j,x1,qs,hj,hb,hg,_⟩:=Gg i x hx;obtain⟨j',y1,uB,hj',hb',hg',_⟩:=Gg i' y hy;have:=hI.I9.inj j j' x1 y1 q hb hb' (((hx' i j x1 x qs q hj hg).1).1 hq) (((hx' i' j' y1 y uB q hj' hg').1).1 hq');subst this;exact b5j i i' j hj hj'
 ·intro i q hq;have hq2:(js[i]?).bind M.m=some q:=hq;cases hj:js[i]? with
  |none=>rw[hj]at hq2;cases hq2
  |some j =>
   rw[hj]at hq2;obtain⟨x,x',qs,h1,h2,_,h4⟩:=hget i j hj;obtain⟨x2,h5,h6⟩:=hI.I9.hm j q hq2;rw[h1]at h5;cases h5;exact⟨x',h4,((hx' i j x x' qs q hj h2).2).trans h6⟩
 ·intro i u hu;have hu2:(js[i]?).bind M.o=some u:=hu;cases hj:js[i]? with
  |none=>rw[hj]at hu2;cases hu2
  |some j =>
   obtain⟨x,x',qs,_,_,_,h4⟩:=hget i j hj;rw[h4];rfl
theorem a7x(hI:Inv X n0 w0 ok0 M nt tm bx a w){js:List Nat}(hn:js.Nodup){xs:List (Option Bx)}{ps:List Prop}(h:iW js bx js=some (xs,ps))(hp:K7 ps):aa (qB M bx js) w.heap.size (jL M js) (lk xs) w :=
 Ua hI hn h hp fun j hj x _ hb hq=>.inr ⟨j,hj,x,hb,hq⟩
theorem RI{o:Oper}{Q:Exit→Act→World→Prop}{x:Operand}{args:Array Operand}{ts:Array TypeId}(ho:o.op=.call ⟨.value x,args,ts⟩)(hI:Inv X n0 w0 ok0 M nt tm bx a w)(hd:∀t,o.dst=some t→t < nt)(hG:∀w',W9 X n0 w0.1 w'→E.G w'){f:FuncId}(hx:H7 tm x=.au f [])
  {js:List Nat} {K:Nat} (hn:js.Nodup) (Om:∀j∈js,j < K) (hK:∀k,K≤k→J2 bx (O8 bx (K6 js bx (args.toList.map (H7 tm)))) k=none) {args':List AV} {ps qs:List Prop} {xs xs':List (Option Bx)} {r:AV}
  (hc:bz js false bx (args.toList.map (H7 tm))=some (args',ps)) (hp:K7 ps) (hb:iW js (J2 bx (O8 bx (K6 js bx (args.toList.map (H7 tm))))) js=some (xs,qs)) (hq:K7 qs) (hs:aV E.P E.G f args' xs r xs') :
  o.wp E.P a w (Left X n0 w0 ok0 nt (Q6 tm o.dst (jd (bA js K) r)) (fA (J2 bx (O8 bx (K6 js bx (args.toList.map (H7 tm))))) js K xs')) Q:=by
 have hv:=hI.ev x;rw[hx]at hv;obtain⟨us,hv,Bp⟩:=hv;obtain rfl:us=[]:=Bp;obtain⟨M1,hI1,h1,_,_⟩:=hI.XA hc hp (RL.map hI.ev args.toList);have exec:(execOp a.eval o).run E.P w=.ok (.enter f (args.toList.map a.eval).toArray) w:=by
  obtain⟨dd,op,ty,pos,af,gd⟩:=o;simp only at ho;subst ho;have e:args.map a.eval=(args.toList.map a.eval).toArray:=by
   apply Array.ext';simp
  simp only[execOp,resolve,invoke,hv,Deferred.ofValue,lc,d9,Result.andThen,Array.empty_append];rw[show args.map a.eval++([]:List Value).toArray=(args.toList.map a.eval).toArray by rw[e];simp]
  exact Rx hs.1
 unfold Oper.wp;rw[exec,Oper.upon_enter];have Al:∀q,qB M1 (J2 bx (O8 bx (K6 js bx (args.toList.map (H7 tm))))) js q→(n0≤q∨X q):=fun q ⟨j,_,y,hy,hyq⟩=>(hI1.I9.dom j y q hy hyq).1
 have hle:=hI1.le;refine (hs.2 _ (jL M1 js) w _ (fun w' hb'=>hG w' (hI1.below.trans (hb'.mono hle fun k hk hx=>?_))) (a7x hI1 hn hb hq) h1).mono ?_
 ·rcases Al k hx with h | h
  ·omega
  ·exact h
 ·rintro e w' ⟨v,M2,rfl,hg,hst,hF,uy⟩;exact hI1.b2E hn Om hK hg hst hF uy o.dst hd
end
inductive AE where
 |F6
 |out (id:Nat)
 |ret
structure HG (E:En) (X:Nat→Prop) (n0:Nat) (w0:World×Mm):Prop where
 g:∀w,W9 X n0 w0.1 w→E.G w
 h:∀k,E.nh≤k→w0.2.m k=none∧w0.2.o k=none
inductive LA where
 |inv (ft:List Nat) (nb:Nat) (e:AE) (s:AS)
 |run (n:Nat)
 |J5 (id i:Nat) (js:List Nat) (r:AV) (xs:List (Option Bx))
def a98(id:Nat):List LA→Bool
 |.J5 id' _ _ _ _::_=>Nat.beq id id'
 |_=>false
def b5k(id i:Nat):List LA→Option (List Nat×AV×List (Option Bx)×List LA)
 |.J5 id' i' js r xs::ls=>match Nat.beq id id' && Nat.beq i i' with
  |true=>some (js,r,xs,ls)
  |false=>none
 |_=>none
def zk(bx:List (Option Bx))(f:Nat→Option Bx)(js:List Nat)(xs:List (Option Bx)):List (Option Bx):=(List.range (bx.length+(xs.length - js.length))).map fun k=>fA f js bx.length xs k
mutual
def Mg:AV→Bool
 |.dt _=>true
 |.nil=>true
 |.agg cs=>zG cs
 |.l7 cs=>zG cs
 |_=>false
def zG:List AV→Bool
 |[]=>true
 |c::cs=>Mg c && zG cs
end
mutual
theorem IJ{ρ:Nat→Nat}:∀(a:AV),Mg a=true→jd ρ a=a
 |.dt _,_=>rfl
 |.nil,_=>rfl
 |.agg cs,h=>by rw[jd,IK cs h]
 |.l7 cs,h=>by rw[jd,IK cs h]
 |.ax _,h=>by cases h
 |.own _ _,h=>by cases h
 |.sl _ _,h=>by cases h
 |.Q5 _,h=>by cases h
 |.ptr _ _,h=>by cases h
 |.df _ _ _,h=>by cases h
 |.gl _ _,h=>by cases h
 |.pin _,h=>by cases h
 |.dm _ _,h=>by cases h
 |.au _ _,h=>by cases h
 |.un,h=>by cases h
theorem IK{ρ:Nat→Nat}:∀(cs:List AV),zG cs=true→qA ρ cs=cs
 |[],_=>rfl
 |c::cs,h=>by
  rw[zG,Ce]at h;rw[qA,IJ c h.1,IK cs h.2]
end
def KI:List (Option Bx)→Bool
 |[]=>true
 |some (.buf _ _ _)::xs=>KI xs
 |_::_=>false
theorem Qd:∀{xs:List (Option Bx)},KI xs=true→∀i ρ,(lk xs i).map (mr ρ)=lk xs i
 |[],_,i,ρ=>by simp[lk]
 |some (.buf e k es)::xs,h,0,ρ=>rfl
 |some (.buf e k es)::xs,h,i+1,ρ=>by
  have:=Qd (xs:=xs) h i ρ;simpa[lk] using this
def Mh(js:List Nat)(r:AV)(xs':List (Option Bx)):Bool:=Nat.beq xs'.length js.length && (Mg r && KI xs')
def Bq(ops:Array Oper)(o:Oper)(s:AS)(js os:List Nat)(r:AV)(xs':List (Option Bx)):Fp:=match Mh js r xs' with
 |true=>⟨o.looksAt ops,o.dst,js++os,true,false⟩
 |false=>⟨o.looksAt ops,o.dst,List.range (s.bx.length+(xs'.length - js.length)),true,true⟩
theorem Qe{mK:List Nat}{bx bx':Nat→Option Bx}:∀{js:List Nat} {r:List (Option Bx)×List Prop},(∀j∈js,bx j=bx' j)→iW mK bx js=some r→iW mK bx' js=some r
 |[],_,_,h=>h
 |j::js,r,hj,h=>by
  unfold iW at h ⊢;rw[←hj j (NE ..)];split at h
  ·rename_i x hx;split at h
   ·rename_i x' ps xs qs e1 e2;have e3:=Qe (fun q hq=>hj q (Cg _ hq)) e2;have e4:qm mK bx' x=some (x',ps):=by
     cases x with
     |cells cs =>
      simp only[qm]at e1 ⊢
      split at e1
      ·rename_i ho hc;have hl:=ib (js:=mK) (kn:=true) (bx:=bx) (bx':=bx') (cs:=cs) (fun b hb=>by rw[ho]at hb;cases hb);rw[←hl.1,←hl.2,ho,hc];exact e1
      ·cases e1
     |_=>exact e1
    simp only[e4,e3];exact h
   ·cases h
  ·cases h
def Mi(E:En)(ops:Array Oper)(o:Oper)(s:AS)(js:List Nat)(r:AV)(xs':List (Option Bx)):Option (AS×Fp×List Prop) :=
 match (match o.dst with | some d=>Nat.ble (d+1) s.tm.length | none=>true) && nodupB js && js.all (fun j=>Nat.ble (j+1) s.bx.length) with
 |false=>none
 |true=>match jI ops s.G9 o,o.op with
  |some true,.call ⟨.value x,args,_⟩=>match H7 s.G9 x with
   |.au f []=>match bz js false s.E9 (args.toList.map (H7 s.G9)) with
    |some (args',ps)=>match iW js (J2 s.E9 (O8 s.E9 (K6 js s.E9 (args.toList.map (H7 s.G9))))) js with
     |some (xs,qs)=>some (⟨tu s.tm o.dst (jd (bA js s.bx.length) r),zk s.bx (J2 s.E9 (O8 s.E9 (K6 js s.E9 (args.toList.map (H7 s.G9))))) js xs'⟩,Bq ops o s js (K6 js s.E9 (args.toList.map (H7 s.G9))) r xs',aV E.P E.G f args' xs r xs'::(ps++qs))
     |none=>none
    |none=>none
   |_=>none
  |_,_=>none
theorem IL:∀{js:List Nat},nodupB js=true→js.Nodup
 |[],_=>.nil
 |j::js,h=>by
  unfold nodupB at h;rw[Ce]at h;refine .cons (fun x hx e=>?_) (IL h.2);subst e;have:=h.1;simp[hx]at this
theorem VD{xs:List (Option Bx)}{i:Nat}(h:xs.length≤i):lk xs i=none:=by unfold lk;rw[Za4 h]
theorem a7y{tm:List AV}{bx:List (Option Bx)}{f:Nat→Option Bx}{js:List Nat}{xs:List (Option Bx)}(hf:∀k,bx.length≤k→f k=none)(hj:∀j∈js,j < bx.length):(AS.mk tm (zk bx f js xs)).E9=fA f js bx.length xs:=by
 funext k;unfold AS.E9 zk;simp only[bi];rcases Za5 k (bx.length+(xs.length - js.length)) with h | h
 ·rw[List.getElem?_range h];rfl
 ·rw[Za4 (by rw[List.length_range];exact h)];show none=_;unfold fA;split
  ·rename_i i hi;have e:=lI hi;unfold bA at e;split at e
   ·rename_i j hj';have:=hj j (q8 hj');omega
   ·rename_i hno;have:=List.getElem?_eq_none_iff.1 hno;rw[VD J];rfl
  ·exact (hf k J).symm
theorem Jo{f:Nat→Option Bx}{bs:List Nat}{k:Nat}(h:f k=none):J2 f (O8 f bs) k=none:=by
 rw[rZ]
 ·exact h
 ·intro x hx;have:=(jE hx).2
  simp_all
def xc(E:En)(ops:Array Oper)(id:Nat):List Oper→Nat→AS→List An→List LA→Option (AS×List Fp×List Prop×List An×List LA)
 |[],_,s,an,ls=>some (s,[],[],an,ls)
 |o::os,i,s,an,ls=>match b5k id i ls with
  |some (js,r,xs',gT)=>match Mi E ops o s js r xs' with
   |none=>none
   |some (s1,f,ps)=>match xc E ops id os (i+1) s1 an gT with
    |none=>none
    |some (s2,fs,qs,ay,oH)=>some (s2,f::fs,ps++qs,ay,oH)
  |none=>match EB E ops o s an with
   |none=>none
   |some (s1,f,ps,dB)=>match xc E ops id os (i+1) s1 dB ls with
    |none=>none
    |some (s2,fs,qs,ay,oH)=>some (s2,f::fs,ps++qs,ay,oH)
def JE(E:En)(ops:Array Oper)(id:Nat)(draw:Bool)(s:AS)(an:List An)(ls:List LA):Option (AS×List Prop×List An×List LA) :=
 match xc E ops id ops.toList 0 s an ls with
 |none=>none
 |some (s',fs,ps,J9,ls')=>match !draw || (vN ops && tC [] fs (Ak ops.toList [])) with
  |true=>some (s',ps,J9,ls')
  |false=>none
theorem a3o{E:En}{ops:Array Oper}{o:Oper}{s s':AS}{js:List Nat}{r:AV}{xs':List (Option Bx)}{f:Fp}{ps:List Prop}(h:Mi E ops o s js r xs'=some (s',f,ps))(hp:K7 ps) :
  Stp E ops s.tm.length o s.G9 s.E9 s'.G9 s'.E9 f∧s'.tm.length=s.tm.length:=by
 unfold Mi at h;split at h
 ·cases h
 rename_i hd;simp only[Ce,Zag]at hd;obtain⟨⟨hd,hn⟩,hj⟩:=hd;have hd':∀t,o.dst=some t→t < s.tm.length:=fun t ht=>by
  rw[ht]at hd;have hd2:Nat.ble (t+1) s.tm.length=true:=hd;exact Zap hd2
 have hj:∀j∈js,j < s.bx.length:=fun j h=>by have:=Zap (hj j h);omega
 have hn:=IL hn;split at h
 ·rename_i x args ts hw hop;split at h
  ·rename_i f hx;split at h
   ·rename_i args' bJ hc;split at h
    ·rename_i xs qs hb;cases h;obtain⟨hs,hp⟩:=hp;obtain⟨hp1,hp2⟩:=fO hp;have hout:∀k,s.bx.length≤k→s.E9 k=none:=fun k hk=>by unfold AS.E9;rw[Za4 hk]
     have Oo:=a7y (tm:=tu s.tm o.dst (jd (bA js s.bx.length) r)) (bx:=s.bx) (f:=J2 s.E9 (O8 s.E9 (K6 js s.E9 (args.toList.map (H7 s.G9))))) (js:=js) (xs:=xs') (fun k hk=>Jo (hout k hk)) hj;cases Ap:Mh js r xs' with
     |true =>
      have hfp:Bq ops o s js (K6 js s.E9 (args.toList.map (H7 s.G9))) r xs'=⟨o.looksAt ops,o.dst,js++K6 js s.E9 (args.toList.map (H7 s.G9)),true,false⟩:=by unfold Bq;rw[Ap]
      rw[hfp];unfold Mh at Ap;simp only[Ce]at Ap;obtain⟨hlen,hfl,hab⟩:=Ap;have hlen:=Zae hlen;have hkeys:∀b,b ∉ K6 js s.E9 (args.toList.map (H7 s.G9))→∀f:Nat→Option Bx,J2 f (O8 s.E9 (K6 js s.E9 (args.toList.map (H7 s.G9)))) b=f b:=fun b hb f=>rZ fun x hx=>hb (jE hx).1
      have lq:∀(g:Nat→Option Bx) (K:Nat),(∀j∈js,j < K)→∀b,fA g js K xs' b=match aB b js 0 with | some i=>lk xs' i | none=>if K≤b then none else g b:=fun g K hK b=>by
       unfold fA inv;cases hi:aB b js 0 with
       |some i=>exact Qd hab i _
       |none =>
        simp only;by_cases c:K≤b
        ·rw[Ch c,Ch c];simp only[VD (xs:=xs') (i:=js.length+(b - K)) J,Option.map_none]
        ·rw[EQ c,EQ c]
      refine⟨⟨fun t ht=>ht,rfl,hd',.inr (.inr (.inr ⟨r,?_,fun b hb=>?_,?_⟩))⟩,Dg _ _ _⟩
      ·rw[zi hd',IJ _ hfl]
      ·have hb':b ∉ js++K6 js s.E9 (args.toList.map (H7 s.G9)):=fun h=>hb ⟨h,rfl⟩
       rw[ZaA]at hb';rw[Oo,lq _ _ hj];cases hi:aB b js 0 with
       |some i =>
        have h2:=(pU hi).2;exact absurd (.inl (q8 h2)) hb'
       |none =>
        simp only;by_cases c:s.bx.length≤b
        ·rw[Ch c,hout b c]
        ·rw[EQ c,hkeys b fun h=>hb' (.inr h)]
      ·intro gQ dS hrt hbt ⟨Kf,hKf⟩ X n0 w0 ok0 Q i a w K ho hG hL hK;obtain⟨M,hI⟩:=hL;have zF:∀t∈o.looksAt ops,gQ t=s.G9 t:=hrt;have hev:∀x∈o.op.operands.toList,H7 gQ x=H7 s.G9 x:=by
        intro x hx;cases x with
        |tmp t =>
         refine zF t ?_;unfold Oper.looksAt;exact Zan _ (List.mem_filterMap.2 ⟨.tmp t,hx,rfl⟩)
        |_=>rfl
       have hwant:jI ops gQ o=jI ops s.G9 o:=by
        unfold jI;cases hg:o.guard with
        |none=>rfl
        |some x =>
         obtain⟨g,b⟩:=x;simp only;cases hdd:(ops[g]?).bind (·.dst) with
         |none=>rfl
         |some d =>
          simp only;have:gQ d=s.G9 d:=zF d (by
           unfold Oper.looksAt;refine ZaE _ ?_;rw[hg];simp[hdd])
          rw[this]
       have hxe:H7 gQ x=.au f []:=(hev x (by rw[hop];simp[Op.operands,Call.operands])).trans hx;have hae:args.toList.map (H7 gQ)=args.toList.map (H7 s.G9):=List.map_congr_left fun y hy=>hev y (by rw[hop];simp[Op.operands,Call.operands];right;simpa using hy)
       have oG:∀b∈K6 js s.E9 (args.toList.map (H7 s.G9)),s.E9 b=dS b:=fun b hb=>(hbt b (ZaE _ hb)).symm
       have hjb:∀b∈js,s.E9 b=dS b:=fun b hb=>(hbt b (Zan _ hb)).symm
       have hlc:=ib (kn:=false) oG;have hlf:=vK (kn:=false) oG hc;have hcX:bz js false dS (args.toList.map (H7 gQ))=some (args',bJ):=by rw[hae,←hlc.1];exact hc
       have hfX:O8 dS (K6 js dS (args.toList.map (H7 gQ)))=O8 s.E9 (K6 js s.E9 (args.toList.map (H7 s.G9))):=by rw[hae,←hlc.2,hlf]
       have hbX:iW js (J2 dS (O8 dS (K6 js dS (args.toList.map (H7 gQ))))) js=some (xs,qs):=by
        rw[hfX];exact Qe (fun j hj=>xX (hjb j hj)) hb
       have hnone:∀k,s.bx.length≤k→∀y,(k,y) ∉ O8 s.E9 (K6 js s.E9 (args.toList.map (H7 s.G9))):=fun k hk y hy=>by
        obtain⟨_,x0,h1,_⟩:=jE hy;rw[hout k hk]at h1;cases h1
       unfold wpOp;simp only[ho];rw[Df hI (hwant.trans hw)];simp only[ZaG];left;refine Oper.wp_mono (fun a w hL'=>hK a w ?_) (RI (K:=s.bx.length+Kf) hop hI hd' hG hxe hn (fun j h=>by have:=hj j h;omega) (fun k hk=>by rw[hfX,rZ fun y hy=>hnone k J y hy];exact hKf k J) hcX hp1 hbX hp2 hs)
       ·have e1:jd (bA js (s.bx.length+Kf)) r=r:=IJ _ hfl;rw[e1,hfX]at hL';have e2:(fun b=>if b∈js++K6 js s.E9 (args.toList.map (H7 s.G9))∧true=true then (AS.mk (tu s.tm o.dst (jd (bA js s.bx.length) r)) (zk s.bx (J2 s.E9 (O8 s.E9 (K6 js s.E9 (args.toList.map (H7 s.G9))))) js xs')).E9 b else dS b)=fA (J2 dS (O8 s.E9 (K6 js s.E9 (args.toList.map (H7 s.G9))))) js (s.bx.length+Kf) xs':=funext fun b=>by
         rw[Oo,lq _ _ hj,lq _ _ (fun j h=>by have:=hj j h;omega)]
         cases hi:aB b js 0 with
         |some i =>
          have h2:=(pU hi).2;rw[Ch ⟨Zan _ (q8 h2),rfl⟩]
         |none =>
          simp only;by_cases c:b∈js++K6 js s.E9 (args.toList.map (H7 s.G9))
          ·rw[Ch ⟨c,Z⟩];have ceq:=hbt b c;by_cases c2:s.bx.length≤b
           ·rw[Ch c2];split
            ·rfl
            ·rw[xX ceq,Jo (hout b c2)]
           ·rw[EQ c2,EQ J,xX ceq]
          ·rw[EQ fun h=>c h.1];by_cases c2:s.bx.length+Kf≤b
           ·rw[Ch c2];exact hKf b J
           ·rw[EQ c2,hkeys b fun h=>c (ZaE _ h)]
        rw[e2];exact hL'
     |false =>
     have hfp:Bq ops o s js (K6 js s.E9 (args.toList.map (H7 s.G9))) r xs'=⟨o.looksAt ops,o.dst,List.range (s.bx.length+(xs'.length - js.length)),true,true⟩:=by unfold Bq;rw[Ap]
     rw[hfp];refine⟨⟨fun t ht=>ht,rfl,hd',.inr (.inr (.inl ⟨rfl,fun t ht=>?_,fun b hb=>?_,?_⟩))⟩,Dg _ _ _⟩
     ·rw[zi hd'];exact Dy ht
     ·have hb':s.bx.length+(xs'.length - js.length)≤b:=by
       rcases Za5 b (s.bx.length+(xs'.length - js.length)) with h | h
       ·exact absurd ⟨List.mem_range.2 h,rfl⟩ hb
       ·exact h
      rw[hout b J];unfold AS.E9 zk;simp only[bi];rw[Za4 (by rw[List.length_range];exact hb')];rfl
     ·intro X n0 w0 ok0 Q i a w K ho hG hL hK;obtain⟨M,hI⟩:=hL;unfold wpOp;simp only[ho];rw[Df hI hw];simp only[ZaG];left;refine Oper.wp_mono (fun a w hL'=>hK a w ?_) (RI hop hI hd' hG hx hn hj (fun k hk=>Jo (hout k hk)) hc hp1 hb hp2 hs);rw[Oo,zi hd'];exact hL'
    ·cases h
   ·cases h
  ·cases h
 ·cases h
theorem RJ{E:En}{ops:Array Oper}{id:Nat}:∀{os:List Oper} {i:Nat} {s s':AS} {an J9:List An} {ls ls':List LA} {fs:List Fp} {ps:List Prop},xc E ops id os i s an ls=some (s',fs,ps,J9,ls')→K7 ps →
  s'.tm.length=s.tm.length∧fs.length=os.length∧∃(Q0:Nat→Nat→AV) (J6:Nat→Nat→Option Bx),Q0 0=s.G9∧J6 0=s.E9∧Q0 os.length=s'.G9∧J6 os.length=s'.E9∧(∃K,∀i,i≤os.length→∀k,K≤k→J6 i k=none) ∧
   ∀i o f,os[i]?=some o→fs[i]?=some f→Stp E ops s.tm.length o (Q0 i) (J6 i) (Q0 (i+1)) (J6 (i+1)) f
 |[],_,s,s',an,J9,ls,ls',fs,ps,h,_=>by
  cases h;exact⟨rfl,rfl,fun _=>s.G9,fun _=>s.E9,rfl,rfl,rfl,rfl,⟨s.bx.length,fun _ _ k hk=>JD s hk⟩,fun i o f hi=>by simp at hi⟩
 |o::os,i,s,s',an,J9,ls,ls',fs,ps,h,hp=>by
  have step:∀{s1:AS} {f:Fp} {ji:List Fp} {qs:List Prop} {dB:List An} {gT:List LA},Stp E ops s.tm.length o s.G9 s.E9 s1.G9 s1.E9 f→s1.tm.length=s.tm.length→xc E ops id os (i+1) s1 dB gT=some (s',ji,qs,J9,ls')→K7 qs →
    s'.tm.length=s.tm.length∧(f::ji).length=(o::os).length∧∃(Q0:Nat→Nat→AV) (J6:Nat→Nat→Option Bx),Q0 0=s.G9∧J6 0=s.E9∧Q0 (o::os).length=s'.G9∧J6 (o::os).length=s'.E9∧(∃K,∀i,i≤(o::os).length→∀k,K≤k→J6 i k=none) ∧
     ∀i o' f',(o::os)[i]?=some o'→(f::ji)[i]?=some f'→Stp E ops s.tm.length o' (Q0 i) (J6 i) (Q0 (i+1)) (J6 (i+1)) f':=by
   intro s1 f ji qs dB gT hs hl h2 hp2;obtain⟨hl2,hf2,Q0,J6,e1,e2,e3,e4,⟨Kf,hKf⟩,hst⟩:=RJ h2 hp2;refine⟨hl2.trans hl,by simp[hf2],fun i=>match i with | 0=>s.G9 | i+1=>Q0 i,fun i=>match i with | 0=>s.E9 | i+1=>J6 i,rfl,rfl,e3,e4,RH hKf,?_⟩;intro i o' f' hi hf;cases i with
   |zero =>
    cases hi;cases hf;simp only[e1,e2];exact hs
   |succ i =>
    rw[hl]at hst;exact hst i o' f' (by simpa using hi) (by simpa using hf)
  unfold xc at h;split at h
  ·split at h
   ·cases h
   ·rename_i s1 f bJ h1;split at h
    ·cases h
    ·rename_i h2;cases h;obtain⟨hp1,hp2⟩:=fO hp;obtain⟨hs,hl⟩:=a3o h1 hp1;exact step hs hl h2 hp2
  ·split at h
   ·cases h
   ·rename_i s1 f bJ dB h1;split at h
    ·cases h
    ·rename_i h2;cases h;obtain⟨hp1,hp2⟩:=fO hp;obtain⟨hs,hl⟩:=QM h1 hp1;exact step hs hl h2 hp2
theorem a2B{E:En}{ops:Array Oper}{draw:Bool}{id:Nat}{s s':AS}{an J9:List An}{ls ls':List LA}{ps:List Prop}(h:JE E ops id draw s an ls=some (s',ps,J9,ls'))(hp:K7 ps) :
  s'.tm.length=s.tm.length∧∀{X:Nat→Prop} {n0:Nat} {w0:World×Mm} {ok0:Nat→Prop},HG E X n0 w0→∀{Q:Exit→Act→World→Prop} {a:Act} {w:World},Left X n0 w0 ok0 s.tm.length s.G9 s.E9 a w→(∀a w,Left X n0 w0 ok0 s.tm.length s'.G9 s'.E9 a w→Q .normal a w)→(Code.region id ops draw).wp E.P Q a w:=by
 unfold JE at h;split at h
 ·cases h
 rename_i s1 fs bJ dB gT hrun;split at h
 case h_2=>cases h
 rename_i gu;cases h;obtain⟨hl,hfl,Q0,J6,e1,e2,e3,e4,hfin,hst⟩:=RJ hrun hp;exact⟨hl,fun hG _ _ _ h0 hQ=>QO hfl gu hst hfin hG.g (by rw[e1,e2];exact h0) (by rw[e3,e4];exact hQ)⟩
end Go.Proofs.YtbpmpdadppamgaaGreatDoor
