/- Plain walks: a call that is handed boxes. -/
import Derived.Test.YthhknjlmjefklaaGreatDoorMF
import Derived.Test.YthhknjlmjefklaaGreatDoorMG
import Derived.Test.YthhknjlmjefklaaGreatDoorMD
import Derived.Test.YthhknjlmjefklaaGreatDoorMB
namespace Go.Proofs.YthhknjlmjefklaaGreatDoor
open Go.RowKit
section
variable {w:World} {ρ:Nat→Nat}
mutual
theorem RV.ren:∀ {M M':Mm},M'.F=M.F→(∀ i,M'.m (ρ i)=M.m i)→(∀ i,M'.o (ρ i)=M.o i)→∀ (a:AV) (v:Value),RV M w a v→RV M' w (renA ρ a) v
 | _,_,hF,_,_,.dt d,v,h=>by show Rd _ w v d;rw [hF];exact h
 | _,_,_,_,_,.nil,_,h=>h
 | _,_,hF,_,_,.ful es,v,⟨A,h1,h2⟩=>⟨A,h1,by rw [hF];exact h2⟩
 | _,_,_,_,ho,.own b n,v,⟨A,c,A',n',c',h1,h2,h3,h4⟩=>⟨A,c,A',n',c',h1,(ho b).trans h2,h3,h4⟩
 | _,_,_,hm,_,.sl b n,v,⟨g,h1,h2⟩=>⟨g,(hm b).trans h1,h2⟩
 | _,_,_,hm,_,.mapp b,v,⟨g,h1,h2⟩=>⟨g,(hm b).trans h1,h2⟩
 | _,_,_,hm,_,.ptr b off,v,⟨g,h1,h2⟩=>⟨g,(hm b).trans h1,h2⟩
 | _,_,_,hm,_,.rptr b i k,v,⟨g,h1,h2⟩=>⟨g,(hm b).trans h1,h2⟩
 | _,_,_,_,_,.gl _ _,_,h=>h
 | _,_,hF,_,_,.pin cs,v,⟨g,o,vs,h1,h2,h3,h4,h5⟩=>⟨g,o,vs,h1,by rw [hF];exact h2,h3,h4,by rw [hF];exact h5⟩
 | _,_,hF,hm,ho,.agg cs,v,⟨vs,h1,h2⟩=>⟨vs,h1,RL.ren hF hm ho cs vs h2⟩
 | _,_,hF,hm,ho,.tup cs,v,⟨vs,h1,h2⟩=>⟨vs,h1,RL.ren hF hm ho cs vs h2⟩
 | _,_,hF,hm,ho,.clo f cs,v,⟨vs,h1,h2⟩=>⟨vs,h1,RL.ren hF hm ho cs vs h2⟩
 | _,_,hF,_,_,.clf _ _,_,⟨vs,h1,h2⟩=>⟨vs,h1,by rw [hF];exact h2⟩
 | _,_,_,_,_,.un,_,_=>trivial
theorem RL.ren:∀ {M M':Mm},M'.F=M.F→(∀ i,M'.m (ρ i)=M.m i)→(∀ i,M'.o (ρ i)=M.o i)→∀ (cs:List AV) (vs:List Value),RL M w cs vs→RL M' w (renL ρ cs) vs
 | _,_,_,_,_,[],_,h=>h
 | _,_,hF,hm,ho,c::cs,_,⟨u,us,h1,h2,h3⟩=>⟨u,us,h1,RV.ren hF hm ho c u h2,RL.ren hF hm ho cs us h3⟩
end
variable {M M':Mm} (hF:M'.F=M.F) (hm:∀ i,M'.m (ρ i)=M.m i) (ho:∀ i,M'.o (ρ i)=M.o i)
include hF hm ho
theorem MK.ren:∀ {kvs:List (Value×AV)} {es:List MapEntry},MK M w kvs es→MK M' w (kvs.map fun x=>(x.1,renA ρ x.2)) es
 | [],_,h=>h
 | (_k,_a)::_kvs,_,⟨e,es',h1,h2,h3,h4⟩=>⟨e,es',h1,h2,RV.ren hF hm ho _ _ h3,MK.ren h4⟩
theorem BxOK.ren {b:Nat} {x:Bx} (h:BxOK M w b x):BxOK M' w (ρ b) (renB ρ x):=by
 cases x with
 | cells cs=>obtain ⟨g,T,vs,h1,h2,h3⟩:=h;exact ⟨g,T,vs,(hm b).trans h1,h2,RL.ren hF hm ho _ _ h3⟩
 | buf e k es=>obtain ⟨A,n,c,h1,h2⟩:=h;exact ⟨A,n,c,(ho b).trans h1,by rw [hF];exact h2⟩
 | fzn es=>obtain ⟨A,n,c,h1,h2⟩:=h;exact ⟨A,n,c,(ho b).trans h1,by rw [hF];exact h2⟩
 | mp kvs=>obtain ⟨g,es,clk,h1,h2,h3⟩:=h;exact ⟨g,es,clk,(hm b).trans h1,h2,MK.ren hF hm ho h3⟩
 | mpd kvs=>obtain ⟨g,es,clk,h1,h2,h3⟩:=h;exact ⟨g,es,clk,(hm b).trans h1,h2,by rw [hF];exact h3⟩
 | rws e k es=>obtain ⟨g,vs,h1,h2,h3⟩:=h;exact ⟨g,vs,(hm b).trans h1,h2,by rw [hF];exact h3⟩
 | fzr es=>obtain ⟨g,h1,h2⟩:=h;exact ⟨g,(hm b).trans h1,by rw [hF];exact h2⟩
 | cst cs=>obtain ⟨g,vs,h1,h2,h3,h4,h5⟩:=h;exact ⟨g,vs,(hm b).trans h1,by rw [hF];exact h2,h3,h4,by rw [hF];exact h5⟩
omit hF in
theorem Hx.ren {b:Nat} {x:Bx} {q:Nat}:Hx M' (ρ b) (renB ρ x) q↔Hx M b x q:=by
 cases x <;> simp [Hx,renB,hm,ho]
end
theorem renB_isM {ρ:Nat→Nat} (x:Bx):(renB ρ x).isM=x.isM:=by cases x <;> rfl
def inv (js:List Nat) (K k:Nat):Option Nat:=match ixOf k js 0 with
 | some i=>some i
 | none=>if K≤k then some (js.length+(k - K)) else none
theorem ixOf_mem {b:Nat}:∀ {js:List Nat} {k:Nat},b∈js→∃ i,ixOf b js k=some i
 | j::js,k,h=>by
  unfold ixOf
  cases e:Nat.beq b j with
  | true=>exact ⟨k,rfl⟩
  | false =>
   rcases List.mem_cons.1 h with rfl | h
   ·rw [Nat.beq_refl] at e;cases e
   ·exact ixOf_mem h
theorem inv_some {js:List Nat} {K k i:Nat} (h:inv js K k=some i):rho js K i=k:=by
 unfold inv at h
 split at h
 ·rename_i i' hi
  cases h
  have h2:=(ixOf_get hi).2
  unfold rho
  rw [Nat.sub_zero] at h2
  rw [h2]
 ·split at h
  ·rename_i hi hk
   cases h
   unfold rho
   rw [List.getElem?_eq_none (by omega)]
   show K+(js.length+(k - K) - js.length)=k
   omega
  ·cases h
theorem inv_rho {js:List Nat} {K:Nat} (hn:js.Nodup) (hK:∀ j∈js,j < K) (i:Nat):inv js K (rho js K i)=some i:=by
 rcases Nat.lt_or_ge i js.length with h | h
 ·have e:rho js K i=js[i]:=by unfold rho;rw [List.getElem?_eq_getElem h]
  rw [e]
  unfold inv
  obtain ⟨i',hi'⟩:=ixOf_mem (k:=0) (List.getElem_mem h)
  rw [hi']
  have h2:=(ixOf_get hi').2
  rw [Nat.sub_zero] at h2
  obtain ⟨h3,h4⟩:=List.getElem?_eq_some_iff.1 h2
  exact congrArg some ((List.getElem_inj hn).1 h4)
 ·have e:rho js K i=K+(i - js.length):=by unfold rho;rw [List.getElem?_eq_none h]
  rw [e]
  unfold inv
  cases hi:ixOf (K+(i - js.length)) js 0 with
  | some i' =>
   have h2:=(ixOf_get hi).2
   have:=hK _ (List.mem_of_getElem? h2)
   omega
  | none =>
   show (if K≤K+(i - js.length) then some (js.length+(K+(i - js.length) - K)) else none)=some i
   rw [if_pos (by omega)]
   exact congrArg some (by omega)
theorem inv_none {js:List Nat} {K k:Nat} (h:inv js K k=none):k ∉ js∧k < K:=by
 unfold inv at h
 split at h
 ·cases h
 ·rename_i hi
  split at h
  ·cases h
  ·refine ⟨fun hm=>?_,by omega⟩
   obtain ⟨i,e⟩:=ixOf_mem (k:=0) hm
   rw [hi] at e
   cases e
section
variable {E:En} {X:Nat→Prop} {n0:Nat} {w0:World×Mm} {ok0:Nat→Prop} {M:Mm} {nt:Nat} {tm:Nat→AV} {bx:Nat→Option Bx} {a:Act} {w:World}
def subM (M:Mm) (js:List Nat):Mm:=⟨fun i=>(js[i]?).bind M.m,M.F,fun i=>(js[i]?).bind M.o⟩
def subX (M:Mm) (bx:Nat→Option Bx) (js:List Nat) (g:Nat):Prop:=∃ j∈js,∃ x,bx j=some x∧Hx M j x g
def afterB (bx:Nat→Option Bx) (js:List Nat) (K:Nat) (xs:List (Option Bx)) (k:Nat):Option Bx:=match inv js K k with
 | some i=>(lk xs i).map (renB (rho js K))
 | none=>bx k
theorem Inv.scall (hI:Inv X n0 w0 ok0 M nt tm bx a w) {js:List Nat} {K:Nat} (hn:js.Nodup) (hjK:∀ j∈js,j < K) (hK:∀ k,K≤k→bx k=none) {M2:Mm} {w':World} {xs:List (Option Bx)}
  (g:Go1 (subX M bx js) w.heap.size (subM M js) w M2 w') (hS:Sto (subX M bx js) w.heap.size M2 (lk xs) w') (hF:∀ b,M2.F b→M.F b∨w.heap.size≤b∨subX M bx js b) {r:AV} {v:Value} (hr:RV M2 w' r v) (d:Option Nat) (hd:∀ t,d=some t→t < nt) :
  ∃ M3,Inv X n0 w0 ok0 M3 nt (updT tm d (renA (rho js K) r)) (afterB bx js K xs) (a.put d v) w':=by
 have hir:=inv_rho hn hjK
 let M3:Mm:=⟨fun k=>match inv js K k with | some i=>M2.m i | none=>M.m k,M2.F,fun k=>match inv js K k with | some i=>M2.o i | none=>M.o k⟩
 have hm:∀ i,M3.m (rho js K i)=M2.m i:=fun i=>by show (match inv js K (rho js K i) with | some i=>M2.m i | none=>_)=_;rw [hir]
 have ho:∀ i,M3.o (rho js K i)=M2.o i:=fun i=>by show (match inv js K (rho js K i) with | some i=>M2.o i | none=>_)=_;rw [hir]
 have mn:∀ k,inv js K k=none→M3.m k=M.m k∧M3.o k=M.o k:=fun k h=>⟨by show (match inv js K k with | some i=>M2.m i | none=>_)=_;rw [h],by show (match inv js K k with | some i=>M2.o i | none=>_)=_;rw [h]⟩
 have xdom:∀ q,subX M bx js q→(n0≤q∨X q)∧q < w.heap.size∧¬ M.F q:=fun q ⟨j,_,x,hx,hq⟩=>hI.sto.dom j x q hx hq
 have hle:=hI.le
 have bel:Bel X n0 w w':=g.below.mono (by omega) fun k hk hx=>by
  rcases (xdom k hx).1 with h | h
  ·omega
  ·exact h
 have cases':∀ k i,inv js K k=some i→(i < js.length∧js[i]?=some k)∨(js.length≤i∧bx k=none):=fun k i h=>by
  have h1:=inv_some h
  rcases Nat.lt_or_ge i js.length with h2 | h2
  ·refine .inl ⟨h2,?_⟩
   unfold rho at h1
   rw [List.getElem?_eq_getElem h2] at h1 ⊢
   exact congrArg some h1
  ·refine .inr ⟨h2,hK k ?_⟩
   unfold rho at h1
   rw [List.getElem?_eq_none h2] at h1
   have h3:K+(i - js.length)=k:=h1
   omega
 have G:Go1 X n0 M w M3 w':=by
  refine ⟨bel,g.keep,g.F,fun k q hq=>?_,fun k A n c hq=>?_⟩
  ·cases hi:inv js K k with
   | none=>rw [(mn k hi).1];exact hq
   | some i =>
    rcases cases' k i hi with ⟨h1,h2⟩ | ⟨h1,h2⟩
    ·have:=g.m i q (by show (js[i]?).bind M.m=_;rw [h2];exact hq)
     rw [← inv_some hi,hm];exact this
    ·rw [hI.sto.fresh_m h2] at hq;cases hq
  ·cases hi:inv js K k with
   | none=>rw [(mn k hi).2];exact ⟨A,n,c,hq,Nat.le_refl _,fun _=>⟨rfl,rfl⟩⟩
   | some i =>
    rcases cases' k i hi with ⟨h1,h2⟩ | ⟨h1,h2⟩
    ·have:=g.o i A n c (by show (js[i]?).bind M.o=_;rw [h2];exact hq)
     rw [← inv_some hi,ho];exact this
    ·rw [hI.sto.fresh_o h2] at hq;cases hq
 -- another box's blocks are not touched
 have far:∀ k x q,inv js K k=none→bx k=some x→Hx M k x q→w'.heap[q]?=w.heap[q]?∧¬ subX M bx js q:=fun k x q hi hx hq=>by
  have hno:¬ subX M bx js q:=fun ⟨j,hj,y,hy,hyq⟩=>by
   have:=hI.sto.inj k j x y q hx hy hq hyq
   subst this
   exact (inv_none hi).1 hj
  exact ⟨g.below.block q (hI.sto.dom k x q hx hq).2.1 hno,hno⟩
 have aft:∀ k,inv js K k=none→afterB bx js K xs k=bx k:=fun k h=>by unfold afterB;rw [h]
 have aft':∀ k i,inv js K k=some i→afterB bx js K xs k=(lk xs i).map (renB (rho js K)):=fun k i h=>by unfold afterB;rw [h]
 have getx:∀ k i y,inv js K k=some i→afterB bx js K xs k=some y→∃ x,lk xs i=some x∧y=renB (rho js K) x:=fun k i y h hy=>by
  rw [aft' k i h] at hy
  cases hx:lk xs i with
  | none=>rw [hx] at hy;cases hy
  | some x=>rw [hx] at hy;exact ⟨x,rfl,(Option.some.inj hy).symm⟩
 have hx':∀ k i x q,inv js K k=some i→(Hx M3 k (renB (rho js K) x) q↔Hx M2 i x q):=fun k i x q h=>by
  have e:=inv_some h
  subst e
  exact Hx.ren hm ho
 have sto:Sto X n0 M3 (afterB bx js K xs) w':=by
  refine ⟨?_,?_,?_,?_,?_,fun q hq=>hS.fz q hq⟩
  ·intro k y hy
   cases hi:inv js K k with
   | none =>
    rw [aft k hi] at hy
    exact (hI.sto.box k y hy).go G (mn k hi).2 fun q hq=>(far k y q hi hy hq).1
   | some i =>
    obtain ⟨x,hx,rfl⟩:=getx k i y hi hy
    have e:=inv_some hi
    subst e
    exact BxOK.ren (M:=M2) (M':=M3) rfl hm ho (hS.box i x hx)
  ·intro k y q hy hq
   cases hi:inv js K k with
   | none =>
    rw [aft k hi] at hy
    have hq':Hx M k y q:=(Hx.eq (mn k hi).1 (mn k hi).2).1 hq
    obtain ⟨h1,h2,h3⟩:=hI.sto.dom k y q hy hq'
    refine ⟨h1,Nat.lt_of_lt_of_le h2 g.below.size,fun hf=>?_⟩
    rcases hF q hf with h4 | h4 | h4
    ·exact h3 h4
    ·omega
    ·exact (far k y q hi hy hq').2 h4
   | some i =>
    obtain ⟨x,hx,rfl⟩:=getx k i y hi hy
    obtain ⟨h1,h2,h3⟩:=hS.dom i x q hx ((hx' k i x q hi).1 hq)
    refine ⟨?_,h2,h3⟩
    rcases h1 with h1 | h1
    ·exact .inl (by omega)
    ·exact (xdom q h1).1
  ·intro k k' y y' q hy hy' hq hq'
   have cross:∀ {k k' y y'},inv js K k=none→(∃ i,inv js K k'=some i)→afterB bx js K xs k=some y→afterB bx js K xs k'=some y'→Hx M3 k y q→Hx M3 k' y' q→False:=by
    intro k k' y y' hi ⟨i',hi'⟩ hy hy' hq hq'
    rw [aft k hi] at hy
    have h1:Hx M k y q:=(Hx.eq (mn k hi).1 (mn k hi).2).1 hq
    obtain ⟨x',hx2,rfl⟩:=getx k' i' y' hi' hy'
    rcases (hS.dom i' x' q hx2 ((hx' k' i' x' q hi').1 hq')).1 with h2 | h2
    ·have:=(hI.sto.dom k y q hy h1).2.1;omega
    ·exact (far k y q hi hy h1).2 h2
   cases hi:inv js K k with
   | none =>
    cases hi':inv js K k' with
    | none =>
     rw [aft k hi] at hy
     rw [aft k' hi'] at hy'
     exact hI.sto.inj k k' y y' q hy hy' ((Hx.eq (mn k hi).1 (mn k hi).2).1 hq) ((Hx.eq (mn k' hi').1 (mn k' hi').2).1 hq')
    | some i'=>exact (cross hi ⟨i',hi'⟩ hy hy' hq hq').elim
   | some i =>
    cases hi':inv js K k' with
    | none=>exact (cross hi' ⟨i,hi⟩ hy' hy hq' hq).elim
    | some i' =>
     obtain ⟨x,hx,rfl⟩:=getx k i y hi hy
     obtain ⟨x',hx2,rfl⟩:=getx k' i' y' hi' hy'
     have:=hS.inj i i' x x' q hx hx2 ((hx' k i x q hi).1 hq) ((hx' k' i' x' q hi').1 hq')
     subst this
     rw [← inv_some hi,← inv_some hi']
  ·intro k q hq
   cases hi:inv js K k with
   | none =>
    rw [(mn k hi).1] at hq
    rw [aft k hi]
    exact hI.sto.hm k q hq
   | some i =>
    have e:=inv_some hi
    rw [← e,hm] at hq
    obtain ⟨x,h1,h2⟩:=hS.hm i q hq
    exact ⟨renB (rho js K) x,by rw [aft' k i hi,h1];rfl,by rw [renB_isM];exact h2⟩
  ·intro k u hq
   cases hi:inv js K k with
   | none =>
    rw [(mn k hi).2] at hq
    rw [aft k hi]
    exact hI.sto.ho k u hq
   | some i =>
    have e:=inv_some hi
    rw [← e,ho] at hq
    have h1:=hS.ho i u hq
    rw [aft' k i hi]
    cases hx:lk xs i with
    | none=>rw [hx] at h1;cases h1
    | some x=>rfl
 refine ⟨M3,hI.put G sto (fun b hb=>?_) d hd (RV.ren (M:=M2) (M':=M3) rfl hm ho r v hr)⟩
 rcases hF b hb with h | h | h
 ·exact .inl h
 ·exact .inr (.inl (by omega))
 ·rcases (xdom b h).1 with h | h
  ·exact .inr (.inl h)
  ·exact .inr (.inr h)
theorem Inv.handJ (hI:Inv X n0 w0 ok0 M nt tm bx a w) {js:List Nat} {kn:Bool} {cs cs':List AV} {ps:List Prop} (hc:cvL js kn bx cs=some (cs',ps)) (hp:AllP ps) {vs:List Value} (hr:RL M w cs vs) :
  ∃ M1,Inv X n0 w0 ok0 M1 nt tm (updB bx (frzs bx (obL js bx cs))) a w∧RL (subM M1 js) w cs' vs∧M1.m=M.m∧M1.o=M.o:=by
 have hst:=stp_of hc hp (S:=(·∈obL js bx cs)) fun b hb=>hb
 refine ⟨_,hI.freeze _ hst,?_,rfl,rfl⟩
 refine cvtL_rl hI.sto (F1:=FrF M bx (obL js bx cs)) (fun q h _=>.inl h) (cvtF_rl hI.sto (fun q h _=>.inl h) 1) cs js kn cs' ps vs (subM ⟨M.m,FrF M bx (obL js bx cs),M.o⟩ js) rfl (fun b i h=>?_) hc hp (fun b hb=>Fz_of hst b hb) hr
 have h2:=(ixOf_get h).2
 rw [Nat.sub_zero] at h2
 exact ⟨by show (js[i]?).bind M.m=_;rw [h2];rfl,by show (js[i]?).bind M.o=_;rw [h2];rfl⟩
def giveB (js:List Nat) (bx:Nat→Option Bx):Bx→Option (Bx×List Prop)
 | .cells cs=>match obL js bx cs,cvL js true bx cs with
  | [],some (cs',ps)=>some (.cells cs',ps)
  | _,_=>none
 | .buf e k es=>some (.buf e k es,[])
 | .mpd kvs=>some (.mpd kvs,[])
 | _=>none
def giveBs (js0:List Nat) (bx:Nat→Option Bx):List Nat→Option (List (Option Bx)×List Prop)
 | []=>some ([],[])
 | j::js=>match bx j with
  | some x=>match giveB js0 bx x,giveBs js0 bx js with
   | some (x',ps),some (xs,qs)=>some (some x'::xs,ps++qs)
   | _,_=>none
  | none=>none
theorem giveBs_get {js0:List Nat}:∀ {js:List Nat} {xs:List (Option Bx)} {ps:List Prop},giveBs js0 bx js=some (xs,ps)→AllP ps→xs.length=js.length∧∀ i j,js[i]?=some j→∃ x x' qs,bx j=some x∧giveB js0 bx x=some (x',qs)∧AllP qs∧lk xs i=some x'
 | [],_,_,h,_=>by cases h;exact ⟨rfl,fun i j h=>by simp at h⟩
 | j::js,xs,ps,h,hp=>by
  unfold giveBs at h
  split at h
  ·rename_i x hx
   split at h
   ·rename_i x' ps1 xs1 qs1 e1 e2
    cases h
    obtain ⟨hp1,hp2⟩:=AllP_app hp
    obtain ⟨h1,h2⟩:=giveBs_get e2 hp2
    refine ⟨by simp [h1],fun i j' hi=>?_⟩
    cases i with
    | zero=>cases hi;exact ⟨x,x',ps1,hx,e1,hp1,rfl⟩
    | succ i =>
     obtain ⟨y,y',qs,h3,h4,h5,h6⟩:=h2 i j' (by simpa using hi)
     exact ⟨y,y',qs,h3,h4,h5,by simpa [lk] using h6⟩
   ·cases h
  ·cases h
theorem sub_gen (hI:Inv X n0 w0 ok0 M nt tm bx a w) {js:List Nat} (hn:js.Nodup) {xs:List (Option Bx)} {ps:List Prop} (h:giveBs js bx js=some (xs,ps)) (hp:AllP ps) {Y:Nat→Prop} {m0:Nat} (hY:∀ j∈js,∀ x q,bx j=some x→Hx M j x q→m0≤q∨Y q):Sto Y m0 (subM M js) (lk xs) w:=by
 obtain ⟨hlen,hget⟩:=giveBs_get h hp
 have lkx:∀ i x',lk xs i=some x'→∃ j x qs,js[i]?=some j∧bx j=some x∧giveB js bx x=some (x',qs)∧AllP qs:=by
  intro i x' hx
  rcases Nat.lt_or_ge i js.length with hi | hi
  ·obtain ⟨x,x2,qs,h1,h2,h3,h4⟩:=hget i js[i] (List.getElem?_eq_getElem hi)
   rw [hx] at h4
   cases h4
   exact ⟨js[i],x,qs,List.getElem?_eq_getElem hi,h1,h2,h3⟩
  ·unfold lk at hx
   rw [List.getElem?_eq_none (by omega)] at hx
   cases hx
 have sm:∀ i j,js[i]?=some j→(subM M js).m i=M.m j∧(subM M js).o i=M.o j:=fun i j h=>⟨by show (js[i]?).bind M.m=_;rw [h];rfl,by show (js[i]?).bind M.o=_;rw [h];rfl⟩
 have hx':∀ i j x x' qs q,js[i]?=some j→giveB js bx x=some (x',qs)→(Hx (subM M js) i x' q↔Hx M j x q)∧x'.isM=x.isM:=by
  intro i j x x' qs q hj hg
  obtain ⟨e1,e2⟩:=sm i j hj
  cases x with
  | cells cs =>
   simp only [giveB] at hg
   split at hg
   ·cases hg;exact ⟨by simp [Hx,e1],rfl⟩
   ·cases hg
  | buf e k es=>cases hg;exact ⟨by simp [Hx,e2],rfl⟩
  | mpd kvs=>cases hg;exact ⟨by simp [Hx,e1],rfl⟩
  | _=>cases hg
 have jinj:∀ i i' j,js[i]?=some j→js[i']?=some j→i=i':=fun i i' j h h'=>by
  obtain ⟨h1,h2⟩:=List.getElem?_eq_some_iff.1 h
  obtain ⟨h3,h4⟩:=List.getElem?_eq_some_iff.1 h'
  exact (List.getElem_inj hn).1 (h2.trans h4.symm)
 refine ⟨?_,?_,?_,?_,?_,fun q hq=>hI.sto.fz q hq⟩
 ·intro i x' hx
  obtain ⟨j,x,qs,hj,hb,hg,hq⟩:=lkx i x' hx
  obtain ⟨e1,e2⟩:=sm i j hj
  have hbox:=hI.sto.box j x hb
  cases x with
  | cells cs =>
   simp only [giveB] at hg
   split at hg
   ·rename_i cs' ps' ho hc
    cases hg
    obtain ⟨g,T,vs,h1,h2,h3⟩:=hbox
    refine ⟨g,T,vs,e1.trans h1,h2,?_⟩
    refine cvtL_rl hI.sto (F1:=M.F) (fun q h _=>h) (cvtF_rl hI.sto (fun q h _=>h) 1) cs js true cs' _ vs (subM M js) rfl (fun b i h=>?_) hc hq (fun b hb=>?_) h3
    ·have h2:=(ixOf_get h).2
     rw [Nat.sub_zero] at h2
     exact sm i b h2
    ·have hb':b∈obL js bx cs:=hb
     rw [ho] at hb'
     cases hb'
   ·cases hg
  | buf e k es =>
   cases hg
   obtain ⟨A,n,c,h1,h2⟩:=hbox
   exact ⟨A,n,c,e2.trans h1,h2⟩
  | mpd kvs =>
   cases hg
   obtain ⟨g,es,clk,h1,h2,h3⟩:=hbox
   exact ⟨g,es,clk,e1.trans h1,h2,h3⟩
  | _=>cases hg
 ·intro i x' q hx hq
  obtain ⟨j,x,qs,hj,hb,hg,_⟩:=lkx i x' hx
  have h1:=((hx' i j x x' qs q hj hg).1).1 hq
  obtain ⟨_,h2,h3⟩:=hI.sto.dom j x q hb h1
  exact ⟨hY j (List.mem_of_getElem? hj) x q hb h1,h2,h3⟩
 ·intro i i' x y q hx hy hq hq'
  obtain ⟨j,x1,qs,hj,hb,hg,_⟩:=lkx i x hx
  obtain ⟨j',y1,qs',hj',hb',hg',_⟩:=lkx i' y hy
  have:=hI.sto.inj j j' x1 y1 q hb hb' (((hx' i j x1 x qs q hj hg).1).1 hq) (((hx' i' j' y1 y qs' q hj' hg').1).1 hq')
  subst this
  exact jinj i i' j hj hj'
 ·intro i q hq
  have hq2:(js[i]?).bind M.m=some q:=hq
  cases hj:js[i]? with
  | none=>rw [hj] at hq2;cases hq2
  | some j =>
   rw [hj] at hq2
   obtain ⟨x,x',qs,h1,h2,_,h4⟩:=hget i j hj
   obtain ⟨x2,h5,h6⟩:=hI.sto.hm j q hq2
   rw [h1] at h5
   cases h5
   exact ⟨x',h4,((hx' i j x x' qs q hj h2).2).trans h6⟩
 ·intro i u hu
  have hu2:(js[i]?).bind M.o=some u:=hu
  cases hj:js[i]? with
  | none=>rw [hj] at hu2;cases hu2
  | some j =>
   obtain ⟨x,x',qs,_,_,_,h4⟩:=hget i j hj
   rw [h4];rfl
theorem sub_sto (hI:Inv X n0 w0 ok0 M nt tm bx a w) {js:List Nat} (hn:js.Nodup) {xs:List (Option Bx)} {ps:List Prop} (h:giveBs js bx js=some (xs,ps)) (hp:AllP ps):Sto (subX M bx js) w.heap.size (subM M js) (lk xs) w :=
 sub_gen hI hn h hp fun j hj x _ hb hq=>.inr ⟨j,hj,x,hb,hq⟩
theorem wp_scall {o:Oper} {Q:Exit→Act→World→Prop} {x:Operand} {args:Array Operand} {ts:Array TypeId} (ho:o.op=.call ⟨.value x,args,ts⟩) (hI:Inv X n0 w0 ok0 M nt tm bx a w) (hd:∀ t,o.dst=some t→t < nt) (hG:∀ w',Bel X n0 w0.1 w'→E.G w') {f:FuncId} (hx:aev tm x=.clf f [])
  {js:List Nat} {K:Nat} (hn:js.Nodup) (hjK:∀ j∈js,j < K) (hK:∀ k,K≤k→updB bx (frzs bx (obL js bx (args.toList.map (aev tm)))) k=none) {args':List AV} {ps qs:List Prop} {xs xs':List (Option Bx)} {r:AV}
  (hc:cvL js false bx (args.toList.map (aev tm))=some (args',ps)) (hp:AllP ps) (hb:giveBs js (updB bx (frzs bx (obL js bx (args.toList.map (aev tm))))) js=some (xs,qs)) (hq:AllP qs) (hs:SOK E.P E.G f args' xs r xs') :
  o.wp E.P a w (Left X n0 w0 ok0 nt (updT tm o.dst (renA (rho js K) r)) (afterB (updB bx (frzs bx (obL js bx (args.toList.map (aev tm))))) js K xs')) Q:=by
 have hv:=hI.ev x
 rw [hx] at hv
 obtain ⟨us,hv,hus⟩:=hv
 obtain rfl:us=[]:=hus
 obtain ⟨M1,hI1,h1,_,_⟩:=hI.handJ hc hp (RL.map hI.ev args.toList)
 have exec:(execOp a.eval o).run E.P w=.ok (.enter f (args.toList.map a.eval).toArray) w:=by
  obtain ⟨dd,op,ty,pos,af,gd⟩:=o
  simp only at ho
  subst ho
  have e:args.map a.eval=(args.toList.map a.eval).toArray:=by
   apply Array.ext'
   simp
  simp only [execOp,resolve,invoke,hv,Deferred.ofValue,Sem.run_bind,Sem.run_pure,Result.andThen,Array.empty_append]
  rw [show args.map a.eval++([]:List Value).toArray=(args.toList.map a.eval).toArray by rw [e];simp]
  exact call_run hs.1
 unfold Oper.wp
 rw [exec,Oper.upon_enter]
 have xdom:∀ q,subX M1 (updB bx (frzs bx (obL js bx (args.toList.map (aev tm))))) js q→(n0≤q∨X q):=fun q ⟨j,_,y,hy,hyq⟩=>(hI1.sto.dom j y q hy hyq).1
 have hle:=hI1.le
 refine (hs.2 _ (subM M1 js) w _ (fun w' hb'=>hG w' (hI1.below.trans (hb'.mono hle fun k hk hx=>?_))) (sub_sto hI1 hn hb hq) h1).mono ?_
 ·rcases xdom k hx with h | h
  ·omega
  ·exact h
 ·rintro e w' ⟨v,M2,rfl,hg,hst,hF,hrv⟩
  exact hI1.scall hn hjK hK hg hst hF hrv o.dst hd
end
end Go.Proofs.YthhknjlmjefklaaGreatDoor
namespace Go.Proofs.YthhknjlmjefklaaGreatDoor
open Go.RowKit
inductive AE where
 | nxt
 | out (id:Nat)
 | ret
structure HG (E:En) (X:Nat→Prop) (n0:Nat) (w0:World×Mm):Prop where
 g:∀ w,Bel X n0 w0.1 w→E.G w
 h:∀ k,E.nh≤k→w0.2.m k=none∧w0.2.o k=none
inductive LA where
 | inv (ft:List Nat) (nb:Nat) (e:AE) (s:AS)
 | run (n:Nat)
 | scl (id i:Nat) (js:List Nat) (r:AV) (xs:List (Option Bx))
def scHere (id:Nat):List LA→Bool
 | .scl id' _ _ _ _::_=>Nat.beq id id'
 | _=>false
def scAt (id i:Nat):List LA→Option (List Nat×AV×List (Option Bx)×List LA)
 | .scl id' i' js r xs::ls=>match Nat.beq id id' && Nat.beq i i' with
  | true=>some (js,r,xs,ls)
  | false=>none
 | _=>none
def afterL (bx:List (Option Bx)) (f:Nat→Option Bx) (js:List Nat) (xs:List (Option Bx)):List (Option Bx):=(List.range (bx.length+(xs.length - js.length))).map fun k=>afterB f js bx.length xs k
mutual
def flatA:AV→Bool
 | .dt _=>true
 | .nil=>true
 | .agg cs=>flatL cs
 | .tup cs=>flatL cs
 | _=>false
def flatL:List AV→Bool
 | []=>true
 | c::cs=>flatA c && flatL cs
end
mutual
theorem flatA_ren {ρ:Nat→Nat}:∀ (a:AV),flatA a=true→renA ρ a=a
 | .dt _,_=>rfl
 | .nil,_=>rfl
 | .agg cs,h=>by rw [renA,flatL_ren cs h]
 | .tup cs,h=>by rw [renA,flatL_ren cs h]
 | .ful _,h=>by cases h
 | .own _ _,h=>by cases h
 | .sl _ _,h=>by cases h
 | .mapp _,h=>by cases h
 | .ptr _ _,h=>by cases h
 | .rptr _ _ _,h=>by cases h
 | .gl _ _,h=>by cases h
 | .pin _,h=>by cases h
 | .clo _ _,h=>by cases h
 | .clf _ _,h=>by cases h
 | .un,h=>by cases h
theorem flatL_ren {ρ:Nat→Nat}:∀ (cs:List AV),flatL cs=true→renL ρ cs=cs
 | [],_=>rfl
 | c::cs,h=>by
  rw [flatL,Bool.and_eq_true] at h
  rw [renL,flatA_ren c h.1,flatL_ren cs h.2]
end
def allBuf:List (Option Bx)→Bool
 | []=>true
 | some (.buf _ _ _)::xs=>allBuf xs
 | _::_=>false
theorem allBuf_get:∀ {xs:List (Option Bx)},allBuf xs=true→∀ i ρ,(lk xs i).map (renB ρ)=lk xs i
 | [],_,i,ρ=>by simp [lk]
 | some (.buf e k es)::xs,h,0,ρ=>rfl
 | some (.buf e k es)::xs,h,i+1,ρ=>by
  have:=allBuf_get (xs:=xs) h i ρ
  simpa [lk] using this
def simpB (js:List Nat) (r:AV) (xs':List (Option Bx)):Bool:=Nat.beq xs'.length js.length && (flatA r && allBuf xs')
def sfp (ops:Array Oper) (o:Oper) (s:AS) (js os:List Nat) (r:AV) (xs':List (Option Bx)):Fp:=match simpB js r xs' with
 | true=>⟨o.looksAt ops,o.dst,js++os,true,false⟩
 | false=>⟨o.looksAt ops,o.dst,List.range (s.bx.length+(xs'.length - js.length)),true,true⟩
theorem giveBs_loc {js0:List Nat} {bx bx':Nat→Option Bx}:∀ {js:List Nat} {r:List (Option Bx)×List Prop},(∀ j∈js,bx j=bx' j)→giveBs js0 bx js=some r→giveBs js0 bx' js=some r
 | [],_,_,h=>h
 | j::js,r,hj,h=>by
  unfold giveBs at h ⊢
  rw [← hj j (List.mem_cons_self ..)]
  split at h
  ·rename_i x hx
   split at h
   ·rename_i x' ps xs qs e1 e2
    have e3:=giveBs_loc (fun q hq=>hj q (List.mem_cons_of_mem _ hq)) e2
    have e4:giveB js0 bx' x=some (x',ps):=by
     cases x with
     | cells cs =>
      simp only [giveB] at e1 ⊢
      split at e1
      ·rename_i ho hc
       have hl:=loc_cv (js:=js0) (kn:=true) (bx:=bx) (bx':=bx') (cs:=cs) (fun b hb=>by rw [ho] at hb;cases hb)
       rw [← hl.1,← hl.2,ho,hc]
       exact e1
      ·cases e1
     | _=>exact e1
    simp only [e4,e3]
    exact h
   ·cases h
  ·cases h
def srun1 (E:En) (ops:Array Oper) (o:Oper) (s:AS) (js:List Nat) (r:AV) (xs':List (Option Bx)):Option (AS×Fp×List Prop) :=
 match (match o.dst with | some d=>Nat.ble (d+1) s.tm.length | none=>true) && nodupB js && js.all (fun j=>Nat.ble (j+1) s.bx.length) with
 | false=>none
 | true=>match awant ops s.tmf o,o.op with
  | some true,.call ⟨.value x,args,_⟩=>match aev s.tmf x with
   | .clf f []=>match cvL js false s.bxf (args.toList.map (aev s.tmf)) with
    | some (args',ps)=>match giveBs js (updB s.bxf (frzs s.bxf (obL js s.bxf (args.toList.map (aev s.tmf))))) js with
     | some (xs,qs)=>some (⟨setT s.tm o.dst (renA (rho js s.bx.length) r),afterL s.bx (updB s.bxf (frzs s.bxf (obL js s.bxf (args.toList.map (aev s.tmf))))) js xs'⟩,sfp ops o s js (obL js s.bxf (args.toList.map (aev s.tmf))) r xs',SOK E.P E.G f args' xs r xs'::(ps++qs))
     | none=>none
    | none=>none
   | _=>none
  | _,_=>none
theorem nodupB_ok:∀ {js:List Nat},nodupB js=true→js.Nodup
 | [],_=>.nil
 | j::js,h=>by
  unfold nodupB at h
  rw [Bool.and_eq_true] at h
  refine .cons (fun x hx e=>?_) (nodupB_ok h.2)
  subst e
  have:=h.1
  simp [hx] at this
theorem lk_out {xs:List (Option Bx)} {i:Nat} (h:xs.length≤i):lk xs i=none:=by unfold lk;rw [List.getElem?_eq_none h]
theorem after_f {tm:List AV} {bx:List (Option Bx)} {f:Nat→Option Bx} {js:List Nat} {xs:List (Option Bx)} (hf:∀ k,bx.length≤k→f k=none) (hj:∀ j∈js,j < bx.length):(AS.mk tm (afterL bx f js xs)).bxf=afterB f js bx.length xs:=by
 funext k
 unfold AS.bxf afterL
 simp only [List.getElem?_map]
 rcases Nat.lt_or_ge k (bx.length+(xs.length - js.length)) with h | h
 ·rw [List.getElem?_range h]
  rfl
 ·rw [List.getElem?_eq_none (by rw [List.length_range];exact h)]
  show none=_
  unfold afterB
  split
  ·rename_i i hi
   have e:=inv_some hi
   unfold rho at e
   split at e
   ·rename_i j hj'
    have:=hj j (List.mem_of_getElem? hj')
    omega
   ·rename_i hno
    have:=List.getElem?_eq_none_iff.1 hno
    rw [lk_out (by omega)];rfl
  ·exact (hf k (by omega)).symm
theorem frzs_out {f:Nat→Option Bx} {bs:List Nat} {k:Nat} (h:f k=none):updB f (frzs f bs) k=none:=by
 rw [updB_ne]
 ·exact h
 ·intro x hx
  have:=(frzs_mem hx).2
  simp_all
def sops (E:En) (ops:Array Oper) (id:Nat):List Oper→Nat→AS→List An→List LA→Option (AS×List Fp×List Prop×List An×List LA)
 | [],_,s,an,ls=>some (s,[],[],an,ls)
 | o::os,i,s,an,ls=>match scAt id i ls with
  | some (js,r,xs',ls1)=>match srun1 E ops o s js r xs' with
   | none=>none
   | some (s1,f,ps)=>match sops E ops id os (i+1) s1 an ls1 with
    | none=>none
    | some (s2,fs,qs,an2,ls2)=>some (s2,f::fs,ps++qs,an2,ls2)
  | none=>match arun1 E ops o s an with
   | none=>none
   | some (s1,f,ps,an1)=>match sops E ops id os (i+1) s1 an1 ls with
    | none=>none
    | some (s2,fs,qs,an2,ls2)=>some (s2,f::fs,ps++qs,an2,ls2)
def sregion (E:En) (ops:Array Oper) (id:Nat) (draw:Bool) (s:AS) (an:List An) (ls:List LA):Option (AS×List Prop×List An×List LA) :=
 match sops E ops id ops.toList 0 s an ls with
 | none=>none
 | some (s',fs,ps,an',ls')=>match !draw || (backAny ops && chkA [] fs (ancs ops.toList [])) with
  | true=>some (s',ps,an',ls')
  | false=>none
theorem srun1_stp {E:En} {ops:Array Oper} {o:Oper} {s s':AS} {js:List Nat} {r:AV} {xs':List (Option Bx)} {f:Fp} {ps:List Prop} (h:srun1 E ops o s js r xs'=some (s',f,ps)) (hp:AllP ps) :
  Stp E ops s.tm.length o s.tmf s.bxf s'.tmf s'.bxf f∧s'.tm.length=s.tm.length:=by
 unfold srun1 at h
 split at h
 ·cases h
 rename_i hd
 simp only [Bool.and_eq_true,List.all_eq_true] at hd
 obtain ⟨⟨hd,hn⟩,hj⟩:=hd
 have hd':∀ t,o.dst=some t→t < s.tm.length:=fun t ht=>by
  rw [ht] at hd
  have hd2:Nat.ble (t+1) s.tm.length=true:=hd
  exact Nat.le_of_ble_eq_true hd2
 have hj:∀ j∈js,j < s.bx.length:=fun j h=>by have:=Nat.le_of_ble_eq_true (hj j h);omega
 have hn:=nodupB_ok hn
 split at h
 ·rename_i x args ts hw hop
  split at h
  ·rename_i f hx
   split at h
   ·rename_i args' ps1 hc
    split at h
    ·rename_i xs qs hb
     cases h
     obtain ⟨hs,hp⟩:=hp
     obtain ⟨hp1,hp2⟩:=AllP_app hp
     have hout:∀ k,s.bx.length≤k→s.bxf k=none:=fun k hk=>by unfold AS.bxf;rw [List.getElem?_eq_none hk]
     have haf:=after_f (tm:=setT s.tm o.dst (renA (rho js s.bx.length) r)) (bx:=s.bx) (f:=updB s.bxf (frzs s.bxf (obL js s.bxf (args.toList.map (aev s.tmf))))) (js:=js) (xs:=xs') (fun k hk=>frzs_out (hout k hk)) hj
     cases hsim:simpB js r xs' with
     | true =>
      have hfp:sfp ops o s js (obL js s.bxf (args.toList.map (aev s.tmf))) r xs'=⟨o.looksAt ops,o.dst,js++obL js s.bxf (args.toList.map (aev s.tmf)),true,false⟩:=by unfold sfp;rw [hsim]
      rw [hfp]
      unfold simpB at hsim
      simp only [Bool.and_eq_true] at hsim
      obtain ⟨hlen,hfl,hab⟩:=hsim
      have hlen:=Nat.eq_of_beq_eq_true hlen
      have hkeys:∀ b,b ∉ obL js s.bxf (args.toList.map (aev s.tmf))→∀ f:Nat→Option Bx,updB f (frzs s.bxf (obL js s.bxf (args.toList.map (aev s.tmf)))) b=f b:=fun b hb f=>updB_ne fun x hx=>hb (frzs_mem hx).1
      have aft:∀ (g:Nat→Option Bx) (K:Nat),(∀ j∈js,j < K)→∀ b,afterB g js K xs' b=match ixOf b js 0 with | some i=>lk xs' i | none=>if K≤b then none else g b:=fun g K hK b=>by
       unfold afterB inv
       cases hi:ixOf b js 0 with
       | some i=>exact allBuf_get hab i _
       | none =>
        simp only
        by_cases c:K≤b
        ·rw [if_pos c,if_pos c]
         simp only [lk_out (xs:=xs') (i:=js.length+(b - K)) (by omega),Option.map_none]
        ·rw [if_neg c,if_neg c]
      refine ⟨⟨fun t ht=>ht,rfl,hd',.inr (.inr (.inr ⟨r,?_,fun b hb=>?_,?_⟩))⟩,setT_len _ _ _⟩
      ·rw [setT_f hd',flatA_ren _ hfl]
      ·have hb':b ∉ js++obL js s.bxf (args.toList.map (aev s.tmf)):=fun h=>hb ⟨h,rfl⟩
       rw [List.mem_append] at hb'
       rw [haf,aft _ _ hj]
       cases hi:ixOf b js 0 with
       | some i =>
        have h2:=(ixOf_get hi).2
        exact absurd (.inl (List.mem_of_getElem? h2)) hb'
       | none =>
        simp only
        by_cases c:s.bx.length≤b
        ·rw [if_pos c,hout b c]
        ·rw [if_neg c,hkeys b fun h=>hb' (.inr h)]
      ·intro tmX bxX hrt hbt ⟨Kf,hKf⟩ X n0 w0 ok0 Q i a w K ho hG hL hK
       obtain ⟨M,hI⟩:=hL
       have hlook:∀ t∈o.looksAt ops,tmX t=s.tmf t:=hrt
       have hev:∀ x∈o.op.operands.toList,aev tmX x=aev s.tmf x:=by
        intro x hx
        cases x with
        | tmp t =>
         refine hlook t ?_
         unfold Oper.looksAt
         exact List.mem_append_left _ (List.mem_filterMap.2 ⟨.tmp t,hx,rfl⟩)
        | _=>rfl
       have hwant:awant ops tmX o=awant ops s.tmf o:=by
        unfold awant
        cases hg:o.guard with
        | none=>rfl
        | some x =>
         obtain ⟨g,b⟩:=x
         simp only
         cases hdd:(ops[g]?).bind (·.dst) with
         | none=>rfl
         | some d =>
          simp only
          have:tmX d=s.tmf d:=hlook d (by
           unfold Oper.looksAt
           refine List.mem_append_right _ ?_
           rw [hg]
           simp [hdd])
          rw [this]
       have hxe:aev tmX x=.clf f []:=(hev x (by rw [hop];simp [Op.operands,Call.operands])).trans hx
       have hae:args.toList.map (aev tmX)=args.toList.map (aev s.tmf):=List.map_congr_left fun y hy=>hev y (by rw [hop];simp [Op.operands,Call.operands];right;simpa using hy)
       have hob:∀ b∈obL js s.bxf (args.toList.map (aev s.tmf)),s.bxf b=bxX b:=fun b hb=>(hbt b (List.mem_append_right _ hb)).symm
       have hjb:∀ b∈js,s.bxf b=bxX b:=fun b hb=>(hbt b (List.mem_append_left _ hb)).symm
       have hlc:=loc_cv (kn:=false) hob
       have hlf:=loc_frz (kn:=false) hob hc
       have hcX:cvL js false bxX (args.toList.map (aev tmX))=some (args',ps1):=by rw [hae,← hlc.1];exact hc
       have hfX:frzs bxX (obL js bxX (args.toList.map (aev tmX)))=frzs s.bxf (obL js s.bxf (args.toList.map (aev s.tmf))):=by rw [hae,← hlc.2,hlf]
       have hbX:giveBs js (updB bxX (frzs bxX (obL js bxX (args.toList.map (aev tmX))))) js=some (xs,qs):=by
        rw [hfX]
        exact giveBs_loc (fun j hj=>updB_congr (hjb j hj)) hb
       have hnone:∀ k,s.bx.length≤k→∀ y,(k,y) ∉ frzs s.bxf (obL js s.bxf (args.toList.map (aev s.tmf))):=fun k hk y hy=>by
        obtain ⟨_,x0,h1,_⟩:=frzs_mem hy
        rw [hout k hk] at h1
        cases h1
       unfold wpOp
       simp only [ho]
       rw [awant_ok hI (hwant.trans hw)]
       simp only [if_true]
       left
       refine Oper.wp_mono (fun a w hL'=>hK a w ?_) (wp_scall (K:=s.bx.length+Kf) hop hI hd' hG hxe hn (fun j h=>by have:=hj j h;omega) (fun k hk=>by rw [hfX,updB_ne fun y hy=>hnone k (by omega) y hy];exact hKf k (by omega)) hcX hp1 hbX hp2 hs)
       ·have e1:renA (rho js (s.bx.length+Kf)) r=r:=flatA_ren _ hfl
        rw [e1,hfX] at hL'
        have e2:(fun b=>if b∈js++obL js s.bxf (args.toList.map (aev s.tmf))∧true=true then (AS.mk (setT s.tm o.dst (renA (rho js s.bx.length) r)) (afterL s.bx (updB s.bxf (frzs s.bxf (obL js s.bxf (args.toList.map (aev s.tmf))))) js xs')).bxf b else bxX b)=afterB (updB bxX (frzs s.bxf (obL js s.bxf (args.toList.map (aev s.tmf))))) js (s.bx.length+Kf) xs':=funext fun b=>by
         rw [haf,aft _ _ hj,aft _ _ (fun j h=>by have:=hj j h;omega)]
         cases hi:ixOf b js 0 with
         | some i =>
          have h2:=(ixOf_get hi).2
          rw [if_pos ⟨List.mem_append_left _ (List.mem_of_getElem? h2),rfl⟩]
         | none =>
          simp only
          by_cases c:b∈js++obL js s.bxf (args.toList.map (aev s.tmf))
          ·rw [if_pos ⟨c,trivial⟩]
           have ceq:=hbt b c
           by_cases c2:s.bx.length≤b
           ·rw [if_pos c2]
            split
            ·rfl
            ·rw [updB_congr ceq,frzs_out (hout b c2)]
           ·rw [if_neg c2,if_neg (by omega),updB_congr ceq]
          ·rw [if_neg fun h=>c h.1]
           by_cases c2:s.bx.length+Kf≤b
           ·rw [if_pos c2];exact hKf b (by omega)
           ·rw [if_neg c2,hkeys b fun h=>c (List.mem_append_right _ h)]
        rw [e2]
        exact hL'
     | false =>
     have hfp:sfp ops o s js (obL js s.bxf (args.toList.map (aev s.tmf))) r xs'=⟨o.looksAt ops,o.dst,List.range (s.bx.length+(xs'.length - js.length)),true,true⟩:=by unfold sfp;rw [hsim]
     rw [hfp]
     refine ⟨⟨fun t ht=>ht,rfl,hd',.inr (.inr (.inl ⟨rfl,fun t ht=>?_,fun b hb=>?_,?_⟩))⟩,setT_len _ _ _⟩
     ·rw [setT_f hd'];exact updT_ne ht
     ·have hb':s.bx.length+(xs'.length - js.length)≤b:=by
       rcases Nat.lt_or_ge b (s.bx.length+(xs'.length - js.length)) with h | h
       ·exact absurd ⟨List.mem_range.2 h,rfl⟩ hb
       ·exact h
      rw [hout b (by omega)]
      unfold AS.bxf afterL
      simp only [List.getElem?_map]
      rw [List.getElem?_eq_none (by rw [List.length_range];exact hb')]
      rfl
     ·intro X n0 w0 ok0 Q i a w K ho hG hL hK
      obtain ⟨M,hI⟩:=hL
      unfold wpOp
      simp only [ho]
      rw [awant_ok hI hw]
      simp only [if_true]
      left
      refine Oper.wp_mono (fun a w hL'=>hK a w ?_) (wp_scall hop hI hd' hG hx hn hj (fun k hk=>frzs_out (hout k hk)) hc hp1 hb hp2 hs)
      rw [haf,setT_f hd']
      exact hL'
    ·cases h
   ·cases h
  ·cases h
 ·cases h
theorem sops_run {E:En} {ops:Array Oper} {id:Nat}:∀ {os:List Oper} {i:Nat} {s s':AS} {an an':List An} {ls ls':List LA} {fs:List Fp} {ps:List Prop},sops E ops id os i s an ls=some (s',fs,ps,an',ls')→AllP ps →
  s'.tm.length=s.tm.length∧fs.length=os.length∧∃ (tmS:Nat→Nat→AV) (bxS:Nat→Nat→Option Bx),tmS 0=s.tmf∧bxS 0=s.bxf∧tmS os.length=s'.tmf∧bxS os.length=s'.bxf∧(∃ K,∀ i,i≤os.length→∀ k,K≤k→bxS i k=none) ∧
   ∀ i o f,os[i]?=some o→fs[i]?=some f→Stp E ops s.tm.length o (tmS i) (bxS i) (tmS (i+1)) (bxS (i+1)) f
 | [],_,s,s',an,an',ls,ls',fs,ps,h,_=>by
  cases h
  exact ⟨rfl,rfl,fun _=>s.tmf,fun _=>s.bxf,rfl,rfl,rfl,rfl,⟨s.bx.length,fun _ _ k hk=>bxf_out s hk⟩,fun i o f hi=>by simp at hi⟩
 | o::os,i,s,s',an,an',ls,ls',fs,ps,h,hp=>by
  have step:∀ {s1:AS} {f:Fp} {fs2:List Fp} {qs:List Prop} {an1:List An} {ls1:List LA},Stp E ops s.tm.length o s.tmf s.bxf s1.tmf s1.bxf f→s1.tm.length=s.tm.length→sops E ops id os (i+1) s1 an1 ls1=some (s',fs2,qs,an',ls')→AllP qs →
    s'.tm.length=s.tm.length∧(f::fs2).length=(o::os).length∧∃ (tmS:Nat→Nat→AV) (bxS:Nat→Nat→Option Bx),tmS 0=s.tmf∧bxS 0=s.bxf∧tmS (o::os).length=s'.tmf∧bxS (o::os).length=s'.bxf∧(∃ K,∀ i,i≤(o::os).length→∀ k,K≤k→bxS i k=none) ∧
     ∀ i o' f',(o::os)[i]?=some o'→(f::fs2)[i]?=some f'→Stp E ops s.tm.length o' (tmS i) (bxS i) (tmS (i+1)) (bxS (i+1)) f':=by
   intro s1 f fs2 qs an1 ls1 hs hl h2 hp2
   obtain ⟨hl2,hf2,tmS,bxS,e1,e2,e3,e4,⟨Kf,hKf⟩,hst⟩:=sops_run h2 hp2
   refine ⟨hl2.trans hl,by simp [hf2],fun i=>match i with | 0=>s.tmf | i+1=>tmS i,fun i=>match i with | 0=>s.bxf | i+1=>bxS i,rfl,rfl,e3,e4,fin_cons hKf,?_⟩
   intro i o' f' hi hf
   cases i with
   | zero =>
    cases hi
    cases hf
    simp only [e1,e2]
    exact hs
   | succ i =>
    rw [hl] at hst
    exact hst i o' f' (by simpa using hi) (by simpa using hf)
  unfold sops at h
  split at h
  ·split at h
   ·cases h
   ·rename_i s1 f ps1 h1
    split at h
    ·cases h
    ·rename_i h2
     cases h
     obtain ⟨hp1,hp2⟩:=AllP_app hp
     obtain ⟨hs,hl⟩:=srun1_stp h1 hp1
     exact step hs hl h2 hp2
  ·split at h
   ·cases h
   ·rename_i s1 f ps1 an1 h1
    split at h
    ·cases h
    ·rename_i h2
     cases h
     obtain ⟨hp1,hp2⟩:=AllP_app hp
     obtain ⟨hs,hl⟩:=arun1_stp h1 hp1
     exact step hs hl h2 hp2
theorem sregion_wp {E:En} {ops:Array Oper} {draw:Bool} {id:Nat} {s s':AS} {an an':List An} {ls ls':List LA} {ps:List Prop} (h:sregion E ops id draw s an ls=some (s',ps,an',ls')) (hp:AllP ps) :
  s'.tm.length=s.tm.length∧∀ {X:Nat→Prop} {n0:Nat} {w0:World×Mm} {ok0:Nat→Prop},HG E X n0 w0→∀ {Q:Exit→Act→World→Prop} {a:Act} {w:World},Left X n0 w0 ok0 s.tm.length s.tmf s.bxf a w→(∀ a w,Left X n0 w0 ok0 s.tm.length s'.tmf s'.bxf a w→Q .normal a w)→(Code.region id ops draw).wp E.P Q a w:=by
 unfold sregion at h
 split at h
 ·cases h
 rename_i s1 fs ps1 an1 ls1 hrun
 split at h
 case h_2=>cases h
 rename_i hchk
 cases h
 obtain ⟨hl,hfl,tmS,bxS,e1,e2,e3,e4,hfin,hst⟩:=sops_run hrun hp
 exact ⟨hl,fun hG _ _ _ h0 hQ=>region_of hfl hchk hst hfin hG.g (by rw [e1,e2];exact h0) (by rw [e3,e4];exact hQ)⟩
end Go.Proofs.YthhknjlmjefklaaGreatDoor
namespace Go.Proofs.YthhknjlmjefklaaGreatDoor
open Go.RowKit
def AE.ex:AE→Exit
 | .nxt=>.normal
 | .out id=>.exit id
 | .ret=>.ret
def Tri (E:En) (c:Code) (s:AS) (e:AE) (s':AS):Prop :=
 s'.tm.length=s.tm.length∧∀ (X:Nat→Prop) (n0:Nat) (w0:World×Mm) (ok0:Nat→Prop) (a:Act) (w:World),HG E X n0 w0→Left X n0 w0 ok0 s.tm.length s.tmf s.bxf a w →
  c.wp E.P (fun x a' w'=>x=e.ex∧Left X n0 w0 ok0 s.tm.length s'.tmf s'.bxf a' w') a w
mutual
def AV.ptl (n:Nat):AV→Bool
 | .ptr b _=>Nat.ble (b+1) n
 | .own b _=>Nat.ble (b+1) n
 | .sl b _=>Nat.ble (b+1) n
 | .mapp b=>Nat.ble (b+1) n
 | .rptr b _ _=>Nat.ble (b+1) n
 | .agg cs=>AV.ptls n cs
 | .tup cs=>AV.ptls n cs
 | .clo _ cs=>AV.ptls n cs
 | _=>true
def AV.ptls (n:Nat):List AV→Bool
 | []=>true
 | c::cs=>AV.ptl n c && AV.ptls n cs
end
def Mm.cut (M:Mm) (n:Nat):Mm:=⟨fun b=>if b < n then M.m b else none,M.F,fun b=>if b < n then M.o b else none⟩
theorem Mm.cut_m {M:Mm} {n b:Nat} (h:b < n):(M.cut n).m b=M.m b:=if_pos h
theorem Mm.cut_o {M:Mm} {n b:Nat} (h:b < n):(M.cut n).o b=M.o b:=if_pos h
theorem ble_lt {b n:Nat} (h:Nat.ble (b+1) n=true):b < n:=by have:=Nat.le_of_ble_eq_true h;omega
mutual
theorem RV.ptl {M:Mm} {w:World} {n:Nat}:∀ (a:AV) (v:Value),a.ptl n=true→RV M w a v→RV (M.cut n) w a v
 | .dt _d,_v,_,h=>h
 | .nil,_v,_,h=>h
 | .ful _es,_v,_,h=>h
 | .gl _ _,_v,_,h=>h
 | .pin _ds,_v,_,h=>h
 | .clf _ _,_v,_,h=>h
 | .un,_v,_,_h=>trivial
 | .ptr _b _off,_v,hp,⟨g,h1,h2⟩=>⟨g,(Mm.cut_m (ble_lt hp)).trans h1,h2⟩
 | .rptr _b _i _k,_v,hp,⟨g,h1,h2⟩=>⟨g,(Mm.cut_m (ble_lt hp)).trans h1,h2⟩
 | .sl _b _m,_v,hp,⟨g,h1,h2⟩=>⟨g,(Mm.cut_m (ble_lt hp)).trans h1,h2⟩
 | .mapp _b,_v,hp,⟨g,h1,h2⟩=>⟨g,(Mm.cut_m (ble_lt hp)).trans h1,h2⟩
 | .own _b _m,_v,hp,⟨A,c,A',n',c',h1,h2,h3⟩=>⟨A,c,A',n',c',h1,(Mm.cut_o (ble_lt hp)).trans h2,h3⟩
 | .agg cs,_v,hf,⟨vs,h1,h2⟩=>⟨vs,h1,RL.ptl cs vs hf h2⟩
 | .tup cs,_v,hf,⟨vs,h1,h2⟩=>⟨vs,h1,RL.ptl cs vs hf h2⟩
 | .clo _f cs,_v,hf,⟨vs,h1,h2⟩=>⟨vs,h1,RL.ptl cs vs hf h2⟩
theorem RL.ptl {M:Mm} {w:World} {n:Nat}:∀ (cs:List AV) (vs:List Value),AV.ptls n cs=true→RL M w cs vs→RL (M.cut n) w cs vs
 | [],_,_,h=>h
 | c::cs,_,hf,⟨u,us,h1,h2,h3⟩=>by
  have hf':(c.ptl n && AV.ptls n cs)=true:=hf
  rw [Bool.and_eq_true] at hf'
  exact ⟨u,us,h1,RV.ptl c u hf'.1 h2,RL.ptl cs us hf'.2 h3⟩
end
def fgt (ft:List Nat):Nat→List AV→List AV
 | _,[]=>[]
 | i,x::xs=>(match ft.contains i with | true=>x | false=>.un)::fgt ft (i+1) xs
theorem fgt_len (ft:List Nat):∀ (i:Nat) (xs:List AV),(fgt ft i xs).length=xs.length
 | _,[]=>rfl
 | i,x::xs=>by unfold fgt;rw [List.length_cons,List.length_cons,fgt_len ft (i+1) xs]
theorem fgt_get (ft:List Nat):∀ (i:Nat) (xs:List AV) (t:Nat) (d:AV),(fgt ft i xs).getD t d=.un∨(fgt ft i xs).getD t d=xs.getD t d
 | _,[],t,d=>.inr rfl
 | i,x::xs,0,d=>by
  unfold fgt
  cases ft.contains i
  ·exact .inl rfl
  ·exact .inr rfl
 | i,x::xs,t+1,d=>by
  have:=fgt_get ft (i+1) xs t d
  unfold fgt
  simpa using this
def forget (ft:List Nat) (nb:Nat) (s:AS):AS:=⟨fgt ft 0 s.tm,s.bx.take nb⟩
def mpAll (nb:Nat):List (Value×AV)→Bool
 | []=>true
 | (_,a)::r=>a.ptl nb && mpAll nb r
def Bx.ptl (nb:Nat):Option Bx→Bool
 | some (.cells cs)=>AV.ptls nb cs
 | some (.mp kvs)=>mpAll nb kvs
 | _=>true
def forgets (nb:Nat) (s:AS):Bool:=AV.ptls nb s.tm && s.bx.all (Bx.ptl nb)
theorem MK.ptl {M:Mm} {w:World} {n:Nat}:∀ {kvs:List (Value×AV)} {es:List MapEntry},mpAll n kvs=true→MK M w kvs es→MK (M.cut n) w kvs es
 | [],_,_,h=>h
 | (k,a)::kvs,_,hf,⟨e,es',h1,h2,h3,h4⟩=>by
  have hf':(a.ptl n && mpAll n kvs)=true:=hf
  rw [Bool.and_eq_true] at hf'
  exact ⟨e,es',h1,h2,RV.ptl _ _ hf'.1 h3,MK.ptl hf'.2 h4⟩
theorem ptls_get {n:Nat}:∀ {cs:List AV},AV.ptls n cs=true→∀ (t:Nat) (d:AV),d.ptl n=true→(cs.getD t d).ptl n=true
 | [],_,t,d,hd=>by simpa using hd
 | c::cs,h,t,d,hd=>by
  have h':(c.ptl n && AV.ptls n cs)=true:=h
  rw [Bool.and_eq_true] at h'
  cases t with
  | zero=>exact h'.1
  | succ t=>simpa using ptls_get h'.2 t d hd
theorem Left.forget {E:En} {ft:List Nat} {nb:Nat} {s:AS} (hf:(Nat.ble E.nh nb && forgets nb (forget ft nb s))=true) {X:Nat→Prop} {n0:Nat} {w0:World×Mm} {ok0:Nat→Prop} {nt:Nat} {a:Act} {w:World} (hG:HG E X n0 w0) (h:Left X n0 w0 ok0 nt s.tmf s.bxf a w):Left X n0 w0 ok0 nt (forget ft nb s).tmf (forget ft nb s).bxf a w:=by
 obtain ⟨M,hI⟩:=h
 rw [Bool.and_eq_true] at hf
 obtain ⟨hnb,hf⟩:=hf
 have hnb:=Nat.le_of_ble_eq_true hnb
 unfold forgets at hf
 rw [Bool.and_eq_true] at hf
 have hb:∀ b x,(Go.Proofs.YthhknjlmjefklaaGreatDoor.forget ft nb s).bxf b=some x→b < nb∧s.bxf b=some x∧Bx.ptl nb (some x)=true:=by
  intro b cs hbx
  unfold AS.bxf at hbx ⊢
  cases hx:(Go.Proofs.YthhknjlmjefklaaGreatDoor.forget ft nb s).bx[b]? with
  | none=>rw [hx] at hbx;cases hbx
  | some x =>
   rw [hx] at hbx
   simp only at hbx
   subst hbx
   have h2:=List.all_eq_true.1 hf.2 _ (List.mem_of_getElem? hx)
   have h3:(s.bx.take nb)[b]?=some (some cs):=hx
   rw [List.getElem?_take] at h3
   split at h3
   ·rename_i hlt
    rw [h3]
    exact ⟨hlt,rfl,h2⟩
   ·cases h3
 have hb2:∀ b,b < nb→(Go.Proofs.YthhknjlmjefklaaGreatDoor.forget ft nb s).bxf b=s.bxf b:=by
  intro b h1
  unfold AS.bxf
  show (match (s.bx.take nb)[b]? with | some x=>x | none=>none)=_
  rw [List.getElem?_take,if_pos h1]
  all_goals rfl
 have hm:∀ b g,(M.cut nb).m b=some g→b < nb∧M.m b=some g:=fun b g h=>by
  by_cases e:b < nb
  ·rw [Mm.cut_m e] at h;exact ⟨e,h⟩
  ·rw [show (M.cut nb).m b=none from if_neg e] at h;cases h
 have ho:∀ b v,(M.cut nb).o b=some v→b < nb∧M.o b=some v:=fun b g h=>by
  by_cases e:b < nb
  ·rw [Mm.cut_o e] at h;exact ⟨e,h⟩
  ·rw [show (M.cut nb).o b=none from if_neg e] at h;cases h
 have hhx:∀ b x q,b < nb→(Hx (M.cut nb) b x q↔Hx M b x q):=fun b x q h=>Hx.eq (Mm.cut_m h) (Mm.cut_o h)
 refine ⟨M.cut nb,hI.below,hI.le,hI.defers,hI.size,?_,⟨?_,?_,?_,?_,?_,hI.sto.fz⟩,hI.src,⟨hI.anc.below,hI.anc.keep,hI.anc.F,fun k q hq=>?_,fun b A n c e=>?_⟩⟩
 ·intro t
  have hp:=ptls_get hf.1 t (.dt (.val undef)) rfl
  have hp':((Go.Proofs.YthhknjlmjefklaaGreatDoor.forget ft nb s).tmf t).ptl nb=true:=hp
  rcases fgt_get ft 0 s.tm t (.dt (.val undef)) with e | e
  ·have e':(Go.Proofs.YthhknjlmjefklaaGreatDoor.forget ft nb s).tmf t=.un:=e
   rw [e'];trivial
  ·have e':(Go.Proofs.YthhknjlmjefklaaGreatDoor.forget ft nb s).tmf t=s.tmf t:=e
   rw [e'] at hp' ⊢
   exact RV.ptl _ _ hp' (hI.tmps t)
 ·intro b x hbx
  obtain ⟨h1,h2,h3⟩:=hb b x hbx
  have h4:=hI.sto.box b x h2
  cases x with
  | cells cs=>obtain ⟨g,T,vs,e1,e2,e3⟩:=h4;exact ⟨g,T,vs,(Mm.cut_m h1).trans e1,e2,RL.ptl _ _ h3 e3⟩
  | buf e k es=>obtain ⟨A,n,c,e1,e2⟩:=h4;exact ⟨A,n,c,(Mm.cut_o h1).trans e1,e2⟩
  | fzn es=>obtain ⟨A,n,c,e1,e2⟩:=h4;exact ⟨A,n,c,(Mm.cut_o h1).trans e1,e2⟩
  | mp kvs=>obtain ⟨g,es,clk,e1,e2,e3⟩:=h4;exact ⟨g,es,clk,(Mm.cut_m h1).trans e1,e2,MK.ptl h3 e3⟩
  | mpd kvs=>obtain ⟨g,es,clk,e1,e2,e3⟩:=h4;exact ⟨g,es,clk,(Mm.cut_m h1).trans e1,e2,e3⟩
  | rws e k es=>obtain ⟨g,vs,e1,e2⟩:=h4;exact ⟨g,vs,(Mm.cut_m h1).trans e1,e2⟩
  | fzr es=>obtain ⟨g,e1,e2⟩:=h4;exact ⟨g,(Mm.cut_m h1).trans e1,e2⟩
  | cst cs=>obtain ⟨g,vs,e1,e2⟩:=h4;exact ⟨g,vs,(Mm.cut_m h1).trans e1,e2⟩
 ·intro b x q hbx hq
  obtain ⟨h1,h2,_⟩:=hb b x hbx
  exact hI.sto.dom b x q h2 ((hhx b x q h1).1 hq)
 ·intro b b' x x' q h1 h2 h3 h4
  obtain ⟨g1,g2,_⟩:=hb b x h1
  obtain ⟨k1,k2,_⟩:=hb b' x' h2
  exact hI.sto.inj b b' x x' q g2 k2 ((hhx b x q g1).1 h3) ((hhx b' x' q k1).1 h4)
 ·intro b q hbq
  obtain ⟨h1,h2⟩:=hm b q hbq
  obtain ⟨x,h3,h4⟩:=hI.sto.hm b q h2
  exact ⟨x,(hb2 b h1).trans h3,h4⟩
 ·intro b v hbv
  obtain ⟨h1,h2⟩:=ho b v hbv
  rw [hb2 b h1]
  exact hI.sto.ho b v h2
 ·rcases Nat.lt_or_ge k E.nh with h1 | h1
  ·exact (Mm.cut_m (by omega)).trans (hI.anc.m k q hq)
  ·rw [(hG.h k h1).1] at hq;cases hq
 ·rcases Nat.lt_or_ge b E.nh with h1 | h1
  ·obtain ⟨A',n',c',e1,e2⟩:=hI.anc.o b A n c e
   exact ⟨A',n',c',(Mm.cut_o (by omega)).trans e1,e2⟩
  ·rw [(hG.h b h1).2] at e;cases e
inductive Lp (E:En) (c:Code):Nat→AS→AE→AS→Prop
 | stop {s s':AS} {e:AE}:Tri E c s e s'→e≠.nxt→Lp E c 0 s e s'
 | more {n:Nat} {s s1 s':AS} {e:AE}:Tri E c s .nxt s1→Lp E c n s1 e s'→Lp E c (n+1) s e s'
def Lps (E:En) (c:Code) (s:AS) (e:AE) (s':AS):Prop:=∃ n,Lp E c n s e s'
theorem Lps.stop {E:En} {c:Code} {s s':AS} {e:AE} (h:Tri E c s e s') (he:e≠.nxt):Lps E c s e s':=⟨0,.stop h he⟩
theorem Lps.more {E:En} {c:Code} {s s1 s':AS} {e:AE} (h:Tri E c s .nxt s1) (h':Lps E c s1 e s'):Lps E c s e s':=h'.elim fun n hn=>⟨n+1,.more h hn⟩
theorem Lp.len {E:En} {c:Code} {n:Nat} {s s':AS} {e:AE} (h:Lp E c n s e s'):s'.tm.length=s.tm.length:=by
 induction h with
 | stop h _=>exact h.1
 | more h _ ih=>exact ih.trans h.1
theorem Lps.tri {E:En} {c:Code} {s s':AS} {e:AE} (h:Lps E c s e s'):Tri E (.loop c) s e s':=by
 obtain ⟨n,h⟩:=h
 refine ⟨h.len,fun X n0 w0 ok0 a w hG hL=>?_⟩
 have hlen:=h.len
 refine wp_loop_ghost (fun k a w=>∃ s1,Lp E c k s1 e s'∧s1.tm.length=s.tm.length∧Left X n0 w0 ok0 s.tm.length s1.tmf s1.bxf a w) n ⟨s,h,rfl,hL⟩ ?_
 rintro k a w ⟨s1,h1,hl,hL1⟩
 cases h1 with
 | stop h2 he =>
  rw [← hl] at hL1
  refine wp_mono (h2.2 X n0 w0 ok0 a w hG hL1) ?_
  rintro x a' w' ⟨rfl,hL'⟩
  rw [hl] at hL'
  cases e with
  | nxt=>exact absurd rfl he
  | out i=>exact ⟨rfl,hL'⟩
  | ret=>exact ⟨rfl,hL'⟩
 | more h2 h3 =>
  rename_i k' s2
  have hl2:=h2.1
  rw [← hl] at hL1
  refine wp_mono (h2.2 X n0 w0 ok0 a w hG hL1) ?_
  rintro x a' w' ⟨rfl,hL'⟩
  rw [hl] at hL'
  exact ⟨_,Nat.lt_succ_self _,s2,h3,hl2.trans hl,hL'⟩
def aiter (step:AS→List An→List LA→Option (AE×AS×List Prop×List An×List LA)):Nat→AS→List An→List LA→Option (AE×AS×List Prop×List An×List LA)
 | 0,_,_,_=>none
 | n+1,s,an,ls=>match step s an ls with
  | some (.nxt,s1,ps,an1,ls1)=>match aiter step n s1 an1 ls1 with
   | some (e,s2,qs,an2,ls2)=>some (e,s2,ps++qs,an2,ls2)
   | none=>none
  | r=>r
def acode (E:En):Code→AS→List An→List LA→Option (AE×AS×List Prop×List An×List LA)
 | .skip,s,an,ls=>some (.nxt,s,[],an,ls)
 | .label _,s,an,ls=>some (.nxt,s,[],an,ls)
 | .region id ops draw,s,an,ls=>match scHere id ls with
  | true=>match sregion E ops id draw s an ls with
   | none=>none
   | some (s',ps,an',ls')=>some (.nxt,s',ps,an',ls')
  | false=>match aregion E ops draw s an with
   | none=>none
   | some (s',ps,an')=>some (.nxt,s',ps,an',ls)
 | .seq x y,s,an,ls=>match acode E x s an ls with
  | some (.nxt,s1,ps,an1,ls1)=>match acode E y s1 an1 ls1 with
   | some (e,s2,qs,an2,ls2)=>some (e,s2,ps++qs,an2,ls2)
   | none=>none
  | r=>r
 | .cond c x y,s,an,ls=>match aev s.tmf c with
  | .dt (.val (.bool true))=>acode E x s an ls
  | .dt (.val (.bool false))=>acode E y s an ls
  | _=>none
 | .block id b,s,an,ls=>match acode E b s an ls with
  | some (.out i,s',ps,an',ls')=>match Nat.beq i id with
   | true=>some (.nxt,s',ps,an',ls')
   | false=>some (.out i,s',ps,an',ls')
  | r=>r
 | .scope b,s,an,ls=>acode E b s an ls
 | .loop b,s,an,ls=>match ls with
  | .inv ft nb e s'::ls=>match (Nat.ble E.nh nb && forgets nb (forget ft nb s)) with
   | true=>some (e,s',[Tri E (.loop b) (forget ft nb s) e s'],an,ls)
   | false=>none
  | .run n::ls=>aiter (fun s an ls=>acode E b s an ls) n s an ls
  | ls=>aiter (fun s an ls=>acode E b s an ls) 4000 s an ls
 | .exit id,s,an,ls=>some (.out id,s,[],an,ls)
 | .ret,s,an,ls=>some (.ret,s,[],an,ls)
 | _,_,_,_=>none
theorem acode_sound {E:En}:∀ {c:Code} {s s':AS} {an an':List An} {ls ls':List LA} {e:AE} {ps:List Prop},acode E c s an ls=some (e,s',ps,an',ls')→AllP ps→Tri E c s e s':=by
 intro c
 induction c with
 | skip=>intro s s' an an' ls ls' e ps h _;cases h;exact ⟨rfl,fun X n0 w0 ok0 a w _ hL=>wp_skip ⟨rfl,hL⟩⟩
 | label l=>intro s s' an an' ls ls' e ps h _;cases h;exact ⟨rfl,fun X n0 w0 ok0 a w _ hL=>wp_label ⟨rfl,hL⟩⟩
 | region id ops draw =>
  intro s s' an an' ls ls' e ps h hp
  simp only [acode] at h
  split at h
  ·split at h
   ·cases h
   ·rename_i s1 ps1 an1 ls1 hr
    cases h
    obtain ⟨hl,hw⟩:=sregion_wp hr hp
    exact ⟨hl,fun X n0 w0 ok0 a w hG hL=>hw hG hL fun a w hL'=>⟨rfl,hL'⟩⟩
  split at h
  ·cases h
  ·rename_i s1 ps1 an1 hr
   cases h
   refine ⟨?_,fun X n0 w0 ok0 a w hG hL=>aregion_sound hr hp hG.g hL fun a w hL'=>⟨rfl,hL'⟩⟩
   unfold aregion at hr
   split at hr
   ·cases hr
   ·rename_i h1
    split at hr
    ·cases hr;exact (aops_run h1 hp).1
    ·cases hr
 | seq x y ihx ihy =>
  intro s s' an an' ls ls' e ps h hp
  simp only [acode] at h
  split at h
  ·rename_i s1 ps1 an1 ls1 hx
   split at h
   ·rename_i e2 s2 qs an2 ls2 hy
    cases h
    obtain ⟨hp1,hp2⟩:=AllP_app hp
    obtain ⟨l1,t1⟩:=ihx hx hp1
    obtain ⟨l2,t2⟩:=ihy hy hp2
    refine ⟨l2.trans l1,fun X n0 w0 ok0 a w hG hL=>wp_seq (wp_mono (t1 X n0 w0 ok0 a w hG hL) ?_)⟩
    rintro x' a' w' ⟨rfl,hL'⟩
    rw [← l1] at hL'
    have:=t2 X n0 w0 ok0 a' w' hG hL'
    rw [l1] at this
    exact this
   ·cases h
  ·rename_i hne
   obtain ⟨l1,t1⟩:=ihx h hp
   refine ⟨l1,fun X n0 w0 ok0 a w hG hL=>wp_seq (wp_mono (t1 X n0 w0 ok0 a w hG hL) ?_)⟩
   rintro x' a' w' ⟨rfl,hL'⟩
   cases e with
   | nxt=>exact absurd h (hne _ _ _ _)
   | out i=>exact ⟨rfl,hL'⟩
   | ret=>exact ⟨rfl,hL'⟩
 | cond c x y ihx ihy =>
  intro s s' an an' ls ls' e ps h hp
  simp only [acode] at h
  split at h
  ·rename_i hc
   obtain ⟨l1,t1⟩:=ihx h hp
   refine ⟨l1,fun X n0 w0 ok0 a w hG hL=>?_⟩
   obtain ⟨M,hI⟩:=hL
   have hv:=hI.ev c
   rw [hc] at hv
   exact wp_cond_true (Rd.val_eq hv) (t1 X n0 w0 ok0 a w hG ⟨M,hI⟩)
  ·rename_i hc
   obtain ⟨l1,t1⟩:=ihy h hp
   refine ⟨l1,fun X n0 w0 ok0 a w hG hL=>?_⟩
   obtain ⟨M,hI⟩:=hL
   have hv:=hI.ev c
   rw [hc] at hv
   exact wp_cond_false (Rd.val_eq hv) (t1 X n0 w0 ok0 a w hG ⟨M,hI⟩)
  ·cases h
 | block id b ih =>
  intro s s' an an' ls ls' e ps h hp
  simp only [acode] at h
  split at h
  ·rename_i i s1 ps1 an1 ls1 hb
   split at h
   ·rename_i hi
    have hi':=Nat.eq_of_beq_eq_true hi
    cases h
    obtain ⟨l1,t1⟩:=ih hb hp
    refine ⟨l1,fun X n0 w0 ok0 a w hG hL=>wp_block (wp_mono (t1 X n0 w0 ok0 a w hG hL) ?_)⟩
    rintro x' a' w' ⟨rfl,hL'⟩
    show if i=id then _ else _
    rw [if_pos hi']
    exact ⟨rfl,hL'⟩
   ·rename_i hi
    cases h
    obtain ⟨l1,t1⟩:=ih hb hp
    refine ⟨l1,fun X n0 w0 ok0 a w hG hL=>wp_block (wp_mono (t1 X n0 w0 ok0 a w hG hL) ?_)⟩
    rintro x' a' w' ⟨rfl,hL'⟩
    show if i=id then _ else _
    rw [if_neg (fun e=>by rw [e,Nat.beq_refl] at hi;cases hi)]
    exact ⟨rfl,hL'⟩
  ·rename_i hne
   obtain ⟨l1,t1⟩:=ih h hp
   refine ⟨l1,fun X n0 w0 ok0 a w hG hL=>wp_block (wp_mono (t1 X n0 w0 ok0 a w hG hL) ?_)⟩
   rintro x' a' w' ⟨rfl,hL'⟩
   cases e with
   | nxt=>exact ⟨rfl,hL'⟩
   | out i=>exact absurd h (hne _ _ _ _ _)
   | ret=>exact ⟨rfl,hL'⟩
 | scope b ih =>
  intro s s' an an' ls ls' e ps h hp
  simp only [acode] at h
  obtain ⟨l1,t1⟩:=ih h hp
  refine ⟨l1,fun X n0 w0 ok0 a w hG hL=>wp_scope_straight (wp_mono (t1 X n0 w0 ok0 a w hG hL) ?_)⟩
  rintro x' a' w' ⟨rfl,hL'⟩
  cases e <;> exact ⟨rfl,hL'⟩
 | loop b ih =>
  intro s s' an an' ls ls' e ps h hp
  have rounds:∀ (n:Nat) {s s':AS} {an an':List An} {ls ls':List LA} {e:AE} {ps:List Prop},aiter (fun s an ls=>acode E b s an ls) n s an ls=some (e,s',ps,an',ls')→AllP ps→Lps E b s e s':=by
   intro n
   induction n with
   | zero=>intro s s' an an' ls ls' e ps h _;cases h
   | succ n ihn =>
    intro s s' an an' ls ls' e ps h hp
    simp only [aiter] at h
    split at h
    ·rename_i s1 ps1 an1 ls1 hx
     split at h
     ·rename_i e2 s2 qs an2 ls2 hy
      cases h
      obtain ⟨hp1,hp2⟩:=AllP_app hp
      exact .more (ih hx hp1) (ihn hy hp2)
     ·cases h
    ·rename_i hne
     exact .stop (ih h hp) fun he=>by subst he;exact hne _ _ _ _ h
  simp only [acode] at h
  split at h
  ·rename_i ft nb e1 s1 ls1
   split at h
   ·rename_i hf
    cases h
    obtain ⟨l1,t1⟩:=hp.1
    have hlen:(forget ft nb s).tm.length=s.tm.length:=fgt_len _ _ _
    refine ⟨l1.trans hlen,fun X n0 w0 ok0 a w hG hL=>?_⟩
    have:=t1 X n0 w0 ok0 a w hG (by rw [hlen];exact Left.forget hf hG hL)
    rw [hlen] at this
    exact this
   ·cases h
  ·exact (rounds _ h hp).tri
  ·exact (rounds _ h hp).tri
 | exit id=>intro s s' an an' ls ls' e ps h _;cases h;exact ⟨rfl,fun X n0 w0 ok0 a w _ hL=>wp_exit ⟨rfl,hL⟩⟩
 | ret=>intro s s' an an' ls ls' e ps h _;cases h;exact ⟨rfl,fun X n0 w0 ok0 a w _ hL=>wp_ret ⟨rfl,hL⟩⟩
 | goto l=>intro s s' an an' ls ls' e ps h _;cases h
 | refuse l=>intro s s' an an' ls ls' e ps h _;cases h
 | rangeFunc f p x y ihx ihy=>intro s s' an an' ls ls' e ps h _;cases h
def ares (P:Program) (s:AS):List ResultVar→Option (List AV)
 | []=>some []
 | .tmp t::rs=>match ares P s rs with
  | some cs=>some (s.tmf t::cs)
  | none=>none
 | .cell x t::rs=>match s.tmf x,asz P t,aag P t,ares P s rs with
  | .ptr b off,some n,some ag,some cs=>match s.bxf b with
   | some (.cells c0)=>match rowAt c0 off n ag with
    | some r=>some (r::cs)
    | none=>none
   | _=>none
  | _,_,_,_=>none
def aret:List AV→AV
 | [x]=>x
 | xs=>.tup xs
def resOf (tmps:Array Value):ResultVar→Sem Value
 | .tmp t=>pure (tmps.getD t undef)
 | .cell a t=>do loadVar t (← asAddr (tmps.getD a undef))
section
variable {P:Program} {X:Nat→Prop} {n0:Nat} {w0:World×Mm} {ok0:Nat→Prop} {M:Mm} {nt:Nat} {a:Act} {w:World}
theorem ares_run {s:AS} (hI:Inv X n0 w0 ok0 M nt s.tmf s.bxf a w):∀ {rs:List ResultVar} {cs:List AV},ares P s rs=some cs→∃ vs,(rs.mapM (resOf a.tmps)).run P w=.ok vs w∧RL M w cs vs
 | [],cs,h=>by cases h;exact ⟨[],rfl,rfl⟩
 | .tmp t::rs,cs,h=>by
  unfold ares at h
  split at h
  ·rename_i cs' h'
   cases h
   obtain ⟨vs,h1,h2⟩:=ares_run hI h'
   refine ⟨a.tmps.getD t undef::vs,?_,_,vs,rfl,hI.tmps t,h2⟩
   rw [List.mapM_cons]
   simp only [resOf,Sem.run_bind,Sem.run_pure,Result.andThen,h1]
  ·cases h
 | .cell x t::rs,cs,h=>by
  unfold ares at h
  split at h
  ·rename_i b off n ag cs' hx hn ha h'
   split at h
   ·rename_i c0 hb
    split at h
    ·rename_i r hr
     cases h
     obtain ⟨vs,h1,h2⟩:=ares_run hI h'
     have hv:=hI.tmps x
     rw [hx] at hv
     obtain ⟨g,hg,hv⟩:=hv
     obtain ⟨g',T,us,e1,e2,e3⟩:=hI.sto.box b _ hb
     rw [hg] at e1
     cases e1
     obtain ⟨u,hu1,hu2⟩:=run_load (P:=P) (g:=g) (q:=0) hn ha (fun j u hj=>by rw [Nat.zero_add,e2.cell];simpa using hj) e3 hr
     rw [Nat.zero_add] at hu1
     refine ⟨u::vs,?_,u,vs,rfl,hu2,h2⟩
     rw [List.mapM_cons]
     have hu1':(resOf a.tmps (.cell x t)).run P w=.ok u w:=by
      simp only [resOf,hv,asAddr,Sem.run_bind,Sem.run_pure,Result.andThen,hu1]
     simp only [Sem.run_bind,hu1',Sem.run_pure,Result.andThen,h1]
    ·cases h
   ·cases h
  ·cases h
theorem results_run {fn:Func} {tmps:Array Value} {vs:List Value} (h:(fn.results.toList.mapM (resOf tmps)).run P w=.ok vs w):(results fn tmps).run P w=.ok (if h:vs.length=1 then vs[0] else .tuple vs.toArray) w:=by
 have e:results fn tmps=(do let vs ← fn.results.mapM (resOf tmps);pure (if h:vs.size=1 then vs[0] else .tuple vs)):=by
  unfold results
  congr 1
 rw [e,Array.mapM_eq_mapM_toList]
 simp only [Sem.run_bind,Sem.run_map,h,Result.andThen,Sem.run_pure]
 by_cases h1:vs.length=1
 ·simp [h1]
 ·simp [h1]
end
def afun (E:En) (fn:Func) (c:Code) (args:List AV) (an:List An) (ls:List LA):Option (AV×List Prop) :=
 match acode E c ⟨args++List.replicate (fn.ntmps - args.length) (.dt (.val undef)),[]⟩ an ls with
 | some (.out _,_)=>none
 | none=>none
 | some (_,s,ps,_,_)=>match ares E.P s fn.results.toList with
  | some cs=>match cvL [] false s.bxf cs with
   | some (cs',qs)=>some (aret cs',ps++qs)
   | none=>none
  | none=>none
def afunB (E:En) (fn:Func) (args:List AV) (an:List An) (ls:List LA):Option (AV×List Prop):=match fn.body with
 | some c=>afun E fn c args an ls
 | none=>none
theorem aret_rv {M:Mm} {w:World} {cs:List AV} {vs:List Value} (h:RL M w cs vs):RV M w (aret cs) (if h:vs.length=1 then vs[0] else .tuple vs.toArray):=by
 have hl:=h.len
 match cs,h with
 | [],h =>
  rw [show vs=[] from h]
  exact ⟨[],rfl,rfl⟩
 | [c],⟨u,us,e,h1,h2⟩ =>
  rw [show us=[] from h2] at e
  subst e
  exact h1
 | c::c'::cs,h =>
  simp only [List.length_cons] at hl
  rw [dif_neg (by omega)]
  exact ⟨vs,rfl,h⟩
theorem walk {E:En} (hG:∀ w w',E.G w→Below w.heap.size w w'→E.G w') {f:FuncId} {fn:Func} {c:Code} (hf:E.P.funcs[f]?=some fn) (hb:fn.body=some c) (hn:(fn.name == "runtime.NumGoroutine")=false)
  {args:List AV} (an:List An) (ls:List LA) {r:AV} {ps:List Prop} (h:afun E fn c args an ls=some (r,ps)) (hp:AllP ps):PureOK E.P E.G f args r:=by
 refine ⟨⟨fn,hf,by rw [hb];rfl,hn⟩,fun ok w vs hw hargs=>?_⟩
 unfold afun at h
 have key:∃ e s cs cs' an' ls' ps1 qs,acode E c ⟨args++List.replicate (fn.ntmps - args.length) (.dt (.val undef)),[]⟩ an ls=some (e,s,ps1,an',ls')∧(∀ i,e≠.out i)∧ares E.P s fn.results.toList=some cs∧cvL [] false s.bxf cs=some (cs',qs)∧r=aret cs'∧ps=ps1++qs:=by
  split at h
  ·cases h
  ·cases h
  ·rename_i e s ps' an' ls' hne hc
   split at h
   ·rename_i cs hcs
    split at h
    ·rename_i cs' qs hcv
     cases h
     exact ⟨e,s,cs,cs',an',ls',ps',qs,hc,fun i he=>by subst he;exact hne _ rfl,hcs,hcv,rfl,rfl⟩
    ·cases h
   ·cases h
 obtain ⟨e,s,cs,cs',an',ls',ps1,qs,hc,hne,hcs,hcv,rfl,rfl⟩:=key
 obtain ⟨hp1,hp2⟩:=AllP_app hp
 obtain ⟨hlen,htri⟩:=acode_sound hc hp1
 have hal:=hargs.len
 refine calls_of_wp hf hb (wp_mono (htri (fun _=>False) w.heap.size (w,M0 fun b=>ok b∧b < w.heap.size) ok _ w ⟨fun w' hb=>hG w w' hw hb.below,fun _ _=>⟨rfl,rfl⟩⟩ ⟨M0 fun b=>ok b∧b < w.heap.size,?_⟩) ?_)
 ·have nobx:∀ b x,(AS.mk (args++List.replicate (fn.ntmps - args.length) (.dt (.val undef))) []).bxf b≠some x:=fun b x h=>by simp [AS.bxf] at h
  refine ⟨Bel.refl _ _ _,Nat.le_refl _,rfl,?_,?_,⟨fun b x h=>absurd h (nobx b x),fun b x _ h=>absurd h (nobx b x),fun b _ x _ _ h=>absurd h (nobx b x),(fun b g h=>by cases h),(fun b v h=>by cases h),fun b hb=>hb.2⟩,fun b hb _=>.inl hb.1,Go1.refl _ _ _ _⟩
  ·simp [hal]
  ·intro t
   have hargs':RL (M0 fun b=>ok b∧b < w.heap.size) w args vs:=RL.flatter (fun b hb hl=>⟨hb,hl⟩) hargs
   by_cases ht:t < args.length
   ·obtain ⟨u,hu1,hu2⟩:=hargs'.get (i:=t) (c:=args[t]) (List.getElem?_eq_getElem ht)
    have e1:(AS.mk (args++List.replicate (fn.ntmps - args.length) (.dt (.val undef))) []).tmf t=args[t]:=by
     unfold AS.tmf
     simp [List.getElem?_append_left ht,ht]
    have e2:(vs.toArray++Array.replicate (fn.ntmps - vs.toArray.size) undef).getD t undef=u:=by
     have ht':t < vs.length:=by omega
     simp only [Array.getD_eq_getD_getElem?]
     rw [Array.getElem?_append_left (by simpa using ht')]
     simp [hu1]
    rw [e1,e2]
    exact hu2
   ·have e1:(AS.mk (args++List.replicate (fn.ntmps - args.length) (.dt (.val undef))) []).tmf t=.dt (.val undef):=by
     unfold AS.tmf
     rw [List.getD_eq_getElem?_getD,List.getElem?_append_right (by omega),List.getElem?_replicate]
     split <;> rfl
    have e2:(vs.toArray++Array.replicate (fn.ntmps - vs.toArray.size) undef).getD t undef=undef:=by
     simp only [Array.getD_eq_getD_getElem?]
     rw [Array.getElem?_append_right (by simp;omega),Array.getElem?_replicate]
     split <;> rfl
    rw [e1,e2]
    exact rv_undef
 ·rintro x a' w' ⟨rfl,M,hI⟩
  obtain ⟨us,h1,h2⟩:=ares_run hI hcs
  obtain ⟨M1,hI1,h3,_⟩:=hI.hand hcv hp2 h2
  have hR:∃ v,(results fn a'.tmps).run E.P w'=.ok v w'∧(fun e w'=>∃ v,e=Ending.returned v∧Below w.heap.size w w'∧RV (M0 fun b=>ok b∨w.heap.size≤b) w' (aret cs') v) (.returned v) w':=by
   refine ⟨_,results_run h1,_,rfl,hI.below.below,?_⟩
   refine RV.lift (F:=M1.F) (M:=M0 fun b=>ok b∨w.heap.size≤b) (fun b hb _=>?_) (aret_rv h3)
   by_cases e:b < w.heap.size
   ·rcases hI1.src b hb e with h | h
    ·exact .inl h
    ·exact h.elim
   ·exact .inr (by omega)
  cases e with
  | nxt=>exact ⟨hI.defers,hR⟩
  | ret=>exact ⟨hI.defers,hR⟩
  | out i=>exact absurd rfl (hne i)
theorem walkB {E:En} (hG:∀ w w',E.G w→Below w.heap.size w w'→E.G w') {f:FuncId} {fn:Func} (hf:E.P.funcs[f]?=some fn) (hn:(fn.name == "runtime.NumGoroutine")=false)
  {args:List AV} {an:List An} {ls:List LA} {r:AV} {ps:List Prop} (h:afunB E fn args an ls=some (r,ps)) (hp:AllP ps):PureOK E.P E.G f args r:=by
 unfold afunB at h
 split at h
 ·rename_i c hc
  exact walk hG hf hc hn an ls h hp
 ·cases h
theorem Tri.weak {E:En} {c:Code} {s s':AS} {e:AE} (h:Tri E c s e s') (ft:List Nat) (nb:Nat) (hf:(Nat.ble E.nh nb && forgets nb (forget ft nb s'))=true):Tri E c s e (forget ft nb s'):=by
 refine ⟨(fgt_len _ _ _).trans h.1,fun X n0 w0 ok0 a w hG hL=>wp_mono (h.2 X n0 w0 ok0 a w hG hL) ?_⟩
 rintro x a' w' ⟨rfl,hL'⟩
 exact ⟨rfl,Left.forget hf hG hL'⟩
def acodeF (E:En) (c:Code) (s:AS) (an:List An) (ls:List LA) (ft:List Nat) (nb:Nat):Option (AE×AS×List Prop):=match acode E c s an ls with
 | some (e,s',ps,_,_)=>match Nat.ble E.nh nb && forgets nb (forget ft nb s') with
  | true=>some (e,forget ft nb s',ps)
  | false=>none
 | none=>none
theorem tw {E:En} {c:Code} {s s':AS} {an:List An} {ls:List LA} {ft:List Nat} {nb:Nat} {e:AE} {ps:List Prop} (h:acodeF E c s an ls ft nb=some (e,s',ps)) (hp:AllP ps):Tri E c s e s':=by
 unfold acodeF at h
 split at h
 ·rename_i e1 s1 ps1 an1 ls1 hc
  split at h
  ·rename_i hf
   cases h
   exact (acode_sound hc hp).weak ft nb hf
  ·cases h
 ·cases h
def stG (kv:List (Nat×AV)) (i:Nat):AV:=match kv with
 | []=>.un
 | (j,v)::r=>match Nat.beq i j with
  | true=>v
  | false=>stG r i
def stT (kv:List (Nat×AV)):Nat→Nat→List AV
 | _,0=>[]
 | i,n+1=>stG kv i::stT kv (i+1) n
abbrev stt (n:Nat) (kv:List (Nat×AV)):List AV:=stT kv 0 n
def subC:Code→List Nat→Code
 | c,[]=>c
 | .seq x _,0::p=>subC x p
 | .seq _ y,_::p=>subC y p
 | .cond _ x _,0::p=>subC x p
 | .cond _ _ y,_::p=>subC y p
 | .block _ b,_::p=>subC b p
 | .loop b,_::p=>subC b p
 | .scope b,_::p=>subC b p
 | c,_=>c
def bodyOf (fn:Func):Code:=match fn.body with
 | some c=>c
 | none=>.skip
end Go.Proofs.YthhknjlmjefklaaGreatDoor
namespace Go.Proofs.YthhknjlmjefklaaGreatDoor
open Go.RowKit
def afunS (E:En) (fn:Func) (c:Code) (args:List AV) (xs:List (Option Bx)) (ks:List Nat) (an:List An) (ls:List LA):Option (AV×List (Option Bx)×List Prop) :=
 match acode E c ⟨args++List.replicate (fn.ntmps - args.length) (.dt (.val undef)),xs⟩ an ls with
 | some (.out _,_,_,_,_)=>none
 | none=>none
 | some (_,s,ps,_,_)=>match ares E.P s fn.results.toList with
  | some cs=>match cvL ks true s.bxf cs with
   | some (cs',qs)=>match giveBs ks (updB s.bxf (frzs s.bxf (obL ks s.bxf cs))) ks with
    | some (xs',rs)=>match nodupB ks && (List.range E.nh).all (fun i=>Nat.beq (ks.getD i (i+1)) i) && Nat.beq xs.length E.nh with
     | true=>some (aret cs',xs',ps++(qs++rs))
     | false=>none
    | none=>none
   | none=>none
  | none=>none
theorem walkS {E:En} {f:FuncId} {fn:Func} {c:Code} (hf:E.P.funcs[f]?=some fn) (hb:fn.body=some c) (hn:(fn.name == "runtime.NumGoroutine")=false)
  {args:List AV} {xs:List (Option Bx)} {ks:List Nat} (an:List An) (ls:List LA) {r:AV} {xs':List (Option Bx)} {ps:List Prop} (h:afunS E fn c args xs ks an ls=some (r,xs',ps)) (hp:AllP ps):SOK E.P E.G f args xs r xs':=by
 refine ⟨⟨fn,hf,by rw [hb];rfl,hn⟩,fun X M w vs hG hS hargs=>?_⟩
 unfold afunS at h
 have key:∃ e s cs cs' an' ls' ps1 qs rs,acode E c ⟨args++List.replicate (fn.ntmps - args.length) (.dt (.val undef)),xs⟩ an ls=some (e,s,ps1,an',ls')∧(∀ i,e≠.out i)∧ares E.P s fn.results.toList=some cs∧cvL ks true s.bxf cs=some (cs',qs) ∧
   giveBs ks (updB s.bxf (frzs s.bxf (obL ks s.bxf cs))) ks=some (xs',rs)∧(nodupB ks && (List.range E.nh).all (fun i=>Nat.beq (ks.getD i (i+1)) i) && Nat.beq xs.length E.nh)=true∧r=aret cs'∧ps=ps1++(qs++rs):=by
  split at h
  ·cases h
  ·cases h
  ·rename_i e s ps' an' ls' hne hc
   split at h
   ·rename_i cs hcs
    split at h
    ·rename_i cs' qs hcv
     split at h
     ·rename_i xs1 rs hgb
      split at h
      ·rename_i hck
       cases h
       exact ⟨e,s,cs,cs',an',ls',ps',qs,rs,hc,fun i he=>by subst he;exact hne _ rfl,hcs,hcv,hgb,hck,rfl,rfl⟩
      ·cases h
     ·cases h
    ·cases h
   ·cases h
 obtain ⟨e,s,cs,cs',an',ls',ps1,qs,rs,hc,hne,hcs,hcv,hgb,hck,rfl,rfl⟩:=key
 simp only [Bool.and_eq_true,List.all_eq_true,List.mem_range] at hck
 obtain ⟨⟨hnd,hks⟩,hxl⟩:=hck
 have hnd:=nodupB_ok hnd
 have hxl:xs.length=E.nh:=Nat.eq_of_beq_eq_true hxl
 have hks:∀ i,i < E.nh→ks[i]?=some i:=fun i hi=>by
  have:=Nat.eq_of_beq_eq_true (hks i hi)
  rw [List.getD_eq_getElem?_getD] at this
  cases hk:ks[i]? with
  | none=>rw [hk] at this;simp at this
  | some k=>rw [hk] at this;simp at this;rw [this]
 obtain ⟨hp1,hp2⟩:=AllP_app hp
 obtain ⟨hp2,hp3⟩:=AllP_app hp2
 obtain ⟨hlen,htri⟩:=acode_sound hc hp1
 have hal:=hargs.len
 have hbx:(AS.mk (args++List.replicate (fn.ntmps - args.length) (.dt (.val undef))) xs).bxf=lk xs:=rfl
 have hhg:HG E X w.heap.size (w,M):=⟨hG,fun k hk=>by
  have hl:lk xs k=none:=by unfold lk;rw [List.getElem?_eq_none (by omega)]
  exact ⟨hS.fresh_m hl,hS.fresh_o hl⟩⟩
 refine calls_of_wp hf hb (wp_mono (htri X w.heap.size (w,M) M.F _ w hhg ⟨M,?_⟩) ?_)
 ·refine ⟨Bel.refl _ _ _,Nat.le_refl _,rfl,?_,?_,by rw [hbx];exact hS,fun b hb _=>.inl hb,Go1.refl _ _ _ _⟩
  ·simp [hal]
  ·intro t
   by_cases ht:t < args.length
   ·obtain ⟨u,hu1,hu2⟩:=hargs.get (i:=t) (c:=args[t]) (List.getElem?_eq_getElem ht)
    have e1:(AS.mk (args++List.replicate (fn.ntmps - args.length) (.dt (.val undef))) xs).tmf t=args[t]:=by
     unfold AS.tmf
     simp [List.getElem?_append_left ht,ht]
    have e2:(vs.toArray++Array.replicate (fn.ntmps - vs.toArray.size) undef).getD t undef=u:=by
     have ht':t < vs.length:=by omega
     simp only [Array.getD_eq_getD_getElem?]
     rw [Array.getElem?_append_left (by simpa using ht')]
     simp [hu1]
    rw [e1,e2]
    exact hu2
   ·have e1:(AS.mk (args++List.replicate (fn.ntmps - args.length) (.dt (.val undef))) xs).tmf t=.dt (.val undef):=by
     unfold AS.tmf
     rw [List.getD_eq_getElem?_getD,List.getElem?_append_right (by omega),List.getElem?_replicate]
     split <;> rfl
    have e2:(vs.toArray++Array.replicate (fn.ntmps - vs.toArray.size) undef).getD t undef=undef:=by
     simp only [Array.getD_eq_getD_getElem?]
     rw [Array.getElem?_append_right (by simp;omega),Array.getElem?_replicate]
     split <;> rfl
    rw [e1,e2]
    exact rv_undef
 ·rintro x a' w' ⟨rfl,Mf,hI⟩
  obtain ⟨us,h1,h2⟩:=ares_run hI hcs
  obtain ⟨M1,hI1,h3,_⟩:=hI.handJ hcv hp2 h2
  have hsto:=sub_gen hI1 hnd hgb hp3 (Y:=X) (m0:=w.heap.size) fun j hj x q hb hq=>(hI1.sto.dom j x q hb hq).1
  have hnh:∀ k,(M.m k).isSome=true∨(M.o k).isSome=true→k < E.nh:=fun k hk=>by
   rcases Nat.lt_or_ge k E.nh with h | h
   ·exact h
   ·obtain ⟨e1,e2⟩:=hhg.h k h
    rw [show M.m k=none from e1,show M.o k=none from e2] at hk
    rcases hk with hk | hk <;> cases hk
  have hgo:Go1 X w.heap.size M w (subM M1 ks) w':=⟨hI1.anc.below,hI1.anc.keep,hI1.anc.F,fun k q hq=>by
   have hk:=hks k (hnh k (.inl (by rw [hq];rfl)))
   show (ks[k]?).bind M1.m=_
   rw [hk]
   exact hI1.anc.m k q hq,fun k A n c hq=>by
   have hk:=hks k (hnh k (.inr (by rw [hq];rfl)))
   show ∃ A' n' c',(ks[k]?).bind M1.o=_∧_
   rw [hk]
   exact hI1.anc.o k A n c hq⟩
  have hR:∃ v,(results fn a'.tmps).run E.P w'=.ok v w'∧(fun e w'=>∃ v M',e=Ending.returned v∧Go1 X w.heap.size M w M' w'∧Sto X w.heap.size M' (lk xs') w'∧(∀ b,M'.F b→M.F b∨w.heap.size≤b∨X b)∧RV M' w' (aret cs') v) (.returned v) w':=by
   refine ⟨_,results_run h1,_,subM M1 ks,rfl,hgo,hsto,fun b hb=>?_,aret_rv h3⟩
   by_cases e:b < w.heap.size
   ·rcases hI1.src b hb e with h | h
    ·exact .inl h
    ·exact .inr (.inr h)
   ·exact .inr (.inl (by omega))
  cases e with
  | nxt=>exact ⟨hI.defers,hR⟩
  | ret=>exact ⟨hI.defers,hR⟩
  | out i=>exact absurd rfl (hne i)
def afunSB (E:En) (fn:Func) (args:List AV) (xs:List (Option Bx)) (ks:List Nat) (an:List An) (ls:List LA):Option (AE×AS×List Prop):=match fn.body with
 | some c=>match afunS E fn c args xs ks an ls with
  | some (r,xs',ps)=>some (.nxt,⟨[r],xs'⟩,ps)
  | none=>none
 | none=>none
theorem walkSB {E:En} {f:FuncId} {fn:Func} (hf:E.P.funcs[f]?=some fn) (hn:(fn.name == "runtime.NumGoroutine")=false)
  {args:List AV} {xs:List (Option Bx)} {ks:List Nat} {an:List An} {ls:List LA} {r:AV} {xs':List (Option Bx)} {ps:List Prop} (h:afunSB E fn args xs ks an ls=some (.nxt,⟨[r],xs'⟩,ps)) (hp:AllP ps):SOK E.P E.G f args xs r xs':=by
 unfold afunSB at h
 split at h
 ·rename_i c hc
  split at h
  ·rename_i r1 xs1 ps1 h1
   cases h
   exact walkS hf hc hn an ls h1 hp
  ·cases h
 ·cases h
end Go.Proofs.YthhknjlmjefklaaGreatDoor
namespace Go.Proofs.YthhknjlmjefklaaGreatDoor
open Go.RowKit
def Gx (w:World):Prop:=Tab w∧True
theorem Gx.below {w w':World} (h:Gx w) (hb:Below w.heap.size w w'):Gx w':=⟨h.1.below hb,trivial⟩
def tabT (_g _i:Nat):Option Value:=none
theorem tabT_ok (w:World) (_h:Gx w) (g i:Nat) (v:Value) (hv:tabT g i=some v):w.cell? ⟨g,i,none⟩=some v:=by cases hv
theorem mixed:Tryz.prog.follows .mixedOrders=true:=by kernel_rfl
noncomputable abbrev EX:En:=⟨Tryz.prog,Gx,tabT,tabT_ok,mixed,0⟩
end Go.Proofs.YthhknjlmjefklaaGreatDoor
namespace Go.Proofs.YthhknjlmjefklaaGreatDoor
open Go.RowKit
abbrev Puk (f:FuncId) (args:List AV) (r:AV):Prop:=PureOK Tryz.prog Gx f args r
abbrev vi (n:Int):Value:=.int .i64 n
abbrev bT:Value:=.bool true
abbrev bF:Value:=.bool false
abbrev Bn (op:BinOp) (t:TypeId) (x y:Operand) (a b r:Value):Prop:=BinIs Tryz.prog op t x y a b r
abbrev obA (o:Ob):AV:=.agg [.dt (.val (.int .i64 o.kind)),.dt (.val (str o.num)),.dt (.val (str o.den)),.dt (.val (str o.sp)),.dt (.val (str o.sn)),.dt (.val (str o.text)),.dt (.row (o.pair.map Ob.enc))]
abbrev boA (b:Bool):AV:=.dt (.val (.bool b))
abbrev yT:An:=.av (boA true)
abbrev yF:An:=.av (boA false)
abbrev inA (n:Int):AV:=.dt (.val (.int .i64 n))
abbrev stA (l:List UInt8):AV:=.dt (.val (str l))
theorem RV.obj {M:Mm} {w:World} {o:Ob} {v:Value} (h:RV M w (obA o) v):∃ A n c,v=objV o (.slice A n c)∧Rd M.F w (.slice A n c) (.row (o.pair.map Ob.enc)):=by
 obtain ⟨vs,rfl,u0,_,rfl,h0,u1,_,rfl,h1,u2,_,rfl,h2,u3,_,rfl,h3,u4,_,rfl,h4,u5,_,rfl,h5,u6,_,rfl,h6,rfl⟩:=h
 obtain ⟨A,n,c,rfl,_⟩:=Rd.slice h6
 refine ⟨A,n,c,?_,h6⟩
 rw [Rd.val_eq h0,Rd.val_eq h1,Rd.val_eq h2,Rd.val_eq h3,Rd.val_eq h4,Rd.val_eq h5]
theorem RV.ofObj {M:Mm} {w:World} {o:Ob} {A:Option Addr} {n c:Nat} (h:Rd M.F w (.slice A n c) (.row (o.pair.map Ob.enc))):RV M w (obA o) (objV o (.slice A n c)) :=
 ⟨_,rfl,_,_,rfl,.val _,_,_,rfl,.val _,_,_,rfl,.val _,_,_,rfl,.val _,_,_,rfl,.val _,_,_,rfl,.val _,_,_,rfl,h,rfl⟩
theorem RL.one_obj {M:Mm} {w:World} {o:Ob} {vs:List Value} (h:RL M w [obA o] vs):∃ A n c,vs=[objV o (.slice A n c)]∧Rd M.F w (.slice A n c) (.row (o.pair.map Ob.enc)):=by
 obtain ⟨u,us,rfl,h1,rfl⟩:=h
 obtain ⟨A,n,c,rfl,h⟩:=h1.obj
 exact ⟨A,n,c,rfl,h⟩
theorem RL.two_obj {M:Mm} {w:World} {o o':Ob} {vs:List Value} (h:RL M w [obA o,obA o'] vs):∃ A n c A' n' c',vs=[objV o (.slice A n c),objV o' (.slice A' n' c')]∧Rd M.F w (.slice A n c) (.row (o.pair.map Ob.enc))∧Rd M.F w (.slice A' n' c') (.row (o'.pair.map Ob.enc)):=by
 obtain ⟨u,us,rfl,h1,h2⟩:=h
 obtain ⟨A,n,c,rfl,h⟩:=h1.obj
 obtain ⟨A',n',c',rfl,h'⟩:=RL.one_obj h2
 exact ⟨A,n,c,A',n',c',rfl,h,h'⟩
theorem RL.one_val {M:Mm} {w:World} {u:Value} {vs:List Value} (h:RL M w [.dt (.val u)] vs):vs=[u]:=by
 obtain ⟨x,us,rfl,h1,rfl⟩:=h
 rw [Rd.val_eq h1]
theorem RetObj.pure {ok:Nat→Prop} {r:Ob} {w w':World} {e:Ending} (h:RetObj ok r w e w'):∃ v,e=.returned v∧Below w.heap.size w w'∧RV (M0 fun b=>ok b∨w.heap.size≤b) w' (obA r) v:=by
 obtain ⟨A,n,c,rfl,h1,h2⟩:=h
 exact ⟨_,rfl,h2,RV.ofObj h1⟩
theorem RetBel.pure {ok:Nat→Prop} {r:Value} {w w':World} {e:Ending} (h:RetBel r w e w'):∃ v,e=.returned v∧Below w.heap.size w w'∧RV (M0 fun b=>ok b∨w.heap.size≤b) w' (.dt (.val r)) v:=by
 obtain ⟨rfl,h2⟩:=h
 exact ⟨_,rfl,h2,.val _⟩
abbrev Fn (f:FuncId):Prop:=∃ fn,Tryz.prog.funcs[f]?=some fn∧fn.body.isNone=false∧(fn.name == "runtime.NumGoroutine")=false
theorem pk_ov {f:FuncId} (hf:Fn f) {o:Ob} {r:Value} (h:∀ (ok:Nat→Prop) (A:Option Addr) (n c:Nat) (w:World),Tab w→Rd ok w (.slice A n c) (.row (o.pair.map Ob.enc))→Calls Tryz.prog f #[objV o (.slice A n c)] w (RetBel r w)):Puk f [obA o] (.dt (.val r)) :=
 ⟨hf,fun ok w vs ht hv=>by
  obtain ⟨A,n,c,rfl,hr⟩:=hv.one_obj
  exact (h ok A n c w ht.1 hr).mono fun _ _=>RetBel.pure⟩
theorem pk_ooo {f:FuncId} (hf:Fn f) {o o' r:Ob} (h:∀ (ok:Nat→Prop) (A A':Option Addr) (n c n' c':Nat) (w:World),Tab w→Rd ok w (.slice A n c) (.row (o.pair.map Ob.enc))→Rd ok w (.slice A' n' c') (.row (o'.pair.map Ob.enc))→Calls Tryz.prog f #[objV o (.slice A n c),objV o' (.slice A' n' c')] w (RetObj ok r w)):Puk f [obA o,obA o'] (obA r) :=
 ⟨hf,fun ok w vs ht hv=>by
  obtain ⟨A,n,c,A',n',c',rfl,hr,hr'⟩:=hv.two_obj
  exact (h ok A A' n c n' c' w ht.1 hr hr').mono fun _ _=>RetObj.pure⟩
theorem pwalk {f:FuncId} {fn:Func} (hf:Tryz.prog.funcs[f]?=some fn) (hn:(fn.name == "runtime.NumGoroutine")=false) {args:List AV} {an:List An} {ls:List LA} {r:AV} {ps:List Prop} (h:afunB EX fn args an ls=some (r,ps)) (hp:AllP ps):Puk f args r :=
 walkB (E:=EX) (fun _ _ h hb=>h.below hb) hf hn h hp
noncomputable abbrev EXn (n:Nat):En:=⟨Tryz.prog,Gx,tabT,tabT_ok,mixed,n⟩
abbrev Suk (f:FuncId) (args:List AV) (xs:List (Option Bx)) (r:AV) (xs':List (Option Bx)):Prop:=SOK Tryz.prog Gx f args xs r xs'
theorem psw {n:Nat} {f:FuncId} {fn:Func} (hf:Tryz.prog.funcs[f]?=some fn) (hn:(fn.name == "runtime.NumGoroutine")=false) {args:List AV} {xs:List (Option Bx)} {ks:List Nat} {an:List An} {ls:List LA} {r:AV} {xs':List (Option Bx)} {ps:List Prop} (h:afunSB (EXn n) fn args xs ks an ls=some (.nxt,⟨[r],xs'⟩,ps)) (hp:AllP ps):Suk f args xs r xs' :=
 walkSB (E:=EXn n) hf hn h hp
theorem twalk {c:Code} {s s':AS} {an:List An} {ls:List LA} {ft:List Nat} {nb:Nat} {e:AE} {ps:List Prop} (h:acodeF EX c s an ls ft nb=some (e,s',ps)) (hp:AllP ps):Tri EX c s e s':=tw h hp
theorem fnm {f:FuncId} {fn:Func} (hf:Tryz.prog.funcs[f]?=some fn) (hb:fn.body.isNone=false) (hn:(fn.name == "runtime.NumGoroutine")=false):Fn f:=⟨fn,hf,hb,hn⟩
theorem Puk.val {f:FuncId} {args:List AV} {a b:AV} (h:Puk f args a) (e:a=b):Puk f args b:=e ▸ h
theorem Puk.b {f:FuncId} {args:List AV} {a b:Bool} (h:Puk f args (boA a)) (e:a=b):Puk f args (boA b):=e ▸ h
def Tr.isC:Tr→Bool
 | .cons _ _=>true
 | _=>false
abbrev trA (t:Tr):AV:=obA t.ob
abbrev encL (o:Ob):List Dt:=[.val (.int .i64 o.kind),.val (str o.num),.val (str o.den),.val (str o.sp),.val (str o.sn),.val (str o.text),.row (o.pair.map Ob.enc)]
theorem enc_L (o:Ob):o.enc=encL o:=Ob.enc_eq o
theorem ix_obj {l:List Ob} {i:Nat} {o:Ob} (h:l[i]?=some o):IxAt (l.map Ob.enc) (i:Int) 7 (encL o):=⟨Int.natCast_nonneg _,by
 rw [Int.toNat_natCast,List.getElem?_map,h]
 exact congrArg some (enc_L o),rfl⟩
theorem RetEq.pure {ok:Nat→Prop} {p:Prop} [Decidable p] {w w':World} {e:Ending} (h:RetEq p w e w'):∃ v,e=.returned v∧Below w.heap.size w w'∧RV (M0 fun b=>ok b∨w.heap.size≤b) w' (boA (decide p)) v:=by
 obtain ⟨b,rfl,hb,h2⟩:=h
 refine ⟨_,rfl,h2,?_⟩
 rw [show decide p=b by cases b <;> simp_all]
 exact .val _
theorem RetEq.iff {p q:Prop} (h:p↔q) {w w':World} {e:Ending} (hr:RetEq p w e w'):RetEq q w e w':=by
 obtain ⟨b,h1,h2,h3⟩:=hr
 exact ⟨b,h1,h2.trans h,h3⟩
theorem RetLeaf.pure {ok:Nat→Prop} {r:Ob} {w w':World} {e:Ending} (hp:r.pair=[]) (h:RetLeaf r w e w'):∃ v,e=.returned v∧Below w.heap.size w w'∧RV (M0 fun b=>ok b∨w.heap.size≤b) w' (obA r) v:=RetObj.pure (ok:=ok) (h.obj hp)
theorem RetNum.pure {ok:Nat→Prop} {q:Rat} {w w':World} {e:Ending} (h:RetNum q w e w'):∃ v,e=.returned v∧Below w.heap.size w w'∧RV (M0 fun b=>ok b∨w.heap.size≤b) w' (trA (.num q)) v:=by
 obtain ⟨A,c,rfl,h2⟩:=h
 exact ⟨_,rfl,h2,RV.ofObj (o:=ratO q) (.nil _ _)⟩
theorem p_rCons (a d:Ob):Puk 69 [obA a,obA d] (obA (consO a d)) :=
 pk_ooo (fnm Tryz.func69 rfl (by kernel_rfl)) fun ok A A' n c n' c' w _ h h'=>rCons_any ok a d A A' n n' c c' w h h'
theorem p_rEq {k:Nat} {a:Tr} (b:Tr) (ha:a.Ok k) (hk:k≤100000):Puk 50 [trA a,trA b] (boA (decide (a=b))) :=
 ⟨fnm Tryz.func50 rfl (by kernel_rfl),fun ok w vs ht hv=>by
  obtain ⟨A,n,c,A',n',c',rfl,hr,hr'⟩:=hv.two_obj
  exact (rEqual_any ok ok a.ob.size a.ob b.ob (Nat.le_refl _) (ha.wf hk) A A' n n' c c' w hr hr').mono fun e w' h=>(RetEq.iff Tr.ob_iff h).pure⟩
theorem p_rLessN {k:Nat} {a b:Tr} (ha:a.Ok k) (hb:b.Ok k) (h1:1≤k) (hk:k≤10000):Puk 154 [trA a,trA b] (boA (decide (a.val < b.val))) :=
 ⟨fnm Tryz.func154 rfl (by kernel_rfl),fun ok w vs ht hv=>by
  obtain ⟨A,n,c,A',n',c',rfl,hr,hr'⟩:=hv.two_obj
  have e1:=hr.len
  have e2:=hr'.len
  rw [List.length_map] at e1 e2
  exact (rLess_any a.ob b.ob a.val b.val a.val_ob b.val_ob (ha.val h1) (hb.val h1) hk hk A A' n n' c c' e1 e2 w ht.1).mono fun _ _=>RetBel.pure⟩
theorem p_rValid {k:Nat} {t:Tr} (h:t.Ok k) (hk:k≤100000):Puk 118 [trA t] (boA t.valid) :=
 pk_ov (fnm Tryz.func118 rfl (by kernel_rfl)) fun ok A n c w ht hr=>by
  rw [← Tr.validB_ob]
  exact rValid_any ok t.ob (h.wf hk) (h.sm hk) A n c w hr
theorem p_oInt (n:Int) (h0:-9223372036854775808≤n) (h1:n≤9223372036854775807):Puk 46 [inA n] (trA (.num n)) :=
 ⟨fnm Tryz.func46 rfl (by kernel_rfl),fun ok w vs ht hv=>by
  obtain rfl:=hv.one_val
  exact (oInt_any n w ht.1 h0 h1).mono fun _ _ h=>RetLeaf.pure (r:=(Tr.num n).ob) rfl (by
   show RetLeaf (ratO n) _ _ _
   rw [ratO_int]
   exact h)⟩
theorem p_rInt (n:Int) (h0:-9223372036854775808≤n) (h1:n≤9223372036854775807):Puk 12 [inA n] (trA (.num n)) :=
 ⟨fnm Tryz.func12 rfl (by kernel_rfl),fun ok w vs ht hv=>by
  obtain rfl:=hv.one_val
  exact (rInt_any n w ht.1 h0 h1).mono fun _ _ h=>RetLeaf.pure (r:=(Tr.num n).ob) rfl h⟩
theorem p_rIsCons (o:Ob) (hn:o.pair.length≤9223372036854775807):Puk 102 [obA o] (boA (decide (o.kind=4∧o.pair.length=2))) :=
 pk_ov (fnm Tryz.func102 rfl (by kernel_rfl)) fun ok A n c w _ hr=>by
  have e1:=hr.len
  rw [List.length_map] at e1
  rw [e1]
  exact rIsCons_any o A n c w (by omega)
end Go.Proofs.YthhknjlmjefklaaGreatDoor
namespace Go.Proofs.YthhknjlmjefklaaGreatDoor
open Go.RowKit
theorem strs_app (a b:List UInt8):(⟨a.toArray⟩:ByteArray)++⟨b.toArray⟩=⟨(a++b).toArray⟩:=by
 apply ByteArray.ext
 rw [ByteArray.data_append]
 simp
theorem bin_strs {P:Program} {t:TypeId} {x y:Operand} {a b:List UInt8} (h:a.length+b.length≤9223372036854775807):BinIs P .add t x y (str a) (str b) (str (a++b)):=by
 have:=bin_cat (P:=P) (t:=t) (x:=x) (y:=y) (a:=⟨a.toArray⟩) (b:=⟨b.toArray⟩) (by
  show ((a.toArray.size+b.toArray.size:Nat):Int)≤9223372036854775807
  simp only [List.size_toArray]
  omega)
 rw [strs_app] at this
 exact this
theorem toList_str (a:List UInt8):(⟨a.toArray⟩:ByteArray).toList=a:=by
 rw [Lib.toList_data]
theorem eqD {α:Type} [BEq α] [LawfulBEq α] [DecidableEq α] (a b:α):(a == b)=decide (a=b):=by
 by_cases h:a=b <;> simp [h]
theorem bin_seq {P:Program} {t:TypeId} {x y:Operand} {a b:List UInt8} {r:Bool} (h:decide (a=b)=r):BinIs P .eql t x y (str a) (str b) (.bool r):=by
 refine sbin_is ?_
 show some (Value.bool (a == b))=_
 rw [← h,eqD a b]
theorem bin_sne {P:Program} {t:TypeId} {x y:Operand} {a b:List UInt8} {r:Bool} (h:decide (a=b)=!r):BinIs P .neq t x y (str a) (str b) (.bool r):=by
 refine sbin_is ?_
 show some (Value.bool !(a == b))=_
 rw [eqD a b,h,Bool.not_not]
theorem bin_ieq {P:Program} {t:TypeId} {x y:Operand} {k:IntKind} {a b:Int} {r:Bool} (h:decide (a=b)=r):BinIs P .eql t x y (.int k a) (.int k b) (.bool r):=by
 refine sbin_is ?_
 simp only [sbin,decide_true]
 rw [eqD a b,h]
theorem bin_ilt {P:Program} {t:TypeId} {x y:Operand} {k:IntKind} {a b:Int} {r:Bool} (h:decide (a < b)=r):BinIs P .lss t x y (.int k a) (.int k b) (.bool r):=by
 refine sbin_is ?_
 simp only [sbin,decide_true]
 rw [h]
theorem bin_igt {P:Program} {t:TypeId} {x y:Operand} {k:IntKind} {a b:Int} {r:Bool} (h:decide (b < a)=r):BinIs P .gtr t x y (.int k a) (.int k b) (.bool r):=by
 refine sbin_is ?_
 simp only [sbin,decide_true,gt_iff_lt]
 rw [h]
theorem bin_ige {P:Program} {t:TypeId} {x y:Operand} {k:IntKind} {a b:Int} {r:Bool} (h:decide (b≤a)=r):BinIs P .geq t x y (.int k a) (.int k b) (.bool r):=by
 refine sbin_is ?_
 simp only [sbin,decide_true,ge_iff_le]
 rw [h]
theorem bin_iadd {P:Program} {t:TypeId} {x y:Operand} {a b c:Int} (h:a+b=c) (h0:-9223372036854775808≤c) (h1:c≤9223372036854775807):BinIs P .add t x y (.int .i64 a) (.int .i64 b) (.int .i64 c):=by
 refine sbin_is ?_
 simp only [sbin,decide_true]
 rw [h,show IntKind.i64.wrap c=c by rw [IntKind.wrap_i64];omega]
theorem bin_isub {P:Program} {t:TypeId} {x y:Operand} {a b c:Int} (h:a - b=c) (h0:-9223372036854775808≤c) (h1:c≤9223372036854775807):BinIs P .sub t x y (.int .i64 a) (.int .i64 b) (.int .i64 c):=by
 refine sbin_is ?_
 simp only [sbin,decide_true]
 rw [h,show IntKind.i64.wrap c=c by rw [IntKind.wrap_i64];omega]
theorem run_equal_bool {P:Program} {t:TypeId} (hu:P.underlying t=some .bool) (a b:Bool) (w:World):(Op.equal t (.bool a) (.bool b)).run P w=.ok (a == b) w:=by
 show (Op.equalIn (9999+1) t (.bool a) (.bool b)).run P w=_
 rw [Op.equalIn]
 simp only [Sem.run_bind,run_underlying hu,Result.andThen,Sem.run_pure]
theorem bin_beq {P:Program} {t:TypeId} {x y:Operand} {a b r:Bool} (hu:P.underlying t=some .bool) (h:(a == b)=r):BinIs P .eql t x y (.bool a) (.bool b) (.bool r):=by
 intro w
 rw [← h]
 have e:(Op.equal t (.bool a) (.bool b)).run P w=.ok (a == b) w:=run_equal_bool hu a b w
 simp only [eqGuard,binOp,Sem.run_bind,Result.andThen,Bool.not_true,Bool.false_eq_true,if_false,Sem.run_pure]
 rw [e]
 all_goals rfl
end Go.Proofs.YthhknjlmjefklaaGreatDoor
namespace Go.Proofs.YthhknjlmjefklaaGreatDoor
open Go.RowKit
namespace Ob
mutual
def eqb:Ob→Ob→Bool
 | ⟨k,n,d,p,s,t,l⟩,⟨k',n',d',p',s',t',l'⟩=>decide (k=k') && decide (n=n') && decide (d=d') && decide (p=p') && decide (s=s') && decide (t=t') && eqbs l l'
def eqbs:List Ob→List Ob→Bool
 | [],[]=>true
 | a::l,b::l'=>eqb a b && eqbs l l'
 | [],_::_=>false
 | _::_,[]=>false
end
mutual
theorem eqb_iff:∀ a b:Ob,eqb a b=true↔a=b
 | ⟨k,n,d,p,s,t,l⟩,⟨k',n',d',p',s',t',l'⟩=>by
  rw [eqb]
  simp only [Bool.and_eq_true,decide_eq_true_eq,eqbs_iff l l',Ob.mk.injEq,and_assoc]
theorem eqbs_iff:∀ a b:List Ob,eqbs a b=true↔a=b
 | [],[]=>by simp [eqbs]
 | a::l,b::l'=>by
  rw [eqbs]
  simp only [Bool.and_eq_true,eqb_iff a b,eqbs_iff l l',List.cons.injEq]
 | [],_::_=>by simp [eqbs]
 | _::_,[]=>by simp [eqbs]
end
end Ob
instance:DecidableEq Ob:=fun a b=>decidable_of_iff _ (Ob.eqb_iff a b)
abbrev sameD {α:Type} [DecidableEq α] (a b:α):Bool:=decide (a=b)
structure Te where
 kind:Int
 np:List UInt8
 nn:List UInt8
 val:Ob
 args:List Te
namespace Te
mutual
def enc:Te→List Dt
 | ⟨k,p,n,o,l⟩=>[.val (.int .i64 k),.val (str p),.val (str n),.val (.int .i64 o.kind),.val (str o.num),.val (str o.den),.val (str o.sp),.val (str o.sn),.val (str o.text),.row (o.pair.map Ob.enc),.row (encA l)]
def encA:List Te→List (List Dt)
 | []=>[]
 | t::r=>enc t::encA r
end
mutual
def size:Te→Nat
 | ⟨_,_,_,_,l⟩=>sizeA l+1
def sizeA:List Te→Nat
 | []=>0
 | t::r=>size t+sizeA r
end
mutual
def eqb:Te→Te→Bool
 | ⟨k,p,n,o,l⟩,⟨k',p',n',o',l'⟩=>decide (k=k') && decide (p=p') && decide (n=n') && decide (o=o') && eqbs l l'
def eqbs:List Te→List Te→Bool
 | [],[]=>true
 | a::l,b::l'=>eqb a b && eqbs l l'
 | [],_::_=>false
 | _::_,[]=>false
end
mutual
theorem eqb_iff:∀ a b:Te,eqb a b=true↔a=b
 | ⟨k,p,n,o,l⟩,⟨k',p',n',o',l'⟩=>by
  rw [eqb]
  simp only [Bool.and_eq_true,decide_eq_true_eq,eqbs_iff l l',Te.mk.injEq,and_assoc]
theorem eqbs_iff:∀ a b:List Te,eqbs a b=true↔a=b
 | [],[]=>by simp [eqbs]
 | a::l,b::l'=>by
  rw [eqbs]
  simp only [Bool.and_eq_true,eqb_iff a b,eqbs_iff l l',List.cons.injEq]
 | [],_::_=>by simp [eqbs]
 | _::_,[]=>by simp [eqbs]
end
instance:DecidableEq Te:=fun a b=>decidable_of_iff _ (eqb_iff a b)
theorem encA_map (l:List Te):encA l=l.map enc:=by
 induction l with
 | nil=>rfl
 | cons t r ih=>rw [encA,ih];rfl
theorem size_pos (t:Te):0 < t.size:=by cases t;rw [size];omega
theorem sizeA_mem {l:List Te} {t:Te} (h:t∈l):t.size≤sizeA l:=by
 induction l with
 | nil=>cases h
 | cons x r ih =>
  rw [sizeA]
  rcases List.mem_cons.1 h with rfl | h
  ·omega
  ·have:=ih h;omega
theorem size_args {t x:Te} (h:x∈t.args):x.size < t.size:=by
 obtain ⟨k,p,n,o,l⟩:=t
 rw [size]
 have:=sizeA_mem (l:=l) h
 omega
inductive Wf:Te→Prop
 | mk (t:Te) (hv:t.val.Wf) (hl:t.args.length≤9223372036854775807) (h:∀ x∈t.args,Wf x):Wf t
end Te
abbrev encT (t:Te):List Dt:=[.val (.int .i64 t.kind),.val (str t.np),.val (str t.nn),.val (.int .i64 t.val.kind),.val (str t.val.num),.val (str t.val.den),.val (str t.val.sp),.val (str t.val.sn),.val (str t.val.text),.row (t.val.pair.map Ob.enc),.row (t.args.map Te.enc)]
theorem enc_T (t:Te):t.enc=encT t:=by
 obtain ⟨k,p,n,o,l⟩:=t
 rw [Te.enc,Te.encA_map]
abbrev teA (t:Te):AV:=.agg [inA t.kind,stA t.np,stA t.nn,inA t.val.kind,stA t.val.num,stA t.val.den,stA t.val.sp,stA t.val.sn,stA t.val.text,.dt (.row (t.val.pair.map Ob.enc)),.dt (.row (t.args.map Te.enc))]
abbrev tesA (l:List Te):AV:=.dt (.row (l.map Te.enc))
theorem ix_te {l:List Te} {i:Nat} {t:Te} (h:l[i]?=some t):IxAt (l.map Te.enc) (i:Int) 11 (encT t):=⟨Int.natCast_nonneg _,by
 rw [Int.toNat_natCast,List.getElem?_map,h]
 exact congrArg some (enc_T t),rfl⟩
theorem lenEncT (l:List Te):Value.int .i64 (l.length:Int)=Value.int .i64 ((l.map Te.enc).length:Int):=by rw [List.length_map]
abbrev encC (c:List Te):List Dt:=[.row (c.map Te.enc)]
abbrev clsA (l:List (List Te)):AV:=.dt (.row (l.map encC))
end Go.Proofs.YthhknjlmjefklaaGreatDoor
namespace Go.Proofs.YthhknjlmjefklaaGreatDoor
open Go.RowKit
namespace Te
abbrev zOb:Ob:=⟨0,[],[],[],[],[],[]⟩
abbrev zTe:Te:=⟨0,[],[],zOb,[]⟩
def ap (n:List UInt8) (l:List Te):Te:=⟨3,lispB,n,zOb,l⟩
abbrev is (t:Te) (n:List UInt8) (k:Nat):Prop:=t.kind=3∧t.np=lispB∧t.nn=n∧t.args.length=k
abbrev notB:List UInt8:=[110,111,116]
abbrev ifB:List UInt8:=[105,102]
def con (o:Ob):Te:=⟨2,[],[],o,[]⟩
abbrev yesT:Te:=con tO
abbrev noT:Te:=con nilO
abbrev arg (t:Te) (i:Nat):Te:=t.args.getD i zTe
def neg (t:Te):Te:=if is t notB 1 then t.arg 0 else ap notB [t]
end Te
open Te
def addN (out:List Te):List Te→List Te
 | []=>out
 | t::r=>addN (if t∈out then out else out++[t]) r
end Go.Proofs.YthhknjlmjefklaaGreatDoor
namespace Go.Proofs.YthhknjlmjefklaaGreatDoor
open Go.RowKit
namespace Te
mutual
def nods:Te→Nat
 | ⟨k,_,_,o,l⟩=>if k=2 then o.nodes else if k=3 then nodsL l+1 else 1
def nodsL:List Te→Nat
 | []=>0
 | x::r=>nods x+nodsL r
end
mutual
def dep:Te→Nat
 | ⟨k,_,_,_,l⟩=>if k=3 then depL l+1 else 1
def depL:List Te→Nat
 | []=>0
 | x::r=>max (dep x) (depL r)
end
mutual
def cnt:Te→Int→Int
 | ⟨k,_,_,o,l⟩,m=>if k=2 then min m (nodesP o) else if k=3 then cntL l m 1 else 1
def cntL:List Te→Int→Int→Int
 | [],_,n=>n
 | x::r,m,n=>if n < m then cntL r m (n+cnt x (m - n)) else n
end
mutual
def dee:Te→Int→Int
 | ⟨k,_,_,_,l⟩,m=>if k=3 then deeL l m 0+1 else 1
def deeL:List Te→Int→Int→Int
 | [],_,d=>d
 | x::r,m,d=>if 1 < m then deeL r m (max d (dee x (m - 1))) else d
end
theorem nodesP_min (o:Ob):nodesP o=((min o.nodes 3001:Nat):Int):=by unfold nodesP;split <;> omega
theorem dep_pos (t:Te):1≤t.dep:=by obtain ⟨k,p,n,o,l⟩:=t;rw [dep];split <;> omega
mutual
theorem cnt_law:∀ (t:Te) (m:Int),1≤m→m≤3001→cnt t m=min m (nods t)
 | ⟨k,p,n,o,l⟩,m,h1,h2=>by
  rw [cnt,nods,nodesP_min]
  by_cases h:k=2
  ·rw [if_pos h,if_pos h];omega
  rw [if_neg h,if_neg h]
  by_cases h:k=3
  ·rw [if_pos h,if_pos h]
   have:=cntL_law l m 1 (by omega) (by omega) (by omega)
   omega
  ·rw [if_neg h,if_neg h];omega
theorem cntL_law:∀ (l:List Te) (m n:Int),1≤n→n≤m→m≤3001→cntL l m n=min m (n+nodsL l)
 | [],m,n,h1,h2,h3=>by rw [cntL,nodsL];omega
 | x::r,m,n,h1,h2,h3=>by
  rw [cntL,nodsL]
  by_cases h:n < m
  ·rw [if_pos h]
   have a:=cnt_law x (m - n) (by omega) (by omega)
   have b:=cntL_law r m (n+cnt x (m - n)) (by omega) (by omega) h3
   omega
  ·rw [if_neg h];omega
end
mutual
theorem dee_law:∀ (t:Te) (m:Int),1≤m→dee t m=min m (dep t)
 | ⟨k,p,n,o,l⟩,m,h1=>by
  rw [dee,dep]
  by_cases h:k=3
  ·rw [if_pos h,if_pos h]
   have:=deeL_law l m 0 h1 (by omega) (by omega)
   omega
  ·rw [if_neg h,if_neg h];omega
theorem deeL_law:∀ (l:List Te) (m d:Int),1≤m→0≤d→d≤m - 1→deeL l m d=min (m - 1) (max d (depL l))
 | [],m,d,h1,h2,h3=>by rw [deeL,depL];omega
 | x::r,m,d,h1,h2,h3=>by
  rw [deeL,depL]
  by_cases h:1 < m
  ·rw [if_pos h]
   have a:=dee_law x (m - 1) (by omega)
   have b:=deeL_law r m (max d (dee x (m - 1))) h1 (by omega) (by omega)
   omega
  ·rw [if_neg h]
   omega
end
def varB (p n:List UInt8):Bool:=symOk ⟨p,n⟩ && !(decide (p=lispB) && decide (n=nilB)) && !(decide (p=lispB) && decide (n=[116]))
mutual
def frm:Te→Bool
 | ⟨k,p,n,o,l⟩ =>
  if k=1 then varB p n && decide (o=zOb) && decide (l.length=0)
  else if k=2 then (decide (p=[]) && decide (n=[])) && o.validB && decide (l.length=0)
  else if k=3 then symOk ⟨p,n⟩ && decide (o=zOb) && decide (l.length≤8) && frmL l
  else false
def frmL:List Te→Bool
 | []=>true
 | x::r=>frm x && frmL r
end
def valid (t:Te):Bool:=decide (t.nods≤3000) && decide (t.dep≤200) && t.frm
inductive Bd:Te→Prop
 | mk (t:Te) (hv:t.val.Wf) (hs:t.val.Sm) (hp:t.np.length≤9223372036854775807) (hn:t.nn.length≤9223372036854775807) (hl:t.args.length≤9223372036854775807) (h:∀ x∈t.args,Bd x):Bd t
theorem Bd.parts {t:Te} (h:t.Bd):t.val.Wf∧t.val.Sm∧t.np.length≤9223372036854775807∧t.nn.length≤9223372036854775807∧t.args.length≤9223372036854775807:=by cases h with | mk _ hv hs hp hn hl hh=>exact ⟨hv,hs,hp,hn,hl⟩
theorem Bd.kids {t x:Te} (h:t.Bd) (hx:x∈t.args):x.Bd:=by cases h with | mk _ hv hs hp hn hl hh=>exact hh x hx
end Te
end Go.Proofs.YthhknjlmjefklaaGreatDoor
