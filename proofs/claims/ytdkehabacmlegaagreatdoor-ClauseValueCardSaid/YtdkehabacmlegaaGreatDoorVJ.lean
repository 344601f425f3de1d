/- Plain walks, second form: what an operation looks at; regions in any order. -/
import Derived.Test.YtdkehabacmlegaaGreatDoorVI
import Derived.Scope
import Derived.Deep.LoopGhost
namespace Go.Proofs.YtdkehabacmlegaaGreatDoor
open Go.RowKit
theorem a0V{E:En}{op:Op}{ρ ρ':Operand→AV}{an:List An}(h:∀x∈op.operands.toList,ρ x=ρ' x):aa E op ρ an=aa E op ρ' an:=by
 have hop:∀x:Option Operand,(∀y,x=some y→ρ y=ρ' y)→nV ρ x=nV ρ' x:=fun x hx=>by
  cases x with
  |none=>rfl
  |some y=>simp only[nV,hx y rfl]
 cases op with
 |move x=>have h1:=h x (by simp[Op.operands]);simp only[aa,h1]
 |assign x=>have h1:=h x (by simp[Op.operands]);simp only[aa,h1]
 |nilCheck x=>have h1:=h x (by simp[Op.operands]);simp only[aa,h1]
 |pick c x y =>
  have h1:=h c (by simp[Op.operands]);have h2:=h x (by simp[Op.operands]);have h3:=h y (by simp[Op.operands])
  simp only[aa,h1,h2,h3]
 |alloc t=>rfl
 |box t x=>have h1:=h x (by simp[Op.operands]);simp only[aa,h1]
 |load t x=>have h1:=h x (by simp[Op.operands]);simp only[aa,h1]
 |store t x y=>have h1:=h x (by simp[Op.operands]);have h2:=h y (by simp[Op.operands]);simp only[aa,h1,h2]
 |build t ps =>
  have e:(ps.toList.map fun x=>(x.1,ρ x.2))=ps.toList.map fun x=>(x.1,ρ' x.2):=List.map_congr_left fun x hx=>by
   rw[h x.2 (by simp only[Op.operands,List.mem_map];exact⟨x,hx,rfl⟩)]
  simp only[aa,e]
 |buildSlice t len ps =>
  have e:(ps.toList.map fun x=>(x.1,ρ x.2))=ps.toList.map fun x=>(x.1,ρ' x.2):=List.map_congr_left fun x hx=>by
   rw[h x.2 (by simp only[Op.operands,List.mem_map];exact⟨x,hx,rfl⟩)]
  simp only[aa,e]
 |fieldAddr t x f=>have h1:=h x (by simp[Op.operands]);simp only[aa,h1]
 |field t x f=>have h1:=h x (by simp[Op.operands]);simp only[aa,h1]
 |indexAddr t x i=>have h1:=h x (by simp[Op.operands]);have h2:=h i (by simp[Op.operands]);simp only[aa,h1,h2]
 |index t x i=>have h1:=h x (by simp[Op.operands]);have h2:=h i (by simp[Op.operands]);simp only[aa,h1,h2]
 |binOp op t x y yt=>have h1:=h x (by simp[Op.operands]);have h2:=h y (by simp[Op.operands]);simp only[aa,h1,h2]
 |unOp op t x=>have h1:=h x (by simp[Op.operands]);simp only[aa,h1]
 |extract x i=>have h1:=h x (by simp[Op.operands]);simp only[aa,h1]
 |convert s d x=>have h1:=h x (by simp[Op.operands]);simp only[aa,h1]
 |makeFunc fn first aI =>
  have e:aI.toList.map ρ=aI.toList.map ρ':=List.map_congr_left fun x hx=>h x (by simp[Op.operands];right;simpa using hx)
  obtain⟨fl⟩:=first
  cases fn <;> cases fl <;> first | rfl | simp only[aa,e]
 |makeMap t r=>cases r <;> rfl
 |mapUpdate t m x y=>have h1:=h m (by simp[Op.operands]);have h2:=h x (by simp[Op.operands]);have h3:=h y (by simp[Op.operands]);simp only[aa,h1,h2,h3]
 |insert t m x y=>have h1:=h m (by simp[Op.operands]);have h2:=h x (by simp[Op.operands]);have h3:=h y (by simp[Op.operands]);simp only[aa,h1,h2,h3]
 |lookup t m x ok=>have h1:=h m (by simp[Op.operands]);have h2:=h x (by simp[Op.operands]);simp only[aa,h1,h2]
 |makeSlice t x y=>have h1:=h x (by simp[Op.operands]);have h2:=h y (by simp[Op.operands]);simp only[aa,h1,h2]
 |slice t x lo hi mx =>
  have h1:=h x (by simp[Op.operands]);have h2:=hop lo fun y e=>h y (by subst e;simp[Op.operands])
  have h3:=hop hi fun y e=>h y (by subst e;simp[Op.operands])
  have h4:=hop mx fun y e=>h y (by subst e;simp[Op.operands])
  simp only[aa,h1,h2,h3,h4]
 |call c =>
  obtain⟨callee,args,ts⟩:=c;have ha:∀x∈args.toList,ρ x=ρ' x:=fun x hx=>h x (by simp[Op.operands,Call.operands];right;simpa using hx)
  cases callee with
  |value x =>
   have h1:=h x (by simp[Op.operands,Call.operands]);have e:args.toList.map ρ=args.toList.map ρ':=List.map_congr_left ha;simp only[aa,wQ,h1,e]
  |invoke x s=>rfl
  |builtin b =>
   simp only[aa];unfold wQ;split <;> first | rfl | skip
   all_goals (rename_i heq;try cases heq)
   ·rename_i x t ts;have h1:=ha x I;simp only[h1]
   ·rename_i x y;have h1:=ha x I;have h2:=ha y I;simp only[h1,h2]
   ·rename_i x y;have h1:=ha x I;have h2:=ha y I;simp only[h1,h2]
   ·rename_i x y t t';have h1:=ha x I;have h2:=ha y I;simp only[h1,h2]
 |_=>rfl
mutual
theorem a0W{bx bx':Nat→Option Bx}{rec xY:List AV→Option (List AV×List Prop)}{aH xw:List AV→List Nat}(hrec:∀cs,(∀b∈aH cs,bx b=bx' b)→rec cs=xY cs∧aH cs=xw cs):∀(a:AV) (js:List Nat) (kn:Bool),(∀b∈ax js bx aH a,bx b=bx' b) →
  aj js kn bx rec a=aj js kn bx' xY a∧ax js bx aH a=ax js bx' xw a
 |.own b n,js,kn,h=>by
  simp only[aj,ax]at h ⊢
  cases hi:Z0 b js 0 with
  |some i=>first | exact⟨rfl,rfl⟩ | exact⟨rfl,Z⟩
  |none=>rw[hi]at h;rw[h b (List.mem_singleton.2 rfl)];first | exact⟨rfl,rfl⟩ | exact⟨rfl,Z⟩
 |.sl b n,js,kn,h=>by
  simp only[aj,ax]at h ⊢
  cases hi:Z0 b js 0 with
  |some i=>first | exact⟨rfl,rfl⟩ | exact⟨rfl,Z⟩
  |none=>rw[hi]at h;rw[h b (List.mem_singleton.2 rfl)];first | exact⟨rfl,rfl⟩ | exact⟨rfl,Z⟩
 |.ptr b off,js,kn,h=>by
  simp only[aj,ax]at h ⊢
  cases hi:Z0 b js 0 with
  |some i=>exact⟨rfl,rfl⟩
  |none =>
   rw[hi]at h;simp only at h ⊢;have hb:bx b=bx' b:=h b (by split <;> simp);rw[←hb];cases hx:bx b with
   |none=>exact⟨rfl,rfl⟩
   |some x =>
    rw[hx]at h;cases x with
    |cells cs =>
     obtain⟨h1,h2⟩:=hrec cs fun q hq=>h q (List.mem_cons_of_mem _ hq)
     simp only[h1,h2,and_self]
    |_=>exact⟨rfl,rfl⟩
 |.agg cs,js,kn,h=>by
  obtain⟨h1,h2⟩:=lq hrec cs js kn h;simp only[aj,ax,h1,h2,and_self]
 |.l7 cs,js,kn,h=>by
  obtain⟨h1,h2⟩:=lq hrec cs js kn h;simp only[aj,ax,h1,h2,and_self]
 |.bK f cs,[],kn,h=>by
  obtain⟨h1,h2⟩:=lq hrec cs [] false h;simp only[aj,ax,h1,h2,and_self]
 |.bK f cs,j::js,kn,h=>by
  obtain⟨h1,h2⟩:=lq hrec cs (j::js) kn h;simp only[aj,ax,h1,h2,and_self]
 |.dt _,_,_,_=>⟨rfl,rfl⟩
 |.nil,_,_,_=>⟨rfl,rfl⟩
 |.X8 _,_,_,_=>⟨rfl,rfl⟩
 |.O5 _,_,_,_=>⟨rfl,rfl⟩
 |.bI _ _ _,_,_,_=>⟨rfl,rfl⟩
 |.gl _ _,_,_,_=>⟨rfl,rfl⟩
 |.pin _,_,_,_=>⟨rfl,rfl⟩
 |.Z6 _ _,_,_,_=>⟨rfl,rfl⟩
 |.un,_,_,_=>⟨rfl,rfl⟩
theorem lq{bx bx':Nat→Option Bx}{rec xY:List AV→Option (List AV×List Prop)}{aH xw:List AV→List Nat}(hrec:∀cs,(∀b∈aH cs,bx b=bx' b)→rec cs=xY cs∧aH cs=xw cs):∀(cs:List AV) (js:List Nat) (kn:Bool),(∀b∈di js bx aH cs,bx b=bx' b) →
  eP js kn bx rec cs=eP js kn bx' xY cs∧di js bx aH cs=di js bx' xw cs
 |[],_,_,_=>⟨rfl,rfl⟩
 |c::cs,js,kn,h=>by
  simp only[di]at h;obtain⟨h1,h2⟩:=a0W hrec c js kn fun b hb=>h b (List.mem_append_left _ hb)
  obtain⟨h3,h4⟩:=lq hrec cs js kn fun b hb=>h b (List.mem_append_right _ hb)
  simp only[eP,di,h1,h2,h3,h4,and_self]
end
theorem wm{bx bx':Nat→Option Bx}:∀(n:Nat) (cs:List AV),(∀b∈gm bx n cs,bx b=bx' b)→cK bx n cs=cK bx' n cs∧gm bx n cs=gm bx' n cs
 |0,_,_=>⟨rfl,rfl⟩
 |n+1,cs,h=>lq (wm n) cs [] false h
section
variable {E:En} {bx bx':Nat→Option Bx}
theorem fO{js:List Nat}{kn:Bool}{cs:List AV}(h:∀b∈J3 js bx cs,bx b=bx' b):aN js kn bx cs=aN js kn bx' cs∧J3 js bx cs=J3 js bx' cs:=lq (wm 1) cs js kn h
theorem a5F{cs:List AV}(h:∀b∈Kt bx cs,bx b=bx' b):Db bx cs=Db bx' cs:=(lq (wm 4) cs [] false h).1
theorem sP{js:List Nat}{kn:Bool}{cs:List AV}{r:List AV×List Prop}(h:∀b∈J3 js bx cs,bx b=bx' b)(hc:aN js kn bx cs=some r):M8 bx (J3 js bx cs)=M8 bx' (J3 js bx cs):=by
 have hst:∀b∈J3 js bx cs,uD (fun _=>True) bx (cK bx 1) (gm bx 1) (·∈J3 js bx cs) b :=
  nL (fun _ _ _=>⟨trivial,Z⟩) (Nc fun _ _ _=>⟨trivial,Z⟩) cs js kn r.1 r.2 hc trivial fun b hb=>hb
 generalize J3 js bx cs=bs at *;have gen:∀l:List Nat,(∀b∈l,b∈bs)→M8 bx l=M8 bx' l:=by
  intro l
  induction l with
  |nil=>intro _;rfl
  |cons b l ih =>
   intro hl;have hb:=hl b (List.mem_cons_self ..);have ih':=ih fun q hq=>hl q (List.mem_cons_of_mem _ hq)
   have e:=h b hb;simp only[M8,←e,ih'];cases hx:bx b with
   |none=>rfl
   |some x =>
    have:jA bx x=jA bx' x:=by
     cases x with
     |cells c0 =>
      obtain⟨r',_,_,h3⟩:=(hst b hb).2 c0 hx;have:=(wm 1 c0 fun q hq=>h q (h3 q hq)).1;have e2:cK bx lN c0=cK bx' lN c0:=this;simp only[jA,e2]
     |_=>rfl
    simp only[this]
 exact gen bs fun b hb=>hb
theorem ZH{x:AV}(h:∀b∈(match x with | .own b _=>[b] | .sl b _=>[b] | _=>([]:List Nat)),bx b=bx' b):qx bx x=qx bx' x:=by
 cases x with
 |own b n=>simp only[qx,h b (List.mem_singleton.2 rfl)]
 |sl b n=>simp only[qx,h b (List.mem_singleton.2 rfl)]
 |dt d =>
  cases d with
  |row xs=>rfl
  |val v =>
   cases v with
   |slice A n c=>cases n <;> rfl
   |_=>rfl
 |_=>rfl
theorem a2V{act:G8}{k:Nat}(h:∀b∈act.bt bx k,bx b=bx' b):act.run E bx k=act.run E bx' k:=by
 have one:∀{b:Nat},act.bt bx k=[b]→bx b=bx' b:=fun e=>h _ (by rw[e];exact List.mem_singleton.2 rfl)
 cases act with
 |load b off n ag=>simp only[G8.run,one rfl]
 |uh b i k' ds ag=>simp only[G8.run,one rfl]
 |store b off vs=>simp only[G8.run,one rfl]
 |ins b kt key v=>simp only[G8.run,one rfl]
 |look b kt key z ok r=>simp only[G8.run,one rfl]
 |uj b kt key ok i v=>simp only[G8.run,one rfl]
 |ql b i k' vs =>
  have hb:bx b=bx' b:=h b (List.mem_cons_self ..);have ho:∀q∈J3 [] bx vs,bx q=bx' q:=fun q hq=>h q (List.mem_cons_of_mem _ hq)
  obtain⟨h1,h2⟩:=fO (kn:=false) ho;simp only[G8.run,←hb,←h1,←h2];cases hc:aN [] false bx vs with
  |none =>
   cases hbx:bx b with
   |none=>rfl
   |some x=>cases x with
    |rws e k2 es=>simp only;cases (k'.beq k2 && vs.all AV.one && vs.length.beq k') <;> rfl
    |_=>rfl
  |some r=>simp only[sP ho hc]
 |mk e sz len cs =>
  have ho:∀q∈J3 [] bx cs,bx q=bx' q:=h;obtain⟨h1,h2⟩:=fO (kn:=false) ho;simp only[G8.run,←h1,←h2];cases hc:aN [] false bx cs with
  |none=>rfl
  |some r=>simp only[sP ho hc]
 |app e kk bytes s x c =>
  have hs:=ZH (bx:=bx) (bx':=bx') (x:=x) fun b hb=>h b (List.mem_append_right _ hb)
  simp only[G8.run,←hs];cases s with
  |own b n=>simp only[h b (List.mem_append_left _ (List.mem_singleton.2 rfl))]
  |_=>rfl
 |idx x i sz r =>
  have ho:∀q∈J3 [] bx [x],bx q=bx' q:=h;obtain⟨h1,h2⟩:=fO (kn:=false) ho;simp only[G8.run,←h1,←h2];cases hc:aN [] false bx [x] with
  |none=>rfl
  |some r=>simp only[sP ho hc]
 |oK x sz lo hi mx r =>
  have ho:∀q∈J3 [] bx [x],bx q=bx' q:=h;obtain⟨h1,h2⟩:=fO (kn:=false) ho;simp only[G8.run,←h1,←h2];cases hc:aN [] false bx [x] with
  |none=>rfl
  |some r=>simp only[sP ho hc]
 |qW x l =>
  have ho:∀q∈J3 [] bx [x],bx q=bx' q:=h;obtain⟨h1,_⟩:=fO (kn:=false) ho;simp only[G8.run,←h1]
 |call f args aI r =>
  cases hs:r.dW with
  |true =>
   have ho:∀q∈Kt bx args,bx q=bx' q:=fun q hq=>h q (by simp only[G8.bt,hs];exact hq)
   simp only[G8.run,hs,←a5F ho]
  |false =>
   have ho:∀q∈J3 [] bx args,bx q=bx' q:=fun q hq=>h q (by simp only[G8.bt,hs];exact hq)
   obtain⟨h1,h2⟩:=fO (kn:=false) ho;simp only[G8.run,hs,←h1,←h2];cases hc:aN [] false bx args with
   |none=>rfl
   |some r=>simp only[sP ho hc]
 |_=>rfl
theorem sQ{bs:List Nat}{b:Nat}{x:Bx}(h:(b,x)∈M8 bx bs):b∈bs:=(iJ h).1
theorem a2W{act:G8}{k:Nat}{r:AV}{ups:List (Nat×Bx)}{ps:List Prop}(h:act.run E bx k=some (r,ups,ps)):∀b x,(b,x)∈ups→b∈act.bt bx k:=by
 intro b x hb;cases act with
 |val v=>cases h;cases hb
 |prop v qs=>cases h;cases hb
 |load b' off n ag =>
  simp only[G8.run]at h;split at h
  ·split at h <;> cases h;cases hb
  ·split at h <;> cases h;cases hb
  ·cases h
 |uh b' i k' ds ag =>
  simp only[G8.run]at h;split at h
  ·split at h <;> cases h;cases hb
  ·cases h
 |store b' off vs =>
  simp only[G8.run]at h;split at h
  ·split at h
   ·cases h;simp only[List.mem_singleton,Prod.mk.injEq]at hb;exact List.mem_singleton.2 hb.1
   ·cases h
  ·cases h
 |ql b' i k' vs =>
  simp only[G8.run]at h;split at h
  ·split at h
   ·split at h
    ·cases h;rcases List.mem_append.1 hb with hb | hb
     ·exact List.mem_cons_of_mem _ (sQ hb)
     ·simp only[List.mem_singleton,Prod.mk.injEq]at hb;rw[hb.1];exact List.mem_cons_self ..
    ·cases h
   ·cases h
  ·cases h
 |alloc t cs =>
  simp only[G8.run]at h;split at h
  ·cases h;simp only[List.mem_singleton,Prod.mk.injEq]at hb;exact List.mem_singleton.2 hb.1
  ·cases h
 |mk e sz len cs =>
  simp only[G8.run]at h;split at h
  ·split at h
   ·cases h;exact sQ hb
   ·cases h
  ·cases h
 |qU e kk bytes c=>cases h;simp only[List.mem_singleton,Prod.mk.injEq]at hb;exact List.mem_singleton.2 hb.1
 |qV e kk bytes n z l c=>cases h;simp only[List.mem_singleton,Prod.mk.injEq]at hb;exact List.mem_singleton.2 hb.1
 |app e kk bytes s x' c =>
  simp only[G8.run]at h;split at h
  ·split at h
   ·split at h
    ·cases h;simp only[List.mem_singleton,Prod.mk.injEq]at hb;exact List.mem_append_left _ (List.mem_singleton.2 hb.1)
    ·cases h
   ·split at h
    ·split at h
     ·cases h;simp only[List.mem_singleton,Prod.mk.injEq]at hb;exact List.mem_append_left _ (List.mem_singleton.2 hb.1)
     ·cases h
    ·cases h
   ·split at h
    ·cases h;simp only[List.mem_singleton,Prod.mk.injEq]at hb;exact List.mem_append_left _ (List.mem_singleton.2 hb.1)
    ·cases h
   ·cases h
  ·cases h
 |idx x' i sz rr =>
  simp only[G8.run]at h;split at h
  ·split at h
   ·cases h;exact sQ hb
   ·split at h
    ·split at h
     ·cases h;exact sQ hb
     ·cases h
    ·cases h
  ·cases h
 |oK x' sz lo hi mx rr =>
  simp only[G8.run]at h;split at h
  ·split at h <;> (cases h;exact sQ hb)
  ·cases h
 |qW x' l =>
  simp only[G8.run]at h;split at h
  ·cases h;cases hb
  ·cases h
 |call f args aI r' =>
  simp only[G8.run]at h;split at h
  ·split at h
   ·cases h;cases hb
   ·cases h
  ·rename_i hs;split at h
   ·cases h;simp only[G8.bt,hs];exact sQ hb
   ·cases h
 |uF=>cases h;simp only[List.mem_singleton,Prod.mk.injEq]at hb;exact List.mem_singleton.2 hb.1
 |ui=>cases h;simp only[List.mem_singleton,Prod.mk.injEq]at hb;exact List.mem_singleton.2 hb.1
 |ins b' kt key v =>
  simp only[G8.run]at h;split at h
  ·cases h;simp only[List.mem_singleton,Prod.mk.injEq]at hb;exact List.mem_singleton.2 hb.1
  ·split at h
   ·split at h
    ·cases h;simp only[List.mem_singleton,Prod.mk.injEq]at hb;exact List.mem_singleton.2 hb.1
    ·cases h
   ·cases h
  ·cases h
 |uj b' kt key ok i v =>
  simp only[G8.run]at h;split at h
  ·cases h;cases hb
  ·split at h
   ·split at h
    ·cases h;cases hb
    ·cases h
   ·cases h
  ·cases h
 |look b' kt key z ok rr =>
  simp only[G8.run]at h;split at h
  ·split at h
   ·cases h
   ·cases h;cases hb
  ·split at h
   ·split at h <;> cases h;cases hb
   ·cases h;cases hb
  ·cases h
theorem a2X{act:G8}{k:Nat}:∀q∈act.news k,q∈act.bt bx k:=by
 intro q hq;cases act with
 |app e kk bytes s x c =>
  cases s with
  |nil=>exact List.mem_append_left _ hq
  |X8 _=>exact List.mem_append_left _ hq
  |_=>cases hq
 |alloc _ _=>exact hq
 |qU _ _ _ _=>exact hq
 |qV _ _ _ _ _ _ _=>exact hq
 |uF=>exact hq
 |ui=>exact hq
 |_=>cases hq
end
def iN(ops:Array Oper)(tm:Nat→AV)(o:Oper):Option Bool:=match o.guard with
 |none=>some true
 |some (g,b)=>match (ops[g]?).bind (·.dst) with
  |none=>none
  |some d=>match tm d with
   |.dt (.val (.bool c))=>some (c == b)
   |.dt (.val (.tuple _))=>some false
   |_=>none
theorem Aw{X:Nat→Prop}{n0:Nat}{w0:World×Mm}{ok0:Nat→Prop}{M:Mm}{nt:Nat}{tm:Nat→AV}{bx:Nat→Option Bx}{a:Act}{w:World}{ops:Array Oper}{o:Oper}{c:Bool}(hI:Inv X n0 w0 ok0 M nt tm bx a w)(h:iN ops tm o=some c):Region.wanted o (yielded ops a.tmps)=c:=by
 unfold iN at h;unfold Region.wanted;cases hg:o.guard with
 |none=>rw[hg]at h;cases h;rfl
 |some x =>
  obtain⟨g,b⟩:=x;rw[hg]at h;simp only at h ⊢;unfold yielded;cases hd:(ops[g]?).bind (·.dst) with
  |none=>rw[hd]at h;cases h
  |some d =>
   rw[hd]at h;simp only[Option.bind_some]at h ⊢
   have hv:=hI.tmps d;split at h
   ·rename_i c' hc;cases h;rw[hc]at hv;have hv':a.tmps.getD d undef=.bool c':=Rd.Q9 hv;have:a.tmps[d]?=some (.bool c'):=by
     cases ht:a.tmps[d]? with
     |none=>simp[Array.getD_eq_getD_getElem?,ht,undef]at hv'
     |some u=>simp[Array.getD_eq_getD_getElem?,ht]at hv';rw[hv']
    rw[this];cases c' <;> cases b <;> rfl
   ·rename_i us hc;cases h;rw[hc]at hv;have hv':a.tmps.getD d undef=.tuple us:=Rd.Q9 hv;cases ht:a.tmps[d]? with
    |none=>rfl
    |some u=>simp[Array.getD_eq_getD_getElem?,ht]at hv';rw[hv'];rfl
   ·cases h
structure Fp where
 rt:List Nat
 wt:Option Nat
 bt:List Nat
 bw:Bool
 all:Bool
structure Stp (E:En) (ops:Array Oper) (nt:Nat) (o:Oper) (tm:Nat→AV) (bx:Nat→Option Bx) (tm':Nat→AV) (bx':Nat→Option Bx) (f:Fp):Prop where
 rt:∀t∈o.looksAt ops,t∈f.rt
 wt:f.wt=o.dst
 lt:∀t,o.dst=some t→t < nt
 go:(iN ops tm o=some false∧tm'=O6 tm o.dst (.dt (.val undef))∧bx'=bx) ∨
  (iN ops tm o=some true∧∃act an I8 k r ups ps,aa E o.op (G6 tm) an=some (act,I8)∧act.run E bx k=some (r,ups,ps)∧J4 ps∧(∀q∈act.news k,bx q=none)∧tm'=O6 tm o.dst r∧bx'=H9 bx ups∧(∀b∈act.bt bx k,b∈f.bt)∧(ups≠[]→f.bw=true)) ∨
  (f.all=true∧(∀t,o.dst≠some t→tm' t=tm t)∧(∀b,¬(b∈f.bt∧f.bw=true)→bx' b=bx b) ∧
   ∀(X:Nat→Prop) (n0:Nat) (w0:World×Mm) (ok0:Nat→Prop) (Q:Exit→Act→World→Prop) (i:Nat) (a:Act) (w:World) (K:Act→World→Prop),ops[i]?=some o→(∀w,V3 X n0 w0.1 w→E.G w)→Left X n0 w0 ok0 nt tm bx a w→(∀a w,Left X n0 w0 ok0 nt tm' bx' a w→K a w)→wpOp E.P ops Q i K a w) ∨
  (∃r,tm'=O6 tm o.dst r∧(∀b,¬(b∈f.bt∧f.bw=true)→bx' b=bx b) ∧
   ∀(fF:Nat→AV) (cZ:Nat→Option Bx),(∀t∈f.rt,fF t=tm t)→(∀b∈f.bt,cZ b=bx b)→(∃K,∀k,K≤k→cZ k=none) →
   ∀(X:Nat→Prop) (n0:Nat) (w0:World×Mm) (ok0:Nat→Prop) (Q:Exit→Act→World→Prop) (i:Nat) (a:Act) (w:World) (K:Act→World→Prop),ops[i]?=some o→(∀w,V3 X n0 w0.1 w→E.G w)→Left X n0 w0 ok0 nt fF cZ a w→(∀a w,Left X n0 w0 ok0 nt (O6 fF o.dst r) (fun b=>if b∈f.bt∧f.bw=true then bx' b else cZ b) a w→K a w)→wpOp E.P ops Q i K a w)
theorem AO{tm:Nat→AV}{d:Option Nat}{r:AV}{t:Nat}(h:d≠some t):O6 tm d r t=tm t:=by
 cases d with
 |none=>rfl
 |some d=>exact if_neg fun e=>h (by rw[e])
theorem sS{tm:Nat→AV}{d:Option Nat}{r:AV}{t:Nat}(h:d=some t):O6 tm d r t=r:=by
 subst h;exact if_pos rfl
theorem Stp.Tn{E:En}{ops:Array Oper}{nt:Nat}{o:Oper}{tm tm':Nat→AV}{bx bx':Nat→Option Bx}{f:Fp}(h:Stp E ops nt o tm bx tm' bx' f){t:Nat}(ht:f.wt≠some t):tm' t=tm t:=by
 rw[h.wt]at ht;rcases h.go with⟨_,rfl,_⟩ | ⟨_,_,_,_,_,_,_,_,_,_,_,_,rfl,_⟩ | ⟨_,h1,_⟩ | ⟨_,rfl,_⟩
 ·exact AO ht
 ·exact AO ht
 ·exact h1 t ht
 ·exact AO ht
theorem Stp.Tp{E:En}{ops:Array Oper}{nt:Nat}{o:Oper}{tm tm':Nat→AV}{bx bx':Nat→Option Bx}{f:Fp}(h:Stp E ops nt o tm bx tm' bx' f){b:Nat}(hb:¬(b∈f.bt∧f.bw=true)):bx' b=bx b:=by
 rcases h.go with⟨_,_,rfl⟩ | ⟨_,act,an,I8,k,r,ups,ps,_,hr,_,_,_,rfl,h1,h2⟩ | ⟨_,_,h1,_⟩ | ⟨_,_,h1,_⟩
 ·rfl
 ·refine qf fun x hx=>hb ⟨h1 _ (a2W hr b x hx),h2 fun e=>?_⟩
  rw[e]at hx;cases hx
 ·exact h1 b hb
 ·exact h1 b hb
theorem Stp.wp{E:En}{ops:Array Oper}{nt:Nat}{o:Oper}{tm tm':Nat→AV}{bx bx':Nat→Option Bx}{f:Fp}(h:Stp E ops nt o tm bx tm' bx' f)
  {X:Nat→Prop} {n0:Nat} {w0:World×Mm} {ok0:Nat→Prop} {a:Act} {w:World} {Q:Exit→Act→World→Prop} {i:Nat} (ho:ops[i]?=some o) (hfin:∃K,∀k,K≤k→bx k=none) (hL:Left X n0 w0 ok0 nt tm bx a w) (hG:∀w,V3 X n0 w0.1 w→E.G w) {K:Act→World→Prop} (hK:∀a w,Left X n0 w0 ok0 nt tm' bx' a w→K a w):wpOp E.P ops Q i K a w:=by
 rcases h.go with hg | hg | ⟨_,_,_,hg⟩ | ⟨r,ht,hb,hg⟩
 case inr.inr.inl=>exact hg X n0 w0 ok0 Q i a w K ho hG hL hK
 case inr.inr.inr =>
  refine hg tm bx (fun _ _=>rfl) (fun _ _=>rfl) hfin X n0 w0 ok0 Q i a w K ho hG hL fun a w h2=>hK a w ?_
  have e:(fun b=>if b∈f.bt∧f.bw=true then bx' b else bx b)=bx':=funext fun b=>by
   by_cases c:b∈f.bt∧f.bw=true
   ·rw[if_pos c]
   ·rw[if_neg c,hb b c]
  rw[e,←ht]at h2;exact h2
 all_goals
  obtain⟨M,hI⟩:=hL;unfold wpOp;simp only[ho]
 ·obtain⟨hw,rfl,rfl⟩:=hg;rw[Aw hI hw];simp only[Bool.false_eq_true,if_false];exact hK _ _ ⟨M,hI.val o.dst h.lt qb⟩
 ·obtain⟨hw,act,an,I8,k,r,ups,ps,h1,h2,h3,h4,rfl,rfl,_,_⟩:=hg;rw[Aw hI hw];simp only[if_true];left;exact Oper.wp_mono hK (YQ h1 h2 h3 hI h.lt (hG _ hI.below) h4)
theorem vJ{bx bx':Nat→Option Bx}{b:Nat}(h:bx b=bx' b):∀{ups:List (Nat×Bx)},H9 bx ups b=H9 bx' ups b
 |[]=>h
 | (b0,x)::r=>by
  show (if b=b0 then some x else H9 bx r b)=if b=b0 then some x else H9 bx' r b
  rw[vJ h]
theorem a5G{bx bx':Nat→Option Bx}{act:G8}{k:Nat}(h:∀b∈act.bt bx k,bx b=bx' b):act.bt bx k=act.bt bx' k:=by
 cases act with
 |ql b i k' vs=>exact congrArg (b::·) (fO (kn:=false) fun q hq=>h q (List.mem_cons_of_mem _ hq)).2
 |mk e sz len cs=>exact (fO (js:=[]) (kn:=false) (cs:=cs) h).2
 |idx x i sz r=>exact (fO (js:=[]) (kn:=false) (cs:=[x]) h).2
 |oK x sz lo hi mx r=>exact (fO (js:=[]) (kn:=false) (cs:=[x]) h).2
 |qW x l=>exact (fO (js:=[]) (kn:=false) (cs:=[x]) h).2
 |call f args aI r =>
  cases hs:r.dW with
  |true =>
   simp only[G8.bt,hs]at h ⊢
   exact (lq (wm 4) args [] false h).2
  |false =>
   simp only[G8.bt,hs]at h ⊢
   exact (fO (js:=[]) (kn:=false) (cs:=args) h).2
 |_=>rfl
theorem YR{P:Program}{ops:Array Oper}{Q:Exit→Act→World→Prop}{md:Region.Mode}(I:Array Bool→Act→World→Prop)
  (back:∀(i:Nat) (o:Oper),ops[i]?=some o→∀e∈o.after,Region.binds md e=true→e.on < i)
  (step:∀listed a w i,I listed a w→listed.size=ops.size→i∈Region.ready md ops listed→wpOp P ops Q i (I (listed.setIfInBounds i true)) a w)
  (done:∀listed a w,I listed a w→(∀i,i < ops.size→listed.getD i false=true)→Q .normal a w) :
  ∀(fuel:Nat) (listed:Array Bool) (a:Act) (w:World),listed.size=ops.size→listed.toList.countP (fun b=>!b)≤fuel→I listed a w→wpAny P md ops Q fuel listed a w:=by
 have full:∀listed:Array Bool,listed.size=ops.size→Region.ready md ops listed=[]→∀i,i < ops.size→listed.getD i false=true:=by
  intro listed hs hr i
  induction i using Nat.strongRecOn with
  |_ i ih =>
   intro hi;rcases hb:listed.getD i false with _ | _
   ·exfalso
    have hmem:i∈Region.ready md ops listed:=by
     rw[mem_ready];refine⟨?_,ops[i],Array.getElem?_eq_getElem hi,fun e he hbd=>?_⟩
     ·have hlt:i < listed.size:=J;simpa[hlt] using hb
     ·have:=back i _ (Array.getElem?_eq_getElem hi) e he hbd;exact ih e.on this J
    rw[hr]at hmem;cases hmem
   ·rfl
 intro fuel
 induction fuel with
 |zero =>
  intro listed a w hs hc hI;have hall:∀i,i < ops.size→listed.getD i false=true:=by
   intro i hi;have h0:listed.toList.countP (fun b=>!b)=0:=J;rw[List.countP_eq_zero]at h0;have hlt:i < listed.size:=J;have:=h0 listed[i] (by simp);simpa[hlt] using this
  have hr:Region.ready md ops listed=[]:=by
   cases hr:Region.ready md ops listed with
   |nil=>rfl
   |cons x xs =>
    have hx:x∈Region.ready md ops listed:=by rw[hr];exact List.mem_cons_self ..
    rw[mem_ready]at hx;obtain⟨h0,o,ho,_⟩:=hx;have hlt:=(Array.getElem?_eq_some_iff.1 ho).1;have:=hall x hlt;have hlt':x < listed.size:=J;simp[hlt']at h0 this;rw[h0]at this;cases this
  exact⟨hr,done _ _ _ hI hall⟩
 |succ fuel ih =>
  intro listed a w hs hc hI;refine⟨fun hr=>done _ _ _ hI (full listed hs hr),fun i hi=>?_⟩;refine wpOp_mono (fun a' w' hI'=>?_) (step listed a w i hI hs hi);refine ih _ _ _ (by simp[hs]) ?_ hI';rw[mem_ready]at hi;obtain⟨h0,o,ho,_⟩:=hi;have hlt:i < listed.size:=by rw[hs];exact (Array.getElem?_eq_some_iff.1 ho).1
  have hf:listed[i]=false:=by simpa[hlt] using h0
  have hl:listed.toList=listed.toList.take i++false::listed.toList.drop (i+1):=by
   have h1:i < listed.toList.length:=by simpa using hlt
   conv=>lhs;rw[←List.take_append_drop i listed.toList,List.drop_eq_getElem_cons h1]
   simp[hf]
  have hl':(listed.setIfInBounds i true).toList=listed.toList.take i++true::listed.toList.drop (i+1):=by
   have h1:i < listed.toList.length:=by simpa using hlt
   rw[Array.toList_setIfInBounds,List.set_eq_take_append_cons_drop,if_pos h1]
  rw[hl]at hc;rw[hl'];simp only[List.countP_append,List.countP_cons,Bool.not_false,Bool.not_true,if_true,Bool.false_eq_true,if_false]at hc ⊢
  omega
def sU(ops:Array Oper):Bool:=(List.range ops.size).all fun i=>match ops[i]? with | some o=>o.after.all fun e=>!Region.binds .any e || Nat.ble (e.on+1) i | none=>true
theorem XP{ops:Array Oper}(h:sU ops=true)(i:Nat)(o:Oper)(ho:ops[i]?=some o):∀e∈o.after,Region.binds .any e=true→e.on < i:=by
 unfold sU at h;rw[List.all_eq_true]at h;have:=h i (List.mem_range.2 (Array.getElem?_eq_some_iff.1 ho).1);rw[ho]at this;simp only[Array.all_eq_true_iff_forall_mem]at this;intro e he hb;have h2:=this e he;rw[hb]at h2;exact Nat.le_of_ble_eq_true h2
inductive jH (ops:Array Oper):Nat→Nat→Prop
 |one {i j:Nat}:i∈waits ops j→jH ops i j
 |more {i m j:Nat}:m∈waits ops j→jH ops i m→jH ops i j
def Fp.conf(x y:Fp):Bool:=(x.all || y.all) ||
 ((match x.wt with | some d=>y.rt.contains d || (match y.wt with | some e=>Nat.beq d e | none=>false) | none=>false) ||
 (match y.wt with | some d=>x.rt.contains d | none=>false) ||
 (x.bt.any y.bt.contains && (x.bw || y.bw)))
theorem QZ{x y:Fp}(h:x.all=true):x.conf y=true:=by simp only[Fp.conf,h,Bool.true_or]
theorem Ra{x y:Fp}(h:y.all=true):x.conf y=true:=by simp only[Fp.conf,h,Bool.or_true,Bool.true_or]
theorem a2Y{x y:Fp}{d:Nat}(h1:x.wt=some d)(h2:d∈y.rt):x.conf y=true:=by
 have:y.rt.contains d=true:=List.contains_iff_mem.2 h2;simp only[Fp.conf,h1,this,Bool.true_or,Bool.or_true]
theorem a2Z{x y:Fp}{d:Nat}(h1:y.wt=some d)(h2:d∈x.rt):x.conf y=true:=by
 have:x.rt.contains d=true:=List.contains_iff_mem.2 h2;simp only[Fp.conf,h1,this,Bool.true_or,Bool.or_true]
theorem Px{x y:Fp}{d:Nat}(h1:x.wt=some d)(h2:y.wt=some d):x.conf y=true:=by
 simp only[Fp.conf,h1,h2,Nat.beq_refl,Bool.or_true,Bool.true_or]
theorem Bg{x y:Fp}{d:Nat}(h1:d∈x.bt)(h2:d∈y.bt)(h:x.bw=true∨y.bw=true):x.conf y=true:=by
 have e:(x.bw || y.bw)=true:=by rcases h with h | h <;> rw[h] <;> simp
 have e2:x.bt.any y.bt.contains=true:=List.any_eq_true.2 ⟨d,h1,List.contains_iff_mem.2 h2⟩;simp only[Fp.conf,e,e2,Bool.and_self,Bool.or_true]
theorem YS{E:En}{ops:Array Oper}{nt:Nat}{O1:Nat→Nat→AV}{I6:Nat→Nat→Option Bx}{fp:Nat→Fp}
  (hstp:∀i o,ops[i]?=some o→Stp E ops nt o (O1 i) (I6 i) (O1 (i+1)) (I6 (i+1)) (fp i))
  (Tq:∀i j,i < j→j < ops.size→(fp i).conf (fp j)=true→jH ops i j) (hback:sU ops=true) (hfin:∃K,∀i,i≤ops.size→∀k,K≤k→I6 i k=none)
  {X:Nat→Prop} {n0:Nat} {w0:World×Mm} {ok0:Nat→Prop} (hG:∀w,V3 X n0 w0.1 w→E.G w) {Q:Exit→Act→World→Prop} {a:Act} {w:World} (h0:Left X n0 w0 ok0 nt (O1 0) (I6 0) a w) (hQ:∀a w,Left X n0 w0 ok0 nt (O1 ops.size) (I6 ops.size) a w→Q .normal a w) :
  wpAny E.P .any ops Q ops.size (Array.replicate ops.size false) a w:=by
 have hst:∀i,i < ops.size→∃o,ops[i]?=some o∧Stp E ops nt o (O1 i) (I6 i) (O1 (i+1)) (I6 (i+1)) (fp i):=fun i hi=>⟨ops[i],Array.getElem?_eq_getElem hi,hstp i _ (Array.getElem?_eq_getElem hi)⟩
 -- versions
 have Wh:∀t k d,k+d≤ops.size→(∀j,j < ops.size→(fp j).wt=some t→(j < k↔j < k+d))→O1 (k+d) t=O1 k t:=by
  intro t k d
  induction d with
  |zero=>intro _ _;rfl
  |succ d ih =>
   intro hn hw;obtain⟨o,_,hs⟩:=hst (k+d) J;rw[show k+(d+1)=k+d+1 by omega,hs.Tn (fun e=>by have:=hw (k+d) J e;omega)]
   exact ih J fun j hj e=>by have:=hw j hj e;omega
 have vt:∀t k k',k≤ops.size→k'≤ops.size→(∀j,j < ops.size→(fp j).wt=some t→(j < k↔j < k'))→O1 k t=O1 k' t:=by
  intro t k k' hk hk' hw;rcases Nat.le_total k k' with h | h
  ·have:=Wh t k (k' - k) J fun j hj e=>by have:=hw j hj e;omega
   rw[show k+(k' - k)=k' by omega]at this
   exact this.symm
  ·have:=Wh t k' (k - k') J fun j hj e=>by have:=hw j hj e;omega
   rw[show k'+(k - k')=k by omega]at this
   exact this
 have Wi:∀t k d,k+d≤ops.size→(∀j,j < ops.size→t∈(fp j).bt→(fp j).bw=true→(j < k↔j < k+d))→I6 (k+d) t=I6 k t:=by
  intro t k d
  induction d with
  |zero=>intro _ _;rfl
  |succ d ih =>
   intro hn hw;obtain⟨o,_,hs⟩:=hst (k+d) J;rw[show k+(d+1)=k+d+1 by omega,hs.Tp (fun e=>by have:=hw (k+d) J e.1 e.2;omega)]
   exact ih J fun j hj e e'=>by have:=hw j hj e e';omega
 have vb:∀t k k',k≤ops.size→k'≤ops.size→(∀j,j < ops.size→t∈(fp j).bt→(fp j).bw=true→(j < k↔j < k'))→I6 k t=I6 k' t:=by
  intro t k k' hk hk' hw;rcases Nat.le_total k k' with h | h
  ·have:=Wi t k (k' - k) J fun j hj e e'=>by have:=hw j hj e e';omega
   rw[show k+(k' - k)=k' by omega]at this
   exact this.symm
  ·have:=Wi t k' (k - k') J fun j hj e e'=>by have:=hw j hj e e';omega
   rw[show k'+(k - k')=k by omega]at this
   exact this
 refine YR (md:=.any) (fun listed a w=>∃tm bx,Left X n0 w0 ok0 nt tm bx a w∧(∀i,listed.getD i false=true→∀j∈waits ops i,listed.getD j false=true) ∧
   (∀t,∃k,k≤ops.size∧tm t=O1 k t∧∀j,j < ops.size→(fp j).wt=some t→(listed.getD j false=true↔j < k)) ∧
   (∀b,∃k,k≤ops.size∧bx b=I6 k b∧∀j,j < ops.size→b∈(fp j).bt→(fp j).bw=true→(listed.getD j false=true↔j < k))) (fun i o ho=>XP hback i o ho) ?_ ?_ _ _ _ _ I (by simp[List.countP_replicate]) ?_
 ·intro listed a w i hI hs hr;rw[mem_ready]at hr;obtain⟨hn0,o,ho,hafter⟩:=hr;have hlt:=(Array.getElem?_eq_some_iff.1 ho).1;have hD0:¬listed.getD i false=true:=by
   have hlt':i < listed.size:=J;simp[hlt']at hn0 ⊢
   exact hn0
  obtain⟨tm,bx,hL,Jm,hT,hB⟩:=hI;have hset:(listed.setIfInBounds i true).getD i false=true:=by
   have hlt':i < listed.size:=J;simp[hlt']
  have hup:∀j,listed.getD j false=true→(listed.setIfInBounds i true).getD j false=true:=fun j h=>getD_set_true h
  have hdn:∀j,(listed.setIfInBounds i true).getD j false=true→j=i∨listed.getD j false=true:=fun j h=>getD_upd h
  have hw8:∀j∈waits ops i,listed.getD j false=true:=fun j hj=>by
   obtain⟨e,he,hb,rfl⟩:=(Ng ho).1 hj;exact hafter e he hb
  have Tt:∀x y,jH ops x y→listed.getD y false=true→listed.getD x false=true:=by
   intro x y h
   induction h with
   |one h=>exact fun hy=>Jm _ hy _ h
   |more h _ ih=>exact fun hy=>ih (Jm _ hy _ h)
  have a7L:∀x,jH ops x i→listed.getD x false=true:=by
   intro x h;cases h with
   |one h=>exact hw8 _ h
   |more h h'=>exact Tt _ _ h' (hw8 _ h)
  -- who touches the same place as i: before i are done,behind i are not
  have side:∀j,j < ops.size→(j < i→(fp j).conf (fp i)=true)→(i < j→(fp i).conf (fp j)=true)→(listed.getD j false=true↔j < i):=by
   intro j hj h1 h2;rcases Nat.lt_trichotomy j i with e | e | e
   ·exact⟨fun _=>e,fun _=>a7L j (Tq j i e hlt (h1 e))⟩
   ·subst e;exact⟨fun h=>absurd h hD0,fun h=>absurd h (Nat.lt_irrefl _)⟩
   ·refine⟨fun h=>absurd (Tt i j (Tq i j e hj (h2 e)) h) hD0,fun h=>J⟩
  have hS:=hstp i o ho;have hrt:∀t∈(fp i).rt,tm t=O1 i t:=by
   intro t ht;obtain⟨k,hk,e,hv⟩:=hT t;rw[e];refine vt t k i hk J fun j hj bL=>?_
   rw[←hv j hj bL];exact side j hj (fun _=>a2Y bL ht) (fun _=>a2Z bL ht)
  have hbt:∀b,b∈(fp i).bt→(bx b=I6 i b∨(fp i).bw=false)∧((fp i).bw=false→bx b=I6 i b):=by
   intro b hb;have key:bx b=I6 i b:=by
    obtain⟨k,hk,e,hv⟩:=hB b;rw[e];refine vb b k i hk J fun j hj hbj bL=>?_
    rw[←hv j hj hbj bL];exact side j hj (fun _=>Bg hbj hb (.inl bL)) (fun _=>Bg hb hbj (.inr bL))
   exact⟨.inl key,fun _=>key⟩
  have xZ:∀b,b∈(fp i).bt→bx b=I6 i b:=fun b hb=>by
   rcases (hbt b hb).1 with h | h
   ·exact h
   ·exact (hbt b hb).2 h
  -- the step in the present state
  have xx:∀t∈o.looksAt ops,tm t=O1 i t:=fun t ht=>hrt t (hS.rt t ht)
  have hev:∀x∈o.op.operands.toList,G6 tm x=G6 (O1 i) x:=by
   intro x hx;cases x with
   |tmp t =>
    refine xx t ?_;unfold Oper.looksAt;refine List.mem_append_left _ (List.mem_filterMap.2 ⟨.tmp t,hx,rfl⟩)
   |_=>rfl
  have hwant:iN ops tm o=iN ops (O1 i) o:=by
   unfold iN;cases hg:o.guard with
   |none=>rfl
   |some x =>
    obtain⟨g,b⟩:=x;simp only;cases hd:(ops[g]?).bind (·.dst) with
    |none=>rfl
    |some d =>
     simp only;have:tm d=O1 i d:=xx d (by
      unfold Oper.looksAt;refine List.mem_append_right _ ?_;rw[hg];simp[hd])
     rw[this]
  have hst':∃tm' bx',Stp E ops nt o tm bx tm' bx' (fp i)∧(∀t,(fp i).wt=some t→tm' t=O1 (i+1) t)∧(∀b,b∈(fp i).bt→(fp i).bw=true→bx' b=I6 (i+1) b):=by
   rcases hS.go with⟨hw,e1,e2⟩ | ⟨hw,act,an,I8,k,r,ups,ps,h1,h2,h3,h4,e1,e2,h5,h6⟩ | ⟨hall,_⟩ | ⟨r,e1,e2,hg⟩
   ·refine⟨O6 tm o.dst (.dt (.val undef)),bx,⟨hS.rt,hS.wt,hS.lt,.inl ⟨hwant.trans hw,rfl,rfl⟩⟩,fun t ht=>?_,fun b hb hbw=>?_⟩
    ·rw[hS.wt]at ht;rw[e1,sS ht,sS ht]
    ·rw[e2];exact xZ b hb
   ·have Rc:∀b∈act.bt (I6 i) k,I6 i b=bx b:=fun b hb=>(xZ b (h5 b hb)).symm
    have hrun:act.run E bx k=some (r,ups,ps):=by rw[←h2];exact (a2V Rc).symm
    have b0g:∀b∈act.bt bx k,b∈(fp i).bt:=fun b hb=>h5 b (by rw[a5G Rc];exact hb)
    have hk':∀q∈act.news k,bx q=none:=fun q hq=>by rw[xZ q (h5 q (a2X q hq))];exact h4 q hq
    refine⟨O6 tm o.dst r,H9 bx ups,⟨hS.rt,hS.wt,hS.lt,.inr (.inl ⟨hwant.trans hw,act,an,I8,k,r,ups,ps,(a0V hev).trans h1,hrun,h3,hk',rfl,rfl,b0g,h6⟩)⟩,fun t ht=>?_,fun b hb hbw=>?_⟩
    ·rw[hS.wt]at ht;rw[e1,sS ht,sS ht]
    ·rw[e2];exact vJ (xZ b hb)
   ·have e1:tm=O1 i:=funext fun t=>by
     obtain⟨k,hk,e,hv⟩:=hT t;rw[e];refine vt t k i hk J fun j hj bL=>?_
     rw[←hv j hj bL];exact side j hj (fun _=>Ra hall) (fun _=>QZ hall)
    have e2:bx=I6 i:=funext fun b=>by
     obtain⟨k,hk,e,hv⟩:=hB b;rw[e];refine vb b k i hk J fun j hj hbj bL=>?_
     rw[←hv j hj hbj bL];exact side j hj (fun _=>Ra hall) (fun _=>QZ hall)
    exact⟨O1 (i+1),I6 (i+1),by rw[e1,e2];exact hS,fun _ _=>rfl,fun _ _ _=>rfl⟩
   ·refine⟨O6 tm o.dst r,fun b=>if b∈(fp i).bt∧(fp i).bw=true then I6 (i+1) b else bx b,⟨hS.rt,hS.wt,hS.lt,.inr (.inr (.inr ⟨r,rfl,fun b hb=>if_neg hb,fun fF cZ h1 h2 hf X n0 w0 ok0 Q i' a w K ho' hG' hL' hK'=>?_⟩))⟩,fun t ht=>?_,fun b hb hbw=>if_pos ⟨hb,hbw⟩⟩
    ·refine hg fF cZ (fun t ht=>(h1 t ht).trans (hrt t ht)) (fun b hb=>(h2 b hb).trans (xZ b hb)) hf X n0 w0 ok0 Q i' a w K ho' hG' hL' fun a w h3=>hK' a w ?_
     have e:(fun b=>if b∈(fp i).bt∧(fp i).bw=true then (if b∈(fp i).bt∧(fp i).bw=true then I6 (i+1) b else bx b) else cZ b)=fun b=>if b∈(fp i).bt∧(fp i).bw=true then I6 (i+1) b else cZ b:=funext fun b=>by
      by_cases c:b∈(fp i).bt∧(fp i).bw=true
      ·simp only[if_pos c]
      ·simp only[if_neg c]
     rw[e];exact h3
    ·rw[hS.wt]at ht;rw[e1,sS ht,sS ht]
  obtain⟨tm',bx',hS',hTn,hBn⟩:=hst';have bR:∃K,∀k,K≤k→bx k=none:=by
   obtain⟨K,hK⟩:=hfin;refine⟨K,fun b hb=>?_⟩;obtain⟨k,hk,e,_⟩:=hB b;rw[e];exact hK k hk b hb
  refine hS'.wp ho bR hL hG fun a2 w2 hL2=>⟨tm',bx',hL2,?_,?_,?_⟩
  ·intro k hk j hj;rcases hdn k hk with rfl | e
   ·exact hup j (hw8 j hj)
   ·exact hup j (Jm k e j hj)
  ·intro t;by_cases hw:(fp i).wt=some t
   ·refine⟨i+1,J,hTn t hw,fun j hj bL=>?_⟩;have:=side j hj (fun _=>Px bL hw) (fun _=>Px hw bL);constructor
    ·intro h;rcases hdn j h with rfl | e
     ·omega
     ·have:=this.1 e;omega
    ·intro h;by_cases e:j=i
     ·subst e;exact hset
     ·exact hup j (this.2 J)
   ·obtain⟨k,hk,e,hv⟩:=hT t;refine⟨k,hk,(hS'.Tn hw).trans e,fun j hj bL=>?_⟩;have hji:j≠i:=fun e=>hw (e ▸ bL)
    rw[←hv j hj bL];exact⟨fun h=>(hdn j h).resolve_left hji,hup j⟩
  ·intro b;by_cases hw:b∈(fp i).bt∧(fp i).bw=true
   ·refine⟨i+1,J,hBn b hw.1 hw.2,fun j hj hbj bL=>?_⟩;have:=side j hj (fun _=>Bg hbj hw.1 (.inl bL)) (fun _=>Bg hw.1 hbj (.inl hw.2));constructor
    ·intro h;rcases hdn j h with rfl | e
     ·omega
     ·have:=this.1 e;omega
    ·intro h;by_cases e:j=i
     ·subst e;exact hset
     ·exact hup j (this.2 J)
   ·obtain⟨k,hk,e,hv⟩:=hB b;refine⟨k,hk,(hS'.Tp hw).trans e,fun j hj hbj bL=>?_⟩;have hji:j≠i:=fun e=>hw (e ▸ ⟨hbj,bL⟩)
    rw[←hv j hj hbj bL];exact⟨fun h=>(hdn j h).resolve_left hji,hup j⟩
 ·intro listed a w hI hall;obtain⟨tm,bx,hL,_,hT,hB⟩:=hI;have e1:tm=O1 ops.size:=funext fun t=>by
   obtain⟨k,hk,e,hv⟩:=hT t;rw[e];exact vt t k _ hk (Nat.le_refl _) fun j hj hw=>⟨fun _=>hj,fun _=>(hv j hj hw).1 (hall j hj)⟩
  have e2:bx=I6 ops.size:=funext fun b=>by
   obtain⟨k,hk,e,hv⟩:=hB b;rw[e];exact vb b k _ hk (Nat.le_refl _) fun j hj hb hw=>⟨fun _=>hj,fun _=>(hv j hj hb hw).1 (hall j hj)⟩
  rw[e1,e2]at hL;exact hQ a w hL
 ·have hno:∀i,¬(Array.replicate ops.size false).getD i false=true:=fun i=>by
   by_cases h:i < ops.size <;> simp[h]
  exact⟨O1 0,I6 0,h0,fun i h=>absurd h (hno _),fun t=>⟨0,Nat.zero_le _,rfl,fun j _ _=>⟨fun h=>absurd h (hno _),fun h=>J⟩⟩,fun t=>⟨0,Nat.zero_le _,rfl,fun j _ _ _=>⟨fun h=>absurd h (hno _),fun h=>J⟩⟩⟩
structure AS where
 tm:List AV
 bx:List (Option Bx)
def AS.F9(s:AS):Nat→AV:=fun t=>s.tm.getD t (.dt (.val undef))
def AS.D7(s:AS):Nat→Option Bx:=fun b=>match s.bx[b]? with
 |some x=>x
 |none=>none
def qC(tm:List AV)(d:Option Nat)(r:AV):List AV:=match d with
 |some d=>tm.set d r
 |none=>tm
def jr:List (Option Bx)→Nat→Bx→List (Option Bx)
 |[],0,x=>[some x]
 |[],b+1,x=>none::jr [] b x
 |_::r,0,x=>some x::r
 |y::r,b+1,x=>y::jr r b x
def BS(bx:List (Option Bx)):List (Nat×Bx)→List (Option Bx)
 |[]=>bx
 | (b,x)::r=>jr (BS bx r) b x
theorem a3a{tm:List AV}:∀(bx:List (Option Bx)) (b:Nat) (x:Bx),(AS.mk tm (jr bx b x)).D7=fun k=>if k=b then some x else (AS.mk tm bx).D7 k:=by
 intro bx b
 induction b generalizing bx with
 |zero =>
  intro x;funext k;cases bx with
  |nil=>cases k with
   |zero=>rfl
   |succ k=>simp[jr,AS.D7]
  |cons y r=>cases k with
   |zero=>rfl
   |succ k=>simp[jr,AS.D7]
 |succ b ih =>
  intro x;funext k;cases bx with
  |nil =>
   have:=congrFun (ih [] x);cases k with
   |zero=>simp[jr,AS.D7]
   |succ k=>have:=this k;simp[jr,AS.D7]at this ⊢;exact this
  |cons y r =>
   have:=congrFun (ih r x);cases k with
   |zero=>simp[jr,AS.D7]
   |succ k=>have:=this k;simp[jr,AS.D7]at this ⊢;exact this
theorem Py{s:AS}{tm:List AV}:∀(ups:List (Nat×Bx)),(AS.mk tm (BS s.bx ups)).D7=H9 s.D7 ups
 |[]=>rfl
 | (b,x)::r=>by
  funext k;show (AS.mk tm (jr (BS s.bx r) b x)).D7 k=if k=b then some x else H9 s.D7 r k
  rw[a3a,←Py (tm:=tm) r]
theorem wR{s:AS}{d:Option Nat}{r:AV}{bx:List (Option Bx)}(h:∀t,d=some t→t < s.tm.length):(AS.mk (qC s.tm d r) bx).F9=O6 s.F9 d r:=by
 funext t;cases d with
 |none=>rfl
 |some d =>
  show (s.tm.set d r).getD t _=if t=d then r else s.tm.getD t _
  have:=h d rfl;by_cases e:t=d
  ·subst e;simp[this]
  ·rw[if_neg e];simp[Ne.symm e]
theorem a3b(s:AS):s.D7 s.bx.length=none:=by
 unfold AS.D7;rw[List.getElem?_eq_none (Nat.le_refl _)]
theorem a5H{act:G8}{k q:Nat}(h:q∈act.news k):q=k:=by
 cases act with
 |app e kk bytes s x c=>cases s <;> first | exact List.mem_singleton.1 h | cases h
 |_=>first | exact List.mem_singleton.1 h | cases h
def BU(E:En)(ops:Array Oper)(o:Oper)(s:AS)(an:List An):Option (AS×Fp×List Prop×List An) :=
 match (match o.dst with | some d=>Nat.ble (d+1) s.tm.length | none=>true) with
 |false=>none
 |true=>match iN ops s.F9 o with
  |none=>none
  |some false=>some (⟨qC s.tm o.dst (.dt (.val undef)),s.bx⟩,⟨o.looksAt ops,o.dst,[],false,false⟩,[],an)
  |some true=>match aa E o.op (G6 s.F9) an with
   |none=>none
   |some (act,I8)=>match act.run E s.D7 s.bx.length with
    |none=>none
    |some (r,ups,ps)=>some (⟨qC s.tm o.dst r,BS s.bx ups⟩,⟨o.looksAt ops,o.dst,act.bt s.D7 s.bx.length,match ups with | []=>false | _=>true,false⟩,ps,I8)
theorem Ay(tm:List AV)(d:Option Nat)(r:AV):(qC tm d r).length=tm.length:=by
 cases d with
 |none=>rfl
 |some d=>exact List.length_set
theorem Nh{E:En}{ops:Array Oper}{o:Oper}{s s':AS}{an I8:List An}{f:Fp}{ps:List Prop}(h:BU E ops o s an=some (s',f,ps,I8))(hp:J4 ps) :
  Stp E ops s.tm.length o s.F9 s.D7 s'.F9 s'.D7 f∧s'.tm.length=s.tm.length:=by
 unfold BU at h;split at h
 ·cases h
 rename_i hd;have hd':∀t,o.dst=some t→t < s.tm.length:=fun t ht=>by
  rw[ht]at hd;have hd2:Nat.ble (t+1) s.tm.length=true:=hd;exact Nat.le_of_ble_eq_true hd2
 split at h
 ·cases h
 ·rename_i hw;cases h;exact⟨⟨fun t ht=>ht,rfl,hd',.inl ⟨hw,wR hd',rfl⟩⟩,Ay _ _ _⟩
 ·rename_i hw;split at h
  ·cases h
  ·rename_i act b4I hdec;split at h
   ·cases h
   ·rename_i r ups ps' hr;cases h;refine⟨⟨fun t ht=>ht,rfl,hd',.inr (.inl ⟨hw,act,an,_,s.bx.length,r,ups,_,hdec,hr,hp,fun q hq=>?_,wR hd',Py ups,fun b hb=>hb,fun hu=>?_⟩)⟩,Ay _ _ _⟩
    ·rw[a5H hq];exact a3b s
    ·cases ups with
     |nil=>exact absurd rfl hu
     |cons _ _=>rfl
def Cq(E:En)(ops:Array Oper):List Oper→AS→List An→Option (AS×List Fp×List Prop×List An)
 |[],s,an=>some (s,[],[],an)
 |o::os,s,an=>match BU E ops o s an with
  |none=>none
  |some (s1,f,ps,bS)=>match Cq E ops os s1 bS with
   |none=>none
   |some (s2,fs,qs,X9)=>some (s2,f::fs,ps++qs,X9)
theorem FP(s:AS){k:Nat}(h:s.bx.length≤k):s.D7 k=none:=by
 unfold AS.D7;rw[List.getElem?_eq_none h]
theorem NU{s:AS}{I6:Nat→Nat→Option Bx}{n Kf:Nat}(h:∀i,i≤n→∀k,Kf≤k→I6 i k=none):∃K,∀i,i≤n+1→∀k,K≤k→(match i with | 0=>s.D7 | i+1=>I6 i) k=none :=
 ⟨s.bx.length+Kf,fun i hi k hk=>match i with
  |0=>FP s J
  |i+1=>h i J k J⟩
theorem Fy{E:En}{ops:Array Oper}:∀{os:List Oper} {s s':AS} {an I8:List An} {fs:List Fp} {ps:List Prop},Cq E ops os s an=some (s',fs,ps,I8)→J4 ps →
  s'.tm.length=s.tm.length∧fs.length=os.length∧∃(O1:Nat→Nat→AV) (I6:Nat→Nat→Option Bx),O1 0=s.F9∧I6 0=s.D7∧O1 os.length=s'.F9∧I6 os.length=s'.D7∧(∃K,∀i,i≤os.length→∀k,K≤k→I6 i k=none) ∧
   ∀i o f,os[i]?=some o→fs[i]?=some f→Stp E ops s.tm.length o (O1 i) (I6 i) (O1 (i+1)) (I6 (i+1)) f
 |[],s,s',an,I8,fs,ps,h,_=>by
  cases h;exact⟨rfl,rfl,fun _=>s.F9,fun _=>s.D7,rfl,rfl,rfl,rfl,⟨s.bx.length,fun _ _ k hk=>FP s hk⟩,fun i o f hi=>by simp at hi⟩
 |o::os,s,s',an,I8,fs,ps,h,hp=>by
  unfold Cq at h;split at h
  ·cases h
  ·rename_i s1 f aV bS h1;split at h
   ·cases h
   ·rename_i s2 ig qs X9 h2;cases h;obtain⟨hp1,hp2⟩:=ed hp;obtain⟨hs,hl⟩:=Nh h1 hp1;obtain⟨hl2,hf2,O1,I6,e1,e2,e3,e4,⟨Kf,hKf⟩,hst⟩:=Fy h2 hp2;refine⟨hl2.trans hl,by simp[hf2],fun i=>match i with | 0=>s.F9 | i+1=>O1 i,fun i=>match i with | 0=>s.D7 | i+1=>I6 i,rfl,rfl,e3,e4,NU hKf,?_⟩;intro i o' f' hi hf;cases i with
    |zero =>
     cases hi;cases hf;simp only[e1,e2];exact hs
    |succ i =>
     rw[hl]at hst;exact hst i o' f' (by simpa using hi) (by simpa using hf)
def yc:List Oper→List Nat→List Nat
 |[],acc=>acc
 |o::os,acc=>yc os (acc++[o.after.toList.foldl (fun m e=>match Region.binds .any e with | true=>m ||| (2 ^ e.on ||| acc.getD e.on 0) | false=>m) 0])
theorem Ni{ops:Array Oper}{acc:List Nat}(hacc:∀j m,acc[j]?=some m→∀i,m.testBit i=true→jH ops i j){n:Nat}:∀(es:List Edge) (m0:Nat),(∀i,m0.testBit i=true→jH ops i n)→(∀e∈es,Region.binds .any e=true→e.on∈waits ops n) →
  ∀i,(es.foldl (fun m e=>match Region.binds .any e with | true=>m ||| (2 ^ e.on ||| acc.getD e.on 0) | false=>m) m0).testBit i=true→jH ops i n
 |[],_,h,_=>h
 |e::es,m0,h,hw=>by
  rw[List.foldl_cons];refine Ni hacc es _ ?_ (fun e' he'=>hw e' (List.mem_cons_of_mem _ he'));intro i hi;cases hb:Region.binds .any e with
  |false=>rw[hb]at hi;exact h i hi
  |true =>
   rw[hb]at hi;simp only[Nat.testBit_or,Bool.or_eq_true]at hi;have Wj:=hw e (List.mem_cons_self) hb;rcases hi with hi | hi | hi
   ·exact h i hi
   ·rw[Nat.testBit_two_pow]at hi;have:e.on=i:=of_decide_eq_true hi;subst this;exact .one Wj
   ·cases ha:acc[e.on]? with
    |none=>simp[List.getD,ha]at hi
    |some m=>exact .more Wj (hacc e.on m ha i (by simpa[List.getD,ha] using hi))
theorem Pz{ops:Array Oper}:∀(os:List Oper) (acc:List Nat),(∀i o,os[i]?=some o→ops[acc.length+i]?=some o)→(∀j m,acc[j]?=some m→∀i,m.testBit i=true→jH ops i j) →
  ∀j m,(yc os acc)[j]?=some m→∀i,m.testBit i=true→jH ops i j
 |[],acc,_,h=>h
 |o::os,acc,ho,h=>by
  refine Pz os _ (fun i o' hi=>?_) ?_
  ·have:=ho (i+1) o' (by simpa using hi);rw[List.length_append,List.length_singleton];rw[←this];congr 1;omega
  ·intro j m hj;by_cases hlt:j < acc.length
   ·rw[List.getElem?_append_left hlt]at hj;exact h j m hj
   ·have hj':j=acc.length:=by
     have:=(List.getElem?_eq_some_iff.1 hj).1;simp at this;omega
    subst hj';rw[List.getElem?_append_right (Nat.le_refl _),Nat.sub_self]at hj;simp only[List.getElem?_cons_zero,Option.some.injEq]at hj;subst hj;refine Ni h _ 0 (fun i hi=>by simp at hi) fun e he hb=>?_
    have:=ho 0 o rfl;rw[Nat.add_zero]at this;exact (Ng this).2 ⟨e,Array.mem_toList_iff.1 he,hb,rfl⟩
def Cr(m:Nat)(y:Fp):List Fp→Nat→Bool
 |[],_=>true
 |x::xs,i=>(match x.conf y with | true=>m.testBit i | false=>true) && Cr m y xs (i+1)
def qD:List Fp→List Fp→List Nat→Bool
 |_,[],_=>true
 |pre,y::ys,m::ms=>Cr m y pre 0 && qD (pre++[y]) ys ms
 |_,_::_,[]=>false
theorem PD{m:Nat}{y:Fp}:∀{xs:List Fp} {k:Nat},Cr m y xs k=true→∀i x,xs[i]?=some x→x.conf y=true→m.testBit (k+i)=true
 |[],_,_,i,x,hi,_=>by simp at hi
 |x0::xs,k,h,i,x,hi,hc=>by
  unfold Cr at h;rw[Bool.and_eq_true]at h;cases i with
  |zero =>
   cases hi;rw[hc]at h;exact h.1
  |succ i =>
   have:=PD h.2 i x (by simpa using hi) hc;rw[←this];congr 1;omega
theorem PE:∀{ys pre:List Fp} {ms:List Nat},qD pre ys ms=true→∀i j x y,i < j→(pre++ys)[i]?=some x→ys[j - pre.length]?=some y→pre.length≤j→x.conf y=true→∃m,ms[j - pre.length]?=some m∧m.testBit i=true
 |[],_,_,_,i,j,x,y,_,_,hy,_,_=>by simp at hy
 |y0::ys,pre,[],h,_,_,_,_,_,_,_,_,_=>by simp[qD]at h
 |y0::ys,pre,m0::ms,h,i,j,x,y,hij,hx,hy,hj,hc=>by
  unfold qD at h;rw[Bool.and_eq_true]at h;by_cases e:j=pre.length
  ·subst e;rw[Nat.sub_self]at hy ⊢
   cases hy;rw[List.getElem?_append_left hij]at hx;have:=PD h.1 i x hx hc;rw[Nat.zero_add]at this;exact⟨m0,rfl,this⟩
  ·have hs:j - pre.length=(j - (pre++[y0]).length)+1:=by simp;omega
   rw[hs]at hy ⊢
   obtain⟨m,h1,h2⟩:=PE h.2 i j x y hij (by simpa using hx) (by simpa using hy) (by simp;omega) hc;exact⟨m,by simpa using h1,h2⟩
def AP(E:En)(ops:Array Oper)(draw:Bool)(s:AS)(an:List An):Option (AS×List Prop×List An) :=
 match Cq E ops ops.toList s an with
 |none=>none
 |some (s',fs,ps,I8)=>match !draw || (sU ops && qD [] fs (yc ops.toList [])) with
  |true=>some (s',ps,I8)
  |false=>none
theorem Nj{E:En}{ops:Array Oper}{draw:Bool}{id nt:Nat}{fs:List Fp}{O1:Nat→Nat→AV}{I6:Nat→Nat→Option Bx}(hfl:fs.length=ops.toList.length)(eQ:(!draw || (sU ops && qD [] fs (yc ops.toList [])))=true)
  (hst:∀i o f,ops.toList[i]?=some o→fs[i]?=some f→Stp E ops nt o (O1 i) (I6 i) (O1 (i+1)) (I6 (i+1)) f) (hfin:∃K,∀i,i≤ops.toList.length→∀k,K≤k→I6 i k=none)
  {X:Nat→Prop} {n0:Nat} {w0:World×Mm} {ok0:Nat→Prop} (hG:∀w,V3 X n0 w0.1 w→E.G w) {Q:Exit→Act→World→Prop} {a:Act} {w:World} (h0:Left X n0 w0 ok0 nt (O1 0) (I6 0) a w) (hQ:∀a w,Left X n0 w0 ok0 nt (O1 ops.toList.length) (I6 ops.toList.length) a w→Q .normal a w) :
  (Code.region id ops draw).wp E.P Q a w:=by
 have hsz:ops.toList.length=ops.size:=I;have hst':∀i o,ops[i]?=some o→Stp E ops nt o (O1 i) (I6 i) (O1 (i+1)) (I6 (i+1)) (fs.getD i ⟨[],none,[],false,false⟩):=by
  intro i o ho;have hi:=(Array.getElem?_eq_some_iff.1 ho).1;have hf:fs[i]?=some (fs.getD i ⟨[],none,[],false,false⟩):=by
   have hi':i < fs.length:=J;simp[hi']
  exact hst i o _ (by simpa using ho) hf
 rw[hsz]at hQ hfin;cases draw with
 |true =>
  simp only[Bool.not_true,Bool.false_or,Bool.and_eq_true]at eQ;refine wp_region_any E.hm ?_;refine YS (O1:=O1) (I6:=I6) (fp:=fun i=>fs.getD i ⟨[],none,[],false,false⟩) hst' ?_ eQ.1 hfin hG ?_ hQ
  ·intro i j hij hj hc;have hi':i < fs.length:=J;have hj':j < fs.length:=J;obtain⟨m,h1,h2⟩:=PE eQ.2 i j (fs.getD i ⟨[],none,[],false,false⟩) (fs.getD j ⟨[],none,[],false,false⟩) hij (by simp[hi']) (by simp[hj']) (Nat.zero_le _) hc;exact Pz ops.toList [] (fun i o hi=>by simpa using hi) (fun j m hj=>by simp at hj) j m (by simpa using h1) i h2
  ·obtain⟨M,hI⟩:=h0;have g:N8 X n0 M w M { w with drawn:=w.drawn+1 }:=⟨⟨rfl,rfl,rfl,Nat.le_refl _,fun _ _ _=>rfl⟩,fun _ _ _=>rfl,fun _ h _=>h,fun _ _ h=>h,fun _=>nR rfl⟩;exact⟨M,hI.same g (hI.H6.grow g rfl rfl (fun _ _ _ _ _=>rfl) fun q hq=>⟨hI.H6.fz q hq,.inl hq⟩) fun _ h=>.inl h⟩
 |false =>
  refine wp_region ?_;have key:∀k i,i+k=ops.size→∀a w,Left X n0 w0 ok0 nt (O1 i) (I6 i) a w→wpOps E.P ops Q (List.range' i k) a w:=by
   intro k
   induction k with
   |zero =>
    intro i hi a w hL;obtain rfl:i=ops.size:=J;exact hQ a w hL
   |succ k ih =>
    intro i hi a w hL;have ho:ops[i]?=some ops[i]:=Array.getElem?_eq_getElem J;rw[List.range'_succ,wpOps_cons];exact (hst' i _ ho).wp ho (by obtain⟨K,h⟩:=hfin;exact⟨K,h i J⟩) hL hG fun a w hL'=>ih (i+1) J a w hL'
  rw[List.range_eq_range'];exact key ops.size 0 J a w h0
theorem Xu{E:En}{ops:Array Oper}{draw:Bool}{id:Nat}{s s':AS}{an I8:List An}{ps:List Prop}(h:AP E ops draw s an=some (s',ps,I8))(hp:J4 ps)
  {X:Nat→Prop} {n0:Nat} {w0:World×Mm} {ok0:Nat→Prop} (hG:∀w,V3 X n0 w0.1 w→E.G w) {Q:Exit→Act→World→Prop} {a:Act} {w:World} (h0:Left X n0 w0 ok0 s.tm.length s.F9 s.D7 a w) (hQ:∀a w,Left X n0 w0 ok0 s.tm.length s'.F9 s'.D7 a w→Q .normal a w) :
  (Code.region id ops draw).wp E.P Q a w:=by
 unfold AP at h;split at h
 ·cases h
 rename_i s1 fs aV bS hrun;split at h
 case h_2=>cases h
 rename_i eQ;cases h;obtain⟨_,hfl,O1,I6,e1,e2,e3,e4,hfin,hst⟩:=Fy hrun hp;exact Nj hfl eQ hst hfin hG (by rw[e1,e2];exact h0) (by rw[e3,e4];exact hQ)
section
variable {w:World} {ρ:Nat→Nat}
mutual
theorem RV.ren:∀{M M':Mm},M'.F=M.F→(∀i,M'.m (ρ i)=M.m i)→(∀i,M'.o (ρ i)=M.o i)→∀(a:AV) (v:Value),RV M w a v→RV M' w (gU ρ a) v
 |_,_,hF,_,_,.dt d,v,h=>by show Rd _ w v d;rw[hF];exact h
 |_,_,_,_,_,.nil,_,h=>h
 |_,_,hF,_,_,.X8 es,v,⟨A,h1,h2⟩=>⟨A,h1,by rw[hF];exact h2⟩
 |_,_,_,_,ho,.own b n,v,⟨A,c,A',n',c',h1,h2,h3,h4⟩=>⟨A,c,A',n',c',h1,(ho b).trans h2,h3,h4⟩
 |_,_,_,hm,_,.sl b n,v,⟨g,h1,h2⟩=>⟨g,(hm b).trans h1,h2⟩
 |_,_,_,hm,_,.O5 b,v,⟨g,h1,h2⟩=>⟨g,(hm b).trans h1,h2⟩
 |_,_,_,hm,_,.ptr b off,v,⟨g,h1,h2⟩=>⟨g,(hm b).trans h1,h2⟩
 |_,_,_,hm,_,.bI b i k,v,⟨g,h1,h2⟩=>⟨g,(hm b).trans h1,h2⟩
 |_,_,_,_,_,.gl _ _,_,h=>h
 |_,_,hF,_,_,.pin cs,v,⟨g,o,vs,h1,h2,h3,h4,h5⟩=>⟨g,o,vs,h1,by rw[hF];exact h2,h3,h4,by rw[hF];exact h5⟩
 |_,_,hF,hm,ho,.agg cs,v,⟨vs,h1,h2⟩=>⟨vs,h1,RL.ren hF hm ho cs vs h2⟩
 |_,_,hF,hm,ho,.l7 cs,v,⟨vs,h1,h2⟩=>⟨vs,h1,RL.ren hF hm ho cs vs h2⟩
 |_,_,hF,hm,ho,.bK f cs,v,⟨vs,h1,h2⟩=>⟨vs,h1,RL.ren hF hm ho cs vs h2⟩
 |_,_,hF,_,_,.Z6 _ _,_,⟨vs,h1,h2⟩=>⟨vs,h1,by rw[hF];exact h2⟩
 |_,_,_,_,_,.un,_,_=>trivial
theorem RL.ren:∀{M M':Mm},M'.F=M.F→(∀i,M'.m (ρ i)=M.m i)→(∀i,M'.o (ρ i)=M.o i)→∀(cs:List AV) (vs:List Value),RL M w cs vs→RL M' w (ou ρ cs) vs
 |_,_,_,_,_,[],_,h=>h
 |_,_,hF,hm,ho,c::cs,_,⟨u,us,h1,h2,h3⟩=>⟨u,us,h1,RV.ren hF hm ho c u h2,RL.ren hF hm ho cs us h3⟩
end
variable {M M':Mm} (hF:M'.F=M.F) (hm:∀i,M'.m (ρ i)=M.m i) (ho:∀i,M'.o (ρ i)=M.o i)
include hF hm ho
theorem MK.ren:∀{x9:List (Value×AV)} {es:List MapEntry},MK M w x9 es→MK M' w (x9.map fun x=>(x.1,gU ρ x.2)) es
 |[],_,h=>h
 | (_k,_a)::_kvs,_,⟨e,es',h1,h2,h3,h4⟩=>⟨e,es',h1,h2,RV.ren hF hm ho _ _ h3,MK.ren h4⟩
theorem jy.ren{b:Nat}{x:Bx}(h:jy M w b x):jy M' w (ρ b) (kE ρ x):=by
 cases x with
 |cells cs=>obtain⟨g,T,vs,h1,h2,h3⟩:=h;exact⟨g,T,vs,(hm b).trans h1,h2,RL.ren hF hm ho _ _ h3⟩
 |buf e k es=>obtain⟨A,n,c,h1,h2⟩:=h;exact⟨A,n,c,(ho b).trans h1,by rw[hF];exact h2⟩
 |ak es=>obtain⟨A,n,c,h1,h2⟩:=h;exact⟨A,n,c,(ho b).trans h1,by rw[hF];exact h2⟩
 |mp x9=>obtain⟨g,es,V4,h1,h2,h3⟩:=h;exact⟨g,es,V4,(hm b).trans h1,h2,MK.ren hF hm ho h3⟩
 |T9 x9=>obtain⟨g,es,V4,h1,h2,h3⟩:=h;exact⟨g,es,V4,(hm b).trans h1,h2,by rw[hF];exact h3⟩
 |rws e k es=>obtain⟨g,vs,h1,h2,h3⟩:=h;exact⟨g,vs,(hm b).trans h1,h2,by rw[hF];exact h3⟩
 |mq es=>obtain⟨g,h1,h2⟩:=h;exact⟨g,(hm b).trans h1,by rw[hF];exact h2⟩
 |cst cs=>obtain⟨g,vs,h1,h2,h3,h4,h5⟩:=h;exact⟨g,vs,(hm b).trans h1,by rw[hF];exact h2,h3,h4,by rw[hF];exact h5⟩
omit hF in
theorem Hx.ren{b:Nat}{x:Bx}{q:Nat}:Hx M' (ρ b) (kE ρ x) q↔Hx M b x q:=by
 cases x <;> simp[Hx,kE,hm,ho]
end
theorem a0X{ρ:Nat→Nat}(x:Bx):(kE ρ x).oI=x.oI:=by cases x <;> rfl
def inv(js:List Nat)(K k:Nat):Option Nat:=match Z0 k js 0 with
 |some i=>some i
 |none=>if K≤k then some (js.length+(k - K)) else none
theorem FB{b:Nat}:∀{js:List Nat} {k:Nat},b∈js→∃i,Z0 b js k=some i
 |j::js,k,h=>by
  unfold Z0;cases e:Nat.beq b j with
  |true=>exact⟨k,rfl⟩
  |false =>
   rcases List.mem_cons.1 h with rfl | h
   ·rw[Nat.beq_refl]at e;cases e
   ·exact FB h
theorem jR{js:List Nat}{K k i:Nat}(h:inv js K k=some i):aO js K i=k:=by
 unfold inv at h;split at h
 ·rename_i i' hi;cases h;have h2:=(nJ hi).2;unfold aO;rw[Nat.sub_zero]at h2;rw[h2]
 ·split at h
  ·rename_i hi hk;cases h;unfold aO;rw[List.getElem?_eq_none J];show K+(js.length+(k - K) - js.length)=k;omega
  ·cases h
theorem a3c{js:List Nat}{K:Nat}(hn:js.Nodup)(hK:∀j∈js,j < K)(i:Nat):inv js K (aO js K i)=some i:=by
 rcases Nat.lt_or_ge i js.length with h | h
 ·have e:aO js K i=js[i]:=by unfold aO;rw[List.getElem?_eq_getElem h]
  rw[e];unfold inv;obtain⟨i',hi'⟩:=FB (k:=0) (List.getElem_mem h);rw[hi'];have h2:=(nJ hi').2;rw[Nat.sub_zero]at h2;obtain⟨h3,h4⟩:=List.getElem?_eq_some_iff.1 h2;exact congrArg some ((List.getElem_inj hn).1 h4)
 ·have e:aO js K i=K+(i - js.length):=by unfold aO;rw[List.getElem?_eq_none h]
  rw[e];unfold inv;cases hi:Z0 (K+(i - js.length)) js 0 with
  |some i' =>
   have h2:=(nJ hi).2;have:=hK _ (List.mem_of_getElem? h2);omega
  |none =>
   show (if K≤K+(i - js.length) then some (js.length+(K+(i - js.length) - K)) else none)=some i;rw[if_pos J];exact congrArg some J
theorem a0Y{js:List Nat}{K k:Nat}(h:inv js K k=none):k ∉ js∧k < K:=by
 unfold inv at h;split at h
 ·cases h
 ·rename_i hi;split at h
  ·cases h
  ·refine⟨fun hm=>?_,J⟩;obtain⟨i,e⟩:=FB (k:=0) hm;rw[hi]at e;cases e
section
variable {E:En} {X:Nat→Prop} {n0:Nat} {w0:World×Mm} {ok0:Nat→Prop} {M:Mm} {nt:Nat} {tm:Nat→AV} {bx:Nat→Option Bx} {a:Act} {w:World}
def iQ(M:Mm)(js:List Nat):Mm:=⟨fun i=>(js[i]?).bind M.m,M.F,fun i=>(js[i]?).bind M.o⟩
def ow(M:Mm)(bx:Nat→Option Bx)(js:List Nat)(g:Nat):Prop:=∃j∈js,∃x,bx j=some x∧Hx M j x g
def dP(bx:Nat→Option Bx)(js:List Nat)(K:Nat)(xs:List (Option Bx))(k:Nat):Option Bx:=match inv js K k with
 |some i=>(lk xs i).map (kE (aO js K))
 |none=>bx k
theorem Inv.a7M(hI:Inv X n0 w0 ok0 M nt tm bx a w){js:List Nat}{K:Nat}(hn:js.Nodup)(Kw:∀j∈js,j < K)(hK:∀k,K≤k→bx k=none){M2:Mm}{w':World}{xs:List (Option Bx)}
  (g:N8 (ow M bx js) w.heap.size (iQ M js) w M2 w') (hS:V7 (ow M bx js) w.heap.size M2 (lk xs) w') (hF:∀b,M2.F b→M.F b∨w.heap.size≤b∨ow M bx js b) {r:AV} {v:Value} (hr:RV M2 w' r v) (d:Option Nat) (hd:∀t,d=some t→t < nt) :
  ∃M3,Inv X n0 w0 ok0 M3 nt (O6 tm d (gU (aO js K) r)) (dP bx js K xs) (a.put d v) w':=by
 have hir:=a3c hn Kw
 let M3:Mm:=⟨fun k=>match inv js K k with | some i=>M2.m i | none=>M.m k,M2.F,fun k=>match inv js K k with | some i=>M2.o i | none=>M.o k⟩
 have hm:∀i,M3.m (aO js K i)=M2.m i:=fun i=>by show (match inv js K (aO js K i) with | some i=>M2.m i | none=>_)=_;rw[hir]
 have ho:∀i,M3.o (aO js K i)=M2.o i:=fun i=>by show (match inv js K (aO js K i) with | some i=>M2.o i | none=>_)=_;rw[hir]
 have mn:∀k,inv js K k=none→M3.m k=M.m k∧M3.o k=M.o k:=fun k h=>⟨by show (match inv js K k with | some i=>M2.m i | none=>_)=_;rw[h],by show (match inv js K k with | some i=>M2.o i | none=>_)=_;rw[h]⟩
 have yf:∀q,ow M bx js q→(n0≤q∨X q)∧q < w.heap.size∧¬M.F q:=fun q ⟨j,_,x,hx,hq⟩=>hI.H6.dom j x q hx hq
 have hle:=hI.le;have bel:V3 X n0 w w':=g.below.mono J fun k hk hx=>by
  rcases (yf k hx).1 with h | h
  ·omega
  ·exact h
 have cases':∀k i,inv js K k=some i→(i < js.length∧js[i]?=some k)∨(js.length≤i∧bx k=none):=fun k i h=>by
  have h1:=jR h;rcases Nat.lt_or_ge i js.length with h2 | h2
  ·refine .inl ⟨h2,?_⟩;unfold aO at h1;rw[List.getElem?_eq_getElem h2]at h1 ⊢
   exact congrArg some h1
  ·refine .inr ⟨h2,hK k ?_⟩;unfold aO at h1;rw[List.getElem?_eq_none h2]at h1;have h3:K+(i - js.length)=k:=h1;omega
 have G:N8 X n0 M w M3 w':=by
  refine⟨bel,g.keep,g.F,fun k q hq=>?_,fun k A n c hq=>?_⟩
  ·cases hi:inv js K k with
   |none=>rw[(mn k hi).1];exact hq
   |some i =>
    rcases cases' k i hi with⟨h1,h2⟩ | ⟨h1,h2⟩
    ·have:=g.m i q (by show (js[i]?).bind M.m=_;rw[h2];exact hq);rw[←jR hi,hm];exact this
    ·rw[hI.H6.wG h2]at hq;cases hq
  ·cases hi:inv js K k with
   |none=>rw[(mn k hi).2];exact⟨A,n,c,hq,Nat.le_refl _,fun _=>⟨rfl,rfl⟩⟩
   |some i =>
    rcases cases' k i hi with⟨h1,h2⟩ | ⟨h1,h2⟩
    ·have:=g.o i A n c (by show (js[i]?).bind M.o=_;rw[h2];exact hq);rw[←jR hi,ho];exact this
    ·rw[hI.H6.AB h2]at hq;cases hq
 -- another box's blocks are not touched
 have far:∀k x q,inv js K k=none→bx k=some x→Hx M k x q→w'.heap[q]?=w.heap[q]?∧¬ow M bx js q:=fun k x q hi hx hq=>by
  have hno:¬ow M bx js q:=fun⟨j,hj,y,hy,hyq⟩=>by
   have:=hI.H6.inj k j x y q hx hy hq hyq;subst this;exact (a0Y hi).1 hj
  exact⟨g.below.block q (hI.H6.dom k x q hx hq).2.1 hno,hno⟩
 have jI:∀k,inv js K k=none→dP bx js K xs k=bx k:=fun k h=>by unfold dP;rw[h]
 have Jn:∀k i,inv js K k=some i→dP bx js K xs k=(lk xs i).map (kE (aO js K)):=fun k i h=>by unfold dP;rw[h]
 have yg:∀k i y,inv js K k=some i→dP bx js K xs k=some y→∃x,lk xs i=some x∧y=kE (aO js K) x:=fun k i y h hy=>by
  rw[Jn k i h]at hy;cases hx:lk xs i with
  |none=>rw[hx]at hy;cases hy
  |some x=>rw[hx]at hy;exact⟨x,rfl,(Option.some.inj hy).symm⟩
 have hx':∀k i x q,inv js K k=some i→(Hx M3 k (kE (aO js K) x) q↔Hx M2 i x q):=fun k i x q h=>by
  have e:=jR h;subst e;exact Hx.ren hm ho
 have H6:V7 X n0 M3 (dP bx js K xs) w':=by
  refine⟨?_,?_,?_,?_,?_,fun q hq=>hS.fz q hq⟩
  ·intro k y hy;cases hi:inv js K k with
   |none =>
    rw[jI k hi]at hy;exact (hI.H6.box k y hy).go G (mn k hi).2 fun q hq=>(far k y q hi hy hq).1
   |some i =>
    obtain⟨x,hx,rfl⟩:=yg k i y hi hy;have e:=jR hi;subst e;exact jy.ren (M:=M2) (M':=M3) rfl hm ho (hS.box i x hx)
  ·intro k y q hy hq;cases hi:inv js K k with
   |none =>
    rw[jI k hi]at hy;have hq':Hx M k y q:=(Hx.eq (mn k hi).1 (mn k hi).2).1 hq;obtain⟨h1,h2,h3⟩:=hI.H6.dom k y q hy hq';refine⟨h1,Nat.lt_of_lt_of_le h2 g.below.size,fun hf=>?_⟩;rcases hF q hf with h4 | h4 | h4
    ·exact h3 h4
    ·omega
    ·exact (far k y q hi hy hq').2 h4
   |some i =>
    obtain⟨x,hx,rfl⟩:=yg k i y hi hy;obtain⟨h1,h2,h3⟩:=hS.dom i x q hx ((hx' k i x q hi).1 hq);refine⟨?_,h2,h3⟩;rcases h1 with h1 | h1
    ·exact .inl J
    ·exact (yf q h1).1
  ·intro k k' y y' q hy hy' hq hq';have cross:∀{k k' y y'},inv js K k=none→(∃i,inv js K k'=some i)→dP bx js K xs k=some y→dP bx js K xs k'=some y'→Hx M3 k y q→Hx M3 k' y' q→False:=by
    intro k k' y y' hi ⟨i',hi'⟩ hy hy' hq hq';rw[jI k hi]at hy;have h1:Hx M k y q:=(Hx.eq (mn k hi).1 (mn k hi).2).1 hq;obtain⟨x',hx2,rfl⟩:=yg k' i' y' hi' hy';rcases (hS.dom i' x' q hx2 ((hx' k' i' x' q hi').1 hq')).1 with h2 | h2
    ·have:=(hI.H6.dom k y q hy h1).2.1;omega
    ·exact (far k y q hi hy h1).2 h2
   cases hi:inv js K k with
   |none =>
    cases hi':inv js K k' with
    |none =>
     rw[jI k hi]at hy;rw[jI k' hi']at hy';exact hI.H6.inj k k' y y' q hy hy' ((Hx.eq (mn k hi).1 (mn k hi).2).1 hq) ((Hx.eq (mn k' hi').1 (mn k' hi').2).1 hq')
    |some i'=>exact (cross hi ⟨i',hi'⟩ hy hy' hq hq').elim
   |some i =>
    cases hi':inv js K k' with
    |none=>exact (cross hi' ⟨i,hi⟩ hy' hy hq' hq).elim
    |some i' =>
     obtain⟨x,hx,rfl⟩:=yg k i y hi hy;obtain⟨x',hx2,rfl⟩:=yg k' i' y' hi' hy';have:=hS.inj i i' x x' q hx hx2 ((hx' k i x q hi).1 hq) ((hx' k' i' x' q hi').1 hq');subst this;rw[←jR hi,←jR hi']
  ·intro k q hq;cases hi:inv js K k with
   |none =>
    rw[(mn k hi).1]at hq;rw[jI k hi];exact hI.H6.hm k q hq
   |some i =>
    have e:=jR hi;rw[←e,hm]at hq;obtain⟨x,h1,h2⟩:=hS.hm i q hq;exact⟨kE (aO js K) x,by rw[Jn k i hi,h1];rfl,by rw[a0X];exact h2⟩
  ·intro k u hq;cases hi:inv js K k with
   |none =>
    rw[(mn k hi).2]at hq;rw[jI k hi];exact hI.H6.ho k u hq
   |some i =>
    have e:=jR hi;rw[←e,ho]at hq;have h1:=hS.ho i u hq;rw[Jn k i hi];cases hx:lk xs i with
    |none=>rw[hx]at h1;cases h1
    |some x=>rfl
 refine⟨M3,hI.put G H6 (fun b hb=>?_) d hd (RV.ren (M:=M2) (M':=M3) rfl hm ho r v hr)⟩;rcases hF b hb with h | h | h
 ·exact .inl h
 ·exact .inr (.inl J)
 ·rcases (yf b h).1 with h | h
  ·exact .inr (.inl h)
  ·exact .inr (.inr h)
theorem Inv.Tu(hI:Inv X n0 w0 ok0 M nt tm bx a w){js:List Nat}{kn:Bool}{cs cs':List AV}{ps:List Prop}(hc:aN js kn bx cs=some (cs',ps))(hp:J4 ps){vs:List Value}(hr:RL M w cs vs) :
  ∃M1,Inv X n0 w0 ok0 M1 nt tm (H9 bx (M8 bx (J3 js bx cs))) a w∧RL (iQ M1 js) w cs' vs∧M1.m=M.m∧M1.o=M.o:=by
 have hst:=GK hc hp (S:=(·∈J3 js bx cs)) fun b hb=>hb
 refine⟨_,hI.freeze _ hst,?_,rfl,rfl⟩;refine jf hI.H6 (F1:=dJ M bx (J3 js bx cs)) (fun q h _=>.inl h) (qc hI.H6 (fun q h _=>.inl h) 1) cs js kn cs' ps vs (iQ ⟨M.m,dJ M bx (J3 js bx cs),M.o⟩ js) rfl (fun b i h=>?_) hc hp (fun b hb=>BP hst b hb) hr;have h2:=(nJ h).2;rw[Nat.sub_zero]at h2;exact⟨by show (js[i]?).bind M.m=_;rw[h2];rfl,by show (js[i]?).bind M.o=_;rw[h2];rfl⟩
def nW(js:List Nat)(bx:Nat→Option Bx):Bx→Option (Bx×List Prop)
 |.cells cs=>match J3 js bx cs,aN js true bx cs with
  |[],some (cs',ps)=>some (.cells cs',ps)
  |_,_=>none
 |.buf e k es=>some (.buf e k es,[])
 |.T9 x9=>some (.T9 x9,[])
 |_=>none
def gL(kM:List Nat)(bx:Nat→Option Bx):List Nat→Option (List (Option Bx)×List Prop)
 |[]=>some ([],[])
 |j::js=>match bx j with
  |some x=>match nW kM bx x,gL kM bx js with
   |some (x',ps),some (xs,qs)=>some (some x'::xs,ps++qs)
   |_,_=>none
  |none=>none
theorem Mo{kM:List Nat}:∀{js:List Nat} {xs:List (Option Bx)} {ps:List Prop},gL kM bx js=some (xs,ps)→J4 ps→xs.length=js.length∧∀i j,js[i]?=some j→∃x x' qs,bx j=some x∧nW kM bx x=some (x',qs)∧J4 qs∧lk xs i=some x'
 |[],_,_,h,_=>by cases h;exact⟨rfl,fun i j h=>by simp at h⟩
 |j::js,xs,ps,h,hp=>by
  unfold gL at h;split at h
  ·rename_i x hx;split at h
   ·rename_i x' aV uW VZ e1 e2;cases h;obtain⟨hp1,hp2⟩:=ed hp;obtain⟨h1,h2⟩:=Mo e2 hp2;refine⟨by simp[h1],fun i j' hi=>?_⟩;cases i with
    |zero=>cases hi;exact⟨x,x',aV,hx,e1,hp1,rfl⟩
    |succ i =>
     obtain⟨y,y',qs,h3,h4,h5,h6⟩:=h2 i j' (by simpa using hi);exact⟨y,y',qs,h3,h4,h5,by simpa[lk] using h6⟩
   ·cases h
  ·cases h
theorem PG(hI:Inv X n0 w0 ok0 M nt tm bx a w){js:List Nat}(hn:js.Nodup){xs:List (Option Bx)}{ps:List Prop}(h:gL js bx js=some (xs,ps))(hp:J4 ps){Y:Nat→Prop}{m0:Nat}(hY:∀j∈js,∀x q,bx j=some x→Hx M j x q→m0≤q∨Y q):V7 Y m0 (iQ M js) (lk xs) w:=by
 obtain⟨hlen,hget⟩:=Mo h hp;have De:∀i x',lk xs i=some x'→∃j x qs,js[i]?=some j∧bx j=some x∧nW js bx x=some (x',qs)∧J4 qs:=by
  intro i x' hx;rcases Nat.lt_or_ge i js.length with hi | hi
  ·obtain⟨x,x2,qs,h1,h2,h3,h4⟩:=hget i js[i] (List.getElem?_eq_getElem hi);rw[hx]at h4;cases h4;exact⟨js[i],x,qs,List.getElem?_eq_getElem hi,h1,h2,h3⟩
  ·unfold lk at hx;rw[List.getElem?_eq_none J]at hx;cases hx
 have sm:∀i j,js[i]?=some j→(iQ M js).m i=M.m j∧(iQ M js).o i=M.o j:=fun i j h=>⟨by show (js[i]?).bind M.m=_;rw[h];rfl,by show (js[i]?).bind M.o=_;rw[h];rfl⟩
 have hx':∀i j x x' qs q,js[i]?=some j→nW js bx x=some (x',qs)→(Hx (iQ M js) i x' q↔Hx M j x q)∧x'.oI=x.oI:=by
  intro i j x x' qs q hj hg;obtain⟨e1,e2⟩:=sm i j hj;cases x with
  |cells cs =>
   simp only[nW]at hg;split at hg
   ·cases hg;exact⟨by simp[Hx,e1],rfl⟩
   ·cases hg
  |buf e k es=>cases hg;exact⟨by simp[Hx,e2],rfl⟩
  |T9 x9=>cases hg;exact⟨by simp[Hx,e1],rfl⟩
  |_=>cases hg
 have b0h:∀i i' j,js[i]?=some j→js[i']?=some j→i=i':=fun i i' j h h'=>by
  obtain⟨h1,h2⟩:=List.getElem?_eq_some_iff.1 h;obtain⟨h3,h4⟩:=List.getElem?_eq_some_iff.1 h';exact (List.getElem_inj hn).1 (h2.trans h4.symm)
 refine⟨?_,?_,?_,?_,?_,fun q hq=>hI.H6.fz q hq⟩
 ·intro i x' hx;obtain⟨j,x,qs,hj,hb,hg,hq⟩:=De i x' hx;obtain⟨e1,e2⟩:=sm i j hj;have Jo:=hI.H6.box j x hb;cases x with
  |cells cs =>
   simp only[nW]at hg;split at hg
   ·rename_i cs' ps' ho hc;cases hg;obtain⟨g,T,vs,h1,h2,h3⟩:=Jo;refine⟨g,T,vs,e1.trans h1,h2,?_⟩;refine jf hI.H6 (F1:=M.F) (fun q h _=>h) (qc hI.H6 (fun q h _=>h) 1) cs js true cs' _ vs (iQ M js) rfl (fun b i h=>?_) hc hq (fun b hb=>?_) h3
    ·have h2:=(nJ h).2;rw[Nat.sub_zero]at h2;exact sm i b h2
    ·have hb':b∈J3 js bx cs:=hb;rw[ho]at hb';cases hb'
   ·cases hg
  |buf e k es =>
   cases hg;obtain⟨A,n,c,h1,h2⟩:=Jo;exact⟨A,n,c,e2.trans h1,h2⟩
  |T9 x9 =>
   cases hg;obtain⟨g,es,V4,h1,h2,h3⟩:=Jo;exact⟨g,es,V4,e1.trans h1,h2,h3⟩
  |_=>cases hg
 ·intro i x' q hx hq;obtain⟨j,x,qs,hj,hb,hg,_⟩:=De i x' hx;have h1:=((hx' i j x x' qs q hj hg).1).1 hq;obtain⟨_,h2,h3⟩:=hI.H6.dom j x q hb h1;exact⟨hY j (List.mem_of_getElem? hj) x q hb h1,h2,h3⟩
 ·intro i i' x y q hx hy hq hq';obtain⟨j,x1,qs,hj,hb,hg,_⟩:=De i x hx;obtain⟨j',y1,rf,hj',hb',hg',_⟩:=De i' y hy;have:=hI.H6.inj j j' x1 y1 q hb hb' (((hx' i j x1 x qs q hj hg).1).1 hq) (((hx' i' j' y1 y rf q hj' hg').1).1 hq');subst this;exact b0h i i' j hj hj'
 ·intro i q hq;have hq2:(js[i]?).bind M.m=some q:=hq;cases hj:js[i]? with
  |none=>rw[hj]at hq2;cases hq2
  |some j =>
   rw[hj]at hq2;obtain⟨x,x',qs,h1,h2,_,h4⟩:=hget i j hj;obtain⟨x2,h5,h6⟩:=hI.H6.hm j q hq2;rw[h1]at h5;cases h5;exact⟨x',h4,((hx' i j x x' qs q hj h2).2).trans h6⟩
 ·intro i u hu;have hu2:(js[i]?).bind M.o=some u:=hu;cases hj:js[i]? with
  |none=>rw[hj]at hu2;cases hu2
  |some j =>
   obtain⟨x,x',qs,_,_,_,h4⟩:=hget i j hj;rw[h4];rfl
theorem a3d(hI:Inv X n0 w0 ok0 M nt tm bx a w){js:List Nat}(hn:js.Nodup){xs:List (Option Bx)}{ps:List Prop}(h:gL js bx js=some (xs,ps))(hp:J4 ps):V7 (ow M bx js) w.heap.size (iQ M js) (lk xs) w :=
 PG hI hn h hp fun j hj x _ hb hq=>.inr ⟨j,hj,x,hb,hq⟩
theorem NV{o:Oper}{Q:Exit→Act→World→Prop}{x:Operand}{args:Array Operand}{ts:Array TypeId}(ho:o.op=.call ⟨.value x,args,ts⟩)(hI:Inv X n0 w0 ok0 M nt tm bx a w)(hd:∀t,o.dst=some t→t < nt)(hG:∀w',V3 X n0 w0.1 w'→E.G w'){f:FuncId}(hx:G6 tm x=.Z6 f [])
  {js:List Nat} {K:Nat} (hn:js.Nodup) (Kw:∀j∈js,j < K) (hK:∀k,K≤k→H9 bx (M8 bx (J3 js bx (args.toList.map (G6 tm)))) k=none) {args':List AV} {ps qs:List Prop} {xs xs':List (Option Bx)} {r:AV}
  (hc:aN js false bx (args.toList.map (G6 tm))=some (args',ps)) (hp:J4 ps) (hb:gL js (H9 bx (M8 bx (J3 js bx (args.toList.map (G6 tm))))) js=some (xs,qs)) (hq:J4 qs) (hs:aK E.P E.G f args' xs r xs') :
  o.wp E.P a w (Left X n0 w0 ok0 nt (O6 tm o.dst (gU (aO js K) r)) (dP (H9 bx (M8 bx (J3 js bx (args.toList.map (G6 tm))))) js K xs')) Q:=by
 have hv:=hI.ev x;rw[hx]at hv;obtain⟨us,hv,yX⟩:=hv;obtain rfl:us=[]:=yX;obtain⟨M1,hI1,h1,_,_⟩:=hI.Tu hc hp (RL.map hI.ev args.toList);have exec:(execOp a.eval o).run E.P w=.ok (.enter f (args.toList.map a.eval).toArray) w:=by
  obtain⟨dd,op,ty,pos,af,gd⟩:=o;simp only at ho;subst ho;have e:args.map a.eval=(args.toList.map a.eval).toArray:=by
   apply Array.ext';simp
  simp only[execOp,resolve,invoke,hv,Deferred.ofValue,Sem.run_bind,Sem.run_pure,Result.andThen,Array.empty_append];rw[show args.map a.eval++([]:List Value).toArray=(args.toList.map a.eval).toArray by rw[e];simp]
  exact NP hs.1
 unfold Oper.wp;rw[exec,Oper.upon_enter];have yf:∀q,ow M1 (H9 bx (M8 bx (J3 js bx (args.toList.map (G6 tm))))) js q→(n0≤q∨X q):=fun q ⟨j,_,y,hy,hyq⟩=>(hI1.H6.dom j y q hy hyq).1
 have hle:=hI1.le;refine (hs.2 _ (iQ M1 js) w _ (fun w' hb'=>hG w' (hI1.below.trans (hb'.mono hle fun k hk hx=>?_))) (a3d hI1 hn hb hq) h1).mono ?_
 ·rcases yf k hx with h | h
  ·omega
  ·exact h
 ·rintro e w' ⟨v,M2,rfl,hg,hst,hF,qX⟩;exact hI1.a7M hn Kw hK hg hst hF qX o.dst hd
end
inductive AE where
 |F4
 |out (id:Nat)
 |ret
structure HG (E:En) (X:Nat→Prop) (n0:Nat) (w0:World×Mm):Prop where
 g:∀w,V3 X n0 w0.1 w→E.G w
 h:∀k,E.nh≤k→w0.2.m k=none∧w0.2.o k=none
inductive LA where
 |inv (ft:List Nat) (nb:Nat) (e:AE) (s:AS)
 |run (n:Nat)
 |J6 (id i:Nat) (js:List Nat) (r:AV) (xs:List (Option Bx))
def a5I(id:Nat):List LA→Bool
 |.J6 id' _ _ _ _::_=>Nat.beq id id'
 |_=>false
def b0i(id i:Nat):List LA→Option (List Nat×AV×List (Option Bx)×List LA)
 |.J6 id' i' js r xs::ls=>match Nat.beq id id' && Nat.beq i i' with
  |true=>some (js,r,xs,ls)
  |false=>none
 |_=>none
def wS(bx:List (Option Bx))(f:Nat→Option Bx)(js:List Nat)(xs:List (Option Bx)):List (Option Bx):=(List.range (bx.length+(xs.length - js.length))).map fun k=>dP f js bx.length xs k
mutual
def II:AV→Bool
 |.dt _=>true
 |.nil=>true
 |.agg cs=>xy cs
 |.l7 cs=>xy cs
 |_=>false
def xy:List AV→Bool
 |[]=>true
 |c::cs=>II c && xy cs
end
mutual
theorem ER{ρ:Nat→Nat}:∀(a:AV),II a=true→gU ρ a=a
 |.dt _,_=>rfl
 |.nil,_=>rfl
 |.agg cs,h=>by rw[gU,ES cs h]
 |.l7 cs,h=>by rw[gU,ES cs h]
 |.X8 _,h=>by cases h
 |.own _ _,h=>by cases h
 |.sl _ _,h=>by cases h
 |.O5 _,h=>by cases h
 |.ptr _ _,h=>by cases h
 |.bI _ _ _,h=>by cases h
 |.gl _ _,h=>by cases h
 |.pin _,h=>by cases h
 |.bK _ _,h=>by cases h
 |.Z6 _ _,h=>by cases h
 |.un,h=>by cases h
theorem ES{ρ:Nat→Nat}:∀(cs:List AV),xy cs=true→ou ρ cs=cs
 |[],_=>rfl
 |c::cs,h=>by
  rw[xy,Bool.and_eq_true]at h;rw[ou,ER c h.1,ES cs h.2]
end
def GQ:List (Option Bx)→Bool
 |[]=>true
 |some (.buf _ _ _)::xs=>GQ xs
 |_::_=>false
theorem Mq:∀{xs:List (Option Bx)},GQ xs=true→∀i ρ,(lk xs i).map (kE ρ)=lk xs i
 |[],_,i,ρ=>by simp[lk]
 |some (.buf e k es)::xs,h,0,ρ=>rfl
 |some (.buf e k es)::xs,h,i+1,ρ=>by
  have:=Mq (xs:=xs) h i ρ;simpa[lk] using this
def IJ(js:List Nat)(r:AV)(xs':List (Option Bx)):Bool:=Nat.beq xs'.length js.length && (II r && GQ xs')
def yY(ops:Array Oper)(o:Oper)(s:AS)(js os:List Nat)(r:AV)(xs':List (Option Bx)):Fp:=match IJ js r xs' with
 |true=>⟨o.looksAt ops,o.dst,js++os,true,false⟩
 |false=>⟨o.looksAt ops,o.dst,List.range (s.bx.length+(xs'.length - js.length)),true,true⟩
theorem Mr{kM:List Nat}{bx bx':Nat→Option Bx}:∀{js:List Nat} {r:List (Option Bx)×List Prop},(∀j∈js,bx j=bx' j)→gL kM bx js=some r→gL kM bx' js=some r
 |[],_,_,h=>h
 |j::js,r,hj,h=>by
  unfold gL at h ⊢;rw[←hj j (List.mem_cons_self ..)];split at h
  ·rename_i x hx;split at h
   ·rename_i x' ps xs qs e1 e2;have e3:=Mr (fun q hq=>hj q (List.mem_cons_of_mem _ hq)) e2;have e4:nW kM bx' x=some (x',ps):=by
     cases x with
     |cells cs =>
      simp only[nW]at e1 ⊢
      split at e1
      ·rename_i ho hc;have hl:=fO (js:=kM) (kn:=true) (bx:=bx) (bx':=bx') (cs:=cs) (fun b hb=>by rw[ho]at hb;cases hb);rw[←hl.1,←hl.2,ho,hc];exact e1
      ·cases e1
     |_=>exact e1
    simp only[e4,e3];exact h
   ·cases h
  ·cases h
def IK(E:En)(ops:Array Oper)(o:Oper)(s:AS)(js:List Nat)(r:AV)(xs':List (Option Bx)):Option (AS×Fp×List Prop) :=
 match (match o.dst with | some d=>Nat.ble (d+1) s.tm.length | none=>true) && nodupB js && js.all (fun j=>Nat.ble (j+1) s.bx.length) with
 |false=>none
 |true=>match iN ops s.F9 o,o.op with
  |some true,.call ⟨.value x,args,_⟩=>match G6 s.F9 x with
   |.Z6 f []=>match aN js false s.D7 (args.toList.map (G6 s.F9)) with
    |some (args',ps)=>match gL js (H9 s.D7 (M8 s.D7 (J3 js s.D7 (args.toList.map (G6 s.F9))))) js with
     |some (xs,qs)=>some (⟨qC s.tm o.dst (gU (aO js s.bx.length) r),wS s.bx (H9 s.D7 (M8 s.D7 (J3 js s.D7 (args.toList.map (G6 s.F9))))) js xs'⟩,yY ops o s js (J3 js s.D7 (args.toList.map (G6 s.F9))) r xs',aK E.P E.G f args' xs r xs'::(ps++qs))
     |none=>none
    |none=>none
   |_=>none
  |_,_=>none
theorem ET:∀{js:List Nat},nodupB js=true→js.Nodup
 |[],_=>.nil
 |j::js,h=>by
  unfold nodupB at h;rw[Bool.and_eq_true]at h;refine .cons (fun x hx e=>?_) (ET h.2);subst e;have:=h.1;simp[hx]at this
theorem Re{xs:List (Option Bx)}{i:Nat}(h:xs.length≤i):lk xs i=none:=by unfold lk;rw[List.getElem?_eq_none h]
theorem a3e{tm:List AV}{bx:List (Option Bx)}{f:Nat→Option Bx}{js:List Nat}{xs:List (Option Bx)}(hf:∀k,bx.length≤k→f k=none)(hj:∀j∈js,j < bx.length):(AS.mk tm (wS bx f js xs)).D7=dP f js bx.length xs:=by
 funext k;unfold AS.D7 wS;simp only[List.getElem?_map];rcases Nat.lt_or_ge k (bx.length+(xs.length - js.length)) with h | h
 ·rw[List.getElem?_range h];rfl
 ·rw[List.getElem?_eq_none (by rw[List.length_range];exact h)];show none=_;unfold dP;split
  ·rename_i i hi;have e:=jR hi;unfold aO at e;split at e
   ·rename_i j hj';have:=hj j (List.mem_of_getElem? hj');omega
   ·rename_i hno;have:=List.getElem?_eq_none_iff.1 hno;rw[Re J];rfl
  ·exact (hf k J).symm
theorem FC{f:Nat→Option Bx}{bs:List Nat}{k:Nat}(h:f k=none):H9 f (M8 f bs) k=none:=by
 rw[qf]
 ·exact h
 ·intro x hx;have:=(iJ hx).2
  simp_all
def uH(E:En)(ops:Array Oper)(id:Nat):List Oper→Nat→AS→List An→List LA→Option (AS×List Fp×List Prop×List An×List LA)
 |[],_,s,an,ls=>some (s,[],[],an,ls)
 |o::os,i,s,an,ls=>match b0i id i ls with
  |some (js,r,xs',fG)=>match IK E ops o s js r xs' with
   |none=>none
   |some (s1,f,ps)=>match uH E ops id os (i+1) s1 an fG with
    |none=>none
    |some (s2,fs,qs,X9,mD)=>some (s2,f::fs,ps++qs,X9,mD)
  |none=>match BU E ops o s an with
   |none=>none
   |some (s1,f,ps,bS)=>match uH E ops id os (i+1) s1 bS ls with
    |none=>none
    |some (s2,fs,qs,X9,mD)=>some (s2,f::fs,ps++qs,X9,mD)
def FQ(E:En)(ops:Array Oper)(id:Nat)(draw:Bool)(s:AS)(an:List An)(ls:List LA):Option (AS×List Prop×List An×List LA) :=
 match uH E ops id ops.toList 0 s an ls with
 |none=>none
 |some (s',fs,ps,I8,ls')=>match !draw || (sU ops && qD [] fs (yc ops.toList [])) with
  |true=>some (s',ps,I8,ls')
  |false=>none
theorem ZI{E:En}{ops:Array Oper}{o:Oper}{s s':AS}{js:List Nat}{r:AV}{xs':List (Option Bx)}{f:Fp}{ps:List Prop}(h:IK E ops o s js r xs'=some (s',f,ps))(hp:J4 ps) :
  Stp E ops s.tm.length o s.F9 s.D7 s'.F9 s'.D7 f∧s'.tm.length=s.tm.length:=by
 unfold IK at h;split at h
 ·cases h
 rename_i hd;simp only[Bool.and_eq_true,List.all_eq_true]at hd;obtain⟨⟨hd,hn⟩,hj⟩:=hd;have hd':∀t,o.dst=some t→t < s.tm.length:=fun t ht=>by
  rw[ht]at hd;have hd2:Nat.ble (t+1) s.tm.length=true:=hd;exact Nat.le_of_ble_eq_true hd2
 have hj:∀j∈js,j < s.bx.length:=fun j h=>by have:=Nat.le_of_ble_eq_true (hj j h);omega
 have hn:=ET hn;split at h
 ·rename_i x args ts hw hop;split at h
  ·rename_i f hx;split at h
   ·rename_i args' aV hc;split at h
    ·rename_i xs qs hb;cases h;obtain⟨hs,hp⟩:=hp;obtain⟨hp1,hp2⟩:=ed hp;have hout:∀k,s.bx.length≤k→s.D7 k=none:=fun k hk=>by unfold AS.D7;rw[List.getElem?_eq_none hk]
     have Ky:=a3e (tm:=qC s.tm o.dst (gU (aO js s.bx.length) r)) (bx:=s.bx) (f:=H9 s.D7 (M8 s.D7 (J3 js s.D7 (args.toList.map (G6 s.F9))))) (js:=js) (xs:=xs') (fun k hk=>FC (hout k hk)) hj;cases yh:IJ js r xs' with
     |true =>
      have hfp:yY ops o s js (J3 js s.D7 (args.toList.map (G6 s.F9))) r xs'=⟨o.looksAt ops,o.dst,js++J3 js s.D7 (args.toList.map (G6 s.F9)),true,false⟩:=by unfold yY;rw[yh]
      rw[hfp];unfold IJ at yh;simp only[Bool.and_eq_true]at yh;obtain⟨hlen,hfl,hab⟩:=yh;have hlen:=Nat.eq_of_beq_eq_true hlen;have hkeys:∀b,b ∉ J3 js s.D7 (args.toList.map (G6 s.F9))→∀f:Nat→Option Bx,H9 f (M8 s.D7 (J3 js s.D7 (args.toList.map (G6 s.F9)))) b=f b:=fun b hb f=>qf fun x hx=>hb (iJ hx).1
      have jI:∀(g:Nat→Option Bx) (K:Nat),(∀j∈js,j < K)→∀b,dP g js K xs' b=match Z0 b js 0 with | some i=>lk xs' i | none=>if K≤b then none else g b:=fun g K hK b=>by
       unfold dP inv;cases hi:Z0 b js 0 with
       |some i=>exact Mq hab i _
       |none =>
        simp only;by_cases c:K≤b
        ·rw[if_pos c,if_pos c];simp only[Re (xs:=xs') (i:=js.length+(b - K)) J,Option.map_none]
        ·rw[if_neg c,if_neg c]
      refine⟨⟨fun t ht=>ht,rfl,hd',.inr (.inr (.inr ⟨r,?_,fun b hb=>?_,?_⟩))⟩,Ay _ _ _⟩
      ·rw[wR hd',ER _ hfl]
      ·have hb':b ∉ js++J3 js s.D7 (args.toList.map (G6 s.F9)):=fun h=>hb ⟨h,rfl⟩
       rw[List.mem_append]at hb';rw[Ky,jI _ _ hj];cases hi:Z0 b js 0 with
       |some i =>
        have h2:=(nJ hi).2;exact absurd (.inl (List.mem_of_getElem? h2)) hb'
       |none =>
        simp only;by_cases c:s.bx.length≤b
        ·rw[if_pos c,hout b c]
        ·rw[if_neg c,hkeys b fun h=>hb' (.inr h)]
      ·intro fF cZ hrt hbt ⟨Kf,hKf⟩ X n0 w0 ok0 Q i a w K ho hG hL hK;obtain⟨M,hI⟩:=hL;have xx:∀t∈o.looksAt ops,fF t=s.F9 t:=hrt;have hev:∀x∈o.op.operands.toList,G6 fF x=G6 s.F9 x:=by
        intro x hx;cases x with
        |tmp t =>
         refine xx t ?_;unfold Oper.looksAt;exact List.mem_append_left _ (List.mem_filterMap.2 ⟨.tmp t,hx,rfl⟩)
        |_=>rfl
       have hwant:iN ops fF o=iN ops s.F9 o:=by
        unfold iN;cases hg:o.guard with
        |none=>rfl
        |some x =>
         obtain⟨g,b⟩:=x;simp only;cases hdd:(ops[g]?).bind (·.dst) with
         |none=>rfl
         |some d =>
          simp only;have:fF d=s.F9 d:=xx d (by
           unfold Oper.looksAt;refine List.mem_append_right _ ?_;rw[hg];simp[hdd])
          rw[this]
       have hxe:G6 fF x=.Z6 f []:=(hev x (by rw[hop];simp[Op.operands,Call.operands])).trans hx;have hae:args.toList.map (G6 fF)=args.toList.map (G6 s.F9):=List.map_congr_left fun y hy=>hev y (by rw[hop];simp[Op.operands,Call.operands];right;simpa using hy)
       have mr:∀b∈J3 js s.D7 (args.toList.map (G6 s.F9)),s.D7 b=cZ b:=fun b hb=>(hbt b (List.mem_append_right _ hb)).symm
       have hjb:∀b∈js,s.D7 b=cZ b:=fun b hb=>(hbt b (List.mem_append_left _ hb)).symm
       have hlc:=fO (kn:=false) mr;have hlf:=sP (kn:=false) mr hc;have hcX:aN js false cZ (args.toList.map (G6 fF))=some (args',aV):=by rw[hae,←hlc.1];exact hc
       have hfX:M8 cZ (J3 js cZ (args.toList.map (G6 fF)))=M8 s.D7 (J3 js s.D7 (args.toList.map (G6 s.F9))):=by rw[hae,←hlc.2,hlf]
       have hbX:gL js (H9 cZ (M8 cZ (J3 js cZ (args.toList.map (G6 fF))))) js=some (xs,qs):=by
        rw[hfX];exact Mr (fun j hj=>vJ (hjb j hj)) hb
       have hnone:∀k,s.bx.length≤k→∀y,(k,y) ∉ M8 s.D7 (J3 js s.D7 (args.toList.map (G6 s.F9))):=fun k hk y hy=>by
        obtain⟨_,x0,h1,_⟩:=iJ hy;rw[hout k hk]at h1;cases h1
       unfold wpOp;simp only[ho];rw[Aw hI (hwant.trans hw)];simp only[if_true];left;refine Oper.wp_mono (fun a w hL'=>hK a w ?_) (NV (K:=s.bx.length+Kf) hop hI hd' hG hxe hn (fun j h=>by have:=hj j h;omega) (fun k hk=>by rw[hfX,qf fun y hy=>hnone k J y hy];exact hKf k J) hcX hp1 hbX hp2 hs)
       ·have e1:gU (aO js (s.bx.length+Kf)) r=r:=ER _ hfl;rw[e1,hfX]at hL';have e2:(fun b=>if b∈js++J3 js s.D7 (args.toList.map (G6 s.F9))∧true=true then (AS.mk (qC s.tm o.dst (gU (aO js s.bx.length) r)) (wS s.bx (H9 s.D7 (M8 s.D7 (J3 js s.D7 (args.toList.map (G6 s.F9))))) js xs')).D7 b else cZ b)=dP (H9 cZ (M8 s.D7 (J3 js s.D7 (args.toList.map (G6 s.F9))))) js (s.bx.length+Kf) xs':=funext fun b=>by
         rw[Ky,jI _ _ hj,jI _ _ (fun j h=>by have:=hj j h;omega)]
         cases hi:Z0 b js 0 with
         |some i =>
          have h2:=(nJ hi).2;rw[if_pos ⟨List.mem_append_left _ (List.mem_of_getElem? h2),rfl⟩]
         |none =>
          simp only;by_cases c:b∈js++J3 js s.D7 (args.toList.map (G6 s.F9))
          ·rw[if_pos ⟨c,Z⟩];have Wl:=hbt b c;by_cases c2:s.bx.length≤b
           ·rw[if_pos c2];split
            ·rfl
            ·rw[vJ Wl,FC (hout b c2)]
           ·rw[if_neg c2,if_neg J,vJ Wl]
          ·rw[if_neg fun h=>c h.1];by_cases c2:s.bx.length+Kf≤b
           ·rw[if_pos c2];exact hKf b J
           ·rw[if_neg c2,hkeys b fun h=>c (List.mem_append_right _ h)]
        rw[e2];exact hL'
     |false =>
     have hfp:yY ops o s js (J3 js s.D7 (args.toList.map (G6 s.F9))) r xs'=⟨o.looksAt ops,o.dst,List.range (s.bx.length+(xs'.length - js.length)),true,true⟩:=by unfold yY;rw[yh]
     rw[hfp];refine⟨⟨fun t ht=>ht,rfl,hd',.inr (.inr (.inl ⟨rfl,fun t ht=>?_,fun b hb=>?_,?_⟩))⟩,Ay _ _ _⟩
     ·rw[wR hd'];exact AO ht
     ·have hb':s.bx.length+(xs'.length - js.length)≤b:=by
       rcases Nat.lt_or_ge b (s.bx.length+(xs'.length - js.length)) with h | h
       ·exact absurd ⟨List.mem_range.2 h,rfl⟩ hb
       ·exact h
      rw[hout b J];unfold AS.D7 wS;simp only[List.getElem?_map];rw[List.getElem?_eq_none (by rw[List.length_range];exact hb')];rfl
     ·intro X n0 w0 ok0 Q i a w K ho hG hL hK;obtain⟨M,hI⟩:=hL;unfold wpOp;simp only[ho];rw[Aw hI hw];simp only[if_true];left;refine Oper.wp_mono (fun a w hL'=>hK a w ?_) (NV hop hI hd' hG hx hn hj (fun k hk=>FC (hout k hk)) hc hp1 hb hp2 hs);rw[Ky,wR hd'];exact hL'
    ·cases h
   ·cases h
  ·cases h
 ·cases h
theorem NW{E:En}{ops:Array Oper}{id:Nat}:∀{os:List Oper} {i:Nat} {s s':AS} {an I8:List An} {ls ls':List LA} {fs:List Fp} {ps:List Prop},uH E ops id os i s an ls=some (s',fs,ps,I8,ls')→J4 ps →
  s'.tm.length=s.tm.length∧fs.length=os.length∧∃(O1:Nat→Nat→AV) (I6:Nat→Nat→Option Bx),O1 0=s.F9∧I6 0=s.D7∧O1 os.length=s'.F9∧I6 os.length=s'.D7∧(∃K,∀i,i≤os.length→∀k,K≤k→I6 i k=none) ∧
   ∀i o f,os[i]?=some o→fs[i]?=some f→Stp E ops s.tm.length o (O1 i) (I6 i) (O1 (i+1)) (I6 (i+1)) f
 |[],_,s,s',an,I8,ls,ls',fs,ps,h,_=>by
  cases h;exact⟨rfl,rfl,fun _=>s.F9,fun _=>s.D7,rfl,rfl,rfl,rfl,⟨s.bx.length,fun _ _ k hk=>FP s hk⟩,fun i o f hi=>by simp at hi⟩
 |o::os,i,s,s',an,I8,ls,ls',fs,ps,h,hp=>by
  have step:∀{s1:AS} {f:Fp} {ig:List Fp} {qs:List Prop} {bS:List An} {fG:List LA},Stp E ops s.tm.length o s.F9 s.D7 s1.F9 s1.D7 f→s1.tm.length=s.tm.length→uH E ops id os (i+1) s1 bS fG=some (s',ig,qs,I8,ls')→J4 qs →
    s'.tm.length=s.tm.length∧(f::ig).length=(o::os).length∧∃(O1:Nat→Nat→AV) (I6:Nat→Nat→Option Bx),O1 0=s.F9∧I6 0=s.D7∧O1 (o::os).length=s'.F9∧I6 (o::os).length=s'.D7∧(∃K,∀i,i≤(o::os).length→∀k,K≤k→I6 i k=none) ∧
     ∀i o' f',(o::os)[i]?=some o'→(f::ig)[i]?=some f'→Stp E ops s.tm.length o' (O1 i) (I6 i) (O1 (i+1)) (I6 (i+1)) f':=by
   intro s1 f ig qs bS fG hs hl h2 hp2;obtain⟨hl2,hf2,O1,I6,e1,e2,e3,e4,⟨Kf,hKf⟩,hst⟩:=NW h2 hp2;refine⟨hl2.trans hl,by simp[hf2],fun i=>match i with | 0=>s.F9 | i+1=>O1 i,fun i=>match i with | 0=>s.D7 | i+1=>I6 i,rfl,rfl,e3,e4,NU hKf,?_⟩;intro i o' f' hi hf;cases i with
   |zero =>
    cases hi;cases hf;simp only[e1,e2];exact hs
   |succ i =>
    rw[hl]at hst;exact hst i o' f' (by simpa using hi) (by simpa using hf)
  unfold uH at h;split at h
  ·split at h
   ·cases h
   ·rename_i s1 f aV h1;split at h
    ·cases h
    ·rename_i h2;cases h;obtain⟨hp1,hp2⟩:=ed hp;obtain⟨hs,hl⟩:=ZI h1 hp1;exact step hs hl h2 hp2
  ·split at h
   ·cases h
   ·rename_i s1 f aV bS h1;split at h
    ·cases h
    ·rename_i h2;cases h;obtain⟨hp1,hp2⟩:=ed hp;obtain⟨hs,hl⟩:=Nh h1 hp1;exact step hs hl h2 hp2
theorem YT{E:En}{ops:Array Oper}{draw:Bool}{id:Nat}{s s':AS}{an I8:List An}{ls ls':List LA}{ps:List Prop}(h:FQ E ops id draw s an ls=some (s',ps,I8,ls'))(hp:J4 ps) :
  s'.tm.length=s.tm.length∧∀{X:Nat→Prop} {n0:Nat} {w0:World×Mm} {ok0:Nat→Prop},HG E X n0 w0→∀{Q:Exit→Act→World→Prop} {a:Act} {w:World},Left X n0 w0 ok0 s.tm.length s.F9 s.D7 a w→(∀a w,Left X n0 w0 ok0 s.tm.length s'.F9 s'.D7 a w→Q .normal a w)→(Code.region id ops draw).wp E.P Q a w:=by
 unfold FQ at h;split at h
 ·cases h
 rename_i s1 fs aV bS fG hrun;split at h
 case h_2=>cases h
 rename_i eQ;cases h;obtain⟨hl,hfl,O1,I6,e1,e2,e3,e4,hfin,hst⟩:=NW hrun hp;exact⟨hl,fun hG _ _ _ h0 hQ=>Nj hfl eQ hst hfin hG.g (by rw[e1,e2];exact h0) (by rw[e3,e4];exact hQ)⟩
end Go.Proofs.YtdkehabacmlegaaGreatDoor
