/- Plain walks, second form: calls, rows that are made and read, maps. -/
import Derived.Test.YthhknjlmjefklaaGreatDoorBH
namespace Go.Proofs.YthhknjlmjefklaaGreatDoor
open Go.RowKit
theorem RL.map{M:Mm}{w:World}{ρ:Operand→AV}{ε:Operand→Value}(h:∀x,RV M w (ρ x) (ε x)):∀xs:List Operand,RL M w (xs.map ρ) (xs.map ε)
 |[]=>rfl
 |x::xs=>⟨ε x,xs.map ε,rfl,h x,RL.map h xs⟩
theorem RL.lift{F:Nat→Prop}{M:Mm}{w:World}(h:∀q,F q→q < w.heap.size→M.F q){cs:List AV}{vs:List Value}(hr:RL (M0 F) w cs vs):RL M w cs vs :=
 RL.go (U1.same (M:=M0 F) (M':=M) h (fun _ _ h=>by cases h) (fun _ _ h=>by cases h)) cs vs hr
theorem RV.lift{F:Nat→Prop}{M:Mm}{w:World}(h:∀q,F q→q < w.heap.size→M.F q){c:AV}{v:Value}(hr:RV (M0 F) w c v):RV M w c v :=
 RV.go (U1.same (M:=M0 F) (M':=M) h (fun _ _ h=>by cases h) (fun _ _ h=>by cases h)) c v hr
section
variable {E:En} {X:Nat→Prop} {n0:Nat} {w0:World×Mm} {ok0:Nat→Prop} {M:Mm} {nt:Nat} {tm:Nat→AV} {bx:Nat→Option Bx} {a:Act} {w:World} {o:Oper} {Q:Exit→Act→World→Prop}
theorem b2M(hS:aG X n0 M bx w){cs cs':List AV}{ps:List Prop}{vs:List Value}(hc:KT bx cs=some (cs',ps))(hp:I5 ps)(hr:RL M w cs vs):RL (M0 fun _=>True) w cs' vs :=
 nM hS (F1:=fun _=>True) (fun _ _ _=>trivial) (wO hS (fun _ _ _=>trivial) 4) cs [] false cs' ps vs (M0 fun _=>True) rfl (fun b i h=>by cases h) hc hp (fun _ _ _ _ _ _=>trivial) hr
theorem Inv.b7A(hI:Inv X n0 w0 ok0 M nt tm bx a w){k:Nat}(hk:bx k=none){M2:Mm}{w':World}{e kk:Nat}{es:aa1}(g:U1 (fun _=>False) w.heap.size (M0 M.F) w M2 w')
  (hS:aG (fun _=>False) w.heap.size M2 (lk [some (.buf e kk es)]) w') (hF:∀b,M2.F b→M.F b∨w.heap.size≤b) {n:Nat} {v:Value} (hr:RV M2 w' (.own 0 n) v) (d:Option Nat) (hd:∀t,d=some t→t < nt) :
  ∃M3,Inv X n0 w0 ok0 M3 nt (U8 tm d (.own k n)) (updB bx [(k,.buf e kk es)]) (a.put d v) w':=by
 let M3:Mm:=⟨M.m,M2.F,fun q=>if q=k then M2.o 0 else M.o q⟩
 have Uh:M3.o k=M2.o 0:=Za0 rfl;have KU:∀q,q≠k→M3.o q=M.o q:=fun q h=>lw h
 have bk:updB bx [(k,.buf e kk es)] k=some (.buf e kk es):=Za0 rfl;have bn:∀q,q≠k→updB bx [(k,.buf e kk es)] q=bx q:=fun q h=>lw h
 have l0:lk [some (.buf e kk es)] 0=some (.buf e kk es):=rfl;have hle:=hI.le;have far:∀q x b,bx q=some x→Hx M q x b→w'.heap[b]?=w.heap[b]?:=fun q x b hx hb=>g.below.block b (hI.J4.dom q x b hx hb).2.1 id
 have G:U1 X n0 M w M3 w':=by
  refine⟨g.below.mono J (fun _ _ h=>h.elim),g.keep,g.F,fun q b h=>h,fun q A m c h=>?_⟩;by_cases e:q=k
  ·subst e;rw[hI.J4.Dc hk]at h;cases h
  ·exact⟨A,m,c,(KU q e).trans h,NE _,fun _=>⟨rfl,rfl⟩⟩
 have hx3:∀q x b,q≠k→(Hx M3 q x b↔Hx M q x b):=fun q x b h=>Hx.eq (M:=M) (M':=M3) rfl (KU q h)
 have hxk:∀b,Hx M3 k (.buf e kk es) b→Hx M2 0 (.buf e kk es) b:=fun b ⟨m,c,h⟩=>⟨m,c,Uh.symm.trans h⟩
 have J4:aG X n0 M3 (updB bx [(k,.buf e kk es)]) w':=by
  refine⟨?_,?_,?_,?_,?_,fun q hq=>hS.fz q hq⟩
  ·intro q y hy;by_cases e:q=k
   ·subst e;rw[bk]at hy;cases hy;obtain⟨A,m,c,h1,h2⟩:=hS.box 0 _ l0;exact⟨A,m,c,Uh.trans h1,h2⟩
   ·rw[bn q e]at hy;exact (hI.J4.box q y hy).go G (KU q e) fun b hb=>far q y b hy hb
  ·intro q y b hy hb;by_cases e:q=k
   ·subst e;rw[bk]at hy;cases hy;obtain⟨h1,h2,h3⟩:=hS.dom 0 _ b l0 (hxk b hb);refine⟨.inl ?_,h2,h3⟩;rcases h1 with h1 | h1
    ·omega
    ·exact h1.elim
   ·rw[bn q e]at hy;obtain⟨h1,h2,h3⟩:=hI.J4.dom q y b hy ((hx3 q y b e).1 hb);refine⟨h1,Zaa h2 g.below.size,fun hf=>?_⟩;rcases hF b hf with h | h
    ·exact h3 h
    ·omega
  ·have cross:∀q y b,q≠k→bx q=some y→Hx M3 q y b→Hx M3 k (.buf e kk es) b→False:=fun q y b e hy hb hb'=>by
    have h1:=(hI.J4.dom q y b hy ((hx3 q y b e).1 hb)).2.1;rcases (hS.dom 0 _ b l0 (hxk b hb')).1 with h | h
    ·omega
    ·exact h
   intro q q' y y' b hy hy' hb hb';by_cases e:q=k
   ·by_cases e':q'=k
    ·rw[e,e']
    ·subst e;rw[bk]at hy;cases hy;rw[bn q' e']at hy';exact (cross q' y' b e' hy' hb' hb).elim
   ·by_cases e':q'=k
    ·subst e';rw[bk]at hy';cases hy';rw[bn q e]at hy;exact (cross q y b e hy hb hb').elim
    ·rw[bn q e]at hy;rw[bn q' e']at hy';exact hI.J4.inj q q' y y' b hy hy' ((hx3 q y b e).1 hb) ((hx3 q' y' b e').1 hb')
  ·intro q b hb;have hb:M.m q=some b:=hb;have e:q≠k:=fun e=>by subst e;rw[hI.J4.zu hk]at hb;cases hb
   rw[bn q e];exact hI.J4.hm q b hb
  ·intro q u hu;by_cases e:q=k
   ·subst e;rw[bk];rfl
   ·rw[bn q e];rw[KU q e]at hu;exact hI.J4.ho q u hu
 obtain⟨A,c,A',n',c',h1,h2,h3⟩:=hr;refine⟨M3,hI.put G J4 (fun b hb=>?_) d hd ⟨A,c,A',n',c',h1,Uh.trans h2,h3⟩⟩;rcases hF b hb with h | h
 ·exact .inl h
 ·exact .inr (.inl J)
theorem a8a{k:Nat}(hk:bx k=none)(bs:List Nat):updB bx (Q9 bx bs) k=none:=by
 rw[uy fun x hx=>?_,hk];obtain⟨_,y,hy,_⟩:=kR hx;rw[hk]at hy;cases hy
theorem YB{x:Operand}{args:Array Operand}{ts:Array TypeId}(ho:o.op=.call ⟨.value x,args,ts⟩)(hI:Inv X n0 w0 ok0 M nt tm bx a w)(hd:∀t,o.dst=some t→t < nt)(hG:E.G w){f:FuncId}{al caps:List AV}{r:AV}{k:Nat}
  (hx:(∃c1,J6 tm x=.clo f c1∧al=args.toList.map (J6 tm)++c1∧caps=[])∨(J6 tm x=.ak f caps∧al=args.toList.map (J6 tm))) {r':AV} {ups:List (Nat×Bx)} {ps:List Prop} (hr:(J5.call f al caps r).run E bx k=some (r',ups,ps)) (hp:I5 ps) :
  o.wp E.P a w (Left X n0 w0 ok0 nt (U8 tm o.dst r') (updB bx ups)) Q:=by
 -- the values handed over
 have hargs:∃us ws:List Value,RL M w al us∧RL (M0 M.F) w caps ws∧∃cs:List Value,a.eval x=.func (.func f) #[] cs.toArray∧us++ws=args.toList.map a.eval++cs:=by
  have hv:=hI.ev x;rcases hx with⟨c1,h1,rfl,rfl⟩ | ⟨h1,rfl⟩
  ·rw[h1]at hv;obtain⟨us,hv,hus⟩:=hv;exact⟨_,[],(RL.map hI.ev _).append hus,rfl,us,hv,I⟩
  ·rw[h1]at hv;obtain⟨us,hv,hus⟩:=hv;exact⟨_,us,RL.map hI.ev _,hus,us,hv,rfl⟩
 obtain⟨us,ws,h1,h2,cs,h3,h4⟩:=hargs;have exec:(∃fn,E.P.funcs[f]?=some fn∧fn.body.isNone=false∧(fn.name == "runtime.NumGoroutine")=false)→(execOp a.eval o).run E.P w=.ok (.enter f (us++ws).toArray) w:=by
  intro hf;obtain⟨dd,op,ty,pos,af,gd⟩:=o;simp only at ho;subst ho;have e:args.map a.eval++cs.toArray=(us++ws).toArray:=by
   rw[h4];apply Array.ext';simp
  simp only[execOp,resolve,invoke,h3,Deferred.ofValue,Za8,Zab,Result.andThen,Array.empty_append];rw[e];exact Oo hf
 simp only[J5.run]at hr;split at hr
 ·rename_i hsc;split at hr
  ·rename_i args' qs hc;cases hr;obtain⟨hc1,hp'⟩:=hp;have h5:=b2M hI.J4 hc hp' h1;unfold Oper.wp;rw[exec hc1.1,Oper.upon_enter];refine (hc1.2 (fun _=>True) w _ hG (h5.append (h2.lift (M:=M0 fun _=>True) fun _ _ _=>trivial))).mono ?_;rintro e w' ⟨v,rfl,hb,mY⟩;exact hI.grown hb o.dst hd (RV.jg _ _ hsc mY)
  ·cases hr
 ·split at hr
  ·rename_i args' qs hc;cases hr;obtain⟨hc1,hp'⟩:=hp;obtain⟨M1,hI1,h5,h6,h7,hF1⟩:=hI.hand hc hp' h1;unfold Oper.wp;rw[exec hc1.1,Oper.upon_enter];refine (hc1.2 M1.F w _ hG (h5.append (h2.lift (M:=M0 M1.F) fun q hq _=>hF1 q hq))).mono ?_;rintro e w' ⟨v,rfl,hb,mY⟩;exact hI1.grown hb o.dst hd (RV.lift (M:=⟨M1.m,fun b=>(M1.F b∨w.heap.size≤b)∧b < w'.heap.size,M1.o⟩) (fun b hb' hl=>⟨hb',hl⟩) mY)
  ·cases hr
theorem Xq{x:Operand}{args:Array Operand}{ts:Array TypeId}(ho:o.op=.call ⟨.value x,args,ts⟩)(hI:Inv X n0 w0 ok0 M nt tm bx a w)(hd:∀t,o.dst=some t→t < nt)(hG:E.G w){f:FuncId}{al caps:List AV}{e0 kk:Nat}{es:aa1}{k:Nat}(hk:bx k=none)
  (hx:(∃c1,J6 tm x=.clo f c1∧al=args.toList.map (J6 tm)++c1∧caps=[])∨(J6 tm x=.ak f caps∧al=args.toList.map (J6 tm))) {r':AV} {ups:List (Nat×Bx)} {ps:List Prop} (hr:(J5.qg f al caps e0 kk es).run E bx k=some (r',ups,ps)) (hp:I5 ps) :
  o.wp E.P a w (Left X n0 w0 ok0 nt (U8 tm o.dst r') (updB bx ups)) Q:=by
 -- the values handed over
 have hargs:∃us ws:List Value,RL M w al us∧RL (M0 M.F) w caps ws∧∃cs:List Value,a.eval x=.func (.func f) #[] cs.toArray∧us++ws=args.toList.map a.eval++cs:=by
  have hv:=hI.ev x;rcases hx with⟨c1,h1,rfl,rfl⟩ | ⟨h1,rfl⟩
  ·rw[h1]at hv;obtain⟨us,hv,hus⟩:=hv;exact⟨_,[],(RL.map hI.ev _).append hus,rfl,us,hv,I⟩
  ·rw[h1]at hv;obtain⟨us,hv,hus⟩:=hv;exact⟨_,us,RL.map hI.ev _,hus,us,hv,rfl⟩
 obtain⟨us,ws,h1,h2,cs,h3,h4⟩:=hargs;have exec:(∃fn,E.P.funcs[f]?=some fn∧fn.body.isNone=false∧(fn.name == "runtime.NumGoroutine")=false)→(execOp a.eval o).run E.P w=.ok (.enter f (us++ws).toArray) w:=by
  intro hf;obtain⟨dd,op,ty,pos,af,gd⟩:=o;simp only at ho;subst ho;have e:args.map a.eval++cs.toArray=(us++ws).toArray:=by
   rw[h4];apply Array.ext';simp
  simp only[execOp,resolve,invoke,h3,Deferred.ofValue,Za8,Zab,Result.andThen,Array.empty_append];rw[e];exact Oo hf
 simp only[J5.run]at hr;split at hr
 ·rename_i args' qs hc;cases hr;obtain⟨hc1,hp'⟩:=hp;obtain⟨M1,hI1,h5,h6,h7,hF1⟩:=hI.hand hc hp' h1;unfold Oper.wp;rw[exec hc1.1,Oper.upon_enter];refine (hc1.2 M1.F w _ hG hI1.J4.fz (h5.append (h2.lift (M:=M0 M1.F) fun q hq _=>hF1 q hq))).mono ?_;rintro e w' ⟨v,M',rfl,hg,hs,hf,mY⟩;exact hI1.b7A (a8a hk _) hg hs hf mY o.dst hd
 ·cases hr
theorem Inv.row(hI:Inv X n0 w0 ok0 M nt tm bx a w){T:TypeId}{sz len:Nat}{ds:List Dt}{vs:List Value}(hl:RL (M0 M.F) w (ds.map .dt) vs)(hdl:ds.length=len * sz)(hsp:0 < sz)(d:Option Nat)(hd:∀t,d=some t→t < nt) :
  ∃M',Inv X n0 w0 ok0 M' nt (U8 tm d (.aW (chunks ds sz len))) bx (a.put d (.slice (some ⟨w.heap.size,0,none⟩) len len)) (w.alloc (.cells vs.toArray T)):=by
 have hb:Below w.heap.size w (w.alloc (.cells vs.toArray T)):=(Below.refl _ _).alloc (NE _) _;have hs2:(w.alloc (.cells vs.toArray T)).heap.size=w.heap.size+1:=I;have hcl:(chunks ds sz len).length=len:=by simp[chunks]
 have hel:∀i (h:i < (chunks ds sz len).length),((chunks ds sz len)[i]).length=sz:=fun i h=>by
  simp only[chunks,EQ,List.length_range]at h;simp only[chunks,List.getElem_map,List.getElem_range,Zaz,Za7,hdl];have:(i+1) * sz≤len * sz:=ZaJ _ h;rw[Nat.succ_mul]at this;omega
 have hgo:U1 (fun _=>False) 0 (M0 M.F) w (M0 fun b=>(M.F b∨w.heap.size≤b)∧b < (w.alloc (.cells vs.toArray T)).heap.size) (w.alloc (.cells vs.toArray T)):=⟨aN.of (hb.mono (ww _)),fun b _ hl=>hb.block b hl,fun b hb' hl=>⟨.inl hb',by rw[hs2];omega⟩,(fun _ _ h=>by cases h),(fun _ _ _ _ h=>by cases h)⟩;refine hI.grown hb d hd ⟨some ⟨w.heap.size,0,none⟩,by rw[hcl],?_⟩;refine Rd.mk (k:=sz) hcl (NE _) (by rw[hs2];omega) ⟨.inr (NE _),by rw[hs2];omega⟩ hel ?_;intro i j hi hj;have hlj:=hel i hi;simp only[chunks,EQ,List.length_range]at hi;have hij:i * sz+j < ds.length:=by
  rw[hdl];have:(i+1) * sz≤len * sz:=ZaJ _ hi;rw[Nat.succ_mul]at this;omega
 obtain⟨u,hu1,hu2⟩:=hl.a2z (i * sz+j) hij;refine⟨u,?_,?_⟩
 ·rw[ZaH,(F5.new w T vs.toArray).cell];simpa using hu1
 ·have:((chunks ds sz len)[i]'(by simp[chunks];exact hi))[j]=ds[i * sz+j]:=by
   simp[chunks]
  rw[this];have hfin:=Rd.go hgo hu2;exact hfin
theorem b40{t:TypeId}{len:Nat}{ps:Array (Nat×Operand)}(ho:o.op=.buildSlice t len ps)(hI:Inv X n0 w0 ok0 M nt tm bx a w)(hd:∀t,o.dst=some t→t < nt){e:TypeId}{ie:TypeInfo}{z:Value}(hu:E.P.underlying t=some (.slice e))(hie:E.P.info? e=some ie)(hz:ie.zero=some z)
  (hpos:len * ie.size≠0) (hsm:len * ie.size≤100000) {cs:List AV} {vs:List Value} (b41:Instr.fill (fun i=>some (i * ie.size,ie.size)) ((Array.range (len * ie.size)).map fun i=>z.cells[i % z.cells.size]!) (ps.map fun x=>(x.1,a.eval x.2)).toList=some vs.toArray) (hcs:RL M w cs vs)
  {k:Nat} {r:AV} {ups:List (Nat×Bx)} {qs:List Prop} (hr:(J5.mk e ie.size len cs).run E bx k=some (r,ups,qs)) (hp:I5 qs):o.wp E.P a w (Left X n0 w0 ok0 nt (U8 tm o.dst r) (updB bx ups)) Q:=by
 have hrun:(execOp a.eval o).run E.P w=.ok (.value (.slice (some ⟨w.heap.size,0,none⟩) len len)) (w.alloc (.cells vs.toArray e)):=by
  obtain⟨dd,op,ty,pos,af,gd⟩:=o;simp only at ho;subst ho;have:=run_buildSlice (P:=E.P) w t e len (ps.map fun x=>(x.1,a.eval x.2)) vs.toArray ie z hu hie hz J hpos (by
   rw[←b41])
  simp only[execOp,Za8,this,Result.andThen,Zab]
 simp only[J5.run]at hr;split at hr
 case h_2=>cases hr
 rename_i cs' ps' hc;split at hr
 case h_2=>cases hr
 rename_i ds hds hone;cases hr;rw[AC]at hone;obtain⟨M1,hI1,h1,h2,h3,_⟩:=hI.hand hc hp hcs;rw[zM hds]at h1;have hlen:=Zau hone.2;rw[zM hds,EQ]at hlen;exact jv hrun (hI1.row h1 hlen (Nat.pos_of_ne_zero fun e=>hpos (by rw[e,Nat.mul_zero])) o.dst hd)
theorem b2N{t:TypeId}{ps:Array (Nat×Operand)}(ho:o.op=.buildSlice t 0 ps)(hps:ps.toList=[])(hI:Inv X n0 w0 ok0 M nt tm bx a w)(hd:∀t,o.dst=some t→t < nt){e:TypeId}{ie:TypeInfo}{k:Nat}(hu:E.P.underlying t=some (.slice e))(hie:E.P.info? e=some ie)(hk:bx k=none):o.wp E.P a w (Left X n0 w0 ok0 nt (U8 tm o.dst (.own k 0)) (updB bx [(k,.buf e ie.size [])])) Q:=by
 obtain rfl:ps=#[]:=by cases ps;simp at hps;rw[hps]
 have hrun':(execOp a.eval o).run E.P w=.ok (.value (.slice (some ⟨w.heap.size,0,none⟩) 0 0)) (w.alloc (.cells #[] e)):=by
  obtain⟨dd,op,ty,pos,af,gd⟩:=o;simp only at ho;subst ho;have:(Instr.buildSlice t 0 #[]).run E.P w=.ok (.slice (some ⟨w.heap.size,0,none⟩) 0 0) (w.alloc (.cells #[] e)):=by
   simp[Instr.buildSlice,Zat hu,sizeOf,typeInfo,hie,newRow,Instr.fill];rw[show (Array.range 0:Array Nat)=#[] by apply Array.ext';simp]
   simp
  simp only[execOp,Array.map_empty,Za8,this,Result.andThen,Zab]
 exact jv hrun' (hI.app (b:=k) (k:=ie.size) (e:=e) (A:=none) (A2:=some ⟨w.heap.size,0,none⟩) (n:=0) (m:=0) (c:=0) (c2:=0) (_es:=[]) (es2:=[]) (w2:=w.alloc (.cells #[] e)) (.inr ⟨hk,rfl⟩) (aZ.made M.F w 0 e ie.size 0 #[] (ww _) (ww _) I)
  (fun g hg _=>Below.heap_alloc _ _ _ hg) I rfl rfl rfl (.inr ⟨_,rfl,NE _⟩) (fun h=>absurd hk h) o.dst hd)
theorem b2O{t:TypeId}{x y:Operand}(ho:o.op=.makeSlice t x y)(hI:Inv X n0 w0 ok0 M nt tm bx a w)(hd:∀t,o.dst=some t→t < nt){e:TypeId}{z:Value}{kk bytes k:Nat}(ht:E.P.underlying t=some (.slice e))(hinfo:(E.P.info? e).map (fun i=>(i.zero,i.size,i.bytes))=some (some z,kk,bytes))
  {kl kc:IntKind} {c:Int} (hx:a.eval x=.int kl 0) (hy:a.eval y=.int kc c) (hk:bx k=none) (hf:qm bytes c):o.wp E.P a w (Left X n0 w0 ok0 nt (U8 tm o.dst (.own k 0)) (updB bx [(k,.buf e kk [])])) Q:=by
 obtain⟨h0,h1,h2⟩:=hf;obtain⟨n,rfl⟩:∃n:Nat,c=n:=⟨c.toNat,J⟩;have hb':bytes * n≤281474976710656:=by
  have e1:((bytes * n:Nat):Int)=(bytes:Int) * (n:Int):=Int.natCast_mul ..;omega
 obtain⟨CS,hs,hrun⟩:=a7v (P:=E.P) t e z kk bytes ht hinfo kl kc n n rfl hb' J;have hrun':(execOp a.eval o).run E.P w=.ok (.value (.slice (some ⟨w.heap.size,0,none⟩) 0 n)) (w.alloc (.cells CS e)):=by
  obtain⟨dd,op,ty,pos,af,gd⟩:=o;simp only at ho;subst ho;simp only[execOp,hx,hy,Za8,hrun,Result.andThen,Zab]
 exact jv hrun' (hI.app (b:=k) (k:=kk) (e:=e) (A:=none) (A2:=some ⟨w.heap.size,0,none⟩) (n:=0) (m:=0) (c:=0) (c2:=n) (_es:=[]) (es2:=[]) (w2:=w.alloc (.cells CS e)) (.inr ⟨hk,rfl⟩) (aZ.made M.F w 0 e kk n CS (ww _) J hs)
  (fun g hg _=>Below.heap_alloc _ _ _ hg) I rfl rfl rfl (.inr ⟨_,rfl,NE _⟩) (fun h=>absurd hk h) o.dst hd)
def AB:Value→Dt
 |.slice none 0 0=>.row []
 |v=>.val v
theorem b0c(F:Nat→Prop)(w:World)(v:Value):Rd F w v (AB v):=by
 unfold AB;split
 ·exact .nil _ _
 ·exact .val _
theorem ZR{t:TypeId}{x y:Operand}(ho:o.op=.makeSlice t x y)(hI:Inv X n0 w0 ok0 M nt tm bx a w)(hd:∀t,o.dst=some t→t < nt){e:TypeId}{ie:TypeInfo}{z:Value}{k n:Nat}(ht:E.P.underlying t=some (.slice e))(hie:E.P.info? e=some ie)(hz:ie.zero=some z)(hzs:z.cells.size=ie.size)(hz1:∀u∈z.cells.toList,u.oneCell'=true)(_hz0:0 < ie.size)
  {kl kc:IntKind} {l c:Int} (hx:a.eval x=.int kl l) (hy:a.eval y=.int kc c) (hk:bx k=none) (hl:l=n) (hc:c=n) (hf:qm ie.bytes c):o.wp E.P a w (Left X n0 w0 ok0 nt (U8 tm o.dst (.sl k n)) (updB bx [(k,.rws e ie.size (List.replicate n (z.cells.toList.map AB)))])) Q:=by
 subst hl;subst hc;obtain⟨h0,h1,h2⟩:=hf;have hml:(maxLen:Int)≤9223372036854775807:=by simp[maxLen]
 have hrun:=run_make (P:=E.P) w t e ie z ht hie hz kl kc n n J (Int.le_refl _) h1 J;simp only[Int.toNat_natCast]at hrun;have hrun':(execOp a.eval o).run E.P w=.ok (.value (.slice (some ⟨w.heap.size,0,none⟩) n n)) (w.alloc (.cells (madeCells z.cells (n * ie.size)) e)):=by
  obtain⟨dd,op,ty,pos,af,gd⟩:=o;simp only at ho;subst ho;simp only[execOp,hx,hy,Za8,hrun,Result.andThen,Zab]
 refine jv hrun' (hI.new hk _ (x':=.rws e ie.size (List.replicate n (z.cells.toList.map AB))) rfl (fun M' g hk'=>⟨w.heap.size,(madeCells z.cells (n * ie.size)).toList,hk',F5.new w e _,?_⟩) o.dst hd fun M' hk'=>⟨_,hk',rfl⟩);refine⟨by rw[Array.length_toList,size_madeCells,List.length_replicate],fun i hi=>?_⟩;rw[List.length_replicate]at hi;rw[List.getElem_replicate];refine⟨by simp[hzs],fun j hj=>?_⟩;simp only[EQ,Array.length_toList,hzs]at hj;have hij:i * ie.size+j < n * ie.size:=by
  have:(i+1) * ie.size≤n * ie.size:=ZaJ _ hi;rw[Nat.succ_mul]at this;omega
 refine⟨z.cells[j]'J,?_,hz1 _ I,?_⟩
 ·have:(i * ie.size+j) % ie.size=j:=by rw[Zbb,Nat.mul_add_mod];exact Nat.mod_eq_of_lt hj
  have hjz:j < z.cells.size:=J;rw[Array.getElem?_toList];unfold madeCells;rw[Array.getElem?_map,Array.getElem?_range,Za0 hij,Option.map_some];have e2:(i * ie.size+j) % z.cells.size=j:=by rw[hzs];exact this
  simp only[e2];simp[hjz]
 ·rw[List.getElem_map];exact b0c _ _ _
theorem ZT{t:TypeId}{x i:Operand}(ho:o.op=.indexAddr t x i)(hI:Inv X n0 w0 ok0 M nt tm bx a w)(hd:∀t,o.dst=some t→t < nt){e:TypeId}{ie:TypeInfo}(hu:E.P.underlying t=some (.slice e))(hie:E.P.info? e=some ie){ki:IntKind}{n:Int}(hi:a.eval i=.int ki n){rr:Option (List Dt)}{k:Nat}
  {r:AV} {ups:List (Nat×Bx)} {ps:List Prop} (hr:(J5.idx (J6 tm x) n ie.size rr).run E bx k=some (r,ups,ps)) (hp:I5 ps):o.wp E.P a w (Left X n0 w0 ok0 nt (U8 tm o.dst r) (updB bx ups)) Q:=by
 simp only[J5.run]at hr;split at hr
 case h_2=>cases hr
 rename_i es qs hc;have key:∃ds,E5 es n ie.size ds∧I5 qs∧r=.pin (ds.map .dt)∧ups=Q9 bx (O4 [] bx [J6 tm x]):=by
  split at hr
  ·rename_i ds;cases hr;exact⟨ds,hp.1,hp.2,rfl,rfl⟩
  ·split at hr
   ·rename_i ds h1 h2;split at hr
    ·rename_i h3;cases hr;exact⟨ds,⟨Zad h1,h2,Zau h3⟩,hp,rfl,rfl⟩
    ·cases hr
   ·cases hr
 obtain⟨ds,⟨h0,hget,hlen⟩,hp',rfl,rfl⟩:=key;obtain⟨M1,hI1,hv,_⟩:=hI.Js hc hp' (hI.ev x);have hv1:Rd M1.F w (a.eval x) (.row es):=hv;obtain⟨A,m,c,hv',hm,_⟩:=Rd.slice hv1;have hv2:Rd M1.F w (.slice A m c) (.row es):=by rw[←hv'];exact hv1
 have hlt:n.toNat < es.length:=(Pi.1 hget).1;have hds:es[n.toNat]=ds:=(Pi.1 hget).2;obtain⟨b,off,kk,rfl,hb,hF,hk,hf⟩:=hv2.cells J;have hkk:kk=ie.size:=by rw[←hk n.toNat hlt,hds,hlen]
 subst hkk;have hrun:(execOp a.eval o).run E.P w=.ok (.value (.pointer (some ⟨b,off+n.toNat * ie.size,none⟩))) w:=by
  obtain⟨dd,op,ty,pos,af,gd⟩:=o;simp only at ho;subst ho;have hcond:0≤n∧n < (m:Int):=⟨h0,J⟩;simp only[execOp,Instr.indexAt,asIntOf,hi,hv',Za8,Zab,Result.andThen,Zat hu,Za0 hcond,run_sizeOf (show ed E.P e=some ie.size by unfold ed;rw[hie]),wL]
 have hrl:∀q,q≤ds.length→∃us:List Value,us.length=q∧(∀(j:Nat) u,us[j]?=some u→w.cell? ⟨b,off+n.toNat * ie.size+j,none⟩=some u)∧RL (M0 M1.F) w ((ds.take q).map .dt) us:=by
  intro q
  induction q with
  |zero=>exact fun _=>⟨[],rfl,(fun j u hj=>by simp at hj),rfl⟩
  |succ q ih =>
   intro hq;obtain⟨us,h1,h2,h3⟩:=ih J;obtain⟨u,e1,e2⟩:=hf n.toNat q hlt (by rw[hds];omega);simp only[hds]at e2;refine⟨us++[u],by simp[h1],fun j v hj=>?_,?_⟩
   ·rw[List.getElem?_append]at hj;split at hj
    ·exact h2 j v hj
    ·rename_i hnj;have:j=q:=by
      cases hjn:j - us.length with
      |zero=>omega
      |succ k=>rw[hjn]at hj;simp at hj
     subst this;rw[h1,Zbl]at hj;simp at hj;rw[e1,hj]
   ·rw[List.take_add_one,Za2 J,ZaL];exact h3.append ⟨u,[],rfl,e2,rfl⟩
 obtain⟨us,_,h2,h3⟩:=hrl ds.length (NE _);rw[List.take_length]at h3;exact jv hrun ⟨M1,hI1.val o.dst hd ⟨b,off+n.toNat * ie.size,us,rfl,hF,hb,h2,h3⟩⟩
end
def yc:Value→AV
 |.agg cs=>.agg (cs.toList.map rU)
 |v=>rU v
theorem ZU(M:Mm)(w:World)(v:Value):RV M w (yc v) v:=by
 unfold yc;split
 ·rename_i cs;exact⟨cs.toList,I,Df M w _⟩
 ·exact OJ M w v
section
variable {E:En} {X:Nat→Prop} {n0:Nat} {w0:World×Mm} {ok0:Nat→Prop} {M:Mm} {nt:Nat} {tm:Nat→AV} {bx:Nat→Option Bx} {a:Act} {w:World} {o:Oper} {Q:Exit→Act→World→Prop}
theorem a6Y{F:Nat→Prop}{A:Option Addr}{n c l h m sz:Nat}{es:aa1}(hr:Rd F w (.slice A n c) (.row es))(hlh:l≤h)(hn:h≤n)(hm:h≤m)(_hmc:m≤c)(hk:l=0∨∀x∈es,x.length=sz):Rd F w (sliced A l h m sz) (.row ((es.take h).drop l)):=by
 have hl:=hr.len;unfold sliced;rcases Nat.eq_or_lt_of_le hlh with e | hlt
 ·subst e;rw[Zbl,List.drop_eq_nil_of_le (by rw[Zaz];omega)];exact .nil _ _
 ·have h1:=hr.take hn;rw[lw J];obtain⟨b,q,kk,rfl,hb,hF,hkk,hf⟩:=hr.cells J;have hcell:∀i j (hi:i < ((es.take h).drop l).length) (hj:j < (((es.take h).drop l)[i]).length),∃u,w.cell? ⟨b,q+l * sz+i * kk+j,none⟩=some u∧Rd F w u (((es.take h).drop l)[i])[j]:=by
   intro i j hi hj;rw[Za7,Zaz]at hi;simp only[List.getElem_drop,List.getElem_take]at hj ⊢
   obtain⟨u,h2,h3⟩:=hf (l+i) j J hj;refine⟨u,?_,h3⟩;rw[←h2];congr 2;rw[Nat.add_mul];rcases hk with rfl | hk
   ·omega
   ·have:kk=sz:=by rw[←hkk 0 J];exact hk _ (Zay _)
    rw[this];omega
  simp only[Option.map_some,wL];exact Rd.mk (k:=kk) (by rw[Za7,Zaz];omega) J hb hF (fun i hi=>by
   simp only[List.getElem_drop,List.getElem_take];exact hkk _ _) hcell
theorem a6n{P:Program}{n c:Nat}{lo hi mx:Option Value}{l h m:Nat}(hlo:(lo=none∧l=0)∨∃k,lo=some (.int k l))(hhi:(hi=none∧h=n)∨∃k,hi=some (.int k h))(hmx:(mx=none∧m=c)∨((∃k,mx=some (.int k m))∧∃k,hi=some (.int k h)))(hlh:l≤h)(hn:h≤n)(hm:h≤m)(hmc:m≤c) :
  (Instr.sliceBounds true n c lo hi mx).run P w=.ok (l,h,m) w:=by
 have b:∀(k:IntKind) (i y:Nat) (code:BoundsCode),i≤y→(Instr.sliceBound (.int k i) y code).run P w=.ok i w:=fun k i y code h=>by
  have:=run_sliceBound (P:=P) w k i y code J J;simpa using this
 rcases hmx with⟨rfl,rfl⟩ | ⟨⟨km,rfl⟩,kh,rfl⟩
 ·rcases hlo with⟨rfl,rfl⟩ | ⟨kl,rfl⟩ <;> rcases hhi with⟨rfl,rfl⟩ | ⟨kh,rfl⟩ <;> simp[Instr.sliceBounds,b,hlh,show h≤m by omega]
 ·rcases hlo with⟨rfl,rfl⟩ | ⟨kl,rfl⟩ <;> simp[Instr.sliceBounds,b,hlh,hm,hmc]
theorem ZV{t:TypeId}{x:Operand}{lo hi mx:Option Operand}(ho:o.op=.slice t x lo hi mx)(hI:Inv X n0 w0 ok0 M nt tm bx a w)(hd:∀t,o.dst=some t→t < nt){e:TypeId}{sz:Nat}(hu:E.P.underlying t=some (.slice e))(hsz:ed E.P e=some sz){l h m:Option Int}
  (hlo:(lo=none∧l=none)∨∃y k z,lo=some y∧a.eval y=.int k z∧l=some z) (hhi:(hi=none∧h=none)∨∃y k z,hi=some y∧a.eval y=.int k z∧h=some z) (hmx:(mx=none∧m=none)∨∃y k z,mx=some y∧a.eval y=.int k z∧m=some z)
  {rr:Option (aa1)} {k:Nat} {r:AV} {ups:List (Nat×Bx)} {ps:List Prop} (hr:(J5.vC (J6 tm x) sz l h m rr).run E bx k=some (r,ups,ps)) (hp:I5 ps):o.wp E.P a w (Left X n0 w0 ok0 nt (U8 tm o.dst r) (updB bx ups)) Q:=by
 simp only[J5.run]at hr;split at hr
 case h_2=>cases hr
 rename_i es qs hc;have key:∃rs,fU es sz (l.getD 0) (h.getD es.length) rs∧(m=none∨m=h)∧I5 qs∧r=cond m.isSome (.aW rs) (.dt (.row rs))∧ups=Q9 bx (O4 [] bx [J6 tm x]):=by
  split at hr <;> (cases hr;exact⟨_,hp.1,hp.2.1,hp.2.2,rfl,rfl⟩)
 obtain⟨rs,⟨h1,h2,h3,h4,h5⟩,h6,hp',rfl,rfl⟩:=key;obtain⟨M1,hI1,hv,_⟩:=hI.Js hc hp' (hI.ev x);have hv1:Rd M1.F w (a.eval x) (.row es):=hv;obtain⟨A,n,c,hv',hn,hcap⟩:=Rd.slice hv1;have hv2:Rd M1.F w (.slice A n c) (.row es):=by rw[←hv'];exact hv1
 have hL:((l.getD 0).toNat:Int)=l.getD 0:=Int.toNat_of_nonneg h1;have hH:((h.getD es.length).toNat:Int)=h.getD es.length:=Int.toNat_of_nonneg J;generalize hLd:(l.getD 0).toNat=L at *;generalize hHd:(h.getD es.length).toNat=H at *;have SN:∃m':Nat,H≤m'∧m'≤c∧(m.isSome=true→m'=H)∧((mx.map a.eval=none∧m'=c)∨((∃k,mx.map a.eval=some (.int k m'))∧∃k,hi.map a.eval=some (.int k H))):=by
  rcases hmx with⟨rfl,rfl⟩ | ⟨y,ky,z,rfl,hy,rfl⟩
  ·exact⟨c,J,NE _,(fun h=>by cases h),.inl ⟨rfl,rfl⟩⟩
  ·rcases h6 with h6 | h6
   ·cases h6
   ·subst h6;rcases hhi with⟨_,e⟩ | ⟨y2,k2,z2,rfl,hy2,e⟩
    ·cases e
    ·cases e;simp only[Zb3]at hH;refine⟨H,NE _,by simp only[Zb3]at h3;omega,fun _=>rfl,.inr ⟨⟨ky,?_⟩,k2,?_⟩⟩
     ·simp only[Option.map_some,hy];rw[hH]
     ·simp only[Option.map_some,hy2];rw[hH]
 obtain⟨m',g1,g2,g3,g4⟩:=SN;have hb:=a6n (P:=E.P) (w:=w) (n:=n) (c:=c) (lo:=lo.map a.eval) (hi:=hi.map a.eval) (mx:=mx.map a.eval) (l:=L) (h:=H) (m:=m') (by
  rcases hlo with⟨rfl,rfl⟩ | ⟨y,ky,z,rfl,hy,rfl⟩
  ·left;simp only[Option.getD_none]at hL;exact⟨rfl,J⟩
  ·right;simp only[Zb3]at hL;exact⟨ky,by simp only[Option.map_some,hy];rw[hL]⟩) (by
  rcases hhi with⟨rfl,rfl⟩ | ⟨y,ky,z,rfl,hy,rfl⟩
  ·left;simp only[Option.getD_none]at hH;exact⟨rfl,J⟩
  ·right;simp only[Zb3]at hH;exact⟨ky,by simp only[Option.map_some,hy];rw[hH]⟩) g4 J J g1 g2
 have hrun:(execOp a.eval o).run E.P w=.ok (.value (sliced A L H m' sz)) w:=by
  obtain⟨dd,op,ty,pos,af,gd⟩:=o;simp only at ho;subst ho;have e1:=b0b hu;have e2:=run_sliceAt_slice (P:=E.P) w t (a.eval x) (lo.map a.eval) (hi.map a.eval) (mx.map a.eval) (by rw[e1];exact hu);have e3:=run_slice_any (P:=E.P) w t A n c (by rw[e1];exact hu) (lo.map a.eval) (hi.map a.eval) (mx.map a.eval);rw[e1]at e3;simp only[hb,Result.andThen,run_sizeOf hsz]at e3;rw[hv']at e2;simp only[execOp,Za8,hv',e2,e3,Result.andThen,Zab]
 have hrd:Rd M1.F w (sliced A L H m' sz) (.row rs):=by
  rw[h4];exact a6Y hv2 J J g1 g2 (h5.elim (fun h5=>.inl J) .inr)
 refine jv hrun ⟨M1,hI1.val o.dst hd ?_⟩;cases hms:m.isSome with
 |false=>exact hrd
 |true =>
  have e:=g3 hms;subst e;have hl:=h4 ▸ (by rw[Za7,Zaz];omega:((es.take m').drop L).length=m' - L);exact⟨_,by rw[hl];rfl,hrd⟩
theorem b2P{src dst:TypeId}{x:Operand}(ho:o.op=.convert src dst x)(hI:Inv X n0 w0 ok0 M nt tm bx a w)(hd:∀t,o.dst=some t→t < nt){e:TypeId}(hu:E.P.underlying src=some (.slice e))(hue:E.P.underlying e=some (.int .u8))(hds:E.P.underlying dst=some .string){l:aa0}{k:Nat}
  {r:AV} {ups:List (Nat×Bx)} {ps:List Prop} (hr:(J5.xZ (J6 tm x) l).run E bx k=some (r,ups,ps)) (hp:I5 ps):o.wp E.P a w (Left X n0 w0 ok0 nt (U8 tm o.dst r) (updB bx ups)) Q:=by
 simp only[J5.run]at hr;split at hr
 case h_2=>cases hr
 rename_i es qs hc;cases hr;obtain⟨he,hp'⟩:=hp;obtain⟨M1,hI1,hv,_⟩:=hI.Js hc hp' (hI.ev x);have hv1:Rd M1.F w (a.eval x) (.row es):=hv;obtain⟨A,n,c,hv',hn,hcap⟩:=Rd.slice hv1;have hv2:Rd M1.F w (.slice A n c) (.row es):=by rw[←hv'];exact hv1
 have hconv:(Conv.bytesToString (.slice A n c)).run E.P w=.ok (str l) w:=by
  rcases Zas n with h0 | h0
  ·subst h0;have hl0:l=[]:=by
    cases l with
    |nil=>rfl
    |cons b l=>rw[he]at hn;simp at hn
   subst hl0;cases A with
   |none=>rfl
   |some ad=>simp[Conv.bytesToString,loadCells,loadCellsFrom,Sem.run_pure];rfl
  ·have hel:es.length=l.length:=by rw[he];simp
   obtain⟨b,q,kk,rfl,hb,hF,hkk,hf⟩:=hv2.cells h0;have hk1:kk=1:=by
    rw[←hkk 0 J];simp[he]
   subst hk1;have hload:(loadCells ⟨b,q,none⟩ n).run E.P w=.ok ((l.map fun b=>(b.toNat:Int)).map (Value.int .u8)).toArray w:=by
    have hln:((l.map fun b=>(b.toNat:Int)).map (Value.int .u8)).length=n:=by rw[←hn,he];simp
    have:=run_loadCells_list (P:=E.P) w ⟨b,q,none⟩ ((l.map fun b=>(b.toNat:Int)).map (Value.int .u8)) (fun j v hj=>by
     rw[wL];have hjl:j < l.length:=by
      have:=(Pi.1 hj).1;simpa using this
     obtain⟨u,h1,h2⟩:=hf j 0 J (by simp[he]);have h3:u=.int .u8 l[j].toNat:=by
      have h4:(es[j]'J)[0]'(by simp[he])=.val (.int .u8 l[j].toNat):=by simp[he]
      rw[h4]at h2;exact Rd.Z9 h2
     simp[hjl]at hj;rw[←hj,←h3,←h1];simp)
    rwa [hln]at this
   rw[run_bytesToString w ⟨b,q,none⟩ n c (l.map fun b=>(b.toNat:Int)) hload];congr 1;show Value.string _=Value.string _;congr 1;have gen:∀(l:aa0) (r:ByteArray),(l.map fun b=>(b.toNat:Int)).foldl (fun r n=>r.push (UInt8.ofNat n.toNat)) r=⟨(r.data.toList++l).toArray⟩:=by
    intro l
    induction l with
    |nil=>intro r;simp
    |cons b l ih =>
     intro r;rw[ZaC,List.foldl_cons,ih];simp[ByteArray.push]
   rw[gen];rfl
 refine jv (v:=str l) ?_ ⟨M,hI.val o.dst hd (Rd.val _)⟩;obtain⟨dd,op,ty,pos,af,gd⟩:=o;simp only at ho;subst ho;have hcv:(convert src dst (.slice A n c)).run E.P w=.ok (str l) w:=by
  unfold convert;simp only[Za8,Zat hu,Zat hds,Result.andThen];simp only[Zat hue,hconv]
 simp only[execOp,Za8,hv',hcv,Result.andThen,Zab]
theorem MK.keys{M:Mm}{w:World}:∀{D8:List (Value×AV)} {es:List MapEntry},MK M w D8 es→es.map (·.key)=D8.map (·.1)
 |[],_,h=>by rw[show _=_ from h];rfl
 | (k,v)::D8,_,⟨e,es',h1,h2,_,h4⟩=>by rw[h1,ZaC,ZaC,h2,MK.keys h4]
theorem MK.get{M:Mm}{w:World}:∀{D8:List (Value×AV)} {es:List MapEntry},MK M w D8 es→∀{i:Nat} {k:Value} {v:AV},D8[i]?=some (k,v)→∃e,es[i]?=some e∧RV M w v e.val
 |[],_,_,i,k,v,hi=>by simp at hi
 | (k,v)::D8,_,⟨e,es',h1,h2,h3,h4⟩,i,k',v',hi=>by
  subst h1;cases i with
  |zero=>simp at hi;exact⟨e,rfl,hi.2 ▸ h3⟩
  |succ i=>exact MK.get h4 (by simpa using hi)
theorem MK.push{M:Mm}{w:World}{k:Value}{v:AV}{e:MapEntry}(he:e.key=k)(hv:RV M w v e.val):∀{D8:List (Value×AV)} {es:List MapEntry},MK M w D8 es→MK M w (D8++[(k,v)]) (es++[e])
 |[],_,h=>by rw[show _=_ from h];exact⟨e,[],rfl,he,hv,rfl⟩
 | (k',v')::D8,_,⟨e',es',h1,h2,h3,h4⟩=>by subst h1;exact⟨e',es'++[e],rfl,h2,h3,MK.push he hv h4⟩
theorem b0d{t:TypeId}(ho:o.op=.makeMap t none)(hI:Inv X n0 w0 ok0 M nt tm bx a w)(hd:∀t,o.dst=some t→t < nt){k:Nat}(hk:bx k=none):o.wp E.P a w (Left X n0 w0 ok0 nt (U8 tm o.dst (.V4 k)) (updB bx [(k,.mp [])])) Q:=by
 have hrun:(execOp a.eval o).run E.P w=.ok (.value (.map (some w.heap.size))) (w.alloc (.map #[] 0)):=by
  obtain⟨dd,op,ty,pos,af,gd⟩:=o;simp only at ho;subst ho;rfl
 exact jv hrun (hI.new hk _ (x':=.mp []) rfl (fun M' g hk'=>⟨w.heap.size,[],0,hk',heap_alloc_new w _,rfl⟩) o.dst hd fun M' hk'=>⟨_,hk',rfl⟩)
theorem a8b{t:TypeId}(ho:o.op=.makeMap t none)(hI:Inv X n0 w0 ok0 M nt tm bx a w)(hd:∀t,o.dst=some t→t < nt){k:Nat}(hk:bx k=none):o.wp E.P a w (Left X n0 w0 ok0 nt (U8 tm o.dst (.V4 k)) (updB bx [(k,.aA [])])) Q:=by
 have hrun:(execOp a.eval o).run E.P w=.ok (.value (.map (some w.heap.size))) (w.alloc (.map #[] 0)):=by
  obtain⟨dd,op,ty,pos,af,gd⟩:=o;simp only at ho;subst ho;rfl
 exact jv hrun (hI.new hk _ (x':=.aA []) rfl (fun M' g hk'=>⟨w.heap.size,[],0,hk',heap_alloc_new w _,rfl⟩) o.dst hd fun M' hk'=>⟨_,hk',rfl⟩)
theorem NG(D8:List (Value×List Dt)):(uT D8).map (·.1)=D8.map (·.1):=by unfold uT;rw[List.map_map];rfl
theorem RL.a1p{M:Mm}{w:World}:∀(ds:List Dt) (vs:List Value),RL M w (ds.map .dt) vs→RL (M0 M.F) w (ds.map .dt) vs
 |[],_,h=>h
 |_::ds,_,⟨u,us,h1,h2,h3⟩=>⟨u,us,h1,h2,RL.a1p ds us h3⟩
theorem RL.YC{M:Mm}{w:World}:∀(ds:List Dt) (vs:List Value),RL (M0 M.F) w (ds.map .dt) vs→RL M w (ds.map .dt) vs
 |[],_,h=>h
 |_::ds,_,⟨u,us,h1,h2,h3⟩=>⟨u,us,h1,h2,RL.YC ds us h3⟩
theorem yS{P:Program}{g:Nat}{es:Array MapEntry}{clk:Nat}(h:w.heap[g]?=some (.map es clk)):(getObj g).run P w=.ok (.map es clk) w:=by
 unfold getObj;simp only[Sem.run,h]
theorem b0e{t:TypeId}{m x y:Operand}(ho:o.op=.insert t m x y∨o.op=.mapUpdate t m x y)(hI:Inv X n0 w0 ok0 M nt tm bx a w)(hd:∀t,o.dst=some t→t < nt){kt et:TypeId}(hu:E.P.underlying t=some (.map kt et)){b:Nat}{key:Value}(hm:J6 tm m=.V4 b)(hx:a.eval x=key)
  {D8:List (Value×List Dt)} {ds:List Dt} (hb:bx b=some (.aA D8)) (hy:J6 tm y=.agg (ds.map .dt)) (hp:eY E.P kt key (D8.map (·.1))):o.wp E.P a w (Left X n0 w0 ok0 nt (U8 tm o.dst (.dt (.val undef))) (updB bx [(b,.aA (D8++[(key,ds)]))])) Q:=by
 have hv:=hI.ev m;rw[hm]at hv;obtain⟨g,hg,hv⟩:=hv;obtain⟨g',es,clk,e1,e2,e3⟩:=hI.J4.box b _ hb;rw[hg]at e1;cases e1;have hfind:=hp es w (e3.keys.trans (NG D8));have hlt:g < w.heap.size:=(hI.J4.dom b _ g hb hg).2.1
 let w2:World:={ w with heap:=w.heap.setIfInBounds g (.map (es.toArray.push { key:=key,val:=a.eval y,born:=clk }) (clk+1)) }
 have hmu:(Instr.mapUpdate t (.map (some g)) key (a.eval y)).run E.P w=.ok () w2:=by
  unfold Instr.mapUpdate;simp only[Za8,Zat hu,Result.andThen,yS e2];rw[Za8]at hfind;cases hck:(Instr.checkKey false 10000 kt key).run E.P w with
  |halt s w'=>rw[hck]at hfind;simp[Result.andThen]at hfind
  |ok u w' =>
   rw[hck]at hfind;simp only[Result.andThen]at hfind ⊢
   simp only[hfind];unfold setObj;simp only[Sem.run,e2];rfl
 have hrun:(execOp a.eval o).run E.P w=.ok .skip w2:=by
  obtain⟨dd,op,ty,pos,af,gd⟩:=o;simp only at ho;rcases ho with ho | ho <;> (subst ho;simp only[execOp,hx,hv,Za8,hmu,Result.andThen,Zab])
 have hother:∀q,q≠g→w2.heap[q]?=w.heap[q]?:=fun q hq=>by
  show (w.heap.setIfInBounds g _)[q]?=_;rw[Array.getElem?_setIfInBounds,lw (ZaR hq)]
 have Ru:w2.heap[g]?=some (.map (es++[({ key:=key,val:=a.eval y,born:=clk }:MapEntry)]).toArray (clk+1)):=by
  show (w.heap.setIfInBounds g _)[g]?=_;rw[Array.getElem?_setIfInBounds,Za0 rfl,Za0 hlt];simp
 have mY:RV (M0 M.F) w (.agg (ds.map .dt)) (a.eval y):=by
  have h:=hI.ev y;rw[hy]at h;obtain⟨vs,h1,h2⟩:=h;exact⟨vs,h1,RL.a1p ds vs h2⟩
 have hE:uT (D8++[(key,ds)])=uT D8++[(key,AV.agg (ds.map .dt))]:=by unfold uT;rw[ZaL];rfl
 exact Jr hrun ⟨M,hI.KR (x:=.aA D8) (x':=.aA (D8++[(key,ds)])) (w':=w2) (r:=.dt (.val undef)) (v:=undef) hb hg rfl hg rfl rfl rfl (by show (w.heap.setIfInBounds g _).size=_;simp) hother
  (fun gg=>⟨g,_,_,hg,Ru,by rw[hE];exact MK.push (k:=key) (v:=.agg (ds.map .dt)) (e:={ key:=key,val:=a.eval y,born:=clk }) rfl (RV.go gg.flat _ _ mY) (MK.go gg.flat e3)⟩) o.dst hd wM⟩
theorem ZW{t:TypeId}{m x y:Operand}(ho:o.op=.insert t m x y∨o.op=.mapUpdate t m x y)(hI:Inv X n0 w0 ok0 M nt tm bx a w)(hd:∀t,o.dst=some t→t < nt){kt et:TypeId}(hu:E.P.underlying t=some (.map kt et)){b k:Nat}{key:Value}(hm:J6 tm m=.V4 b)(hx:a.eval x=key)
  {r:AV} {ups:List (Nat×Bx)} {ps:List Prop} (hr:(J5.ins b kt key (J6 tm y)).run E bx k=some (r,ups,ps)) (hp:I5 ps):o.wp E.P a w (Left X n0 w0 ok0 nt (U8 tm o.dst r) (updB bx ups)) Q:=by
 simp only[J5.run]at hr;split at hr
 case h_3=>cases hr
 case h_2 D8 hb =>
  split at hr
  ·rename_i cs hcs;split at hr
   ·rename_i ds hds;cases hr;have hp1:=hp.1;exact b0e ho hI hd hu hm hx hb (hcs.trans (congrArg AV.agg (zM hds))) hp1
   ·cases hr
  ·cases hr
 rename_i D8 hb;cases hr;have hv:=hI.ev m;rw[hm]at hv;obtain⟨g,hg,hv⟩:=hv;obtain⟨g',es,clk,e1,e2,e3⟩:=hI.J4.box b _ hb;rw[hg]at e1;cases e1;have hfind:=hp.1 es w e3.keys;have hlt:g < w.heap.size:=(hI.J4.dom b _ g hb hg).2.1
 let w2:World:={ w with heap:=w.heap.setIfInBounds g (.map (es.toArray.push { key:=key,val:=a.eval y,born:=clk }) (clk+1)) }
 have hmu:(Instr.mapUpdate t (.map (some g)) key (a.eval y)).run E.P w=.ok () w2:=by
  unfold Instr.mapUpdate;simp only[Za8,Zat hu,Result.andThen,yS e2];rw[Za8]at hfind;cases hck:(Instr.checkKey false 10000 kt key).run E.P w with
  |halt s w'=>rw[hck]at hfind;simp[Result.andThen]at hfind
  |ok u w' =>
   rw[hck]at hfind;simp only[Result.andThen]at hfind ⊢
   simp only[hfind];unfold setObj;simp only[Sem.run,e2];rfl
 have hrun:(execOp a.eval o).run E.P w=.ok .skip w2:=by
  obtain⟨dd,op,ty,pos,af,gd⟩:=o;simp only at ho;rcases ho with ho | ho <;> (subst ho;simp only[execOp,hx,hv,Za8,hmu,Result.andThen,Zab])
 have hother:∀q,q≠g→w2.heap[q]?=w.heap[q]?:=fun q hq=>by
  show (w.heap.setIfInBounds g _)[q]?=_;rw[Array.getElem?_setIfInBounds,lw (ZaR hq)]
 have Ru:w2.heap[g]?=some (.map (es++[({ key:=key,val:=a.eval y,born:=clk }:MapEntry)]).toArray (clk+1)):=by
  show (w.heap.setIfInBounds g _)[g]?=_;rw[Array.getElem?_setIfInBounds,Za0 rfl,Za0 hlt];simp
 exact Jr hrun ⟨M,hI.KR (x:=.mp D8) (x':=.mp (D8++[(key,J6 tm y)])) (w':=w2) (r:=.dt (.val undef)) (v:=undef) hb hg rfl hg rfl rfl rfl (by show (w.heap.setIfInBounds g _).size=_;simp) hother
  (fun gg=>⟨g,_,_,hg,Ru,MK.push (k:=key) (v:=J6 tm y) (e:={ key:=key,val:=a.eval y,born:=clk }) rfl (RV.go gg _ _ (hI.ev y)) (MK.go gg e3)⟩) o.dst hd wM⟩
theorem a8c{t:TypeId}{m x:Operand}{ok:Bool}(ho:o.op=.lookup t m x ok)(hI:Inv X n0 w0 ok0 M nt tm bx a w)(hd:∀t,o.dst=some t→t < nt){kt et:TypeId}(hu:E.P.underlying t=some (.map kt et)){ie:TypeInfo}{z:Value}(hie:E.P.info? et=some ie)(hz:ie.zero=some z){b:Nat}{key:Value}(hm:J6 tm m=.V4 b)(hx:a.eval x=key)
  {D8:List (Value×List Dt)} (hb:bx b=some (.aA D8)) (hp:nY E.P kt key (D8.map (·.1)) none):o.wp E.P a w (Left X n0 w0 ok0 nt (U8 tm o.dst (cond ok (.o7 [yc z,.dt (.val (.bool false))]) (yc z))) (updB bx [])) Q:=by
 have hv:=hI.ev m;rw[hm]at hv;obtain⟨g,hg,hv⟩:=hv;obtain⟨g',es,clk,e1,e2,e3⟩:=hI.J4.box b _ hb;rw[hg]at e1;cases e1;have gen:∀{res:Option (Nat×Value)} {u:Value} {f:Bool},Sem.run E.P (do Instr.checkKey es.isEmpty 10000 kt key;Instr.findKey kt key es) w=.ok res w→(match res with | some (_,v)=>u=v∧f=true | none=>u=z∧f=false)→(execOp a.eval o).run E.P w=.ok (.value (cond ok (.tuple #[u,.bool f]) u)) w:=by
  intro res u f hfind hres;have hlk:(Instr.lookup t (.map (some g)) key ok).run E.P w=.ok (cond ok (.tuple #[u,.bool f]) u) w:=by
   unfold Instr.lookup;simp only[Za8,Zat hu,Result.andThen,yS e2,Zab];rw[Za8]at hfind;have hemp:es.toArray.isEmpty=es.isEmpty:=I;rw[hemp];cases hck:(Instr.checkKey es.isEmpty 10000 kt key).run E.P w with
   |halt s w'=>rw[hck]at hfind;simp[Result.andThen]at hfind
   |ok q w' =>
    rw[hck]at hfind;simp only[Result.andThen]at hfind ⊢
    simp only[hfind];cases res with
    |some p =>
     obtain⟨i,v⟩:=p;obtain⟨rfl,rfl⟩:=hres;cases ok <;> simp[Sem.run_pure]
    |none =>
     obtain⟨rfl,rfl⟩:=hres;cases ok <;> simp[Sem.run_pure,Result.andThen,zeroValue,typeInfo,hie,hz]
  obtain⟨dd,op,ty,pos,af,gd⟩:=o;simp only at ho;subst ho;simp only[execOp,hx,hv,Za8,hlk,Result.andThen,Zab]
 have vF:∀{v:AV} {u:Value} {f:Bool},RV M w v u→RV M w (cond ok (.o7 [v,.dt (.val (.bool f))]) v) (cond ok (.tuple #[u,.bool f]) u):=by
  intro v u f h;cases ok with
  |true=>exact⟨[u,.bool f],rfl,u,_,rfl,h,_,_,rfl,Rd.val _,rfl⟩
  |false=>exact h
 have hf:=hp es w (e3.keys.trans (NG D8));simp only[Option.bind_none]at hf;exact dP hI hd (gen (u:=z) (f:=false) hf ⟨rfl,rfl⟩) (vF (ZU M w z))
theorem a8d{t:TypeId}{m x:Operand}{ok:Bool}(ho:o.op=.lookup t m x ok)(hI:Inv X n0 w0 ok0 M nt tm bx a w)(hd:∀t,o.dst=some t→t < nt){kt et:TypeId}(hu:E.P.underlying t=some (.map kt et)){ie:TypeInfo}{z:Value}(hie:E.P.info? et=some ie)(hz:ie.zero=some z){b:Nat}{key:Value}(hm:J6 tm m=.V4 b)(hx:a.eval x=key)
  {D8:List (Value×List Dt)} {i:Nat} {ds:List Dt} (hb:bx b=some (.aA D8)) (hp:nY E.P kt key (D8.map (·.1)) (some i)) (hi:(D8.map (·.2))[i]?=some ds):o.wp E.P a w (Left X n0 w0 ok0 nt (U8 tm o.dst (cond ok (.o7 [.agg (ds.map .dt),.dt (.val (.bool true))]) (.agg (ds.map .dt)))) (updB bx [])) Q:=by
 have hv:=hI.ev m;rw[hm]at hv;obtain⟨g,hg,hv⟩:=hv;obtain⟨g',es,clk,e1,e2,e3⟩:=hI.J4.box b _ hb;rw[hg]at e1;cases e1;have gen:∀{res:Option (Nat×Value)} {u:Value} {f:Bool},Sem.run E.P (do Instr.checkKey es.isEmpty 10000 kt key;Instr.findKey kt key es) w=.ok res w→(match res with | some (_,v)=>u=v∧f=true | none=>u=z∧f=false)→(execOp a.eval o).run E.P w=.ok (.value (cond ok (.tuple #[u,.bool f]) u)) w:=by
  intro res u f hfind hres;have hlk:(Instr.lookup t (.map (some g)) key ok).run E.P w=.ok (cond ok (.tuple #[u,.bool f]) u) w:=by
   unfold Instr.lookup;simp only[Za8,Zat hu,Result.andThen,yS e2,Zab];rw[Za8]at hfind;have hemp:es.toArray.isEmpty=es.isEmpty:=I;rw[hemp];cases hck:(Instr.checkKey es.isEmpty 10000 kt key).run E.P w with
   |halt s w'=>rw[hck]at hfind;simp[Result.andThen]at hfind
   |ok q w' =>
    rw[hck]at hfind;simp only[Result.andThen]at hfind ⊢
    simp only[hfind];cases res with
    |some p =>
     obtain⟨i,v⟩:=p;obtain⟨rfl,rfl⟩:=hres;cases ok <;> simp[Sem.run_pure]
    |none =>
     obtain⟨rfl,rfl⟩:=hres;cases ok <;> simp[Sem.run_pure,Result.andThen,zeroValue,typeInfo,hie,hz]
  obtain⟨dd,op,ty,pos,af,gd⟩:=o;simp only at ho;subst ho;simp only[execOp,hx,hv,Za8,hlk,Result.andThen,Zab]
 have vF:∀{v:AV} {u:Value} {f:Bool},RV M w v u→RV M w (cond ok (.o7 [v,.dt (.val (.bool f))]) v) (cond ok (.tuple #[u,.bool f]) u):=by
  intro v u f h;cases ok with
  |true=>exact⟨[u,.bool f],rfl,u,_,rfl,h,_,_,rfl,Rd.val _,rfl⟩
  |false=>exact h
 rw[Zag,ZaG]at hi;obtain⟨⟨k0,v0⟩,hi,rfl⟩:=hi;have hi2:(uT D8)[i]?=some (k0,AV.agg (v0.map .dt)):=by unfold uT;rw[Zag,hi];rfl
 obtain⟨e,h1,h2⟩:=e3.get hi2;have hf:=hp es w (e3.keys.trans (NG D8));simp only[Option.bind_some,h1,Option.map_some]at hf;have h3:RV M w (.agg (v0.map .dt)) e.val:=by
  obtain⟨vs,k1,k2⟩:=h2;exact⟨vs,k1,RL.YC v0 vs k2⟩
 exact dP hI hd (gen (u:=e.val) (f:=true) hf ⟨rfl,rfl⟩) (vF h3)
theorem YD{t:TypeId}{m x:Operand}{ok:Bool}(ho:o.op=.lookup t m x ok)(hI:Inv X n0 w0 ok0 M nt tm bx a w)(hd:∀t,o.dst=some t→t < nt){kt et:TypeId}(hu:E.P.underlying t=some (.map kt et)){ie:TypeInfo}{z:Value}(hie:E.P.info? et=some ie)(hz:ie.zero=some z){b k:Nat}{key:Value}(hm:J6 tm m=.V4 b)(hx:a.eval x=key){rr:Option Nat}
  {r:AV} {ups:List (Nat×Bx)} {ps:List Prop} (hr:(J5.look b kt key (yc z) ok rr).run E bx k=some (r,ups,ps)) (hp:I5 ps):o.wp E.P a w (Left X n0 w0 ok0 nt (U8 tm o.dst r) (updB bx ups)) Q:=by
 simp only[J5.run]at hr;split at hr
 case h_3=>cases hr
 case h_1 D8 hb =>
  split at hr
  ·cases hr
  ·cases hr;exact a8c ho hI hd hu hie hz hm hx hb hp.1
 rename_i D8 hb;have hv:=hI.ev m;rw[hm]at hv;obtain⟨g,hg,hv⟩:=hv;obtain⟨g',es,clk,e1,e2,e3⟩:=hI.J4.box b _ hb;rw[hg]at e1;cases e1;have gen:∀{res:Option (Nat×Value)} {u:Value} {f:Bool},Sem.run E.P (do Instr.checkKey es.isEmpty 10000 kt key;Instr.findKey kt key es) w=.ok res w→(match res with | some (_,v)=>u=v∧f=true | none=>u=z∧f=false)→(execOp a.eval o).run E.P w=.ok (.value (cond ok (.tuple #[u,.bool f]) u)) w:=by
  intro res u f hfind hres;have hlk:(Instr.lookup t (.map (some g)) key ok).run E.P w=.ok (cond ok (.tuple #[u,.bool f]) u) w:=by
   unfold Instr.lookup;simp only[Za8,Zat hu,Result.andThen,yS e2,Zab];rw[Za8]at hfind;have hemp:es.toArray.isEmpty=es.isEmpty:=I;rw[hemp];cases hck:(Instr.checkKey es.isEmpty 10000 kt key).run E.P w with
   |halt s w'=>rw[hck]at hfind;simp[Result.andThen]at hfind
   |ok q w' =>
    rw[hck]at hfind;simp only[Result.andThen]at hfind ⊢
    simp only[hfind];cases res with
    |some p =>
     obtain⟨i,v⟩:=p;obtain⟨rfl,rfl⟩:=hres;cases ok <;> simp[Sem.run_pure]
    |none =>
     obtain⟨rfl,rfl⟩:=hres;cases ok <;> simp[Sem.run_pure,Result.andThen,zeroValue,typeInfo,hie,hz]
  obtain⟨dd,op,ty,pos,af,gd⟩:=o;simp only at ho;subst ho;simp only[execOp,hx,hv,Za8,hlk,Result.andThen,Zab]
 have vF:∀{v:AV} {u:Value} {f:Bool},RV M w v u→RV M w (cond ok (.o7 [v,.dt (.val (.bool f))]) v) (cond ok (.tuple #[u,.bool f]) u):=by
  intro v u f h;cases ok with
  |true=>exact⟨[u,.bool f],rfl,u,_,rfl,h,_,_,rfl,Rd.val _,rfl⟩
  |false=>exact h
 split at hr
 ·rename_i i;split at hr
  ·rename_i k0 v hi;cases hr;obtain⟨e,h1,h2⟩:=e3.get hi;have hf:=hp.1 es w e3.keys;simp only[Option.bind_some,h1,Option.map_some]at hf;exact dP hI hd (gen (u:=e.val) (f:=true) hf ⟨rfl,rfl⟩) (vF h2)
  ·cases hr
 ·cases hr;have hf:=hp.1 es w e3.keys;simp only[Option.bind_none]at hf;exact dP hI hd (gen (u:=z) (f:=false) hf ⟨rfl,rfl⟩) (vF (ZU M w z))
theorem a8e{t:TypeId}{m x:Operand}{ok:Bool}(ho:o.op=.lookup t m x ok)(hI:Inv X n0 w0 ok0 M nt tm bx a w)(hd:∀t,o.dst=some t→t < nt){kt et:TypeId}(hu:E.P.underlying t=some (.map kt et)){ie:TypeInfo}{z:Value}(hie:E.P.info? et=some ie)(hz:ie.zero=some z){b k i:Nat}{key:Value}{v:AV}(hm:J6 tm m=.V4 b)(hx:a.eval x=key)
  {r:AV} {ups:List (Nat×Bx)} {ps:List Prop} (hr:(J5.Ac b kt key ok i v).run E bx k=some (r,ups,ps)) (hp:I5 ps):o.wp E.P a w (Left X n0 w0 ok0 nt (U8 tm o.dst r) (updB bx ups)) Q:=by
 simp only[J5.run]at hr;split at hr
 case h_3=>cases hr
 case h_2 D8 hb =>
  split at hr
  ·rename_i cs;split at hr
   ·rename_i ds hds;cases hr;rw[zM hds];exact a8d ho hI hd hu hie hz hm hx hb hp.1 hp.2.1
   ·cases hr
  ·cases hr
 rename_i D8 hb;have hv:=hI.ev m;rw[hm]at hv;obtain⟨g,hg,hv⟩:=hv;obtain⟨g',es,clk,e1,e2,e3⟩:=hI.J4.box b _ hb;rw[hg]at e1;cases e1;have gen:∀{res:Option (Nat×Value)} {u:Value} {f:Bool},Sem.run E.P (do Instr.checkKey es.isEmpty 10000 kt key;Instr.findKey kt key es) w=.ok res w→(match res with | some (_,v)=>u=v∧f=true | none=>u=z∧f=false)→(execOp a.eval o).run E.P w=.ok (.value (cond ok (.tuple #[u,.bool f]) u)) w:=by
  intro res u f hfind hres;have hlk:(Instr.lookup t (.map (some g)) key ok).run E.P w=.ok (cond ok (.tuple #[u,.bool f]) u) w:=by
   unfold Instr.lookup;simp only[Za8,Zat hu,Result.andThen,yS e2,Zab];rw[Za8]at hfind;have hemp:es.toArray.isEmpty=es.isEmpty:=I;rw[hemp];cases hck:(Instr.checkKey es.isEmpty 10000 kt key).run E.P w with
   |halt s w'=>rw[hck]at hfind;simp[Result.andThen]at hfind
   |ok q w' =>
    rw[hck]at hfind;simp only[Result.andThen]at hfind ⊢
    simp only[hfind];cases res with
    |some p =>
     obtain⟨i,v⟩:=p;obtain⟨rfl,rfl⟩:=hres;cases ok <;> simp[Sem.run_pure]
    |none =>
     obtain⟨rfl,rfl⟩:=hres;cases ok <;> simp[Sem.run_pure,Result.andThen,zeroValue,typeInfo,hie,hz]
  obtain⟨dd,op,ty,pos,af,gd⟩:=o;simp only at ho;subst ho;simp only[execOp,hx,hv,Za8,hlk,Result.andThen,Zab]
 have vF:∀{v:AV} {u:Value} {f:Bool},RV M w v u→RV M w (cond ok (.o7 [v,.dt (.val (.bool f))]) v) (cond ok (.tuple #[u,.bool f]) u):=by
  intro v u f h;cases ok with
  |true=>exact⟨[u,.bool f],rfl,u,_,rfl,h,_,_,rfl,Rd.val _,rfl⟩
  |false=>exact h
 cases hr;obtain⟨hp1,hp2,_⟩:=hp;rw[Zag,ZaG]at hp2;obtain⟨⟨k0,v0⟩,hi,rfl⟩:=hp2;obtain⟨e,h1,h2⟩:=e3.get hi;have hf:=hp1 es w e3.keys;simp only[Option.bind_some,h1,Option.map_some]at hf;exact dP hI hd (gen (u:=e.val) (f:=true) hf ⟨rfl,rfl⟩) (vF h2)
end
inductive An where
 |no
 |av (a:AV)
def I4:List An→An×List An
 |[]=>(.no,[])
 |a::r=>(a,r)
def yf:List AV→Option (List Value)
 |[]=>some []
 |.dt (.val v)::cs=>match yf cs with
  |some vs=>some (v::vs)
  |none=>none
 |_::_=>none
def AV.sv:AV→Option Value
 |.dt (.val v)=>some v
 |.nil=>some (.slice none 0 0)
 |.agg cs=>match yf cs with
  |some vs=>some (.agg vs.toArray)
  |none=>none
 |_=>none
theorem RL.yf{M:Mm}{w:World}:∀{cs:List AV} {vs us:List Value},RL M w cs vs→yf cs=some us→vs=us
 |[],_,_,h,hs=>by cases hs;exact h
 |c::cs,_,us,⟨u,Ui,h1,h2,h3⟩,hs=>by
  unfold Go.Proofs.YthhknjlmjefklaaGreatDoor.yf at hs;split at hs
  ·cases ‹_::_=[]›
  ·rename_i v cs' heq;cases heq;have h2':u=v:=Rd.Z9 h2;split at hs
   ·rename_i ys hc;cases hs;rw[h1,h2',RL.yf h3 hc]
   ·cases hs
  ·cases hs
theorem RV.sv{M:Mm}{w:World}{a:AV}{v u:Value}(h:RV M w a v)(hs:a.sv=some u):v=u:=by
 unfold AV.sv at hs;split at hs
 ·cases hs;exact Rd.Z9 h
 ·cases hs;exact h
 ·split at hs
  ·rename_i cs vs hc;cases hs;obtain⟨us,rfl,hl⟩:=h;rw[hl.yf hc]
  ·cases hs
 ·cases hs
def dS(P:Program)(op:BinOp)(t:TypeId)(x y:Operand)(vx vy r:Value):Prop :=
 ∀w,Sem.run P (do eqGuard op t x y vx vy;binOp op t vx vy) w=.ok r w
def lF:BinOp→Value→Value→Option Value
 |.add,.int k a,.int k' b=>match decide (k=k') with | true=>some (.int k (k.wrap (a+b))) | false=>none
 |.sub,.int k a,.int k' b=>match decide (k=k') with | true=>some (.int k (k.wrap (a - b))) | false=>none
 |.mul,.int k a,.int k' b=>match decide (k=k') with | true=>some (.int k (k.wrap (a * b))) | false=>none
 |.eql,.int k a,.int k' b=>match decide (k=k') with | true=>some (.bool (a == b)) | false=>none
 |.neq,.int k a,.int k' b=>match decide (k=k') with | true=>some (.bool (a != b)) | false=>none
 |.lss,.int k a,.int k' b=>match decide (k=k') with | true=>some (.bool (decide (a < b))) | false=>none
 |.leq,.int k a,.int k' b=>match decide (k=k') with | true=>some (.bool (decide (a≤b))) | false=>none
 |.gtr,.int k a,.int k' b=>match decide (k=k') with | true=>some (.bool (decide (a > b))) | false=>none
 |.geq,.int k a,.int k' b=>match decide (k=k') with | true=>some (.bool (decide (a ≥ b))) | false=>none
 |.and,.int k a,.int k' b=>match decide (k=k') with | true=>some (.int k (k.wrap (BitVec.ofInt k.bits a &&& BitVec.ofInt k.bits b).toNat)) | false=>none
 |.or,.int k a,.int k' b=>match decide (k=k') with | true=>some (.int k (k.wrap (BitVec.ofInt k.bits a ||| BitVec.ofInt k.bits b).toNat)) | false=>none
 |.eql,.string a,.string b=>some (.bool (a.data.toList == b.data.toList))
 |.neq,.string a,.string b=>some (.bool !(a.data.toList == b.data.toList))
 |.lss,.string a,.string b=>some (.bool (Op.bytesLess a.data.toList b.data.toList))
 |_,_,_=>none
theorem kV{P:Program}{op:BinOp}{t:TypeId}{x y:Operand}{vx vy r:Value}(h:lF op vx vy=some r):dS P op t x y vx vy r:=by
  intro w;unfold lF at h;split at h <;> try (split at h)
  all_goals first
    | (cases h;done)
    | (rename_i hk
       have e:=Zad hk;subst e;cases h;simp[eqGuard,binOp,Op.intArith,Op.intCmp,Op.intBits]
       done)
    | (cases h
       simp only[←Zb2];rfl)
theorem NH(s:ByteArray)(i:Nat):s[i]?=s.data.toList[i]?:=by
 rw[Array.getElem?_toList];by_cases h:i < s.size
 ·have h':i < s.data.size:=h;rw[getElem?_pos s i h,Array.getElem?_eq_getElem h'];rfl
 ·have h':¬i < s.data.size:=h;rw[getElem?_neg s i h,ZaQ J]
def Uj:UnOp→Value→Option Value
 |.not,.bool b=>some (.bool !b)
 |.neg,.int k n=>some (.int k (k.wrap (0 - n)))
 |.xor,.int k n=>some (.int k (k.wrap (BitVec.ofInt k.bits (if k.signed then -1 else k.max) ^^^ BitVec.ofInt k.bits n).toNat))
 |_,_=>none
theorem b2Q{P:Program}{op:UnOp}{v r:Value}(h:Uj op v=some r)(w:World):(Op.unary op v).run P w=.ok r w:=by
 unfold Uj at h;split at h <;> first | (cases h;rfl) | cases h
theorem b0f{P:Program}{t:TypeId}{x y:Operand}{a b:ByteArray}(h:((a.size+b.size:Nat):Int)≤IntKind.i64.max):dS P .add t x y (.string a) (.string b) (.string (a++b)):=by
 intro w;have h':¬((a.size+b.size:Nat):Int) > IntKind.i64.max:=J;simp only[eqGuard,binOp,Op.stringOp,lw h'];rfl
def Eb(place:Nat→Option (Nat×Nat)):List AV→List (Nat×AV)→Option (List AV)
 |cs,[]=>some cs
 |cs,(i,v)::rest=>match place i with
  |none=>none
  |some (off,size)=>match Nat.beq v.cells.length size && Nat.ble (off+v.cells.length) cs.length && v.cells.all AV.one with
   |true=>Eb place (cs.take off++v.cells++cs.drop (off+v.cells.length)) rest
   |false=>none
theorem Xr(off:Nat):∀(us:List Value) (k:Nat) (vs:List Value),off+k+us.length≤vs.length →
  (us.zipIdx k).foldl (fun (cs:Array Value) (x:Value×Nat)=>cs.setIfInBounds (off+x.2) x.1) vs.toArray=(vs.take (off+k)++us++vs.drop (off+k+us.length)).toArray
 |[],k,vs,h=>I
 |u::us,k,vs,h=>by
  rw[Za1]at h;rw[List.zipIdx_cons,List.foldl_cons];have e:(vs.toArray.setIfInBounds (off+k) u)=(vs.set (off+k) u).toArray:=I;simp only[e];rw[Xr off us (k+1) (vs.set (off+k) u) (by simp;omega)];congr 1;have h1:(vs.set (off+k) u).take (off+(k+1))=vs.take (off+k)++[u]:=by
   rw[List.set_eq_take_append_cons_drop,Za0 J,List.take_append,Zae (by simp;omega)];simp[List.length_take];rw[show off+(k+1) - min (off+k) vs.length=1 by omega]
   rfl
  have h2:(vs.set (off+k) u).drop (off+(k+1)+us.length)=vs.drop (off+k+(us.length+1)):=by
   rw[List.drop_set,Za0 J];congr 1;omega
  rw[h1,h2,Za1];simp
def RP(M:Mm)(w:World):List (Nat×AV)→List (Nat×Value)→Prop
 |[],ps=>ps=[]
 | (i,a)::qs,ps=>∃v vs,ps=(i,v)::vs∧RV M w a v∧RP M w qs vs
theorem RP.map{M:Mm}{w:World}{ρ:Operand→AV}{ε:Operand→Value}(h:∀x,RV M w (ρ x) (ε x)):∀xs:List (Nat×Operand),RP M w (xs.map fun x=>(x.1,ρ x.2)) (xs.map fun x=>(x.1,ε x.2))
 |[]=>rfl
 |x::xs=>⟨_,_,rfl,h x.2,RP.map h xs⟩
theorem OL{M:Mm}{w:World}{place:Nat→Option (Nat×Nat)}:∀{qs:List (Nat×AV)} {ps:List (Nat×Value)} {cs cs':List AV} {vs:List Value},RP M w qs ps→RL M w cs vs→Eb place cs qs=some cs'→∃vs',Instr.fill place vs.toArray ps=some vs'.toArray∧RL M w cs' vs'
 |[],ps,cs,cs',vs,hp,hl,h=>by
  cases h;rw[show ps=[] from hp]
  exact⟨vs,rfl,hl⟩
 | (i,a)::qs,_,cs,cs',vs,⟨v,rest,hp,hv,hr⟩,hl,h=>by
  subst hp;unfold Eb at h;unfold Instr.fill;cases hpl:place i with
  |none=>rw[hpl]at h;cases h
  |some x =>
   obtain⟨off,size⟩:=x;rw[hpl]at h;simp only at h ⊢;cases hc:(Nat.beq a.cells.length size && Nat.ble (off+a.cells.length) cs.length && a.cells.all AV.one) with
   |false=>rw[hc]at h;cases h
   |true =>
    rw[hc]at h;simp only at h;simp only[AC]at hc;have h1:=Zau hc.1.1;have h2:=ZaD hc.1.2;obtain⟨us,hu1,hu2⟩:=hv.cells hc.2;have Bz:=hu2.len;have hvl:=hl.len;have e1:(v.cells.size≠size || decide (off+v.cells.size > vs.toArray.size))=false:=by
     rw[hu1];simp;omega
    have e2:v.cells.zipIdx.foldl (fun cs (x:Value×Nat)=>cs.setIfInBounds (off+x.2) x.1) vs.toArray=(vs.take off++us++vs.drop (off+us.length)).toArray:=by
     have:=Xr off us 0 vs J;rw[hu1];simp only[Nat.add_zero]at this;rw[←this,←Array.foldl_toList];simp
    rw[lw (by rw[e1];simp),e2];refine OL hr (((hl.take off).append hu2).append (hl.drop (off+us.length))) ?_;rw[Bz];exact h
def JW(P:Program)(t:TypeId)(f:Nat):Option (Nat×TypeId):=match P.underlying t with
 |some (.struct fs)=>match fs[f]? with
  |some fl=>some (fl.offset,fl.type)
  |none=>none
 |_=>none
def Ih(P:Program):List Field→Option (List (Nat×Nat))
 |[]=>some []
 |f::fs=>match P.info? f.type,Ih P fs with
  |some i,some r=>some ((f.offset,i.size)::r)
  |_,_=>none
def Jt(P:Program)(t:TypeId):Option (List AV):=match P.info? t with
 |some i=>match i.zero with
  |some z=>some (z.cells.toList.map rU)
  |none=>none
 |none=>none
def Qh(P:Program)(t:TypeId)(ps:List (Nat×AV)):Option (List AV):=match Jt P t,P.underlying t with
 |some z,some (.struct fs)=>match Ih P fs.toList with
  |some pl=>Eb (pl.toArray[·]?) z ps
  |none=>none
 |_,_=>none
def Ad(P:Program)(t:TypeId):Option (TypeId×TypeInfo×Value):=match P.underlying t with
 |some (.slice e)=>match P.info? e with
  |some i=>match i.zero with
   |some z=>some (e,i,z)
   |none=>none
  |none=>none
 |_=>none
def ED(P:Program)(t:TypeId):Option (TypeId×Value):=match P.underlying t with
 |some (.map k e)=>match P.info? e with
  |some i=>match i.zero with
   |some z=>some (k,z)
   |none=>none
  |none=>none
 |_=>none
def intOf:AV→Option Int
 |.dt (.val (.int _ n))=>some n
 |_=>none
def uK(ρ:Operand→AV):Option Operand→Option (Option Int)
 |none=>some none
 |some x=>match intOf (ρ x) with
  |some n=>some (some n)
  |none=>none
def b7B(G:World→Prop)(g off:Nat)(r:Value):Prop:=∀w,G w→w.cell? ⟨g,off,none⟩=some r
def b7C(n:Int)(len:Nat):Prop:=0≤n∧n < len∧2≤len
def Qi(E:En)(n:Nat)(ag:Bool)(x:AV)(an:List An):Option (J5×List An):=match x with
 |.ptr b off=>some (.load b off n ag,an)
 |.eX b i k=>match Nat.beq n k,I4 an with
  |true,(.av (.pin cs),an)=>match eu cs with
   |some ds=>some (.zZ b i k ds ag,an)
   |none=>none
  |_,_=>none
 |.pin cs=>match rowAt cs 0 n ag with
  |some r=>some (.val r,an)
  |none=>none
 |.gl g off=>match ag with
  |true=>none
  |false=>match I4 an with
   | (.av (.dt (.val r)),an)=>some (.prop (.dt (.val r)) [b7B E.G g off r],an)
   | (_,an)=>match E.T g off with
    |some r=>some (.val (.dt (.val r)),an)
    |none=>none
 |_=>none
def Rw(sz:Nat)(x:AV)(i:Int)(an:List An):Option (J5×List An):=match x,I4 an with
 |.sl b n,(.no,an)=>match decide (0≤i) && decide (i < n) with
  |true=>some (.val (.eX b i.toNat sz),an)
  |false=>none
 |.sl b n,(.av .un,an)=>some (.prop (.eX b i.toNat sz) [0≤i∧i < n],an)
 |x,(.av (.pin cs),an)=>match eu cs with
  |some ds=>some (.idx x i sz (some ds),an)
  |none=>none
 |x,(.no,an)=>some (.idx x i sz none,an)
 |_,_=>none
def a1q(E:En)(op:BinOp)(t:TypeId)(x y:Operand)(vx vy:Value)(an:List An):Option (J5×List An):=match I4 an with
 | (.no,an)=>match lF op vx vy with
  |some r=>some (.val (.dt (.val r)),an)
  |none=>none
 | (.av (.dt (.val r)),an)=>some (.prop (.dt (.val r)) [dS E.P op t x y vx vy r],an)
 |_=>none
def a1r(n:Nat)(an:List An):Option (J5×List An):=match I4 an with
 | (.av (.dt (.val r)),an)=>some (.prop (.dt (.val r)) [r=.int .i64 n],an)
 | (_,an)=>some (.val (.dt (.val (.int .i64 n))),an)
def lenOf:AV→Option Nat
 |.dt (.row es)=>some es.length
 |.aW es=>some es.length
 |.nil=>some 0
 |.own _ n=>some n
 |.sl _ n=>some n
 |.dt (.val (.string s))=>some s.data.toList.length
 |_=>none
def isStr(P:Program)(t:TypeId):Option Bool:=match P.underlying t with
 |some .string=>some true
 |some (.slice _)=>some false
 |_=>none
def AV.isS:AV→Bool
 |.dt (.val (.string _))=>true
 |_=>false
def a2A:AV→Option (Nat×Nat×aa1)
 |.o7 [.own e k,.dt (.row es)]=>some (e,k,es)
 |_=>none
def Dz(E:En)(ρ:Operand→AV)(c:Call)(an:List An):Option (J5×List An):=match c with
 |⟨.value x,args,_⟩=>match ρ x,I4 an with
  |.clo f caps,(.av r,an)=>some (match a2A r with | some (e,k,es)=>.qg f (args.toList.map ρ++caps) [] e k es | none=>.call f (args.toList.map ρ++caps) [] r,an)
  |.ak f caps,(.av r,an)=>some (match a2A r with | some (e,k,es)=>.qg f (args.toList.map ρ) caps e k es | none=>.call f (args.toList.map ρ) caps r,an)
  |_,_=>none
 |⟨.builtin .len,⟨[x]⟩,⟨t::_⟩⟩=>match isStr E.P t,lenOf (ρ x) with
  |some s,some n=>match s == (ρ x).isS with
   |true=>a1r n an
   |false=>none
  |_,_=>none
 |⟨.builtin .max,⟨[x,y]⟩,_⟩=>match ρ x,ρ y,I4 an with
  |.dt (.val (.int k p)),.dt (.val (.int _ q)),(.av (.dt (.val r)),an)=>some (.prop (.dt (.val r)) [r=.int k (if q > p then q else p)],an)
  |.dt (.val (.int k p)),.dt (.val (.int _ q)),(_,an)=>some (.val (.dt (.val (.int k (if q > p then q else p)))),an)
  |_,_,_=>none
 |⟨.builtin .min,⟨[x,y]⟩,_⟩=>match ρ x,ρ y,I4 an with
  |.dt (.val (.int k p)),.dt (.val (.int _ q)),(.av (.dt (.val r)),an)=>some (.prop (.dt (.val r)) [r=.int k (if q < p then q else p)],an)
  |.dt (.val (.int k p)),.dt (.val (.int _ q)),(_,an)=>some (.val (.dt (.val (.int k (if q < p then q else p)))),an)
  |_,_,_=>none
 |⟨.builtin .append,⟨[s,x]⟩,⟨[t,t']⟩⟩=>match Ad E.P t,Ad E.P t' with
  |some (e,i,z),some _=>match Nat.beq z.cells.size i.size && Nat.ble 1 i.size with
   |true=>match I4 an with
    | (.no,an)=>some (.app e i.size i.bytes (ρ s) (ρ x) true,an)
    | (_,an)=>some (.app e i.size i.bytes (ρ s) (ρ x) false,an)
   |false=>none
  |_,_=>none
 |_=>none
def bD(E:En)(op:Op)(ρ:Operand→AV)(an:List An):Option (J5×List An):=match op with
 |.move x=>some (.val (ρ x),an)
 |.assign x=>some (.val (ρ x),an)
 |.nilCheck x=>match ρ x with
  |.ptr b o=>some (.val (.ptr b o),an)
  |.pin cs=>some (.val (.pin cs),an)
  |_=>none
 |.pick c x y=>match ρ c with
  |.dt (.val (.bool t))=>some (.val (match t with | true=>ρ x | false=>ρ y),an)
  |_=>none
 |.alloc t=>match Jt E.P t with
  |some z=>some (.alloc t z,an)
  |none=>none
 |.box t x=>some (.alloc t (ρ x).cells,an)
 |.load t x=>match ed E.P t,oN E.P t with
  |some n,some ag=>Qi E n ag (ρ x) an
  |_,_=>none
 |.store t x y=>match ed E.P t,ρ x with
  |some n,.ptr b off=>match Nat.beq n (ρ y).cells.length with
   |true=>some (.store b off (ρ y).cells,an)
   |false=>none
  |some n,.eX b i k=>match Nat.beq n k with
   |true=>some (.wS b i k (ρ y).cells,an)
   |false=>none
  |_,_=>none
 |.build t ps=>match Qh E.P t (ps.toList.map fun x=>(x.1,ρ x.2)) with
  |some cs=>some (.val (.agg cs),an)
  |none=>none
 |.buildSlice t len ps=>match Ad E.P t with
  |some (e,i,z)=>match !Nat.beq (len * i.size) 0 && Nat.ble (len * i.size) 100000 with
   |true=>match Eb (fun j=>some (j * i.size,i.size)) ((List.range (len * i.size)).map fun j=>rU (z.cells[j % z.cells.size]!)) (ps.toList.map fun x=>(x.1,ρ x.2)) with
    |some cs=>some (.mk e i.size len cs,an)
    |none=>none
   |false=>match len,ps.toList with
    |0,[]=>some (.mk0 e i.size 0 0,an)
    |_,_=>none
  |none=>none
 |.fieldAddr t x f=>match JW E.P t f with
  |some (off,ft)=>match ed E.P ft with
   |some (_+1)=>match ρ x with
    |.ptr b o=>some (.val (.ptr b (o+off)),an)
    |.pin cs=>some (.val (.pin (cs.drop off)),an)
    |_=>none
   |_=>none
  |none=>none
 |.field t x f=>match JW E.P t f with
  |some (off,ft)=>match ed E.P ft,oN E.P ft,ρ x with
   |some n,some true,.agg cs=>some (.val (.agg ((cs.drop off).take n)),an)
   |some _,some false,.agg cs=>match cs[off]? with
    |some c=>some (.val c,an)
    |none=>none
   |_,_,_=>none
  |none=>none
 |.indexAddr t x i=>match E.P.underlying t,intOf (ρ i) with
  |some (.slice e),some n=>match E.P.info? e with
   |some ie=>Rw ie.size (ρ x) n an
   |none=>none
  |some (.array len e),some n=>match ed E.P e,ρ x,I4 an with
   |some sz,.gl g 0,(.av .un,an)=>some (.prop (.gl g (n.toNat * sz)) [b7C n len],an)
   |some sz,.gl g 0,(.no,an)=>match decide (0≤n) && decide (n < len) && Nat.ble 2 len with
    |true=>some (.val (.gl g (n.toNat * sz)),an)
    |false=>none
   |_,_,_=>none
  |_,_=>none
 |.index t x i=>match E.P.underlying t,ρ x,intOf (ρ i) with
  |some .string,.dt (.val (.string s)),some n=>match I4 an with
   | (.av (.dt (.val r)),an)=>some (.prop (.dt (.val r)) [jL s n r],an)
   | (_,an)=>match decide (0≤n),s.data.toList[n.toNat]? with
    |true,some b=>some (.val (.dt (.val (.int .u8 b.toNat))),an)
    |_,_=>none
  |_,_,_=>none
 |.binOp op t x y _=>match (ρ x).sv,(ρ y).sv with
  |some vx,some vy=>a1q E op t x y vx vy an
  |none,some (.slice none 0 0)=>match op,E.P.underlying t,ρ x,I4 an with
   |.eql,some (.slice _),.dt (.row es),(_,an)=>some (.prop (.dt (.val (.bool false))) [es≠[]],an)
   |_,_,_,_=>none
  |_,_=>none
 |.unOp op _ x=>match (ρ x).sv with
  |some v=>match Uj op v with
   |some r=>some (.val (.dt (.val r)),an)
   |none=>none
  |none=>none
 |.extract x i=>match ρ x with
  |.o7 cs=>match cs[i]? with
   |some c=>some (.val c,an)
   |none=>none
  |_=>none
 |.convert src dst x=>match E.P.underlying src,E.P.underlying dst,(ρ x).sv with
  |some (.int _),some (.int k),some (.int _ n)=>match I4 an with
   | (.av (.dt (.val r)),an)=>some (.prop (.dt (.val r)) [r=.int k (k.wrap n)],an)
   | (_,an)=>some (.val (.dt (.val (.int k (k.wrap n)))),an)
  |some (.slice e),some .string,none=>match E.P.underlying e,I4 an with
   |some (.int .u8),(.av (.dt (.val (.string ⟨⟨l⟩⟩))),an)=>some (.xZ (ρ x) l,an)
   |_,_=>none
  |_,_,_=>none
 |.makeFunc (.func f) ⟨[]⟩ caps=>match I4 an with
  | (.av (.o7 [.un]),an)=>some (.Bv (.clo f (caps.toList.map ρ)),an)
  |_=>some (.val (.clo f (caps.toList.map ρ)),an)
 |.makeMap _ none=>match I4 an with
  | (.av (.V4 _),aX)=>some (.Aa,aX)
  |_=>some (.Az,an)
 |.insert t m x y=>match ED E.P t,ρ m,(ρ x).sv with
  |some (kt,_),.V4 b,some key=>some (.ins b kt key (ρ y),an)
  |_,_,_=>none
 |.lookup t m x ok=>match ED E.P t,ρ m,(ρ x).sv,I4 an with
  |some (kt,_),.V4 b,some key,(.av (.o7 [.dt (.val (.int _ i)),v]),an)=>some (.Ac b kt key ok i.toNat v,an)
  |some (kt,z),.V4 b,some key,(.av (.dt (.val (.int _ i))),an)=>some (.look b kt key (yc z) ok (some i.toNat),an)
  |some (kt,z),.V4 b,some key,(_,an)=>some (.look b kt key (yc z) ok none,an)
  |_,_,_,_=>none
 |.makeSlice t x y=>match Ad E.P t,intOf (ρ x),intOf (ρ y),I4 an with
  |some (e,i,z),some l,some c,(.av (.sl _ n),an)=>match Nat.beq z.cells.size i.size && z.cells.toList.all Value.oneCell' && Nat.ble 1 i.size with
   |true=>some (.xY e i.size i.bytes n (z.cells.toList.map AB) l c,an)
   |false=>none
  |some (e,i,_),some (.ofNat 0),some c,(_,an)=>some (.mk0 e i.size i.bytes c,an)
  |some (e,i,z),some (.ofNat (n+1)),some c,(_,an)=>match Nat.beq z.cells.size i.size && z.cells.toList.all Value.oneCell' && Nat.ble 1 i.size with
   |true=>some (.xY e i.size i.bytes (n+1) (z.cells.toList.map AB) (.ofNat (n+1)) c,an)
   |false=>none
  |_,_,_,_=>none
 |.slice t x lo hi mx=>match E.P.underlying t,uK ρ lo,uK ρ hi,uK ρ mx with
  |some (.slice e),some l,some h,some m=>match ed E.P e,I4 an with
   |some sz,(.av (.dt (.row rs)),an)=>some (.vC (ρ x) sz l h m (some rs),an)
   |some sz,(_,an)=>some (.vC (ρ x) sz l h m none,an)
   |_,_=>none
  |some .string,some l,some h,some none=>match ρ x,I4 an with
   |.dt (.val (.string s)),(.av (.dt (.val r)),an)=>some (.prop (.dt (.val r)) [Aw s (l.getD 0) (h.getD s.size) r],an)
   |.dt (.val (.string s)),(_,an)=>match decide (0≤l.getD 0) && decide (l.getD 0≤h.getD s.size) && decide (h.getD s.size≤s.size) with
    |true=>some (.val (.dt (.val (str ((s.data.toList.drop (l.getD 0).toNat).take ((h.getD s.size).toNat - (l.getD 0).toNat))))),an)
    |false=>none
   |_,_=>none
  |_,_,_,_=>none
 |.call c=>Dz E ρ c an
 |.mapUpdate t m x y=>match ED E.P t,ρ m,(ρ x).sv with
  |some (kt,_),.V4 b,some key=>some (.ins b kt key (ρ y),an)
  |_,_,_=>none
 |_=>none
theorem Xt{P:Program}{t:TypeId}{f off:Nat}{ft:TypeId}(h:JW P t f=some (off,ft)):∃fs fl,P.underlying t=some (.struct fs)∧fs[f]?=some fl∧fl.offset=off∧fl.type=ft:=by
 unfold JW at h;split at h
 ·rename_i fs hu;split at h
  ·rename_i fl hf;cases h;exact⟨fs,fl,hu,hf,rfl,rfl⟩
  ·cases h
 ·cases h
theorem VN{P:Program}:∀{fs:List Field} {pl:List (Nat×Nat)},Ih P fs=some pl→fs.mapM (fun f=>(P.info? f.type).map fun i=>(f.offset,i.size))=some pl
 |[],_,h=>by cases h;rfl
 |f::fs,pl,h=>by
  unfold Ih at h;split at h
  ·rename_i i r h1 h2;cases h;simp[List.mapM_cons,h1,VN h2]
  ·cases h
theorem WJ{P:Program}{t:TypeId}{z:List AV}(h:Jt P t=some z):∃i v,P.info? t=some i∧i.zero=some v∧z=v.cells.toList.map rU:=by
 unfold Jt at h;split at h
 ·rename_i i hi;split at h
  ·rename_i v hv;cases h;exact⟨i,v,hi,hv,rfl⟩
  ·cases h
 ·cases h
theorem a6Z{P:Program}{M:Mm}{w:World}{t:TypeId}{qs:List (Nat×AV)}{ps:List (Nat×Value)}{cs:List AV}(hp:RP M w qs ps)(h:Qh P t qs=some cs):∃vs:List Value,P.built t ps=some vs.toArray∧RL M w cs vs:=by
 unfold Qh at h;split at h
 ·rename_i z fs hz hu;split at h
  ·rename_i pl hpl;obtain⟨i,v,hi,hv,rfl⟩:=WJ hz;obtain⟨vs,h1,h2⟩:=OL hp (Df M w v.cells.toList) h;refine⟨vs,?_,h2⟩;unfold Program.built;rw[hi,hu];simp only;rw[hv,VN hpl];simpa using h1
  ·cases h
 ·cases h
theorem wJ{P:Program}{t e:TypeId}{i:TypeInfo}{z:Value}(h:Ad P t=some (e,i,z)):P.underlying t=some (.slice e)∧P.info? e=some i∧i.zero=some z:=by
 unfold Ad at h;split at h
 ·rename_i e' hu;split at h
  ·rename_i i hi;split at h
   ·rename_i z' hz;cases h;exact⟨hu,hi,hz⟩
   ·cases h
  ·cases h
 ·cases h
theorem CO{P:Program}{t k:TypeId}{z:Value}(h:ED P t=some (k,z)):∃e i,P.underlying t=some (.map k e)∧P.info? e=some i∧i.zero=some z:=by
 unfold ED at h;split at h
 ·rename_i k' e' hu;split at h
  ·rename_i i hi;split at h
   ·rename_i z' hz;cases h;exact⟨e',i,hu,hi,hz⟩
   ·cases h
  ·cases h
 ·cases h
theorem pG{M:Mm}{w:World}{a:AV}{n:Int}(h:intOf a=some n){v:Value}(hr:RV M w a v):∃k,v=.int k n:=by
 unfold intOf at h;split at h
 ·cases h;exact⟨_,Rd.Z9 hr⟩
 ·cases h
theorem qY{M:Mm}{w:World}{ρ:Operand→AV}{ε:Operand→Value}(hr:∀x,RV M w (ρ x) (ε x)){x:Option Operand}{n:Option Int}(h:uK ρ x=some n):(x=none∧n=none)∨∃y k z,x=some y∧ε y=.int k z∧n=some z:=by
 unfold uK at h;split at h
 ·cases h;exact .inl ⟨rfl,rfl⟩
 ·rename_i y;split at h
  ·rename_i z hz;cases h;obtain⟨k,hk⟩:=pG hz (hr y);exact .inr ⟨y,k,z,rfl,hk,rfl⟩
  ·cases h
theorem a8f{_P:Program}{M:Mm}{w:World}{a:AV}{n:Nat}(h:lenOf a=some n){v:Value}(hr:RV M w a v):(∃A c,v=.slice A n c∧a.isS=false)∨(∃s:ByteArray,v=.string s∧s.size=n∧a.isS=true):=by
 unfold lenOf at h;split at h
 ·cases h;obtain⟨A,m,c,rfl,hm,_⟩:=Rd.slice hr;subst hm;exact .inl ⟨A,c,rfl,rfl⟩
 ·cases h;obtain⟨A,rfl,_⟩:=hr;exact .inl ⟨A,_,rfl,rfl⟩
 ·cases h;exact .inl ⟨none,0,hr,rfl⟩
 ·cases h;obtain⟨A,c,_,_,_,rfl,_⟩:=hr;exact .inl ⟨A,c,rfl,rfl⟩
 ·cases h;obtain⟨g,_,rfl⟩:=hr;exact .inl ⟨_,_,rfl,rfl⟩
 ·cases h;exact .inr ⟨_,Rd.Z9 hr,Zar _,rfl⟩
 ·cases h
section
variable {E:En} {X:Nat→Prop} {n0:Nat} {w0:World×Mm} {ok0:Nat→Prop} {M:Mm} {nt:Nat} {tm:Nat→AV} {bx:Nat→Option Bx} {a:Act} {w:World} {o:Oper} {Q:Exit→Act→World→Prop} {act:J5} {an O7:List An} {k:Nat} {r:AV} {ups:List (Nat×Bx)} {ps:List Prop}
theorem gB{v:AV}{u:Value}(hr:(J5.val v).run E bx k=some (r,ups,ps))(hI:Inv X n0 w0 ok0 M nt tm bx a w)(hd:∀t,o.dst=some t→t < nt)(h1:(execOp a.eval o).run E.P w=.ok (.value u) w)(h2:RV M w v u):o.wp E.P a w (Left X n0 w0 ok0 nt (U8 tm o.dst r) (updB bx ups)) Q:=by
 cases hr;exact dP hI hd h1 h2
theorem a5p{t:TypeId}{x:Operand}(ho:o.op=.load t x){n:Nat}{ag:Bool}(hn:ed E.P t=some n)(ha:oN E.P t=some ag)(h:Qi E n ag (J6 tm x) an=some (act,O7))(hr:act.run E bx k=some (r,ups,ps))(hp:I5 ps)(hI:Inv X n0 w0 ok0 M nt tm bx a w)(hd:∀t,o.dst=some t→t < nt)(hG:E.G w) :
  o.wp E.P a w (Left X n0 w0 ok0 nt (U8 tm o.dst r) (updB bx ups)) Q:=by
 unfold Qi at h;split at h
 ·rename_i b off hx;cases h;exact a5P ho hI hd hx hn ha hr
 ·rename_i b i k' hx;split at h
  ·rename_i cs aX hk hnx;split at h
   ·rename_i ds hds;cases h;exact a7W ho hI hd hx hn (Zau hk) ha hr hp
   ·cases h
  ·cases h
 ·rename_i cs hx;split at h
  ·rename_i r' hrow;cases h;cases hr;exact a5Q ho hI hd hx hn ha hrow
  ·cases h
 ·rename_i g off hx;split at h
  ·cases h
  ·split at h
   ·cases h;cases hr;exact VL ho hI hd hx ha (hp.1 w hG)
   ·split at h
    ·rename_i r' hT;cases h;cases hr;exact VL ho hI hd hx ha (E.hT w hG _ _ _ hT)
    ·cases h
 ·cases h
theorem a5R{t:TypeId}{x i:Operand}(ho:o.op=.indexAddr t x i){e:TypeId}{ie:TypeInfo}(hu:E.P.underlying t=some (.slice e))(hie:E.P.info? e=some ie){n:Int}(hi:intOf (J6 tm i)=some n)(h:Rw ie.size (J6 tm x) n an=some (act,O7))(hr:act.run E bx k=some (r,ups,ps))(hp:I5 ps)(hI:Inv X n0 w0 ok0 M nt tm bx a w)(hd:∀t,o.dst=some t→t < nt) :
  o.wp E.P a w (Left X n0 w0 ok0 nt (U8 tm o.dst r) (updB bx ups)) Q:=by
 obtain⟨ki,hki⟩:=pG hi (hI.ev i);have sl:∀{b m:Nat},J6 tm x=.sl b m→0≤n∧n < m→∃u,(execOp a.eval o).run E.P w=.ok (.value u) w∧RV M w (.eX b n.toNat ie.size) u:=by
  intro b m hx hb;have hv:=hI.ev x;rw[hx]at hv;obtain⟨g,h1,h2⟩:=hv;refine⟨.pointer (some ⟨g,n.toNat * ie.size,none⟩),?_,g,h1,rfl⟩;obtain⟨dd,op,ty,pos,af,gd⟩:=o;simp only at ho;subst ho;have hsz:ed E.P e=some ie.size:=by unfold ed;rw[hie]
  have e2:=wL g 0 (n.toNat * ie.size);rw[ZaH]at e2;simp only[execOp,Instr.indexAt,asIntOf,hki,h2,Za8,Zab,Result.andThen,Zat hu,Za0 hb,run_sizeOf hsz,e2]
 unfold Rw at h;split at h
 ·rename_i b m aX hx hnx;split at h
  ·rename_i hc;cases h;rw[AC]at hc;obtain⟨u,h1,h2⟩:=sl hx ⟨Zad hc.1,Zad hc.2⟩;exact gB hr hI hd h1 h2
  ·cases h
 ·rename_i b m aX hx hnx;cases h;cases hr;obtain⟨u,h1,h2⟩:=sl hx hp.1;exact dP hI hd h1 h2
 ·split at h
  ·cases h;exact ZT ho hI hd hu hie hki hr hp
  ·cases h
 ·cases h;exact ZT ho hI hd hu hie hki hr hp
 ·cases h
theorem a5q{c:Call}(ho:o.op=.call c)(h:Dz E (J6 tm) c an=some (act,O7))(hr:act.run E bx k=some (r,ups,ps))(hp:I5 ps)(hI:Inv X n0 w0 ok0 M nt tm bx a w)(hd:∀t,o.dst=some t→t < nt)(hG:E.G w)(hk:∀q∈act.news k,bx q=none) :
  o.wp E.P a w (Left X n0 w0 ok0 nt (U8 tm o.dst r) (updB bx ups)) Q:=by
 unfold Dz at h;split at h
 ·rename_i x args ts;split at h
  ·rename_i f caps r' aX hx hnx;cases h;split at hr
   ·rename_i e kk es he;rw[he]at hk;exact Xq ho hI hd hG (hk k (ut.2 rfl)) (.inl ⟨caps,hx,rfl,rfl⟩) hr hp
   ·exact YB ho hI hd hG (.inl ⟨caps,hx,rfl,rfl⟩) hr hp
  ·rename_i f caps r' aX hx hnx;cases h;split at hr
   ·rename_i e kk es he;rw[he]at hk;exact Xq ho hI hd hG (hk k (ut.2 rfl)) (.inr ⟨hx,rfl⟩) hr hp
   ·exact YB ho hI hd hG (.inr ⟨hx,rfl⟩) hr hp
  ·cases h
 ·rename_i x t ts;split at h
  case h_2=>cases h
  rename_i s n hs hn;split at h
  case h_2=>cases h
  rename_i hsx;have hrun:(execOp a.eval o).run E.P w=.ok (.value (.int .i64 n)) w:=by
   obtain⟨dd,op,ty,pos,af,gd⟩:=o;simp only at ho;subst ho;unfold isStr at hs;rcases a8f (_P:=E.P) hn (hI.ev x) with⟨A,c,hv,hS⟩ | ⟨s',hv,rfl,hS⟩
   ·rw[hS]at hsx;split at hs
    ·cases hs;cases hsx
    ·rename_i e hu;simp[execOp,resolve,invoke,builtin,Builtin.len_,hv,Zat hu,goInt]
    ·cases hs
   ·rw[hS]at hsx;split at hs
    ·rename_i hu;simp[execOp,resolve,invoke,builtin,Builtin.len_,hv,Zat hu,goInt]
    ·cases hs;cases hsx
    ·cases hs
  unfold a1r at h;split at h
  ·cases h;cases hr;rw[hp.1];exact dP hI hd hrun (Rd.val _)
  ·cases h;cases hr;exact dP hI hd hrun (Rd.val _)
 ·rename_i x y ts;have key:∀{k1 k2:IntKind} {p q:Int},J6 tm x=.dt (.val (.int k1 p))→J6 tm y=.dt (.val (.int k2 q))→(execOp a.eval o).run E.P w=.ok (.value (.int k1 (if q > p then q else p))) w:=by
   intro k1 k2 p q hx hy;have hv:=hI.ev x;rw[hx]at hv;have hv':a.eval x=.int k1 p:=Rd.Z9 hv;have hw:=hI.ev y;rw[hy]at hw;have hw':a.eval y=.int k2 q:=Rd.Z9 hw;obtain⟨dd,op,ty,pos,af,gd⟩:=o;simp only at ho;subst ho;simp[execOp,resolve,invoke,builtin,Builtin.max_,Builtin.max2,hv',hw']
  split at h
  ·rename_i hx hy _;cases h;cases hr;rw[hp.1];exact dP hI hd (key hx hy) (Rd.val _)
  ·rename_i hx hy _;cases h;cases hr;exact dP hI hd (key hx hy) (Rd.val _)
  ·cases h
 ·rename_i x y ts;have key:∀{k1 k2:IntKind} {p q:Int},J6 tm x=.dt (.val (.int k1 p))→J6 tm y=.dt (.val (.int k2 q))→(execOp a.eval o).run E.P w=.ok (.value (.int k1 (if q < p then q else p))) w:=by
   intro k1 k2 p q hx hy;have hv:=hI.ev x;rw[hx]at hv;have hv':a.eval x=.int k1 p:=Rd.Z9 hv;have hw:=hI.ev y;rw[hy]at hw;have hw':a.eval y=.int k2 q:=Rd.Z9 hw;obtain⟨dd,op,ty,pos,af,gd⟩:=o;simp only at ho;subst ho;simp[execOp,resolve,invoke,builtin,Builtin.min_,Builtin.min2,hv',hw']
  split at h
  ·rename_i hx hy _;cases h;cases hr;rw[hp.1];exact dP hI hd (key hx hy) (Rd.val _)
  ·rename_i hx hy _;cases h;cases hr;exact dP hI hd (key hx hy) (Rd.val _)
  ·cases h
 ·rename_i s x t t';split at h
  case h_2=>cases h
  rename_i e i z e2 he he2;split at h
  case h_2=>cases h
  rename_i hc;rw[AC]at hc;obtain⟨u1,u2,u3⟩:=wJ he;obtain⟨e',i',z'⟩:=e2;obtain⟨v1,_,_⟩:=wJ he2;split at h <;> cases h <;> exact b2L ho hI hd u1 v1 (by rw[u2];simp[u3]) (Zau hc.1) (ZaD hc.2) hk hr hp
 ·cases h
end
end Go.Proofs.YthhknjlmjefklaaGreatDoor
