/- Plain walks, second form: the machine does what the acts say. -/
import Derived.Test.YtbpmpdadppamgaaGreatDoorGI
import Derived.ArgAppend
import Derived.Laws.Slices
import Derived.Laws.BytesString
namespace Go.Proofs.YtbpmpdadppamgaaGreatDoor
open Go.RowKit
def Left(X:Nat→Prop)(n0:Nat)(w0:World×Mm)(ok0:Nat→Prop)(nt:Nat)(tm:Nat→AV)(bx:Nat→Option Bx)(a:Act)(w:World):Prop:=∃M,Inv X n0 w0 ok0 M nt tm bx a w
theorem QJ{Pq:List Prop→Prop}(mI:∀ps qs,Pq (ps++qs)→Pq ps∧Pq qs){bx:Nat→Option Bx}(cs:List AV)(r:List AV×List Prop)(h:dM bx 1 cs=some r)(hp:Pq r.2):∀b∈iw bx 1 cs,∀x,bx b=some x→x.Ae=true∨(∃e k es,x=.buf e k es)∨(∃e k es,x=.rws e k es):=by
 intro b hb x hx;have:=pX mI (bx:=bx) (rec:=dM bx 0) (aY:=iw bx 0) (S:=fun _=>True) (fun cs r h=>by cases h) cs [] false r.1 r.2 h hp (fun _ _=>trivial) b hb;rcases this.1 x hx with h1 | h1 | h1 | ⟨c0,rfl⟩
 ·exact .inl h1
 ·exact .inr (.inl h1)
 ·exact .inr (.inr h1)
 ·obtain⟨r',h2,_⟩:=this.2 c0 hx;cases h2
theorem KE{bx:Nat→Option Bx}{js:List Nat}{kn:Bool}{cs cs':List AV}{ps:List Prop}(h:bz js kn bx cs=some (cs',ps))(hp:K7 ps){S:Nat→Prop}(hS:∀b∈K6 js bx cs,S b):∀b∈K6 js bx cs,wU K7 bx (dM bx 1) (iw bx 1) S b :=
 pX (fun _ _=>fO) (QJ fun _ _=>fO) cs js kn cs' ps h hp hS
section
variable {E:En} {X:Nat→Prop} {n0:Nat} {w0:World×Mm} {ok0:Nat→Prop} {M:Mm} {nt:Nat} {tm:Nat→AV} {bx:Nat→Option Bx} {a:Act} {w:World} {o:Oper} {Q:Exit→Act→World→Prop}
theorem Ex{bs:List Nat}(hst:∀b∈bs,wU K7 bx (dM bx 1) (iw bx 1) (·∈bs) b):∀b∈bs,Fz M bx (eX M bx bs) b:=by
 intro b hb x hx q hq;refine .inr ⟨b,x,hb,hx,?_,hq⟩;rcases (hst b hb).1 x hx with h1 | ⟨_,_,_,rfl⟩ | ⟨_,_,_,rfl⟩ | ⟨c0,rfl⟩
 ·exact absurd hq (Bx.a6Y h1)
 ·rfl
 ·rfl
 ·obtain⟨r,h2,_⟩:=(hst b hb).2 c0 hx;have h2':dM bx nQ c0=some r:=h2;simp only[kU,h2',Option.isSome_some]
theorem Inv.freeze(h:Inv X n0 w0 ok0 M nt tm bx a w)(bs:List Nat)(hst:∀b∈bs,wU K7 bx (dM bx 1) (iw bx 1) (·∈bs) b) :
  Inv X n0 w0 ok0 ⟨M.m,eX M bx bs,M.o⟩ nt tm (J2 bx (O8 bx bs)) a w:=by
 obtain⟨g,hs,hF⟩:=h.I9.O8 bs fun b hb cs hx cs' ps hc=>by
  obtain⟨r,h1,h2,h3⟩:=(hst b hb).2 cs hx;have hc':dM bx 1 cs=some (cs',ps):=hc;rw[h1]at hc';cases hc';exact⟨h2,fun b' hb'=>Ex hst b' (h3 b' hb')⟩
 exact h.same g hs hF
theorem fU{v:Value}{w':World}{K:Act→World→Prop}(hrun:(execOp a.eval o).run E.P w=.ok (.value v) w')(h:K (a.put o.dst v) w'):o.wp E.P a w K Q:=by
 unfold Oper.wp;rw[hrun,Oper.upon_value];exact h
theorem Ey{w':World}{K:Act→World→Prop}(hrun:(execOp a.eval o).run E.P w=.ok .skip w')(h:K (a.put o.dst undef) w'):o.wp E.P a w K Q:=by
 unfold Oper.wp;rw[hrun,Oper.upon_skip];exact h
theorem bM{v:Value}{r:AV}(hI:Inv X n0 w0 ok0 M nt tm bx a w)(hd:∀t,o.dst=some t→t < nt)(hrun:(execOp a.eval o).run E.P w=.ok (.value v) w)(hr:RV M w r v) :
  o.wp E.P a w (Left X n0 w0 ok0 nt (Q6 tm o.dst r) (J2 bx [])) Q:=fU hrun ⟨M,hI.val o.dst hd hr⟩
theorem run_load{P:Program}{t:TypeId}{n:Nat}{ag:Bool}(hn:cu P t=some n)(ha:lg P t=some ag){g q:Nat}{cs:List AV}{vs:List Value}(hc:∀(j:Nat) u,vs[j]?=some u→w.cell? ⟨g,q+j,none⟩=some u)(hl:RL M w cs vs){off:Nat}{r:AV}(hr:rowAt cs off n ag=some r) :
  ∃v,(loadVar t ⟨g,q+off,none⟩).run P w=.ok v w∧RV M w r v:=by
 unfold rowAt at hr;split at hr
 case h_2=>cases hr
 rename_i hle;have b5e:=Zap hle;have hlen:=hl.len;cases ag with
 |true =>
  cases hr;refine⟨.agg ((vs.drop off).take n).toArray,?_,_,rfl,(hl.drop off).take n⟩;have h1:(loadCells ⟨g,q+off,none⟩ n).run P w=.ok ((vs.drop off).take n).toArray w:=by
   have hn':((vs.drop off).take n).length=n:=by simp;omega
   have:=run_loadCells_list (P:=P) w ⟨g,q+off,none⟩ ((vs.drop off).take n) (fun j v hj=>by
    rw[rW,Nat.add_assoc];refine hc _ v ?_;rw[List.getElem?_take]at hj;split at hj
    ·rw[List.getElem?_drop]at hj;exact hj
    ·cases hj)
   rwa [hn']at this
  simp only[loadVar,lc,d9,Result.andThen,yh ha,run_sizeOf hn,h1,ZaG]
 |false =>
  obtain⟨u,hu,hru⟩:=hl.get hr;refine⟨u,?_,hru⟩;have hcell:=hc off u hu;simp only[loadVar,lc,Result.andThen,yh ha,load,Sem.run,hcell,ZaL,Zav]
theorem yj{P:Program}{t:TypeId}{x:Operand}(ho:o.op=.load t x){g q:Nat}(hv:a.eval x=.pointer (some ⟨g,q,none⟩)){v:Value}(h:(loadVar t ⟨g,q,none⟩).run P w=.ok v w):(execOp a.eval o).run P w=.ok (.value v) w:=by
 obtain⟨dd,op,ty,pos,af,gd⟩:=o;simp only at ho;subst ho;simp only[execOp,Instr.loadAt,Instr.sureAddr,hv,lc,d9,Result.andThen,h]
theorem a18{t:TypeId}{x:Operand}(ho:o.op=.load t x)(hI:Inv X n0 w0 ok0 M nt tm bx a w)(hd:∀t,o.dst=some t→t < nt){b off n k:Nat}{ag:Bool}(hx:H7 tm x=.ptr b off)(hn:cu E.P t=some n)(ha:lg E.P t=some ag){r:AV}{ups:List (Nat×Bx)}{ps:List Prop}(hr:(I1.load b off n ag).run E bx k=some (r,ups,ps)) :
  o.wp E.P a w (Left X n0 w0 ok0 nt (Q6 tm o.dst r) (J2 bx ups)) Q:=by
 have hv:=hI.ev x;rw[hx]at hv;obtain⟨g,hg,hv⟩:=hv;simp only[I1.run]at hr;split at hr
 ·rename_i cs hb;split at hr
  ·rename_i r' hrow;cases hr;obtain⟨g',T,vs,hg',hB,hl⟩:=hI.I9.box b _ hb;rw[hg]at hg';cases hg';obtain⟨u,h1,h2⟩:=run_load (g:=g) (q:=0) hn ha (fun j u hj=>by rw[Zau,hB.cell];simpa using hj) hl hrow;rw[Zau]at h1;exact bM hI hd (yj ho hv h1) h2
  ·cases hr
 ·rename_i cs hb;split at hr
  ·rename_i r' hrow;cases hr;obtain⟨g',vs,hg',hF,hlt,hc,hl⟩:=hI.I9.box b _ hb;rw[hg]at hg';cases hg';obtain⟨u,h1,h2⟩:=run_load (g:=g) (q:=0) (M:=M0 M.F) hn ha (fun j u hj=>by rw[Zau];exact hc j u hj) hl hrow;rw[Zau]at h1;exact bM hI hd (yj ho hv h1) (RV.go (P5.same (M:=M0 M.F) (M':=M) (fun _ h _=>h) (fun _ _ h=>by cases h) (fun _ _ h=>by cases h)) _ _ h2)
  ·cases hr
 ·cases hr
theorem a19{t:TypeId}{x:Operand}(ho:o.op=.load t x)(hI:Inv X n0 w0 ok0 M nt tm bx a w)(hd:∀t,o.dst=some t→t < nt){cs:List AV}{n:Nat}{ag:Bool}(hx:H7 tm x=.pin cs)(hn:cu E.P t=some n)(ha:lg E.P t=some ag){r:AV}(hr:rowAt cs 0 n ag=some r) :
  o.wp E.P a w (Left X n0 w0 ok0 nt (Q6 tm o.dst r) (J2 bx [])) Q:=by
 have hv:=hI.ev x;rw[hx]at hv;obtain⟨g,q,vs,hv,hF,hlt,hc,hl⟩:=hv;obtain⟨u,h1,h2⟩:=run_load (g:=g) (q:=q) (M:=M0 M.F) hn ha hc hl hr;exact bM hI hd (yj ho hv h1) (RV.go (P5.same (M:=M0 M.F) (M':=M) (fun _ h _=>h) (fun _ _ h=>by cases h) (fun _ _ h=>by cases h)) _ _ h2)
theorem PZ{t:TypeId}{x:Operand}(ho:o.op=.load t x)(hI:Inv X n0 w0 ok0 M nt tm bx a w)(hd:∀t,o.dst=some t→t < nt){g off:Nat}(hx:H7 tm x=.gl g off)(ha:lg E.P t=some false){r:Value}(hr:w.cell? ⟨g,off,none⟩=some r) :
  o.wp E.P a w (Left X n0 w0 ok0 nt (Q6 tm o.dst (.dt (.val r))) (J2 bx [])) Q:=by
 have hv:=hI.ev x;rw[hx]at hv;refine bM hI hd (yj (v:=r) ho hv ?_) (Rd.val _);simp only[loadVar,lc,Result.andThen,yh ha,load,Sem.run,hr,ZaL,Zav]
theorem a3j{F:Nat→Prop}{k:Nat}{es:aa0}{vs:List Value}(h:qN F w k es vs){i:Nat}{ds:List Dt}(hi:es[i]?=some ds):RL (M0 F) w (ds.map .dt) ((vs.drop (i * k)).take k):=by
 obtain⟨hlt,he⟩:=UV.1 hi;obtain⟨hk,hf⟩:=h.2 i hlt;rw[he]at hk;have hvl:=h.1;have hle:i * k+k≤vs.length:=by
  rw[hvl];have:(i+1) * k≤es.length * k:=Zas k hlt;rw[Nat.add_mul]at this;omega
 have key:∀n,n≤ds.length→RL (M0 F) w ((ds.take n).map .dt) ((vs.drop (i * k)).take n):=by
  intro n
  induction n with
  |zero=>exact fun _=>rfl
  |succ n ih =>
   intro hn;have ih':=ih J;obtain⟨u,h1,_,h2⟩:=hf n (by rw[he];omega);simp only[he]at h2;rw[List.take_add_one,ww J,Zam,List.take_add_one,List.getElem?_drop,h1];exact ih'.append ⟨u,[],rfl,h2,rfl⟩
 have:=key k J
 rwa [Za2 J]at this
theorem a4y{t:TypeId}{x:Operand}(ho:o.op=.load t x)(hI:Inv X n0 w0 ok0 M nt tm bx a w)(hd:∀t,o.dst=some t→t < nt){b i k n k0:Nat}{ds:List Dt}{ag:Bool}(hx:H7 tm x=.df b i k)(hn:cu E.P t=some n)(hnk:n=k)(ha:lg E.P t=some ag){r:AV}{ups:List (Nat×Bx)}{ps:List Prop}(hr:(I1.wF b i k ds ag).run E bx k0=some (r,ups,ps))(hp:K7 ps) :
  o.wp E.P a w (Left X n0 w0 ok0 nt (Q6 tm o.dst r) (J2 bx ups)) Q:=by
 have hv:=hI.ev x;rw[hx]at hv;obtain⟨g,hg,hv⟩:=hv;simp only[I1.run]at hr;split at hr
 case h_2=>cases hr
 rename_i e k' es hb;split at hr
 case h_2=>cases hr
 rename_i hk;obtain rfl:=Zae hk;subst hnk;cases hr;obtain⟨h1,h2,_⟩:=hp;obtain⟨g',vs,hg',hB,hl⟩:=hI.I9.box b _ hb;rw[hg]at hg';cases hg';have hrl:=RL.go (P5.same (M:=M0 M.F) (M':=M) (fun _ h _=>h) (fun _ _ h=>by cases h) (fun _ _ h=>by cases h)) _ _ (a3j hl h1);have hrow:rowAt (ds.map .dt) 0 n ag=some (cond ag (.agg (ds.map .dt)) (.dt (ds.headD (.val undef)))):=by
  obtain⟨hlt,he⟩:=UV.1 h1;have hk:=(hl.2 i hlt).1;rw[he]at hk;unfold rowAt;have:Nat.ble (0+n) (List.map AV.dt ds).length=true:=Nat.ble_eq_true_of_le (by simp;omega);rw[this];cases ag with
  |true=>simp only[ZaZ,cond_true];rw[Za2 (by simp;omega)]
  |false =>
   simp only[cond_false]at h2
   match ds,h2 with
   |[d],_=>rfl
 obtain⟨u,h3,h4⟩:=run_load (g:=g) (q:=i * n) hn ha (fun j u hj=>by
  rw[hB.cell];rw[List.getElem?_take]at hj;split at hj
  ·rw[List.getElem?_drop]at hj;simpa using hj
  ·cases hj) hrl hrow
 exact bM hI hd (yj ho hv h3) h4
theorem Qa{P:Program}{t:TypeId}{x y:Operand}(ho:o.op=.store t x y){g q:Nat}{T:TypeId}(hv:a.eval x=.pointer (some ⟨g,q,none⟩)){vs us:List Value}(hn:cu P t=some us.length)(hu:(a.eval y).cells=us.toArray)(h1:∀u∈us,u.oneCell'=true)(hB:D5 w g T vs.toArray)(hle:q+us.length≤vs.length) :
  (execOp a.eval o).run P w=.ok .skip (w.setRow g (vs.take q++us++vs.drop (q+us.length)).toArray):=by
 have h2:=run_storeCells_at (P:=P) g q T us 0 vs.toArray w hB (by simp;omega) h1;simp only[Nat.add_zero]at h2;obtain⟨dd,op,ty,pos,af,gd⟩:=o;simp only at ho;subst ho;have hsz:(a.eval y).cells.size=us.length:=by rw[hu];simp
 simp only[execOp,Instr.storeAt,storeVar,Instr.sureAddr,hv,lc,d9,Result.andThen,run_sizeOf hn,hsz,ne_eq,not_true_eq_false,Zav];rw[hu];simp only[h2]
theorem a4z{t:TypeId}{x y:Operand}(ho:o.op=.store t x y)(hI:Inv X n0 w0 ok0 M nt tm bx a w)(hd:∀t,o.dst=some t→t < nt){b off k:Nat}(hx:H7 tm x=.ptr b off)(hn:cu E.P t=some (H7 tm y).cells.length){r:AV}{ups:List (Nat×Bx)}{ps:List Prop}(hr:(I1.store b off (H7 tm y).cells).run E bx k=some (r,ups,ps)) :
  o.wp E.P a w (Left X n0 w0 ok0 nt (Q6 tm o.dst r) (J2 bx ups)) Q:=by
 have hv:=hI.ev x;rw[hx]at hv;obtain⟨g,hg,hv⟩:=hv;simp only[I1.run]at hr;split at hr
 case h_2=>cases hr
 rename_i cs hb;split at hr
 case h_2=>cases hr
 rename_i hle;cases hr;obtain⟨g',T,vs,hg',hB,hl⟩:=hI.I9.box b _ hb;rw[hg]at hg';cases hg';rw[Ce]at hle;have b5e:=Zap hle.1;have hlen:=hl.len;obtain⟨us,hu1,hu2⟩:=(hI.ev y).cells hle.2;have xH:=hu2.len;refine Ey (Qa ho hv (us:=us) (by rw[hn,xH]) hu1 (hu2.oneCell hle.2) hB J) ⟨M,?_⟩;have:=hI.store hb hg hB (((hl.take off).append hu2).append (hl.drop (off+us.length))) o.dst hd;rw[xH]at this ⊢
 exact this
theorem RL.YH{M:Mm}{w:World}:∀{ds:List Dt} {vs:List Value},RL M w (ds.map .dt) vs→∀j (h:j < ds.length),∃u,vs[j]?=some u∧Rd M.F w u ds[j]:=by
 intro ds vs h j hj;obtain⟨u,h1,h2⟩:=h.get (i:=j) (c:=.dt ds[j]) (by rw[bi,ww hj];rfl);exact⟨u,h1,h2⟩
theorem rX{M:Mm}{w:World}:RV M w (.dt (.val undef)) undef:=Rd.val _
theorem a3k{t:TypeId}{x y:Operand}(ho:o.op=.store t x y)(hI:Inv X n0 w0 ok0 M nt tm bx a w)(hd:∀t,o.dst=some t→t < nt){b i k k0:Nat}(hx:H7 tm x=.df b i k)(hn:cu E.P t=some k){r:AV}{ups:List (Nat×Bx)}{ps:List Prop}(hr:(I1.sG b i k (H7 tm y).cells).run E bx k0=some (r,ups,ps))(hp:K7 ps) :
  o.wp E.P a w (Left X n0 w0 ok0 nt (Q6 tm o.dst r) (J2 bx ups)) Q:=by
 have hv:=hI.ev x;rw[hx]at hv;obtain⟨g,hg,hv⟩:=hv;simp only[I1.run]at hr;split at hr
 case h_2=>cases hr
 rename_i e k' es hb;split at hr
 case h_2=>cases hr
 rename_i vs' qs hc hcv;split at hr
 case h_2=>cases hr
 rename_i ds hds hnb;cases hr;obtain⟨hi,hp'⟩:=hp;simp only[Ce]at hc;obtain rfl:=Zae hc.1.1;have hlk:=Zae hc.2
 let bs:=K6 [] bx (H7 tm y).cells
 have hst:=KE hcv hp' (S:=(·∈bs)) fun b hb=>hb
 have hI1:=hI.freeze bs hst;have hnb':b ∉ bs:=fun h=>by
  have:=List.contains_iff_mem.2 h;rw[this]at hnb;cases hnb
 have hb1:J2 bx (O8 bx bs) b=some (.rws e k es):=by
  rw[rZ (fun x hx=>hnb' (jE hx).1),hb]
 obtain⟨g',vs,hg',hB,hl⟩:=hI1.I9.box b _ hb1;rw[show (M.m b=_) from hg]at hg'
 cases hg';obtain⟨us,hu1,hu2⟩:=(hI.ev y).cells hc.1.2;have xH:=hu2.len;have hu3:=kC hI.I9 (F1:=eX M bx bs) (fun q h _=>.inl h) (rY hI.I9 (fun q h _=>.inl h) 1) _ [] false _ _ us (M0 (eX M bx bs)) rfl (fun b i h=>by cases h) hcv hp' (fun b hb=>Ex hst b hb) hu2;rw[wh hds]at hu3;have hdl:ds.length=k:=by
  have:=hu3.len;rw[Cc]at this;omega
 have hvl:=hl.1;have hik:i * k+k≤vs.length:=by
  rw[hvl];have:(i+1) * k≤es.length * k:=Zas k hi;rw[Nat.add_mul]at this;omega
 have hone:=hu2.oneCell hc.1.2;refine Ey (Qa ho hv (us:=us) (by rw[hn,xH,hlk]) hu1 hone hB J) ⟨⟨M.m,eX M bx bs,M.o⟩,?_⟩;generalize hv2:vs.take (i * k)++us++vs.drop (i * k+us.length)=vs2;have b5f:∀{M2:Mm} {w2:World},P5 X n0 ⟨M.m,eX M bx bs,M.o⟩ w M2 w2→qN M2.F w2 k (es.set i ds) vs2:=by
  intro M2 w2 gg;subst hv2;refine⟨by simp;omega,fun j hj=>?_⟩;rw[List.length_set]at hj;obtain⟨hk1,hk2⟩:=hl.2 j hj;by_cases ej:i=j
  ·subst ej;rw[List.getElem_set_self];refine⟨hdl,fun j' hj'=>?_⟩;obtain⟨u,h1,h2⟩:=hu3.YH j' hj';refine⟨u,?_,hone u (q8 h1),Rd.go gg h2⟩;rw[Zaf,ZaI (by simp;omega),ZaD (by simp;omega)];simp only[Zal];rw[show i * k+j' - min (i * k) vs.length=j' by omega]
   exact h1
  ·rw[List.getElem_set_ne ej];refine⟨hk1,fun j' hj'=>?_⟩;obtain⟨u,h1,h2,h3⟩:=hk2 j' hj';refine⟨u,?_,h2,Rd.go gg h3⟩;rw[←h1];rcases Nat.lt_or_gt_of_ne ej with hlt | hlt
   ·have:(i+1) * k≤j * k:=Zas k hlt;rw[Nat.add_mul]at this;rw[ZaI (by simp;omega)];simp only[lm,Zal];rw[List.getElem?_drop];congr 1;omega
   ·have:(j+1) * k≤i * k:=Zas k hlt;rw[Nat.add_mul]at this;rw[Zaf,ZaD (by simp;omega),List.getElem?_take_of_lt J]
 have hfin:=hI1.FX (x:=.rws e k es) (x':=.rws e k (es.set i ds)) (w':=w.setRow g vs2.toArray) (r:=.dt (.val undef)) (v:=undef) hb1 hg rfl hg rfl rfl rfl (setRow_size _ _ _) (fun q hq=>QG hq) (fun gg=>⟨g,vs2,hg,hB.setRow,b5f gg⟩) o.dst hd rX;have e:Z8 (J2 bx (O8 bx bs)) b (.rws e k (es.set i ds))=J2 bx (O8 bx bs++[(b,.rws e k (es.set i ds))]):=by
  have gen:∀ups:List (Nat×Bx),(∀x,(b,x) ∉ ups)→Z8 (J2 bx ups) b (.rws e k (es.set i ds))=J2 bx (ups++[(b,.rws e k (es.set i ds))]):=by
   intro ups
   induction ups with
   |nil=>intro _;rfl
   |cons p r ih =>
    intro hn;obtain⟨b0,x0⟩:=p;have hne:b≠b0:=fun e=>hn x0 (by rw[e];exact NE ..)
    have:=ih fun x hx=>hn x (Cg _ hx)
    funext q;have hq:=congrFun this q;show (if q=b then some _ else if q=b0 then some x0 else J2 bx r q)=if q=b0 then some x0 else J2 bx (r++_) q
    rw[←hq];by_cases e1:q=b
    ·subst e1;rw[Ch rfl,EQ hne];exact (Ch rfl).symm
    ·rw[EQ e1];by_cases e2:q=b0
     ·rw[Ch e2,Ch e2]
     ·rw[EQ e2,EQ e2];exact (EQ e1).symm
  exact gen _ fun x hx=>hnb' (jE hx).1
 rw[←e];exact hfin
end
theorem RL.a9V{M:Mm}{w:World}{a:AV}{v:Value}(h:RV M w a v):RL M w [a] [v]:=⟨v,[],rfl,h,rfl⟩
theorem RL.a9W{M:Mm}{w:World}{a:AV}{v:Value}(h:RL M w [a] [v]):RV M w a v:=by
 obtain⟨u,us,e,h,_⟩:=h;cases e;exact h
theorem a7k{P:Program}{t e:TypeId}(h:P.underlying t=some (.slice e)):P.elem t=e:=by unfold Program.elem;rw[h]
section
variable {E:En} {X:Nat→Prop} {n0:Nat} {w0:World×Mm} {ok0:Nat→Prop} {M:Mm} {nt:Nat} {tm:Nat→AV} {bx:Nat→Option Bx} {a:Act} {w:World} {o:Oper} {Q:Exit→Act→World→Prop}
theorem Inv.hand(hI:Inv X n0 w0 ok0 M nt tm bx a w){kn:Bool}{cs cs':List AV}{ps:List Prop}(hc:bz [] kn bx cs=some (cs',ps))(hp:K7 ps){vs:List Value}(hr:RL M w cs vs) :
  ∃M1,Inv X n0 w0 ok0 M1 nt tm (J2 bx (O8 bx (K6 [] bx cs))) a w∧RL (M0 M1.F) w cs' vs∧M1.m=M.m∧M1.o=M.o∧∀q,M.F q→M1.F q:=by
 have hst:=KE hc hp (S:=(·∈K6 [] bx cs)) fun b hb=>hb
 refine⟨_,hI.freeze _ hst,?_,rfl,rfl,fun q hq=>.inl hq⟩;exact kC hI.I9 (F1:=eX M bx (K6 [] bx cs)) (fun q h _=>.inl h) (rY hI.I9 (fun q h _=>.inl h) 1) cs [] kn cs' ps vs (M0 (eX M bx (K6 [] bx cs))) rfl (fun b i h=>by cases h) hc hp (fun b hb=>Ex hst b hb) hr
theorem Inv.Ma(hI:Inv X n0 w0 ok0 M nt tm bx a w){kn:Bool}{c c':AV}{ps:List Prop}(hc:bz [] kn bx [c]=some ([c'],ps))(hp:K7 ps){v:Value}(hr:RV M w c v) :
  ∃M1,Inv X n0 w0 ok0 M1 nt tm (J2 bx (O8 bx (K6 [] bx [c]))) a w∧RV (M0 M1.F) w c' v∧M1.m=M.m∧M1.o=M.o∧∀q,M.F q→M1.F q:=by
 obtain⟨M1,h1,h2,h3⟩:=hI.hand hc hp (RL.a9V hr);exact⟨M1,h1,h2.a9W,h3⟩
theorem KF(hS:aa X n0 M bx w){x:AV}{xs:aa0}{ps:List Prop}(h:sP bx x=some (xs,ps))(hp:K7 ps){v:Value}(hr:RV M w x v) :
  ∃A m c,v=.slice A m c∧xs.length=m∧∀k,L8 k xs→0 < m→∃b q,A=some ⟨b,q,none⟩∧∀i (hi:i < xs.length),(xs[i]).length=k∧∀j (hj:j < (xs[i]).length),∃u,w.cell? ⟨b,q+i * k+j,none⟩=some u∧Rd M.F w u (xs[i])[j]∧u.oneCell'=true:=by
 have EZ:∀{v:Value} {xs:aa0},Rd M.F w v (.row xs)→∃A m c,v=.slice A m c∧xs.length=m∧∀k,L8 k xs→0 < m→∃b q,A=some ⟨b,q,none⟩∧∀i (hi:i < xs.length),(xs[i]).length=k∧∀j (hj:j < (xs[i]).length),∃u,w.cell? ⟨b,q+i * k+j,none⟩=some u∧Rd M.F w u (xs[i])[j]∧u.oneCell'=true:=by
  intro v xs hr;obtain⟨A,m,c,rfl,hm,_⟩:=Rd.slice hr;refine⟨A,m,c,rfl,hm,fun k hk h0=>?_⟩;obtain⟨b,q,e,hf⟩:=Rd.src (A:=none) (ok:=M.F) hr (fun b hb _=>⟨hb,I⟩) hk h0;refine⟨b,q,e,fun i hi=>⟨(hf i hi).1,fun j hj=>?_⟩⟩;obtain⟨u,h1,h2,h3⟩:=(hf i hi).2 j hj;exact⟨u,h1,h2.mono fun _ h _=>h.1,h3⟩
 unfold sP at h;split at h
 ·cases h;exact EZ hr
 ·cases h;exact⟨_,0,_,Rd.Q7 hr,rfl,fun _ _ h=>absurd h (Nat.lt_irrefl _)⟩
 ·cases h;obtain⟨A,_,h2⟩:=hr;exact EZ h2
 ·cases h;exact⟨none,0,0,hr,rfl,fun _ _ h=>absurd h (Nat.lt_irrefl _)⟩
 ·rename_i b n;obtain⟨A,c,A',n',c',h1,h2,h3,h4⟩:=hr;split at h
  ·rename_i e k0 es hb;cases h;obtain⟨A2,n2,c2,e1,e2⟩:=hS.box b _ hb;rw[h2]at e1;cases e1;have hn:n=n':=hp.1.symm.trans e2.len;obtain⟨rfl,rfl⟩:=h4 hn;subst hn;refine⟨A,n,c,h1,e2.len,fun k hk h0=>?_⟩;obtain⟨xs',⟨hx,ho⟩,he⟩:=e2.own;have hlen:=e2.len;rcases ho with⟨_,h5⟩ | ⟨g',cap,cur,hv,hbg,hgb,hnc,hcm,hcs,ht⟩
   ·omega
   ·simp only[Za6]at hv;obtain⟨rfl,_,rfl⟩:=hv;have hk0:k0=k:=by rw[←(he 0 J).1];exact (hk _ (Zaj _)).1
    subst hk0;refine⟨g',0,rfl,fun i hi=>⟨(he i hi).1,fun j hj=>?_⟩⟩;obtain⟨u,h6,h7⟩:=(he i hi).2 j hj;refine⟨u,?_,h7.mono fun _ h _=>h.1,h7.one ((hk _ (Zaj _)).2 _ (Zaj _))⟩;have hj':j < k0:=by rw[←(he i hi).1];exact hj
    have hlt:i * k0+j < n * k0:=by
     have:(i+1) * k0≤n * k0:=Zas k0 J;rw[Nat.add_mul]at this;omega
    have e:cur[i * k0+j]?=some u:=by
     rw[←h6,←ht,List.getElem?_take_of_lt hlt];simp
    simp[World.cell?,hgb,Nat.zero_add,e]
  ·rename_i es hb;cases h;obtain⟨A2,n2,c2,e1,e2⟩:=hS.box b _ hb;rw[h2]at e1;cases e1;have hn:n=n':=hp.1.symm.trans e2.len;obtain⟨rfl,rfl⟩:=h4 hn;subst hn;rw[h1];exact EZ e2
  ·cases h
 ·rename_i b n;obtain⟨g,h1,h2⟩:=hr;split at h
  ·rename_i e k0 es hb;cases h;obtain⟨g',vs,e1,e2,e3⟩:=hS.box b _ hb;rw[h1]at e1;cases e1;have hn:=hp.1;subst hn;refine⟨_,_,_,h2,rfl,fun k hk h0=>?_⟩;have hk0:k0=k:=by rw[←(e3.2 0 h0).1];exact (hk _ (Zaj _)).1
   subst hk0;refine⟨g,0,rfl,fun i hi=>⟨(e3.2 i hi).1,fun j hj=>?_⟩⟩;obtain⟨u,h6,h7,h8⟩:=(e3.2 i hi).2 j hj;refine⟨u,?_,h8,h7⟩;rw[e2.cell,Zau];simpa using h6
  ·rename_i es hb;cases h;obtain⟨g',e1,e2⟩:=hS.box b _ hb;rw[h1]at e1;cases e1;have hn:=hp.1;subst hn;rw[h2];exact EZ e2
  ·cases h
 ·cases h
theorem a4A{P:Program}{t t' ty e e':TypeId}{args:Array Value}(ht:P.underlying t=some (.slice e))(ht':P.underlying t'=some (.slice e')):(Builtin.append_ #[t,t'] ty args).run P w=(Builtin.append_ #[t,t] ty args).run P w:=by
 unfold Builtin.append_;cases args[0]? with
 |none=>rfl
 |some s=>cases args[1]? with
  |none=>rfl
  |some x =>
   cases s with
   |slice base n c =>
    have e1:∀w,(underlying t).run P w=.ok (TypeDesc.slice e) w:=Zac ht;have e2:∀w,(underlying t').run P w=.ok (TypeDesc.slice e') w:=Zac ht';have f1:(#[t,t']:Array TypeId)[0]?=some t:=rfl;have f2:(#[t,t']:Array TypeId)[1]?=some t':=rfl;have f3:(#[t,t]:Array TypeId)[0]?=some t:=rfl;have f4:(#[t,t]:Array TypeId)[1]?=some t:=rfl;simp only[f1,f2,f3,f4,lc,e1,e2,Result.andThen,d9]
   |_=>rfl
theorem Jl{P:Program}(ok:Nat→Prop)(t ty e:TypeId)(z:Value)(k bytes:Nat)(ht:P.underlying t=some (.slice e))(hinfo:(P.info? e).map (fun i=>(i.zero,i.size,i.bytes))=some (some z,k,bytes))(hz:z.cells.size=k)(hk0:0 < k)
  (A:Option Addr) (n c:Nat) (l:aa0) (hown:ah ok w 0 e k A n c l) (A':Option Addr) (m c':Nat) (l':aa0) (hm:l'.length=m)
  (hsrc:0 < m→∃b o,A'=some ⟨b,o,none⟩∧∀i (hi:i < l'.length),(l'[i]).length=k∧∀j (hj:j < (l'[i]).length),∃u,w.cell? ⟨b,o+i * k+j,none⟩=some u∧Rd (fun b=>ok b∧A≠some ⟨b,0,none⟩) w u (l'[i])[j]∧u.oneCell'=true)
  (hf:P7 bytes (n+m)) :
  ∃A2 c2 w2,(Builtin.append_ #[t,t] ty #[.slice A n c,.slice A' m c']).run P w=.ok (.slice A2 (n+m) c2) w2∧ah ok w2 0 e k A2 (n+m) c2 (l++l') ∧
   (∀g,g < w.heap.size→A≠some ⟨g,0,none⟩→w2.heap[g]?=w.heap[g]?)∧w.heap.size≤w2.heap.size∧w2.os=w.os∧w2.tape=w.tape∧w2.output=w.output∧(A2=A∨A2=some ⟨w.heap.size,0,none⟩)∧(m=0→A2=A∧c2=c):=by
 rcases Zaa m with h0 | h0
 ·subst h0;obtain rfl:l'=[]:=q9 hm;obtain⟨i0,hi0,hz0,hz1,hz2⟩:=info_parts hinfo;refine⟨A,c,w,?_,by simpa using hown,fun _ _ _=>rfl,PP _,rfl,rfl,rfl,.inl rfl,fun _=>⟨rfl,rfl⟩⟩;obtain⟨xs,⟨_,ho⟩,_⟩:=hown.own;rcases ho with⟨hv,h0⟩ | ⟨g,cap,cur,hv,_,_,hnc,_⟩
  ·simp only[Za6]at hv;obtain⟨rfl,rfl,rfl⟩:=hv;rcases A' with _ | ad <;> simp[Builtin.append_,Zac ht,sizeOf,typeInfo,hi0,Builtin.lenOf,Builtin.firstCells,loadCells,loadCellsFrom]
  ·simp only[Za6]at hv;obtain⟨rfl,_,rfl⟩:=hv;rcases A' with _ | ad <;> simp[Builtin.append_,Zac ht,sizeOf,typeInfo,hi0,Builtin.lenOf,Builtin.firstCells,hnc,storeCells,loadCells,loadCellsFrom]
 ·obtain⟨A2,c2,w2,h1,h2,h3,h4,h5,h6,h7,h8⟩:=a3K (P:=P) (w:=w) ok 0 t ty e z k bytes ht hinfo hz hk0 A n c l hown A' m c' l' hm hsrc hf.1 hf.2 (Ci _);exact⟨A2,c2,w2,h1,h2,h3,h4,h5,h6,h7,h8,fun e=>J⟩
theorem Inv.app(hI:Inv X n0 w0 ok0 M nt tm bx a w){b k:Nat}{e:TypeId}{A A2:Option Addr}{n m c c2:Nat}{_es es2:aa0}{w2:World}
  (hb:(∃es,bx b=some (.buf e k es)∧M.o b=some (A,n,c))∨(bx b=none∧A=none)) (hown:ah M.F w2 0 e k A2 (n+m) c2 es2)
  (h3:∀g,g < w.heap.size→A≠some ⟨g,0,none⟩→w2.heap[g]?=w.heap[g]?) (h4:w.heap.size≤w2.heap.size) (h5:w2.os=w.os) (h6:w2.tape=w.tape) (h7:w2.output=w.output) (h8:A2=A∨∃g,A2=some ⟨g,0,none⟩∧w.heap.size≤g) (h9:bx b≠none→m=0→A2=A∧c2=c)
  (d:Option Nat) (hd:∀t,d=some t→t < nt):∃M',Inv X n0 w0 ok0 M' nt (Q6 tm d (.own b (n+m))) (Z8 bx b (.buf e k es2)) (a.put d (.slice A2 (n+m) c2)) w2:=by
 have hA:∀g,A=some ⟨g,0,none⟩→∃x,bx b=some x∧Hx M b x g:=by
  intro g hg;rcases hb with⟨es,h1,h2⟩ | ⟨_,h2⟩
  ·exact⟨_,h1,n,c,by rw[h2,hg]⟩
  ·rw[h2]at hg;cases hg
 have hdom:∀g,A=some ⟨g,0,none⟩→(n0≤g∨X g)∧g < w.heap.size∧¬M.F g:=by
  intro g hg;obtain⟨x,h1,h2⟩:=hA g hg;exact hI.I9.dom b x g h1 h2
 have hmb:M.m b=none:=by
  rcases hb with⟨es,h1,_⟩ | ⟨h1,_⟩
  ·cases e:M.m b with
   |none=>rfl
   |some g =>
    obtain⟨x,h2,h3⟩:=hI.I9.hm b g e;rw[h1]at h2;cases h2;cases h3
  ·exact hI.I9.yO h1
 let M':Mm:=⟨M.m,M.F,fun q=>if q=b then some (A2,n+m,c2) else M.o q⟩
 have oG:M'.o b=some (A2,n+m,c2):=Ch rfl;have hoq:∀q,q≠b→M'.o q=M.o q:=fun q hq=>EQ hq
 have g:P5 X n0 M w M' w2:=by
  refine⟨⟨h5,h6,h7,h4,fun q hq hX=>?_⟩,fun q hq hl=>?_,fun _ h _=>h,fun _ _ h=>h,fun q=>?_⟩
  ·refine h3 q (kw hq hI.le) fun e=>?_
   rcases (hdom q e).1 with h | h
   ·omega
   ·exact hX h
  ·exact h3 q hl fun e=>(hdom q e).2.2 hq
  ·by_cases e:q=b
   ·subst e;intro A0 n1 c1 h1;rcases hb with⟨es,hb1,h2⟩ | ⟨h2,_⟩
    ·rw[h2]at h1;cases h1;exact⟨A2,n+m,c2,oG,J,fun e=>h9 (by rw[hb1];simp) J⟩
    ·rw[hI.I9.Dn h2]at h1;cases h1
   ·exact nI (hoq q e)
 refine⟨M',hI.put g (hI.I9.upd (x':=.buf e k es2) g hI.le (fun q hq=>⟨rfl,hoq q hq⟩) (fun q hq hnq=>h3 q hq fun e=>?_) (fun q hq=>⟨kw (hI.I9.fz q hq) h4,.inl hq⟩) ⟨A2,n+m,c2,oG,hown⟩ (fun q hq=>?_) (fun q hq=>?_)) (fun _ h=>.inl h) d hd ⟨A2,c2,A2,n+m,c2,rfl,oG,PP _,fun _=>⟨rfl,rfl⟩⟩⟩
 ·obtain⟨x,h1,h2⟩:=hA q e;exact hnq x h1 h2
 ·obtain⟨n',c',hq⟩:=hq;rw[oG]at hq;cases hq;have hlt:q < w2.heap.size:=by
   rcases hown.addr with h | ⟨g',h,_,hl⟩
   ·cases h
   ·cases h;exact hl
  rcases h8 with h | h
  ·exact⟨.inl (hA q h.symm),hlt,(hdom q h.symm).2.2⟩
  ·obtain⟨g',h,hge⟩:=h;cases h;exact⟨.inr hge,hlt,fun hf=>by have:=hI.I9.fz _ hf;omega⟩
 ·have:M.m b=some q:=hq;rw[hmb]at this;cases this
theorem RD{w:World}{F:Nat→Prop}{k:Nat}(hk0:0 < k){b o:Nat}{l:aa0}(hel:∀i (hi:i < l.length),(l[i]).length=k∧∀j (hj:j < (l[i]).length),∃u,w.cell? ⟨b,o+i * k+j,none⟩=some u∧Rd F w u (l[i])[j]∧u.oneCell'=true) :
  ∃vs:List Value,vs.length=l.length * k∧(∀q u,vs[q]?=some u→w.cell? ⟨b,o+q,none⟩=some u)∧(∀u∈vs,u.oneCell'=true)∧∀i (hi:i < l.length) j (hj:j < (l[i]).length),∃u,vs[i * k+j]?=some u∧Rd F w u (l[i])[j]:=by
 have hdiv:∀q,q < l.length * k→q / k < l.length∧q % k < k:=fun q hq=>⟨Nat.div_lt_of_lt_mul (by rwa [ZaW]at hq),Nat.mod_lt _ hk0⟩
 have Nj:∀q,q / k * k+q % k=q:=fun q=>by rw[ZaW];exact Nat.div_add_mod q k
 let vs:List Value:=(List.range (l.length * k)).map fun q=>(w.cell? ⟨b,o+q,none⟩).getD (.int .i64 0)
 have hvl:vs.length=l.length * k:=by simp[vs]
 have hget:∀i (hi:i < l.length) j (hj:j < (l[i]).length),∃u,vs[i * k+j]?=some u∧w.cell? ⟨b,o+(i * k+j),none⟩=some u∧Rd F w u (l[i])[j]∧u.oneCell'=true:=by
  intro i hi j hj;obtain⟨hk,hj2⟩:=hel i hi;obtain⟨u,h1,h2,h3⟩:=hj2 j hj;have hlt:i * k+j < l.length * k:=by
   have:(i+1) * k≤l.length * k:=Zas k J;rw[Nat.add_mul]at this;omega
  refine⟨u,?_,by rw[←Nat.add_assoc];exact h1,h2,h3⟩;simp only[vs];rw[bi,List.getElem?_range hlt,Option.map_some,←Nat.add_assoc,h1,ZaP]
 have hall:∀q u,vs[q]?=some u→w.cell? ⟨b,o+q,none⟩=some u∧u.oneCell'=true:=by
  intro q u hq;have hlt:q < l.length * k:=by rw[←hvl];exact (UV.1 hq).1
  obtain⟨h1,h2⟩:=hdiv q hlt;obtain⟨hk,_⟩:=hel (q / k) h1;obtain⟨u',e1,e2,_,e3⟩:=hget (q / k) h1 (q % k) (by rw[hk];exact h2);rw[Nj]at e1 e2;rw[hq]at e1;injection e1 with e1
  subst e1;exact⟨e2,e3⟩
 exact⟨vs,hvl,fun q u hq=>(hall q u hq).1,fun u hu=>by obtain⟨q,hq⟩:=List.getElem?_of_mem hu;exact (hall q u hq).2,fun i hi j hj=>by obtain⟨u,h1,_,h2,_⟩:=hget i hi j hj;exact⟨u,h1,h2⟩⟩
theorem a4B{P:Program}{w:World}(F:Nat→Prop)(t ty e:TypeId)(z:Value)(k bytes:Nat)(ht:P.underlying t=some (.slice e))(hinfo:(P.info? e).map (fun i=>(i.zero,i.size,i.bytes))=some (some z,k,bytes))(hz:z.cells.size=k)(hk0:0 < k)
  {ad:Addr} (es:aa0) {olds:List Value} (ol:olds.length=es.length * k) (oc:∀q u,olds[q]?=some u→w.cell? (ad.add q)=some u) (ok:∀i (hi:i < es.length),(es[i]).length=k) (og:∀i (hi:i < es.length) j (hj:j < (es[i]).length),∃u,olds[i * k+j]?=some u∧Rd F w u (es[i])[j])
  {b' o':Nat} (c':Nat) (l':aa0) (hl':∀i (hi:i < l'.length),(l'[i]).length=k∧∀j (hj:j < (l'[i]).length),∃u,w.cell? ⟨b',o'+i * k+j,none⟩=some u∧Rd F w u (l'[i])[j]∧u.oneCell'=true) (hm:1≤l'.length) (hf:P7 bytes (es.length+l'.length)) :
  ∃g c2 w2,(Builtin.append_ #[t,t] ty #[.slice (some ad) es.length es.length,.slice (some ⟨b',o',none⟩) l'.length c']).run P w=.ok (.slice (some ⟨g,0,none⟩) (es.length+l'.length) c2) w2∧w.heap.size≤g∧ah F w2 0 e k (some ⟨g,0,none⟩) (es.length+l'.length) c2 (es++l') ∧
   (∀g,g < w.heap.size→w2.heap[g]?=w.heap[g]?)∧w.heap.size≤w2.heap.size∧w2.os=w.os∧w2.tape=w.tape∧w2.output=w.output:=by
 obtain⟨i0,hi0,hz0,hz1,hz2⟩:=info_parts hinfo;obtain⟨news,nl,nc,_,ng⟩:=RD hk0 hl';have hadd:∀b o q,(⟨b,o,none⟩:Addr).add q=⟨b,o+q,none⟩:=fun b o q=>by
  unfold Addr.add;split
  ·subst q;rfl
  ·rfl
 obtain⟨v',w2,hrun,hown,hg⟩:=run_append_arg_grows (P:=P) w t ty e i0 z k bytes ht hi0 hz0 hz1 hz2 hz hk0 ad es.length es.length olds ol oc ⟨b',o',none⟩ l'.length c' news nl (fun q u hq=>by rw[hadd];exact nc q u hq) J hf.1 hf.2;have hblk:∀g,g < w.heap.size→w2.heap[g]?=w.heap[g]?:=fun g h=>hg.block g h fun e=>by cases e
 obtain⟨hxl,hcase⟩:=hown;rcases hcase with⟨_,h0⟩ | ⟨g,cap,cur,rfl,hge,hrest⟩
 ·omega
 have za:∀u d,Rd F w u d→Rd (fun b=>F b∧(some ⟨g,0,none⟩:Option Addr)≠some ⟨b,0,none⟩) w2 u d:=by
  intro u d hr;refine (hr.lt.mono (ok':=fun b=>F b∧b < w.heap.size) fun _ h _=>h).keep hg.size (fun b hb _=>hblk b hb.2) |>.mono ?_
  intro b hb _;refine⟨hb.1,fun e=>?_⟩;injection e with e
  injection e with e
  have:=hb.2;omega
 refine⟨g,cap,w2,hrun,hge,⟨by rw[lm],olds++news,⟨hxl,.inr ⟨g,cap,cur,rfl,Ci _,hrest⟩⟩,fun i hi=>?_⟩,hblk,hg.size,hg.os,hg.tape,hg.output⟩;rw[lm]at hi;by_cases hin:i < es.length
 ·have e1:(es++l')[i]'(by rw[lm];omega)=es[i]:=List.getElem_append_left hin;simp only[e1];refine⟨ok i hin,fun j hj=>?_⟩;obtain⟨u,h6,h7⟩:=og i hin j hj;refine⟨u,?_,za _ _ h7⟩;rw[ZaD ((UV.1 h6).1)];exact h6
 ·have e1:(es++l')[i]'(by rw[lm];omega)=l'[i - es.length]:=List.getElem_append_right J;simp only[e1];refine⟨(hl' _ J).1,fun j hj=>?_⟩;obtain⟨u,h6,h7⟩:=ng (i - es.length) J j hj;refine⟨u,?_,za _ _ h7⟩;have ee:i * k+j=es.length * k+((i - es.length) * k+j):=by
   rw[Nat.sub_mul];have:es.length * k≤i * k:=Zas k J;omega
  rw[ee,←ol,ZaI J,Nat.add_sub_cancel_left];exact h6
theorem a9X{t t':TypeId}{s x:Operand}(ho:o.op=.call ⟨.builtin .append,#[s,x],#[t,t']⟩)(hI:Inv X n0 w0 ok0 M nt tm bx a w)(hd:∀t,o.dst=some t→t < nt){e e':TypeId}{z:Value}{kk bytes k:Nat}{c0:Bool}
  (ht:E.P.underlying t=some (.slice e)) (ht':E.P.underlying t'=some (.slice e')) (hinfo:(E.P.info? e).map (fun i=>(i.zero,i.size,i.bytes))=some (some z,kk,bytes)) (hz:z.cells.size=kk) (hk0:0 < kk)
  (hnew:∀q∈(I1.app e kk bytes (H7 tm s) (H7 tm x) c0).news k,bx q=none) {r:AV} {ups:List (Nat×Bx)} {ps:List Prop} (hr:(I1.app e kk bytes (H7 tm s) (H7 tm x) c0).run E bx k=some (r,ups,ps)) (hp:K7 ps) :
  o.wp E.P a w (Left X n0 w0 ok0 nt (Q6 tm o.dst r) (J2 bx ups)) Q:=by
 simp only[I1.run]at hr;split at hr
 case h_2=>cases hr
 rename_i xs qs hsrc;have exec:∀{A:Option Addr} {n c:Nat} {A':Option Addr} {m c':Nat} {v:Value} {w2:World},a.eval s=.slice A n c→a.eval x=.slice A' m c'→(Builtin.append_ #[t,t] o.type #[.slice A n c,.slice A' m c']).run E.P w=.ok v w2→(execOp a.eval o).run E.P w=.ok (.value v) w2:=by
  intro A n c A' m c' v w2 h1 h2 h3;obtain⟨dd,op,ty,pos,af,gd⟩:=o;simp only at ho;subst ho;rw[←a4A ht ht']at h3;simp[execOp,resolve,invoke,builtin,h1,h2,h3,Result.andThen]
 split at hr
 ·rename_i hs;split at hr
  case h_2=>cases hr
  rename_i gu;cases hr;obtain⟨hf,hk,hp'⟩:P7 bytes xs.length∧L8 kk xs∧K7 qs:=by
   cases c0 with
   |true=>exact⟨(vk gu).1,(vk gu).2,hp⟩
   |false=>exact hp
  obtain⟨A',m,c',hx,hm,hel⟩:=KF hI.I9 hsrc hp' (hI.ev x);have hk1:bx k=none:=hnew k (by rw[hs];exact Cf.2 rfl);have hse:=hI.ev s;rw[hs]at hse;subst hm;obtain⟨A2,c2,w2,h1,h2,h3,h4,h5,h6,h7,h8,h9⟩:=Jl (P:=E.P) (w:=w) M.F t o.type e z kk bytes ht hinfo hz hk0 none 0 0 [] (ah.nil M.F w 0 e kk) A' xs.length c' xs rfl (fun h0=>by
   obtain⟨b,q,e1,e2⟩:=hel kk hk h0;refine⟨b,q,e1,fun i hi=>⟨(e2 i hi).1,fun j hj=>?_⟩⟩;obtain⟨u,f1,f2,f3⟩:=(e2 i hi).2 j hj;exact⟨u,f1,f2.mono fun b hb _=>⟨hb,I⟩,f3⟩) (by rw[Zau];exact hf)
  have:=hI.app (b:=k) (n:=0) (c:=0) (_es:=[]) (.inr ⟨hk1,rfl⟩) h2 h3 h4 h5 h6 h7 (h8.imp_right fun h=>⟨_,h,PP _⟩) (fun _=>h9) o.dst hd;rw[Zau]at this h1;rw[List.nil_append]at this;exact fU (exec hse hx h1) this
 ·rename_i b n hs;split at hr
  case h_2=>cases hr
  rename_i e1 k1 es hb;split at hr
  case h_2=>cases hr
  rename_i hc;cases hr;simp only[Ce]at hc;obtain⟨hn,hf,hk,hp'⟩:es.length=n∧P7 bytes (es++xs).length∧L8 kk xs∧K7 qs:=by
   cases c0 with
   |true =>
    have h2:=hc.2;simp only[Bool.not_true,Bool.false_or,Ce]at h2;exact⟨Zae h2.1,(vk h2.2).1,(vk h2.2).2,hp⟩
   |false=>exact hp
  obtain rfl:=Zae hc.1.1.1;obtain rfl:=Zae hc.1.1.2;obtain⟨A',m,c',hx,hm,hel⟩:=KF hI.I9 hsrc hp' (hI.ev x);have hse:=hI.ev s;rw[hs]at hse;obtain⟨A0,c0,A,n',c,g1,g2,g3,g4⟩:=hse;obtain⟨A3,n3,c3,f1,hown⟩:=hI.I9.box b _ hb;rw[g2]at f1;cases f1;have hnn:n=n':=hn.symm.trans hown.len;obtain⟨rfl,rfl⟩:=g4 hnn;subst hnn;subst hm;obtain⟨A2,c2,w2,h1,h2,h3,h4,h5,h6,h7,h8,h9⟩:=Jl (P:=E.P) (w:=w) M.F t o.type e z kk bytes ht hinfo hz hk0 A0 n c0 es hown A' xs.length c' xs rfl (fun h0=>by
   obtain⟨b',q,e1,e2⟩:=hel kk hk h0;refine⟨b',q,e1,fun i hi=>⟨(e2 i hi).1,fun j hj=>?_⟩⟩;obtain⟨u,f1,f2,f3⟩:=(e2 i hi).2 j hj;exact⟨u,f1,f2.mono fun b1 hb1 _=>⟨hb1,fun e=>(hI.I9.dom b _ b1 hb ⟨n,c0,by rw[←e];exact g2⟩).2.2 hb1⟩,f3⟩) (by rw[lm,hn]at hf;exact hf)
  have hl:(es++xs).length=n+xs.length:=by rw[lm,hn]
  have:=hI.app (b:=b) (n:=n) (c:=c0) (_es:=es) (.inl ⟨es,hb,g2⟩) h2 h3 h4 h5 h6 h7 (h8.imp_right fun h=>⟨_,h,PP _⟩) (fun _=>h9) o.dst hd;rw[hl];exact fU (exec g1 hx h1) this
 ·rename_i es hs;split at hr
  case h_2=>cases hr
  rename_i gu;cases hr;obtain⟨h1x,hf,hk,hp'⟩:1≤xs.length∧P7 bytes (es++xs).length∧L8 kk (es++xs)∧K7 qs:=by
   cases c0 with
   |true =>
    simp only[Bool.not_true,Bool.false_or,Ce]at gu;exact⟨Zap gu.1,(vk gu.2).1,(vk gu.2).2,hp⟩
   |false=>exact hp
  have hke:L8 kk es:=fun x hx=>hk x (Zan _ hx)
  have hkx:L8 kk xs:=fun x hx=>hk x (ZaE _ hx)
  obtain⟨A',m,c',hx,hm,hel⟩:=KF hI.I9 hsrc hp' (hI.ev x);have hk1:bx k=none:=hnew k (by rw[hs];exact Cf.2 rfl);have hse:=hI.ev s;rw[hs]at hse;subst hm;obtain⟨b',q',rfl,MQ⟩:=hel kk hkx h1x;obtain⟨A,hsv,hrd⟩:=hse;have hl:(es++xs).length=es.length+xs.length:=lm;rw[hl]at hf ⊢
  have fin:∀{A2:Option Addr} {c2:Nat} {w2:World},(Builtin.append_ #[t,t] o.type #[.slice A es.length es.length,.slice (some ⟨b',q',none⟩) xs.length c']).run E.P w=.ok (.slice A2 (es.length+xs.length) c2) w2→ah M.F w2 0 e kk A2 (es.length+xs.length) c2 (es++xs)→(∀g,g < w.heap.size→w2.heap[g]?=w.heap[g]?)→w.heap.size≤w2.heap.size→w2.os=w.os→w2.tape=w.tape→w2.output=w.output→(∃g,A2=some ⟨g,0,none⟩∧w.heap.size≤g)→o.wp E.P a w (Left X n0 w0 ok0 nt (Q6 tm o.dst (.own k (es.length+xs.length))) (J2 bx [(k,.buf e kk (es++xs))])) Q:=by
   intro A2 c2 w2 h1 h2 h3 h4 h5 h6 h7 h8;exact fU (exec hsv hx h1) (hI.app (b:=k) (A:=none) (n:=es.length) (c:=0) (_es:=[]) (.inr ⟨hk1,rfl⟩) h2 (fun g hg _=>h3 g hg) h4 h5 h6 h7 (.inr h8) (fun h=>absurd hk1 h) o.dst hd)
  cases A with
  |none =>
   have h0:es=[]:=by
    cases es with
    |nil=>rfl
    |cons x r =>
     obtain⟨b,q,e1,_⟩:=Rd.src (A:=none) (ok:=M.F) (k:=kk) (hsv ▸ hrd) (fun b hb _=>⟨hb,I⟩) hke I;cases e1
   subst h0;obtain⟨A2,c2,w2,h1,h2,h3,h4,h5,h6,h7,h8,_⟩:=Jl (P:=E.P) (w:=w) M.F t o.type e z kk bytes ht hinfo hz hk0 none 0 0 [] (ah.nil M.F w 0 e kk) (some ⟨b',q',none⟩) xs.length c' xs rfl (fun _=>⟨b',q',rfl,fun i hi=>⟨(MQ i hi).1,fun j hj=>by
    obtain⟨u,f1,f2,f3⟩:=(MQ i hi).2 j hj;exact⟨u,f1,f2.mono fun b hb _=>⟨hb,I⟩,f3⟩⟩⟩) hf
   refine fin h1 h2 (fun g hg=>h3 g hg I) h4 h5 h6 h7 ?_;rcases h8 with h8 | h8
   ·subst h8;have:=h2.len;rcases h2.own with⟨ys,⟨_,hy⟩,_⟩
    rcases hy with⟨_,h0⟩ | ⟨g,cap,cur,hv,_⟩
    ·omega
    ·cases hv
   ·exact⟨_,h8,PP _⟩
  |some ad =>
   have hes:∃olds:List Value,olds.length=es.length * kk∧(∀q u,olds[q]?=some u→w.cell? (ad.add q)=some u)∧(∀i (hi:i < es.length),(es[i]).length=kk)∧∀i (hi:i < es.length) j (hj:j < (es[i]).length),∃u,olds[i * kk+j]?=some u∧Rd M.F w u (es[i])[j]:=by
    rcases Zaa es.length with h0 | h0
    ·obtain rfl:es=[]:=q9 h0;exact⟨[],I,fun q u h=>by simp at h,fun i hi=>by simp at hi,fun i hi=>by simp at hi⟩
    ·obtain⟨b,q,e1,h2⟩:=Rd.src (A:=none) (ok:=M.F) (k:=kk) (hsv ▸ hrd) (fun b hb _=>⟨hb,I⟩) hke h0;cases e1;obtain⟨olds,ol,oc,_,og⟩:=RD (F:=fun b=>M.F b∧(none:Option Addr)≠some ⟨b,0,none⟩) hk0 h2;refine⟨olds,ol,fun r u hr=>?_,fun i hi=>(h2 i hi).1,fun i hi j hj=>?_⟩
     ·have:=oc r u hr
      rwa [show (⟨b,q,none⟩:Addr).add r=⟨b,q+r,none⟩ by
       unfold Addr.add;split
       ·subst r;rfl
       ·rfl]
     ·obtain⟨u,h3,h4⟩:=og i hi j hj;exact⟨u,h3,h4.mono fun _ h _=>h.1⟩
   obtain⟨olds,ol,oc,okk,og⟩:=hes;obtain⟨g,c2,w2,h1,hge,h2,h3,h4,h5,h6,h7⟩:=a4B (P:=E.P) (w:=w) M.F t o.type e z kk bytes ht hinfo hz hk0 es ol oc okk og c' xs MQ h1x hf;exact fin h1 h2 h3 h4 h5 h6 h7 ⟨g,rfl,hge⟩
 ·cases hr
end
theorem RL.map{M:Mm}{w:World}{ρ:Operand→AV}{ε:Operand→Value}(h:∀x,RV M w (ρ x) (ε x)):∀xs:List Operand,RL M w (xs.map ρ) (xs.map ε)
 |[]=>rfl
 |x::xs=>⟨ε x,xs.map ε,rfl,h x,RL.map h xs⟩
theorem RL.lift{F:Nat→Prop}{M:Mm}{w:World}(h:∀q,F q→q < w.heap.size→M.F q){cs:List AV}{vs:List Value}(hr:RL (M0 F) w cs vs):RL M w cs vs :=
 RL.go (P5.same (M:=M0 F) (M':=M) h (fun _ _ h=>by cases h) (fun _ _ h=>by cases h)) cs vs hr
theorem RV.lift{F:Nat→Prop}{M:Mm}{w:World}(h:∀q,F q→q < w.heap.size→M.F q){c:AV}{v:Value}(hr:RV (M0 F) w c v):RV M w c v :=
 RV.go (P5.same (M:=M0 F) (M':=M) h (fun _ _ h=>by cases h) (fun _ _ h=>by cases h)) c v hr
section
variable {E:En} {X:Nat→Prop} {n0:Nat} {w0:World×Mm} {ok0:Nat→Prop} {M:Mm} {nt:Nat} {tm:Nat→AV} {bx:Nat→Option Bx} {a:Act} {w:World} {o:Oper} {Q:Exit→Act→World→Prop}
theorem a9Y(hS:aa X n0 M bx w){cs cs':List AV}{ps:List Prop}{vs:List Value}(hc:FY bx cs=some (cs',ps))(hp:K7 ps)(hr:RL M w cs vs):RL (M0 fun _=>True) w cs' vs :=
 kC hS (F1:=fun _=>True) (fun _ _ _=>trivial) (rY hS (fun _ _ _=>trivial) 4) cs [] false cs' ps vs (M0 fun _=>True) rfl (fun b i h=>by cases h) hc hp (fun _ _ _ _ _ _=>trivial) hr
theorem TR{x:Operand}{args:Array Operand}{ts:Array TypeId}(ho:o.op=.call ⟨.value x,args,ts⟩)(hI:Inv X n0 w0 ok0 M nt tm bx a w)(hd:∀t,o.dst=some t→t < nt)(hG:E.G w){f:FuncId}{al aZ:List AV}{r:AV}{k:Nat}
  (hx:(∃c1,H7 tm x=.dm f c1∧al=args.toList.map (H7 tm)++c1∧aZ=[])∨(H7 tm x=.au f aZ∧al=args.toList.map (H7 tm))) {r':AV} {ups:List (Nat×Bx)} {ps:List Prop} (hr:(I1.call f al aZ r).run E bx k=some (r',ups,ps)) (hp:K7 ps) :
  o.wp E.P a w (Left X n0 w0 ok0 nt (Q6 tm o.dst r') (J2 bx ups)) Q:=by
 -- the values handed over
 have hargs:∃us ws:List Value,RL M w al us∧RL (M0 M.F) w aZ ws∧∃cs:List Value,a.eval x=.func (.func f) #[] cs.toArray∧us++ws=args.toList.map a.eval++cs:=by
  have hv:=hI.ev x;rcases hx with⟨c1,h1,rfl,rfl⟩ | ⟨h1,rfl⟩
  ·rw[h1]at hv;obtain⟨us,hv,Bp⟩:=hv;exact⟨_,[],(RL.map hI.ev _).append Bp,rfl,us,hv,I⟩
  ·rw[h1]at hv;obtain⟨us,hv,Bp⟩:=hv;exact⟨_,us,RL.map hI.ev _,Bp,us,hv,rfl⟩
 obtain⟨us,ws,h1,h2,cs,h3,h4⟩:=hargs;have exec:(∃fn,E.P.funcs[f]?=some fn∧fn.body.isNone=false∧(fn.name == "runtime.NumGoroutine")=false)→(execOp a.eval o).run E.P w=.ok (.enter f (us++ws).toArray) w:=by
  intro hf;obtain⟨dd,op,ty,pos,af,gd⟩:=o;simp only at ho;subst ho;have e:args.map a.eval++cs.toArray=(us++ws).toArray:=by
   rw[h4];apply Array.ext';simp
  simp only[execOp,resolve,invoke,h3,Deferred.ofValue,lc,d9,Result.andThen,Array.empty_append];rw[e];exact Rx hf
 simp only[I1.run]at hr;split at hr
 ·rename_i hsc;split at hr
  ·rename_i args' qs hc;cases hr;obtain⟨hc1,hp'⟩:=hp;have h5:=a9Y hI.I9 hc hp' h1;unfold Oper.wp;rw[exec hc1.1,Oper.upon_enter];refine (hc1.2 (fun _=>True) w _ hG (h5.append (h2.lift (M:=M0 fun _=>True) fun _ _ _=>trivial))).mono ?_;rintro e w' ⟨v,rfl,hb,uy⟩;exact hI.grown hb o.dst hd (RV.fG _ _ hsc uy)
  ·cases hr
 ·split at hr
  ·rename_i args' qs hc;cases hr;obtain⟨hc1,hp'⟩:=hp;obtain⟨M1,hI1,h5,h6,h7,hF1⟩:=hI.hand hc hp' h1;unfold Oper.wp;rw[exec hc1.1,Oper.upon_enter];refine (hc1.2 M1.F w _ hG (h5.append (h2.lift (M:=M0 M1.F) fun q hq _=>hF1 q hq))).mono ?_;rintro e w' ⟨v,rfl,hb,uy⟩;exact hI1.grown hb o.dst hd (RV.lift (M:=⟨M1.m,fun b=>(M1.F b∨w.heap.size≤b)∧b < w'.heap.size,M1.o⟩) (fun b hb' hl=>⟨hb',hl⟩) uy)
  ·cases hr
theorem Inv.row(hI:Inv X n0 w0 ok0 M nt tm bx a w){T:TypeId}{sz len:Nat}{ds:List Dt}{vs:List Value}(hl:RL (M0 M.F) w (ds.map .dt) vs)(hdl:ds.length=len * sz)(hsp:0 < sz)(d:Option Nat)(hd:∀t,d=some t→t < nt) :
  ∃M',Inv X n0 w0 ok0 M' nt (Q6 tm d (.ax (chunks ds sz len))) bx (a.put d (.slice (some ⟨w.heap.size,0,none⟩) len len)) (w.alloc (.cells vs.toArray T)):=by
 have hb:Below w.heap.size w (w.alloc (.cells vs.toArray T)):=(Below.refl _ _).alloc (PP _) _;have hs2:(w.alloc (.cells vs.toArray T)).heap.size=w.heap.size+1:=I;have hcl:(chunks ds sz len).length=len:=by simp[chunks]
 have hel:∀i (h:i < (chunks ds sz len).length),((chunks ds sz len)[i]).length=sz:=fun i h=>by
  simp only[chunks,Cc,List.length_range]at h;simp only[chunks,List.getElem_map,List.getElem_range,Zal,ut,hdl];have:(i+1) * sz≤len * sz:=Zas _ h;rw[Nat.succ_mul]at this;omega
 have hgo:P5 (fun _=>False) 0 (M0 M.F) w (M0 fun b=>(M.F b∨w.heap.size≤b)∧b < (w.alloc (.cells vs.toArray T)).heap.size) (w.alloc (.cells vs.toArray T)):=⟨W9.of (hb.mono (Ci _)),fun b _ hl=>hb.block b hl,fun b hb' hl=>⟨.inl hb',by rw[hs2];omega⟩,(fun _ _ h=>by cases h),(fun _ _ _ _ h=>by cases h)⟩;refine hI.grown hb d hd ⟨some ⟨w.heap.size,0,none⟩,by rw[hcl],?_⟩;refine Rd.mk (k:=sz) hcl (PP _) (by rw[hs2];omega) ⟨.inr (PP _),by rw[hs2];omega⟩ hel ?_;intro i j hi hj;have hlj:=hel i hi;simp only[chunks,Cc,List.length_range]at hi;have hij:i * sz+j < ds.length:=by
  rw[hdl];have:(i+1) * sz≤len * sz:=Zas _ hi;rw[Nat.succ_mul]at this;omega
 obtain⟨u,hu1,hu2⟩:=hl.YH (i * sz+j) hij;refine⟨u,?_,?_⟩
 ·rw[Zau,(D5.new w T vs.toArray).cell];simpa using hu1
 ·have:((chunks ds sz len)[i]'(by simp[chunks];exact hi))[j]=ds[i * sz+j]:=by
   simp[chunks]
  rw[this];have hfin:=Rd.go hgo hu2;exact hfin
theorem b2A{t:TypeId}{len:Nat}{ps:Array (Nat×Operand)}(ho:o.op=.buildSlice t len ps)(hI:Inv X n0 w0 ok0 M nt tm bx a w)(hd:∀t,o.dst=some t→t < nt){e:TypeId}{ie:TypeInfo}{z:Value}(hu:E.P.underlying t=some (.slice e))(hie:E.P.info? e=some ie)(hz:ie.zero=some z)
  (hpos:len * ie.size≠0) (hsm:len * ie.size≤100000) {cs:List AV} {vs:List Value} (b2B:Instr.fill (fun i=>some (i * ie.size,ie.size)) ((Array.range (len * ie.size)).map fun i=>z.cells[i % z.cells.size]!) (ps.map fun x=>(x.1,a.eval x.2)).toList=some vs.toArray) (hcs:RL M w cs vs)
  {k:Nat} {r:AV} {ups:List (Nat×Bx)} {qs:List Prop} (hr:(I1.mk e ie.size len cs).run E bx k=some (r,ups,qs)) (hp:K7 qs):o.wp E.P a w (Left X n0 w0 ok0 nt (Q6 tm o.dst r) (J2 bx ups)) Q:=by
 have hrun:(execOp a.eval o).run E.P w=.ok (.value (.slice (some ⟨w.heap.size,0,none⟩) len len)) (w.alloc (.cells vs.toArray e)):=by
  obtain⟨dd,op,ty,pos,af,gd⟩:=o;simp only at ho;subst ho;have:=run_buildSlice (P:=E.P) w t e len (ps.map fun x=>(x.1,a.eval x.2)) vs.toArray ie z hu hie hz J hpos (by
   rw[←b2B])
  simp only[execOp,lc,this,Result.andThen,d9]
 simp only[I1.run]at hr;split at hr
 case h_2=>cases hr
 rename_i cs' ps' hc;split at hr
 case h_2=>cases hr
 rename_i ds hds hone;cases hr;rw[Ce]at hone;obtain⟨M1,hI1,h1,h2,h3,_⟩:=hI.hand hc hp hcs;rw[wh hds]at h1;have hlen:=Zae hone.2;rw[wh hds,Cc]at hlen;exact fU hrun (hI1.row h1 hlen (Nat.pos_of_ne_zero fun e=>hpos (by rw[e,Nat.mul_zero])) o.dst hd)
theorem a9Z{t:TypeId}{ps:Array (Nat×Operand)}(ho:o.op=.buildSlice t 0 ps)(hps:ps.toList=[])(hI:Inv X n0 w0 ok0 M nt tm bx a w)(hd:∀t,o.dst=some t→t < nt){e:TypeId}{ie:TypeInfo}{k:Nat}(hu:E.P.underlying t=some (.slice e))(hie:E.P.info? e=some ie)(hk:bx k=none):o.wp E.P a w (Left X n0 w0 ok0 nt (Q6 tm o.dst (.own k 0)) (J2 bx [(k,.buf e ie.size [])])) Q:=by
 obtain rfl:ps=#[]:=by cases ps;simp at hps;rw[hps]
 have hrun':(execOp a.eval o).run E.P w=.ok (.value (.slice (some ⟨w.heap.size,0,none⟩) 0 0)) (w.alloc (.cells #[] e)):=by
  obtain⟨dd,op,ty,pos,af,gd⟩:=o;simp only at ho;subst ho;have:(Instr.buildSlice t 0 #[]).run E.P w=.ok (.slice (some ⟨w.heap.size,0,none⟩) 0 0) (w.alloc (.cells #[] e)):=by
   simp[Instr.buildSlice,Zac hu,sizeOf,typeInfo,hie,newRow,Instr.fill];rw[show (Array.range 0:Array Nat)=#[] by apply Array.ext';simp]
   simp
  simp only[execOp,Array.map_empty,lc,this,Result.andThen,d9]
 exact fU hrun' (hI.app (b:=k) (k:=ie.size) (e:=e) (A:=none) (A2:=some ⟨w.heap.size,0,none⟩) (n:=0) (m:=0) (c:=0) (c2:=0) (_es:=[]) (es2:=[]) (w2:=w.alloc (.cells #[] e)) (.inr ⟨hk,rfl⟩) (ah.made M.F w 0 e ie.size 0 #[] (Ci _) (Ci _) I)
  (fun g hg _=>Below.heap_alloc _ _ _ hg) I rfl rfl rfl (.inr ⟨_,rfl,PP _⟩) (fun h=>absurd hk h) o.dst hd)
theorem a90{t:TypeId}{x y:Operand}(ho:o.op=.makeSlice t x y)(hI:Inv X n0 w0 ok0 M nt tm bx a w)(hd:∀t,o.dst=some t→t < nt){e:TypeId}{z:Value}{kk bytes k:Nat}(ht:E.P.underlying t=some (.slice e))(hinfo:(E.P.info? e).map (fun i=>(i.zero,i.size,i.bytes))=some (some z,kk,bytes))
  {kl kc:IntKind} {c:Int} (hx:a.eval x=.int kl 0) (hy:a.eval y=.int kc c) (hk:bx k=none) (hf:kV bytes c):o.wp E.P a w (Left X n0 w0 ok0 nt (Q6 tm o.dst (.own k 0)) (J2 bx [(k,.buf e kk [])])) Q:=by
 obtain⟨h0,h1,h2⟩:=hf;obtain⟨n,rfl⟩:∃n:Nat,c=n:=⟨c.toNat,J⟩;have hb':bytes * n≤281474976710656:=by
  have e1:((bytes * n:Nat):Int)=(bytes:Int) * (n:Int):=Int.natCast_mul ..;omega
 obtain⟨CS,hs,hrun⟩:=a3L (P:=E.P) t e z kk bytes ht hinfo kl kc n n rfl hb' J;have hrun':(execOp a.eval o).run E.P w=.ok (.value (.slice (some ⟨w.heap.size,0,none⟩) 0 n)) (w.alloc (.cells CS e)):=by
  obtain⟨dd,op,ty,pos,af,gd⟩:=o;simp only at ho;subst ho;simp only[execOp,hx,hy,lc,hrun,Result.andThen,d9]
 exact fU hrun' (hI.app (b:=k) (k:=kk) (e:=e) (A:=none) (A2:=some ⟨w.heap.size,0,none⟩) (n:=0) (m:=0) (c:=0) (c2:=n) (_es:=[]) (es2:=[]) (w2:=w.alloc (.cells CS e)) (.inr ⟨hk,rfl⟩) (ah.made M.F w 0 e kk n CS (Ci _) J hs)
  (fun g hg _=>Below.heap_alloc _ _ _ hg) I rfl rfl rfl (.inr ⟨_,rfl,PP _⟩) (fun h=>absurd hk h) o.dst hd)
def wZ:Value→Dt
 |.slice none 0 0=>.row []
 |v=>.val v
theorem a7l(F:Nat→Prop)(w:World)(v:Value):Rd F w v (wZ v):=by
 unfold wZ;split
 ·exact .nil _ _
 ·exact .val _
theorem Vv{t:TypeId}{x y:Operand}(ho:o.op=.makeSlice t x y)(hI:Inv X n0 w0 ok0 M nt tm bx a w)(hd:∀t,o.dst=some t→t < nt){e:TypeId}{ie:TypeInfo}{z:Value}{k n:Nat}(ht:E.P.underlying t=some (.slice e))(hie:E.P.info? e=some ie)(hz:ie.zero=some z)(hzs:z.cells.size=ie.size)(hz1:∀u∈z.cells.toList,u.oneCell'=true)(_hz0:0 < ie.size)
  {kl kc:IntKind} {l c:Int} (hx:a.eval x=.int kl l) (hy:a.eval y=.int kc c) (hk:bx k=none) (hl:l=n) (hc:c=n) (hf:kV ie.bytes c):o.wp E.P a w (Left X n0 w0 ok0 nt (Q6 tm o.dst (.sl k n)) (J2 bx [(k,.rws e ie.size (List.replicate n (z.cells.toList.map wZ)))])) Q:=by
 subst hl;subst hc;obtain⟨h0,h1,h2⟩:=hf;have iF:(maxLen:Int)≤9223372036854775807:=by simp[maxLen]
 have hrun:=run_make (P:=E.P) w t e ie z ht hie hz kl kc n n J (Int.le_refl _) h1 J;simp only[Int.toNat_natCast]at hrun;have hrun':(execOp a.eval o).run E.P w=.ok (.value (.slice (some ⟨w.heap.size,0,none⟩) n n)) (w.alloc (.cells (madeCells z.cells (n * ie.size)) e)):=by
  obtain⟨dd,op,ty,pos,af,gd⟩:=o;simp only at ho;subst ho;simp only[execOp,hx,hy,lc,hrun,Result.andThen,d9]
 refine fU hrun' (hI.new hk _ (x':=.rws e ie.size (List.replicate n (z.cells.toList.map wZ))) rfl (fun M' g hk'=>⟨w.heap.size,(madeCells z.cells (n * ie.size)).toList,hk',D5.new w e _,?_⟩) o.dst hd fun M' hk'=>⟨_,hk',rfl⟩);refine⟨by rw[Array.length_toList,size_madeCells,List.length_replicate],fun i hi=>?_⟩;rw[List.length_replicate]at hi;rw[List.getElem_replicate];refine⟨by simp[hzs],fun j hj=>?_⟩;simp only[Cc,Array.length_toList,hzs]at hj;have hij:i * ie.size+j < n * ie.size:=by
  have:(i+1) * ie.size≤n * ie.size:=Zas _ hi;rw[Nat.succ_mul]at this;omega
 refine⟨z.cells[j]'J,?_,hz1 _ I,?_⟩
 ·have:(i * ie.size+j) % ie.size=j:=by rw[ZaW,Nat.mul_add_mod];exact Nat.mod_eq_of_lt hj
  have hjz:j < z.cells.size:=J;rw[Array.getElem?_toList];unfold madeCells;rw[Array.getElem?_map,Array.getElem?_range,Ch hij,Option.map_some];have e2:(i * ie.size+j) % z.cells.size=j:=by rw[hzs];exact this
  simp only[e2];simp[hjz]
 ·rw[List.getElem_map];exact a7l _ _ _
theorem Vw{t:TypeId}{x i:Operand}(ho:o.op=.indexAddr t x i)(hI:Inv X n0 w0 ok0 M nt tm bx a w)(hd:∀t,o.dst=some t→t < nt){e:TypeId}{ie:TypeInfo}(hu:E.P.underlying t=some (.slice e))(hie:E.P.info? e=some ie){ki:IntKind}{n:Int}(hi:a.eval i=.int ki n){rr:Option (List Dt)}{k:Nat}
  {r:AV} {ups:List (Nat×Bx)} {ps:List Prop} (hr:(I1.idx (H7 tm x) n ie.size rr).run E bx k=some (r,ups,ps)) (hp:K7 ps):o.wp E.P a w (Left X n0 w0 ok0 nt (Q6 tm o.dst r) (J2 bx ups)) Q:=by
 simp only[I1.run]at hr;split at hr
 case h_2=>cases hr
 rename_i es qs hc;have key:∃ds,z8 es n ie.size ds∧K7 qs∧r=.pin (ds.map .dt)∧ups=O8 bx (K6 [] bx [H7 tm x]):=by
  split at hr
  ·rename_i ds;cases hr;exact⟨ds,hp.1,hp.2,rfl,rfl⟩
  ·split at hr
   ·rename_i ds h1 h2;split at hr
    ·rename_i h3;cases hr;exact⟨ds,⟨bv h1,h2,Zae h3⟩,hp,rfl,rfl⟩
    ·cases hr
   ·cases hr
 obtain⟨ds,⟨h0,hget,hlen⟩,hp',rfl,rfl⟩:=key;obtain⟨M1,hI1,hv,_⟩:=hI.Ma hc hp' (hI.ev x);have hv1:Rd M1.F w (a.eval x) (.row es):=hv;obtain⟨A,m,c,hv',hm,_⟩:=Rd.slice hv1;have hv2:Rd M1.F w (.slice A m c) (.row es):=by rw[←hv'];exact hv1
 have hlt:n.toNat < es.length:=(UV.1 hget).1;have hds:es[n.toNat]=ds:=(UV.1 hget).2;obtain⟨b,off,kk,rfl,hb,hF,hk,hf⟩:=hv2.cells J;have hkk:kk=ie.size:=by rw[←hk n.toNat hlt,hds,hlen]
 subst hkk;have hrun:(execOp a.eval o).run E.P w=.ok (.value (.pointer (some ⟨b,off+n.toNat * ie.size,none⟩))) w:=by
  obtain⟨dd,op,ty,pos,af,gd⟩:=o;simp only at ho;subst ho;have hcond:0≤n∧n < (m:Int):=⟨h0,J⟩;simp only[execOp,Instr.indexAt,asIntOf,hi,hv',lc,d9,Result.andThen,Zac hu,Ch hcond,run_sizeOf (show cu E.P e=some ie.size by unfold cu;rw[hie]),rW]
 have hrl:∀q,q≤ds.length→∃us:List Value,us.length=q∧(∀(j:Nat) u,us[j]?=some u→w.cell? ⟨b,off+n.toNat * ie.size+j,none⟩=some u)∧RL (M0 M1.F) w ((ds.take q).map .dt) us:=by
  intro q
  induction q with
  |zero=>exact fun _=>⟨[],rfl,(fun j u hj=>by simp at hj),rfl⟩
  |succ q ih =>
   intro hq;obtain⟨us,h1,h2,h3⟩:=ih J;obtain⟨u,e1,e2⟩:=hf n.toNat q hlt (by rw[hds];omega);simp only[hds]at e2;refine⟨us++[u],by simp[h1],fun j v hj=>?_,?_⟩
   ·rw[List.getElem?_append]at hj;split at hj
    ·exact h2 j v hj
    ·rename_i hnj;have:j=q:=by
      cases hjn:j - us.length with
      |zero=>omega
      |succ k=>rw[hjn]at hj;simp at hj
     subst this;rw[h1,Zb5]at hj;simp at hj;rw[e1,hj]
   ·rw[List.take_add_one,ww J,Zam];exact h3.append ⟨u,[],rfl,e2,rfl⟩
 obtain⟨us,_,h2,h3⟩:=hrl ds.length (PP _);rw[List.take_length]at h3;exact fU hrun ⟨M1,hI1.val o.dst hd ⟨b,off+n.toNat * ie.size,us,rfl,hF,hb,h2,h3⟩⟩
end
def uz:Value→AV
 |.agg cs=>.agg (cs.toList.map nX)
 |v=>nX v
theorem Vx(M:Mm)(w:World)(v:Value):RV M w (uz v) v:=by
 unfold uz;split
 ·rename_i cs;exact⟨cs.toList,I,yP M w _⟩
 ·exact Jz M w v
section
variable {E:En} {X:Nat→Prop} {n0:Nat} {w0:World×Mm} {ok0:Nat→Prop} {M:Mm} {nt:Nat} {tm:Nat→AV} {bx:Nat→Option Bx} {a:Act} {w:World} {o:Oper} {Q:Exit→Act→World→Prop}
theorem a3l{F:Nat→Prop}{A:Option Addr}{n c l h m sz:Nat}{es:aa0}(hr:Rd F w (.slice A n c) (.row es))(hlh:l≤h)(hn:h≤n)(hm:h≤m)(_hmc:m≤c)(hk:l=0∨∀x∈es,x.length=sz):Rd F w (sliced A l h m sz) (.row ((es.take h).drop l)):=by
 have hl:=hr.len;unfold sliced;rcases Nat.eq_or_lt_of_le hlh with e | hlt
 ·subst e;rw[Zb5,List.drop_eq_nil_of_le (by rw[Zal];omega)];exact .nil _ _
 ·have h1:=hr.take hn;rw[EQ J];obtain⟨b,q,kk,rfl,hb,hF,hkk,hf⟩:=hr.cells J;have hcell:∀i j (hi:i < ((es.take h).drop l).length) (hj:j < (((es.take h).drop l)[i]).length),∃u,w.cell? ⟨b,q+l * sz+i * kk+j,none⟩=some u∧Rd F w u (((es.take h).drop l)[i])[j]:=by
   intro i j hi hj;rw[ut,Zal]at hi;simp only[List.getElem_drop,List.getElem_take]at hj ⊢
   obtain⟨u,h2,h3⟩:=hf (l+i) j J hj;refine⟨u,?_,h3⟩;rw[←h2];congr 2;rw[Nat.add_mul];rcases hk with rfl | hk
   ·omega
   ·have:kk=sz:=by rw[←hkk 0 J];exact hk _ (Zaj _)
    rw[this];omega
  simp only[Option.map_some,rW];exact Rd.mk (k:=kk) (by rw[ut,Zal];omega) J hb hF (fun i hi=>by
   simp only[List.getElem_drop,List.getElem_take];exact hkk _ _) hcell
theorem a2x{P:Program}{n c:Nat}{lo hi mx:Option Value}{l h m:Nat}(hlo:(lo=none∧l=0)∨∃k,lo=some (.int k l))(hhi:(hi=none∧h=n)∨∃k,hi=some (.int k h))(hmx:(mx=none∧m=c)∨((∃k,mx=some (.int k m))∧∃k,hi=some (.int k h)))(hlh:l≤h)(hn:h≤n)(hm:h≤m)(hmc:m≤c) :
  (Instr.sliceBounds true n c lo hi mx).run P w=.ok (l,h,m) w:=by
 have b:∀(k:IntKind) (i y:Nat) (code:BoundsCode),i≤y→(Instr.sliceBound (.int k i) y code).run P w=.ok i w:=fun k i y code h=>by
  have:=run_sliceBound (P:=P) w k i y code J J;simpa using this
 rcases hmx with⟨rfl,rfl⟩ | ⟨⟨km,rfl⟩,kh,rfl⟩
 ·rcases hlo with⟨rfl,rfl⟩ | ⟨kl,rfl⟩ <;> rcases hhi with⟨rfl,rfl⟩ | ⟨kh,rfl⟩ <;> simp[Instr.sliceBounds,b,hlh,show h≤m by omega]
 ·rcases hlo with⟨rfl,rfl⟩ | ⟨kl,rfl⟩ <;> simp[Instr.sliceBounds,b,hlh,hm,hmc]
theorem Vy{t:TypeId}{x:Operand}{lo hi mx:Option Operand}(ho:o.op=.slice t x lo hi mx)(hI:Inv X n0 w0 ok0 M nt tm bx a w)(hd:∀t,o.dst=some t→t < nt){e:TypeId}{sz:Nat}(hu:E.P.underlying t=some (.slice e))(hsz:cu E.P e=some sz){l h m:Option Int}
  (hlo:(lo=none∧l=none)∨∃y k z,lo=some y∧a.eval y=.int k z∧l=some z) (hhi:(hi=none∧h=none)∨∃y k z,hi=some y∧a.eval y=.int k z∧h=some z) (hmx:(mx=none∧m=none)∨∃y k z,mx=some y∧a.eval y=.int k z∧m=some z)
  {rr:Option (aa0)} {k:Nat} {r:AV} {ups:List (Nat×Bx)} {ps:List Prop} (hr:(I1.qO (H7 tm x) sz l h m rr).run E bx k=some (r,ups,ps)) (hp:K7 ps):o.wp E.P a w (Left X n0 w0 ok0 nt (Q6 tm o.dst r) (J2 bx ups)) Q:=by
 simp only[I1.run]at hr;split at hr
 case h_2=>cases hr
 rename_i es qs hc;have key:∃rs,bV es sz (l.getD 0) (h.getD es.length) rs∧(m=none∨m=h)∧K7 qs∧r=cond m.isSome (.ax rs) (.dt (.row rs))∧ups=O8 bx (K6 [] bx [H7 tm x]):=by
  split at hr <;> (cases hr;exact⟨_,hp.1,hp.2.1,hp.2.2,rfl,rfl⟩)
 obtain⟨rs,⟨h1,h2,h3,h4,h5⟩,h6,hp',rfl,rfl⟩:=key;obtain⟨M1,hI1,hv,_⟩:=hI.Ma hc hp' (hI.ev x);have hv1:Rd M1.F w (a.eval x) (.row es):=hv;obtain⟨A,n,c,hv',hn,hcap⟩:=Rd.slice hv1;have hv2:Rd M1.F w (.slice A n c) (.row es):=by rw[←hv'];exact hv1
 have hL:((l.getD 0).toNat:Int)=l.getD 0:=Int.toNat_of_nonneg h1;have hH:((h.getD es.length).toNat:Int)=h.getD es.length:=Int.toNat_of_nonneg J;generalize hLd:(l.getD 0).toNat=L at *;generalize hHd:(h.getD es.length).toNat=H at *;have MR:∃m':Nat,H≤m'∧m'≤c∧(m.isSome=true→m'=H)∧((mx.map a.eval=none∧m'=c)∨((∃k,mx.map a.eval=some (.int k m'))∧∃k,hi.map a.eval=some (.int k H))):=by
  rcases hmx with⟨rfl,rfl⟩ | ⟨y,ky,z,rfl,hy,rfl⟩
  ·exact⟨c,J,PP _,(fun h=>by cases h),.inl ⟨rfl,rfl⟩⟩
  ·rcases h6 with h6 | h6
   ·cases h6
   ·subst h6;rcases hhi with⟨_,e⟩ | ⟨y2,k2,z2,rfl,hy2,e⟩
    ·cases e
    ·cases e;simp only[ZaP]at hH;refine⟨H,PP _,by simp only[ZaP]at h3;omega,fun _=>rfl,.inr ⟨⟨ky,?_⟩,k2,?_⟩⟩
     ·simp only[Option.map_some,hy];rw[hH]
     ·simp only[Option.map_some,hy2];rw[hH]
 obtain⟨m',g1,g2,g3,g4⟩:=MR;have hb:=a2x (P:=E.P) (w:=w) (n:=n) (c:=c) (lo:=lo.map a.eval) (hi:=hi.map a.eval) (mx:=mx.map a.eval) (l:=L) (h:=H) (m:=m') (by
  rcases hlo with⟨rfl,rfl⟩ | ⟨y,ky,z,rfl,hy,rfl⟩
  ·left;simp only[Option.getD_none]at hL;exact⟨rfl,J⟩
  ·right;simp only[ZaP]at hL;exact⟨ky,by simp only[Option.map_some,hy];rw[hL]⟩) (by
  rcases hhi with⟨rfl,rfl⟩ | ⟨y,ky,z,rfl,hy,rfl⟩
  ·left;simp only[Option.getD_none]at hH;exact⟨rfl,J⟩
  ·right;simp only[ZaP]at hH;exact⟨ky,by simp only[Option.map_some,hy];rw[hH]⟩) g4 J J g1 g2
 have hrun:(execOp a.eval o).run E.P w=.ok (.value (sliced A L H m' sz)) w:=by
  obtain⟨dd,op,ty,pos,af,gd⟩:=o;simp only at ho;subst ho;have e1:=a7k hu;have e2:=run_sliceAt_slice (P:=E.P) w t (a.eval x) (lo.map a.eval) (hi.map a.eval) (mx.map a.eval) (by rw[e1];exact hu);have e3:=run_slice_any (P:=E.P) w t A n c (by rw[e1];exact hu) (lo.map a.eval) (hi.map a.eval) (mx.map a.eval);rw[e1]at e3;simp only[hb,Result.andThen,run_sizeOf hsz]at e3;rw[hv']at e2;simp only[execOp,lc,hv',e2,e3,Result.andThen,d9]
 have hrd:Rd M1.F w (sliced A L H m' sz) (.row rs):=by
  rw[h4];exact a3l hv2 J J g1 g2 (h5.elim (fun h5=>.inl J) .inr)
 refine fU hrun ⟨M1,hI1.val o.dst hd ?_⟩;cases hms:m.isSome with
 |false=>exact hrd
 |true =>
  have e:=g3 hms;subst e;have hl:=h4 ▸ (by rw[ut,Zal];omega:((es.take m').drop L).length=m' - L);exact⟨_,by rw[hl];rfl,hrd⟩
theorem a92{src dst:TypeId}{x:Operand}(ho:o.op=.convert src dst x)(hI:Inv X n0 w0 ok0 M nt tm bx a w)(hd:∀t,o.dst=some t→t < nt){e:TypeId}(hu:E.P.underlying src=some (.slice e))(hue:E.P.underlying e=some (.int .u8))(hds:E.P.underlying dst=some .string){l:lw}{k:Nat}
  {r:AV} {ups:List (Nat×Bx)} {ps:List Prop} (hr:(I1.uq (H7 tm x) l).run E bx k=some (r,ups,ps)) (hp:K7 ps):o.wp E.P a w (Left X n0 w0 ok0 nt (Q6 tm o.dst r) (J2 bx ups)) Q:=by
 simp only[I1.run]at hr;split at hr
 case h_2=>cases hr
 rename_i es qs hc;cases hr;obtain⟨he,hp'⟩:=hp;obtain⟨M1,hI1,hv,_⟩:=hI.Ma hc hp' (hI.ev x);have hv1:Rd M1.F w (a.eval x) (.row es):=hv;obtain⟨A,n,c,hv',hn,hcap⟩:=Rd.slice hv1;have hv2:Rd M1.F w (.slice A n c) (.row es):=by rw[←hv'];exact hv1
 have b2C:(Conv.bytesToString (.slice A n c)).run E.P w=.ok (str l) w:=by
  rcases Zaa n with h0 | h0
  ·subst h0;have hl0:l=[]:=by
    cases l with
    |nil=>rfl
    |cons b l=>rw[he]at hn;simp at hn
   subst hl0;cases A with
   |none=>rfl
   |some ad=>simp[Conv.bytesToString,loadCells,loadCellsFrom,Sem.run_pure];rfl
  ·have hel:es.length=l.length:=by rw[he];simp
   obtain⟨b,q,kk,rfl,hb,hF,hkk,hf⟩:=hv2.cells h0;have hk1:kk=1:=by
    rw[←hkk 0 J];simp[he]
   subst hk1;have hload:(loadCells ⟨b,q,none⟩ n).run E.P w=.ok ((l.map fun b=>(b.toNat:Int)).map (Value.int .u8)).toArray w:=by
    have hln:((l.map fun b=>(b.toNat:Int)).map (Value.int .u8)).length=n:=by rw[←hn,he];simp
    have:=run_loadCells_list (P:=E.P) w ⟨b,q,none⟩ ((l.map fun b=>(b.toNat:Int)).map (Value.int .u8)) (fun j v hj=>by
     rw[rW];have hjl:j < l.length:=by
      have:=(UV.1 hj).1;simpa using this
     obtain⟨u,h1,h2⟩:=hf j 0 J (by simp[he]);have h3:u=.int .u8 l[j].toNat:=by
      have h4:(es[j]'J)[0]'(by simp[he])=.val (.int .u8 l[j].toNat):=by simp[he]
      rw[h4]at h2;exact Rd.Q7 h2
     simp[hjl]at hj;rw[←hj,←h3,←h1];simp)
    rwa [hln]at this
   rw[run_bytesToString w ⟨b,q,none⟩ n c (l.map fun b=>(b.toNat:Int)) hload];congr 1;show Value.string _=Value.string _;congr 1;have gen:∀(l:lw) (r:ByteArray),(l.map fun b=>(b.toNat:Int)).foldl (fun r n=>r.push (UInt8.ofNat n.toNat)) r=⟨(r.data.toList++l).toArray⟩:=by
    intro l
    induction l with
    |nil=>intro r;simp
    |cons b l ih =>
     intro r;rw[Zaq,List.foldl_cons,ih];simp[ByteArray.push]
   rw[gen];rfl
 refine fU (v:=str l) ?_ ⟨M,hI.val o.dst hd (Rd.val _)⟩;obtain⟨dd,op,ty,pos,af,gd⟩:=o;simp only at ho;subst ho;have hcv:(convert src dst (.slice A n c)).run E.P w=.ok (str l) w:=by
  unfold convert;simp only[lc,Zac hu,Zac hds,Result.andThen];simp only[Zac hue,b2C]
 simp only[execOp,lc,hv',hcv,Result.andThen,d9]
theorem MK.keys{M:Mm}{w:World}:∀{y9:List (Value×AV)} {es:List MapEntry},MK M w y9 es→es.map (·.key)=y9.map (·.1)
 |[],_,h=>by rw[show _=_ from h];rfl
 | (k,v)::y9,_,⟨e,es',h1,h2,_,h4⟩=>by rw[h1,Zaq,Zaq,h2,MK.keys h4]
theorem MK.get{M:Mm}{w:World}:∀{y9:List (Value×AV)} {es:List MapEntry},MK M w y9 es→∀{i:Nat} {k:Value} {v:AV},y9[i]?=some (k,v)→∃e,es[i]?=some e∧RV M w v e.val
 |[],_,_,i,k,v,hi=>by simp at hi
 | (k,v)::y9,_,⟨e,es',h1,h2,h3,h4⟩,i,k',v',hi=>by
  subst h1;cases i with
  |zero=>simp at hi;exact⟨e,rfl,hi.2 ▸ h3⟩
  |succ i=>exact MK.get h4 (by simpa using hi)
theorem MK.push{M:Mm}{w:World}{k:Value}{v:AV}{e:MapEntry}(he:e.key=k)(hv:RV M w v e.val):∀{y9:List (Value×AV)} {es:List MapEntry},MK M w y9 es→MK M w (y9++[(k,v)]) (es++[e])
 |[],_,h=>by rw[show _=_ from h];exact⟨e,[],rfl,he,hv,rfl⟩
 | (k',v')::y9,_,⟨e',es',h1,h2,h3,h4⟩=>by subst h1;exact⟨e',es'++[e],rfl,h2,h3,MK.push he hv h4⟩
theorem a7m{t:TypeId}(ho:o.op=.makeMap t none)(hI:Inv X n0 w0 ok0 M nt tm bx a w)(hd:∀t,o.dst=some t→t < nt){k:Nat}(hk:bx k=none):o.wp E.P a w (Left X n0 w0 ok0 nt (Q6 tm o.dst (.Q5 k)) (J2 bx [(k,.mp [])])) Q:=by
 have hrun:(execOp a.eval o).run E.P w=.ok (.value (.map (some w.heap.size))) (w.alloc (.map #[] 0)):=by
  obtain⟨dd,op,ty,pos,af,gd⟩:=o;simp only at ho;subst ho;rfl
 exact fU hrun (hI.new hk _ (x':=.mp []) rfl (fun M' g hk'=>⟨w.heap.size,[],0,hk',heap_alloc_new w _,rfl⟩) o.dst hd fun M' hk'=>⟨_,hk',rfl⟩)
theorem a4C{t:TypeId}(ho:o.op=.makeMap t none)(hI:Inv X n0 w0 ok0 M nt tm bx a w)(hd:∀t,o.dst=some t→t < nt){k:Nat}(hk:bx k=none):o.wp E.P a w (Left X n0 w0 ok0 nt (Q6 tm o.dst (.Q5 k)) (J2 bx [(k,.V3 [])])) Q:=by
 have hrun:(execOp a.eval o).run E.P w=.ok (.value (.map (some w.heap.size))) (w.alloc (.map #[] 0)):=by
  obtain⟨dd,op,ty,pos,af,gd⟩:=o;simp only at ho;subst ho;rfl
 exact fU hrun (hI.new hk _ (x':=.V3 []) rfl (fun M' g hk'=>⟨w.heap.size,[],0,hk',heap_alloc_new w _,rfl⟩) o.dst hd fun M' hk'=>⟨_,hk',rfl⟩)
theorem IG(y9:List (Value×List Dt)):(qz y9).map (·.1)=y9.map (·.1):=by unfold qz;rw[List.map_map];rfl
theorem RL.Xt{M:Mm}{w:World}:∀(ds:List Dt) (vs:List Value),RL M w (ds.map .dt) vs→RL (M0 M.F) w (ds.map .dt) vs
 |[],_,h=>h
 |_::ds,_,⟨u,us,h1,h2,h3⟩=>⟨u,us,h1,h2,RL.Xt ds us h3⟩
theorem RL.TS{M:Mm}{w:World}:∀(ds:List Dt) (vs:List Value),RL (M0 M.F) w (ds.map .dt) vs→RL M w (ds.map .dt) vs
 |[],_,h=>h
 |_::ds,_,⟨u,us,h1,h2,h3⟩=>⟨u,us,h1,h2,RL.TS ds us h3⟩
theorem uZ{P:Program}{g:Nat}{es:Array MapEntry}{Z6:Nat}(h:w.heap[g]?=some (.map es Z6)):(getObj g).run P w=.ok (.map es Z6) w:=by
 unfold getObj;simp only[Sem.run,h]
theorem a7n{t:TypeId}{m x y:Operand}(ho:o.op=.insert t m x y∨o.op=.mapUpdate t m x y)(hI:Inv X n0 w0 ok0 M nt tm bx a w)(hd:∀t,o.dst=some t→t < nt){kt et:TypeId}(hu:E.P.underlying t=some (.map kt et)){b:Nat}{key:Value}(hm:H7 tm m=.Q5 b)(hx:a.eval x=key)
  {y9:List (Value×List Dt)} {ds:List Dt} (hb:bx b=some (.V3 y9)) (hy:H7 tm y=.agg (ds.map .dt)) (hp:Af E.P kt key (y9.map (·.1))):o.wp E.P a w (Left X n0 w0 ok0 nt (Q6 tm o.dst (.dt (.val undef))) (J2 bx [(b,.V3 (y9++[(key,ds)]))])) Q:=by
 have hv:=hI.ev m;rw[hm]at hv;obtain⟨g,hg,hv⟩:=hv;obtain⟨g',es,Z6,e1,e2,e3⟩:=hI.I9.box b _ hb;rw[hg]at e1;cases e1;have hfind:=hp es w (e3.keys.trans (IG y9));have hlt:g < w.heap.size:=(hI.I9.dom b _ g hb hg).2.1
 let w2:World:={ w with heap:=w.heap.setIfInBounds g (.map (es.toArray.push { key:=key,val:=a.eval y,born:=Z6 }) (Z6+1)) }
 have hmu:(Instr.mapUpdate t (.map (some g)) key (a.eval y)).run E.P w=.ok () w2:=by
  unfold Instr.mapUpdate;simp only[lc,Zac hu,Result.andThen,uZ e2];rw[lc]at hfind;cases hck:(Instr.checkKey false 10000 kt key).run E.P w with
  |halt s w'=>rw[hck]at hfind;simp[Result.andThen]at hfind
  |ok u w' =>
   rw[hck]at hfind;simp only[Result.andThen]at hfind ⊢
   simp only[hfind];unfold setObj;simp only[Sem.run,e2];rfl
 have hrun:(execOp a.eval o).run E.P w=.ok .skip w2:=by
  obtain⟨dd,op,ty,pos,af,gd⟩:=o;simp only at ho;rcases ho with ho | ho <;> (subst ho;simp only[execOp,hx,hv,lc,hmu,Result.andThen,d9])
 have hother:∀q,q≠g→w2.heap[q]?=w.heap[q]?:=fun q hq=>by
  show (w.heap.setIfInBounds g _)[q]?=_;rw[Array.getElem?_setIfInBounds,EQ (ZaJ hq)]
 have Md:w2.heap[g]?=some (.map (es++[({ key:=key,val:=a.eval y,born:=Z6 }:MapEntry)]).toArray (Z6+1)):=by
  show (w.heap.setIfInBounds g _)[g]?=_;rw[Array.getElem?_setIfInBounds,Ch rfl,Ch hlt];simp
 have uy:RV (M0 M.F) w (.agg (ds.map .dt)) (a.eval y):=by
  have h:=hI.ev y;rw[hy]at h;obtain⟨vs,h1,h2⟩:=h;exact⟨vs,h1,RL.Xt ds vs h2⟩
 have hE:qz (y9++[(key,ds)])=qz y9++[(key,AV.agg (ds.map .dt))]:=by unfold qz;rw[Zam];rfl
 exact Ey hrun ⟨M,hI.FX (x:=.V3 y9) (x':=.V3 (y9++[(key,ds)])) (w':=w2) (r:=.dt (.val undef)) (v:=undef) hb hg rfl hg rfl rfl rfl (by show (w.heap.setIfInBounds g _).size=_;simp) hother
  (fun gg=>⟨g,_,_,hg,Md,by rw[hE];exact MK.push (k:=key) (v:=.agg (ds.map .dt)) (e:={ key:=key,val:=a.eval y,born:=Z6 }) rfl (RV.go gg.flat _ _ uy) (MK.go gg.flat e3)⟩) o.dst hd rX⟩
theorem Vz{t:TypeId}{m x y:Operand}(ho:o.op=.insert t m x y∨o.op=.mapUpdate t m x y)(hI:Inv X n0 w0 ok0 M nt tm bx a w)(hd:∀t,o.dst=some t→t < nt){kt et:TypeId}(hu:E.P.underlying t=some (.map kt et)){b k:Nat}{key:Value}(hm:H7 tm m=.Q5 b)(hx:a.eval x=key)
  {r:AV} {ups:List (Nat×Bx)} {ps:List Prop} (hr:(I1.ins b kt key (H7 tm y)).run E bx k=some (r,ups,ps)) (hp:K7 ps):o.wp E.P a w (Left X n0 w0 ok0 nt (Q6 tm o.dst r) (J2 bx ups)) Q:=by
 simp only[I1.run]at hr;split at hr
 case h_3=>cases hr
 case h_2 y9 hb =>
  split at hr
  ·rename_i cs hcs;split at hr
   ·rename_i ds hds;cases hr;have hp1:=hp.1;exact a7n ho hI hd hu hm hx hb (hcs.trans (congrArg AV.agg (wh hds))) hp1
   ·cases hr
  ·cases hr
 rename_i y9 hb;cases hr;have hv:=hI.ev m;rw[hm]at hv;obtain⟨g,hg,hv⟩:=hv;obtain⟨g',es,Z6,e1,e2,e3⟩:=hI.I9.box b _ hb;rw[hg]at e1;cases e1;have hfind:=hp.1 es w e3.keys;have hlt:g < w.heap.size:=(hI.I9.dom b _ g hb hg).2.1
 let w2:World:={ w with heap:=w.heap.setIfInBounds g (.map (es.toArray.push { key:=key,val:=a.eval y,born:=Z6 }) (Z6+1)) }
 have hmu:(Instr.mapUpdate t (.map (some g)) key (a.eval y)).run E.P w=.ok () w2:=by
  unfold Instr.mapUpdate;simp only[lc,Zac hu,Result.andThen,uZ e2];rw[lc]at hfind;cases hck:(Instr.checkKey false 10000 kt key).run E.P w with
  |halt s w'=>rw[hck]at hfind;simp[Result.andThen]at hfind
  |ok u w' =>
   rw[hck]at hfind;simp only[Result.andThen]at hfind ⊢
   simp only[hfind];unfold setObj;simp only[Sem.run,e2];rfl
 have hrun:(execOp a.eval o).run E.P w=.ok .skip w2:=by
  obtain⟨dd,op,ty,pos,af,gd⟩:=o;simp only at ho;rcases ho with ho | ho <;> (subst ho;simp only[execOp,hx,hv,lc,hmu,Result.andThen,d9])
 have hother:∀q,q≠g→w2.heap[q]?=w.heap[q]?:=fun q hq=>by
  show (w.heap.setIfInBounds g _)[q]?=_;rw[Array.getElem?_setIfInBounds,EQ (ZaJ hq)]
 have Md:w2.heap[g]?=some (.map (es++[({ key:=key,val:=a.eval y,born:=Z6 }:MapEntry)]).toArray (Z6+1)):=by
  show (w.heap.setIfInBounds g _)[g]?=_;rw[Array.getElem?_setIfInBounds,Ch rfl,Ch hlt];simp
 exact Ey hrun ⟨M,hI.FX (x:=.mp y9) (x':=.mp (y9++[(key,H7 tm y)])) (w':=w2) (r:=.dt (.val undef)) (v:=undef) hb hg rfl hg rfl rfl rfl (by show (w.heap.setIfInBounds g _).size=_;simp) hother
  (fun gg=>⟨g,_,_,hg,Md,MK.push (k:=key) (v:=H7 tm y) (e:={ key:=key,val:=a.eval y,born:=Z6 }) rfl (RV.go gg _ _ (hI.ev y)) (MK.go gg e3)⟩) o.dst hd rX⟩
theorem a4D{t:TypeId}{m x:Operand}{ok:Bool}(ho:o.op=.lookup t m x ok)(hI:Inv X n0 w0 ok0 M nt tm bx a w)(hd:∀t,o.dst=some t→t < nt){kt et:TypeId}(hu:E.P.underlying t=some (.map kt et)){ie:TypeInfo}{z:Value}(hie:E.P.info? et=some ie)(hz:ie.zero=some z){b:Nat}{key:Value}(hm:H7 tm m=.Q5 b)(hx:a.eval x=key)
  {y9:List (Value×List Dt)} (hb:bx b=some (.V3 y9)) (hp:mg E.P kt key (y9.map (·.1)) none):o.wp E.P a w (Left X n0 w0 ok0 nt (Q6 tm o.dst (cond ok (.l7 [uz z,.dt (.val (.bool false))]) (uz z))) (J2 bx [])) Q:=by
 have hv:=hI.ev m;rw[hm]at hv;obtain⟨g,hg,hv⟩:=hv;obtain⟨g',es,Z6,e1,e2,e3⟩:=hI.I9.box b _ hb;rw[hg]at e1;cases e1;have gen:∀{res:Option (Nat×Value)} {u:Value} {f:Bool},Sem.run E.P (do Instr.checkKey es.isEmpty 10000 kt key;Instr.findKey kt key es) w=.ok res w→(match res with | some (_,v)=>u=v∧f=true | none=>u=z∧f=false)→(execOp a.eval o).run E.P w=.ok (.value (cond ok (.tuple #[u,.bool f]) u)) w:=by
  intro res u f hfind hres;have hlk:(Instr.lookup t (.map (some g)) key ok).run E.P w=.ok (cond ok (.tuple #[u,.bool f]) u) w:=by
   unfold Instr.lookup;simp only[lc,Zac hu,Result.andThen,uZ e2,d9];rw[lc]at hfind;have hemp:es.toArray.isEmpty=es.isEmpty:=I;rw[hemp];cases hck:(Instr.checkKey es.isEmpty 10000 kt key).run E.P w with
   |halt s w'=>rw[hck]at hfind;simp[Result.andThen]at hfind
   |ok q w' =>
    rw[hck]at hfind;simp only[Result.andThen]at hfind ⊢
    simp only[hfind];cases res with
    |some p =>
     obtain⟨i,v⟩:=p;obtain⟨rfl,rfl⟩:=hres;cases ok <;> simp[Sem.run_pure]
    |none =>
     obtain⟨rfl,rfl⟩:=hres;cases ok <;> simp[Sem.run_pure,Result.andThen,zeroValue,typeInfo,hie,hz]
  obtain⟨dd,op,ty,pos,af,gd⟩:=o;simp only at ho;subst ho;simp only[execOp,hx,hv,lc,hlk,Result.andThen,d9]
 have qP:∀{v:AV} {u:Value} {f:Bool},RV M w v u→RV M w (cond ok (.l7 [v,.dt (.val (.bool f))]) v) (cond ok (.tuple #[u,.bool f]) u):=by
  intro v u f h;cases ok with
  |true=>exact⟨[u,.bool f],rfl,u,_,rfl,h,_,_,rfl,Rd.val _,rfl⟩
  |false=>exact h
 have hf:=hp es w (e3.keys.trans (IG y9));simp only[Option.bind_none]at hf;exact bM hI hd (gen (u:=z) (f:=false) hf ⟨rfl,rfl⟩) (qP (Vx M w z))
theorem a4E{t:TypeId}{m x:Operand}{ok:Bool}(ho:o.op=.lookup t m x ok)(hI:Inv X n0 w0 ok0 M nt tm bx a w)(hd:∀t,o.dst=some t→t < nt){kt et:TypeId}(hu:E.P.underlying t=some (.map kt et)){ie:TypeInfo}{z:Value}(hie:E.P.info? et=some ie)(hz:ie.zero=some z){b:Nat}{key:Value}(hm:H7 tm m=.Q5 b)(hx:a.eval x=key)
  {y9:List (Value×List Dt)} {i:Nat} {ds:List Dt} (hb:bx b=some (.V3 y9)) (hp:mg E.P kt key (y9.map (·.1)) (some i)) (hi:(y9.map (·.2))[i]?=some ds):o.wp E.P a w (Left X n0 w0 ok0 nt (Q6 tm o.dst (cond ok (.l7 [.agg (ds.map .dt),.dt (.val (.bool true))]) (.agg (ds.map .dt)))) (J2 bx [])) Q:=by
 have hv:=hI.ev m;rw[hm]at hv;obtain⟨g,hg,hv⟩:=hv;obtain⟨g',es,Z6,e1,e2,e3⟩:=hI.I9.box b _ hb;rw[hg]at e1;cases e1;have gen:∀{res:Option (Nat×Value)} {u:Value} {f:Bool},Sem.run E.P (do Instr.checkKey es.isEmpty 10000 kt key;Instr.findKey kt key es) w=.ok res w→(match res with | some (_,v)=>u=v∧f=true | none=>u=z∧f=false)→(execOp a.eval o).run E.P w=.ok (.value (cond ok (.tuple #[u,.bool f]) u)) w:=by
  intro res u f hfind hres;have hlk:(Instr.lookup t (.map (some g)) key ok).run E.P w=.ok (cond ok (.tuple #[u,.bool f]) u) w:=by
   unfold Instr.lookup;simp only[lc,Zac hu,Result.andThen,uZ e2,d9];rw[lc]at hfind;have hemp:es.toArray.isEmpty=es.isEmpty:=I;rw[hemp];cases hck:(Instr.checkKey es.isEmpty 10000 kt key).run E.P w with
   |halt s w'=>rw[hck]at hfind;simp[Result.andThen]at hfind
   |ok q w' =>
    rw[hck]at hfind;simp only[Result.andThen]at hfind ⊢
    simp only[hfind];cases res with
    |some p =>
     obtain⟨i,v⟩:=p;obtain⟨rfl,rfl⟩:=hres;cases ok <;> simp[Sem.run_pure]
    |none =>
     obtain⟨rfl,rfl⟩:=hres;cases ok <;> simp[Sem.run_pure,Result.andThen,zeroValue,typeInfo,hie,hz]
  obtain⟨dd,op,ty,pos,af,gd⟩:=o;simp only at ho;subst ho;simp only[execOp,hx,hv,lc,hlk,Result.andThen,d9]
 have qP:∀{v:AV} {u:Value} {f:Bool},RV M w v u→RV M w (cond ok (.l7 [v,.dt (.val (.bool f))]) v) (cond ok (.tuple #[u,.bool f]) u):=by
  intro v u f h;cases ok with
  |true=>exact⟨[u,.bool f],rfl,u,_,rfl,h,_,_,rfl,Rd.val _,rfl⟩
  |false=>exact h
 rw[bi,ZaH]at hi;obtain⟨⟨k0,v0⟩,hi,rfl⟩:=hi;have hi2:(qz y9)[i]?=some (k0,AV.agg (v0.map .dt)):=by unfold qz;rw[bi,hi];rfl
 obtain⟨e,h1,h2⟩:=e3.get hi2;have hf:=hp es w (e3.keys.trans (IG y9));simp only[Option.bind_some,h1,Option.map_some]at hf;have h3:RV M w (.agg (v0.map .dt)) e.val:=by
  obtain⟨vs,k1,k2⟩:=h2;exact⟨vs,k1,RL.TS v0 vs k2⟩
 exact bM hI hd (gen (u:=e.val) (f:=true) hf ⟨rfl,rfl⟩) (qP h3)
theorem TT{t:TypeId}{m x:Operand}{ok:Bool}(ho:o.op=.lookup t m x ok)(hI:Inv X n0 w0 ok0 M nt tm bx a w)(hd:∀t,o.dst=some t→t < nt){kt et:TypeId}(hu:E.P.underlying t=some (.map kt et)){ie:TypeInfo}{z:Value}(hie:E.P.info? et=some ie)(hz:ie.zero=some z){b k:Nat}{key:Value}(hm:H7 tm m=.Q5 b)(hx:a.eval x=key){rr:Option Nat}
  {r:AV} {ups:List (Nat×Bx)} {ps:List Prop} (hr:(I1.look b kt key (uz z) ok rr).run E bx k=some (r,ups,ps)) (hp:K7 ps):o.wp E.P a w (Left X n0 w0 ok0 nt (Q6 tm o.dst r) (J2 bx ups)) Q:=by
 simp only[I1.run]at hr;split at hr
 case h_3=>cases hr
 case h_1 y9 hb =>
  split at hr
  ·cases hr
  ·cases hr;exact a4D ho hI hd hu hie hz hm hx hb hp.1
 rename_i y9 hb;have hv:=hI.ev m;rw[hm]at hv;obtain⟨g,hg,hv⟩:=hv;obtain⟨g',es,Z6,e1,e2,e3⟩:=hI.I9.box b _ hb;rw[hg]at e1;cases e1;have gen:∀{res:Option (Nat×Value)} {u:Value} {f:Bool},Sem.run E.P (do Instr.checkKey es.isEmpty 10000 kt key;Instr.findKey kt key es) w=.ok res w→(match res with | some (_,v)=>u=v∧f=true | none=>u=z∧f=false)→(execOp a.eval o).run E.P w=.ok (.value (cond ok (.tuple #[u,.bool f]) u)) w:=by
  intro res u f hfind hres;have hlk:(Instr.lookup t (.map (some g)) key ok).run E.P w=.ok (cond ok (.tuple #[u,.bool f]) u) w:=by
   unfold Instr.lookup;simp only[lc,Zac hu,Result.andThen,uZ e2,d9];rw[lc]at hfind;have hemp:es.toArray.isEmpty=es.isEmpty:=I;rw[hemp];cases hck:(Instr.checkKey es.isEmpty 10000 kt key).run E.P w with
   |halt s w'=>rw[hck]at hfind;simp[Result.andThen]at hfind
   |ok q w' =>
    rw[hck]at hfind;simp only[Result.andThen]at hfind ⊢
    simp only[hfind];cases res with
    |some p =>
     obtain⟨i,v⟩:=p;obtain⟨rfl,rfl⟩:=hres;cases ok <;> simp[Sem.run_pure]
    |none =>
     obtain⟨rfl,rfl⟩:=hres;cases ok <;> simp[Sem.run_pure,Result.andThen,zeroValue,typeInfo,hie,hz]
  obtain⟨dd,op,ty,pos,af,gd⟩:=o;simp only at ho;subst ho;simp only[execOp,hx,hv,lc,hlk,Result.andThen,d9]
 have qP:∀{v:AV} {u:Value} {f:Bool},RV M w v u→RV M w (cond ok (.l7 [v,.dt (.val (.bool f))]) v) (cond ok (.tuple #[u,.bool f]) u):=by
  intro v u f h;cases ok with
  |true=>exact⟨[u,.bool f],rfl,u,_,rfl,h,_,_,rfl,Rd.val _,rfl⟩
  |false=>exact h
 split at hr
 ·rename_i i;split at hr
  ·rename_i k0 v hi;cases hr;obtain⟨e,h1,h2⟩:=e3.get hi;have hf:=hp.1 es w e3.keys;simp only[Option.bind_some,h1,Option.map_some]at hf;exact bM hI hd (gen (u:=e.val) (f:=true) hf ⟨rfl,rfl⟩) (qP h2)
  ·cases hr
 ·cases hr;have hf:=hp.1 es w e3.keys;simp only[Option.bind_none]at hf;exact bM hI hd (gen (u:=z) (f:=false) hf ⟨rfl,rfl⟩) (qP (Vx M w z))
theorem a4F{t:TypeId}{m x:Operand}{ok:Bool}(ho:o.op=.lookup t m x ok)(hI:Inv X n0 w0 ok0 M nt tm bx a w)(hd:∀t,o.dst=some t→t < nt){kt et:TypeId}(hu:E.P.underlying t=some (.map kt et)){ie:TypeInfo}{z:Value}(hie:E.P.info? et=some ie)(hz:ie.zero=some z){b k i:Nat}{key:Value}{v:AV}(hm:H7 tm m=.Q5 b)(hx:a.eval x=key)
  {r:AV} {ups:List (Nat×Bx)} {ps:List Prop} (hr:(I1.wH b kt key ok i v).run E bx k=some (r,ups,ps)) (hp:K7 ps):o.wp E.P a w (Left X n0 w0 ok0 nt (Q6 tm o.dst r) (J2 bx ups)) Q:=by
 simp only[I1.run]at hr;split at hr
 case h_3=>cases hr
 case h_2 y9 hb =>
  split at hr
  ·rename_i cs;split at hr
   ·rename_i ds hds;cases hr;rw[wh hds];exact a4E ho hI hd hu hie hz hm hx hb hp.1 hp.2.1
   ·cases hr
  ·cases hr
 rename_i y9 hb;have hv:=hI.ev m;rw[hm]at hv;obtain⟨g,hg,hv⟩:=hv;obtain⟨g',es,Z6,e1,e2,e3⟩:=hI.I9.box b _ hb;rw[hg]at e1;cases e1;have gen:∀{res:Option (Nat×Value)} {u:Value} {f:Bool},Sem.run E.P (do Instr.checkKey es.isEmpty 10000 kt key;Instr.findKey kt key es) w=.ok res w→(match res with | some (_,v)=>u=v∧f=true | none=>u=z∧f=false)→(execOp a.eval o).run E.P w=.ok (.value (cond ok (.tuple #[u,.bool f]) u)) w:=by
  intro res u f hfind hres;have hlk:(Instr.lookup t (.map (some g)) key ok).run E.P w=.ok (cond ok (.tuple #[u,.bool f]) u) w:=by
   unfold Instr.lookup;simp only[lc,Zac hu,Result.andThen,uZ e2,d9];rw[lc]at hfind;have hemp:es.toArray.isEmpty=es.isEmpty:=I;rw[hemp];cases hck:(Instr.checkKey es.isEmpty 10000 kt key).run E.P w with
   |halt s w'=>rw[hck]at hfind;simp[Result.andThen]at hfind
   |ok q w' =>
    rw[hck]at hfind;simp only[Result.andThen]at hfind ⊢
    simp only[hfind];cases res with
    |some p =>
     obtain⟨i,v⟩:=p;obtain⟨rfl,rfl⟩:=hres;cases ok <;> simp[Sem.run_pure]
    |none =>
     obtain⟨rfl,rfl⟩:=hres;cases ok <;> simp[Sem.run_pure,Result.andThen,zeroValue,typeInfo,hie,hz]
  obtain⟨dd,op,ty,pos,af,gd⟩:=o;simp only at ho;subst ho;simp only[execOp,hx,hv,lc,hlk,Result.andThen,d9]
 have qP:∀{v:AV} {u:Value} {f:Bool},RV M w v u→RV M w (cond ok (.l7 [v,.dt (.val (.bool f))]) v) (cond ok (.tuple #[u,.bool f]) u):=by
  intro v u f h;cases ok with
  |true=>exact⟨[u,.bool f],rfl,u,_,rfl,h,_,_,rfl,Rd.val _,rfl⟩
  |false=>exact h
 cases hr;obtain⟨hp1,hp2,_⟩:=hp;rw[bi,ZaH]at hp2;obtain⟨⟨k0,v0⟩,hi,rfl⟩:=hp2;obtain⟨e,h1,h2⟩:=e3.get hi;have hf:=hp1 es w e3.keys;simp only[Option.bind_some,h1,Option.map_some]at hf;exact bM hI hd (gen (u:=e.val) (f:=true) hf ⟨rfl,rfl⟩) (qP h2)
end
end Go.Proofs.YtbpmpdadppamgaaGreatDoor
