/- Plain walks, second form: every operation does what its plain step says. -/
import Derived.Test.YthhknjlmjefklaaGreatDoorBI
import Derived.Lib.SliceRun
import Derived.Test.YthhknjlmjefklaaGreatDoorBG
import Derived.Scope
import Derived.Deep.LoopGhost
set_option maxRecDepth 100000
set_option maxHeartbeats 4000000
namespace Go.Proofs.YthhknjlmjefklaaGreatDoor
open Go.RowKit
section
variable {E:En} {X:Nat→Prop} {n0:Nat} {w0:World×Mm} {ok0:Nat→Prop} {M:Mm} {nt:Nat} {tm:Nat→AV} {bx:Nat→Option Bx} {a:Act} {w:World} {o:Oper} {Q:Exit→Act→World→Prop}
theorem a6o{act:J5}{an O7:List An}{k:Nat}{r:AV}{ups:List (Nat×Bx)}{ps:List Prop}(h:bD E o.op (J6 tm) an=some (act,O7))(hr:act.run E bx k=some (r,ups,ps))(hp:I5 ps)(hI:Inv X n0 w0 ok0 M nt tm bx a w)(hd:∀t,o.dst=some t→t < nt)(hG:E.G w)(hk:∀q∈act.news k,bx q=none) :
  o.wp E.P a w (Left X n0 w0 ok0 nt (U8 tm o.dst r) (updB bx ups)) Q:=by
 unfold bD at h;split at h
 case h_1 x hop =>
  cases h;refine gB (u:=a.eval x) hr hI hd ?_ (hI.ev x);obtain⟨dd,op,ty,pos,af,gd⟩:=o;simp only at hop;subst hop;rfl
 case h_2 x hop =>
  cases h;refine gB (u:=a.eval x) hr hI hd ?_ (hI.ev x);obtain⟨dd,op,ty,pos,af,gd⟩:=o;simp only at hop;subst hop;rfl
 case h_3 x hop =>
  have run:∀g q,a.eval x=.pointer (some ⟨g,q,none⟩)→(execOp a.eval o).run E.P w=.ok (.value (a.eval x)) w:=fun g q e=>by
   obtain⟨dd,op,ty,pos,af,gd⟩:=o;simp only at hop;subst hop;simp only[execOp,e,Zab]
  split at h
  ·rename_i b q hx;cases h;have hv:=hI.ev x;rw[hx]at hv;obtain⟨g,h1,h2⟩:=hv;exact gB hr hI hd (run _ _ h2) ⟨g,h1,h2⟩
  ·rename_i cs hx;cases h;have hv:=hI.ev x;rw[hx]at hv;obtain⟨g,q,vs,h2,h3⟩:=hv;exact gB hr hI hd (run _ _ h2) ⟨g,q,vs,h2,h3⟩
  ·cases h
 case h_4 c x z hop =>
  split at h
  ·rename_i t hc;cases h;have hv:=hI.ev c;rw[hc]at hv;have hv':a.eval c=.bool t:=Rd.Z9 hv;refine gB (u:=if t then a.eval x else a.eval z) hr hI hd ?_ (by cases t <;> exact hI.ev _);obtain⟨dd,op,ty,pos,af,gd⟩:=o;simp only at hop;subst hop;simp only[execOp,hv',asBool,Za8,Zab,Result.andThen]
  ·cases h
 case h_5 t hop =>
  split at h
  ·rename_i z hz;cases h;obtain⟨i,v,hi,hv,rfl⟩:=WJ hz;simp only[J5.run]at hr;split at hr
   ·cases hr;have hrun:(execOp a.eval o).run E.P w=.ok (.value (.pointer (some ⟨w.heap.size,0,none⟩))) (w.alloc (.cells v.cells.toList.toArray t)):=by
     obtain⟨dd,op,ty,pos,af,gd⟩:=o;simp only at hop;subst hop;simp only[execOp,Instr.alloc,zeroValue,typeInfo,program,newVar,newRow,newObj,Za8,Sem.run,Zab,Result.andThen,hi,hv];rfl
    exact jv hrun (hI.alloc (hk k (ut.2 rfl)) t (Df M w _) o.dst hd)
   ·cases hr
  ·cases h
 case h_6 t x hop =>
  cases h;simp only[J5.run]at hr;split at hr
  ·rename_i h1;cases hr;obtain⟨us,hu1,hu2⟩:=(hI.ev x).cells h1;have hrun:(execOp a.eval o).run E.P w=.ok (.value (.pointer (some ⟨w.heap.size,0,none⟩))) (w.alloc (.cells us.toArray t)):=by
    obtain⟨dd,op,ty,pos,af,gd⟩:=o;simp only at hop;subst hop;simp only[execOp,Instr.box,newVar,newRow,newObj,Za8,Sem.run,Zab,Result.andThen,hu1];rfl
   exact jv hrun (hI.alloc (hk k (ut.2 rfl)) t hu2 o.dst hd)
  ·cases hr
 case h_7 t x hop =>
  split at h
  ·rename_i n ag hn ha;exact a5p hop hn ha h hr hp hI hd hG
  ·cases h
 case h_8 t x z hop =>
  split at h
  ·rename_i n b off hn hx;split at h
   ·rename_i hb;cases h;have hb':=Zau hb;exact a7X hop hI hd hx (by rw[hn,hb']) hr
   ·cases h
  ·rename_i n b i k' hn hx;split at h
   ·rename_i hb;cases h;have hb':=Zau hb;exact a6X hop hI hd hx (by rw[hn,hb']) hr hp
   ·cases h
  ·cases h
 case h_9 t qs hop =>
  split at h
  ·rename_i cs hcs;cases h;obtain⟨vs,h1,h2⟩:=a6Z (RP.map hI.ev qs.toList) hcs;refine gB (u:=.agg vs.toArray) hr hI hd ?_ ⟨vs,rfl,h2⟩;obtain⟨dd,op,ty,pos,af,gd⟩:=o;simp only at hop;subst hop;have:=run_build (P:=E.P) w t (qs.map fun x=>(x.1,a.eval x.2)) vs.toArray (by rw[←h1];simp);simp only[execOp,Za8,this,Result.andThen,Zab]
  ·cases h
 case h_10 t len qs hop =>
  split at h
  case h_2=>cases h
  rename_i e i z he;split at h
  case h_2 =>
   split at h
   ·rename_i hqs _;cases h;obtain⟨u1,u2,u3⟩:=wJ he;cases hr;exact b2N hop hqs hI hd u1 u2 (hk k (ut.2 rfl))
   ·cases h
  rename_i hsz;split at h
  case h_2=>cases h
  rename_i cs hcs;cases h;obtain⟨u1,u2,u3⟩:=wJ he;rw[AC]at hsz;have hpos:¬len * i.size=0:=fun e=>by rw[e]at hsz;exact absurd hsz.1 O
  have hsm:=ZaD hsz.2;obtain⟨vs,h1,h2⟩:=OL (M:=M) (w:=w) (RP.map hI.ev qs.toList) (vs:=(List.range (len * i.size)).map fun j=>z.cells[j % z.cells.size]!) (by
   have:=Df M w ((List.range (len * i.size)).map fun j=>z.cells[j % z.cells.size]!)
   rwa [List.map_map]at this) hcs
  refine b40 hop hI hd u1 u2 u3 hpos hsm (vs:=vs) ?_ h2 hr hp;rw[show (Array.range (len * i.size)).map (fun j=>z.cells[j % z.cells.size]!)=((List.range (len * i.size)).map fun j=>z.cells[j % z.cells.size]!).toArray by apply Array.ext';simp]
  rw[←h1];simp
 case h_11 t x f hop =>
  split at h
  case h_2=>cases h
  rename_i off ft hf;split at h
  case h_2=>cases h
  rename_i n hn;obtain⟨fs,fl,hu,hfl,rfl,rfl⟩:=Xt hf;have run:∀g q,a.eval x=.pointer (some ⟨g,q,none⟩)→(execOp a.eval o).run E.P w=.ok (.value (.pointer (some ⟨g,q+fl.offset,none⟩))) w:=fun g q h=>by
   obtain⟨dd,op,ty,pos,af,gd⟩:=o;simp only at hop;subst hop;simp only[execOp,Instr.fieldAt,fieldPlace,Instr.sureAddr,h,Za8,Zab,Result.andThen,Zat hu,hfl,run_sizeOf hn,Nat.succ_ne_zero,ZaM,wL]
  split at h
  ·rename_i b q hx;cases h;have hv:=hI.ev x;rw[hx]at hv;obtain⟨g,h1,h2⟩:=hv;exact gB hr hI hd (run _ _ h2) ⟨g,h1,rfl⟩
  ·rename_i cs hx;cases h;have hv:=hI.ev x;rw[hx]at hv;obtain⟨g,q,vs,h2,h3,h4,h5,h6⟩:=hv;refine gB hr hI hd (run _ _ h2) ⟨g,q+fl.offset,vs.drop fl.offset,rfl,h3,h4,fun j u hj=>?_,h6.drop _⟩;rw[List.getElem?_drop]at hj;rw[Nat.add_assoc];exact h5 _ u hj
  ·cases h
 case h_12 t x f hop =>
  split at h
  case h_2=>cases h
  rename_i off ft hf;obtain⟨fs,fl,hu,hfl,rfl,rfl⟩:=Xt hf;split at h
  ·rename_i n cs hn ha hx;cases h;have hv:=hI.ev x;rw[hx]at hv;obtain⟨vs,hv,hl⟩:=hv;refine gB (u:=.agg ((vs.drop fl.offset).take n).toArray) hr hI hd ?_ ⟨_,rfl,(hl.drop _).take _⟩;have e:(vs.toArray.extract fl.offset (fl.offset+n))=((vs.drop fl.offset).take n).toArray:=by
    apply Array.ext';simp[List.take_drop,Nat.add_comm]
   obtain⟨dd,op,ty,pos,af,gd⟩:=o;simp only at hop;subst hop;simp only[execOp,Instr.field,hv,asAgg,part,Za8,Zab,Result.andThen,Zat hu,hfl,Ce ha,run_sizeOf hn,ZaP,e]
  ·rename_i n cs hn ha hx;split at h
   ·rename_i c hc;cases h;have hv:=hI.ev x;rw[hx]at hv;obtain⟨vs,hv,hl⟩:=hv;obtain⟨u,hu1,hu2⟩:=hl.get hc;refine gB (u:=u) hr hI hd ?_ hu2;have e:vs.toArray[fl.offset]?=some u:=by simpa using hu1
    obtain⟨dd,op,ty,pos,af,gd⟩:=o;simp only at hop;subst hop;simp only[execOp,Instr.field,hv,asAgg,part,Za8,Zab,Result.andThen,Zat hu,hfl,Ce ha,ZaY,ZaM,e]
   ·cases h
  ·cases h
 case h_13 t x i hop =>
  split at h
  ·rename_i e n hu hi;split at h
   ·rename_i ie hie;exact a5R hop hu hie hi h hr hp hI hd
   ·cases h
  ·rename_i len e n hu hi;have arr:∀{sz g:Nat},ed E.P e=some sz→J6 tm x=.gl g 0→0≤n→n < (len:Int)→(execOp a.eval o).run E.P w=.ok (.value (.pointer (some ⟨g,n.toNat * sz,none⟩))) w:=by
    intro sz g hsz hx h0 h1;obtain⟨ki,hki⟩:=pG hi (hI.ev i);have hv:=hI.ev x;rw[hx]at hv;have hv':a.eval x=.pointer (some ⟨g,0,none⟩):=hv;have e2:=wL g 0 (n.toNat * sz);rw[ZaH]at e2;obtain⟨dd,op,ty,pos,af,gd⟩:=o;simp only at hop;subst hop;have hb:0≤n∧n < (len:Int):=⟨h0,h1⟩;simp only[execOp,Instr.indexAt,asIntOf,hki,hv',Instr.sureAddr,Za8,Zab,Result.andThen,Zat hu,Za0 hb,run_sizeOf hsz,e2]
   split at h
   ·rename_i sz g aX hsz hx hnx;cases h;cases hr;exact dP hI hd (arr hsz hx hp.1.1 hp.1.2.1) rfl
   ·rename_i sz g aX hsz hx hnx;split at h
    ·rename_i hc;cases h;simp only[AC]at hc;exact gB hr hI hd (arr hsz hx (Zad hc.1.1) (Zad hc.1.2)) rfl
    ·cases h
   ·cases h
  ·cases h
 case h_14 t x i hop =>
  split at h
  case h_2=>cases h
  rename_i s n hu hx hi;obtain⟨ki,hki⟩:=pG hi (hI.ev i);have hv:=hI.ev x;rw[hx]at hv;have hv':a.eval x=.string s:=Rd.Z9 hv;have run:∀b,0≤n→s[n.toNat]?=some b→(execOp a.eval o).run E.P w=.ok (.value (.int .u8 b.toNat)) w:=fun b h0 hb=>by
   obtain⟨dd,op,ty,pos,af,gd⟩:=o;simp only at hop;subst hop;simp only[execOp,Instr.index,asIntOf,hki,hv',Za8,Zab,Result.andThen,Zat hu,Za0 h0,hb]
  split at h
  ·cases h;cases hr;obtain⟨b,h0,hb,rfl⟩:=hp.1;exact dP hI hd (run b h0 hb) (Rd.val _)
  ·split at h
   ·rename_i b h0 hb;cases h;exact gB hr hI hd (run b (Zad h0) ((NH _ _).trans hb)) (Rd.val _)
   ·cases h
 case h_15 op t x z yt hop =>
  split at h
  case h_2 =>
   rename_i hx hy;split at h
   ·rename_i e es fP aX hu hxs hnx;cases h;cases hr;refine dP hI hd ?_ (Rd.val _);have hv:=hI.ev x;rw[hxs]at hv;have hz:=(hI.ev z).sv hy;have hr2:Rd M.F w (a.eval x) (.row es):=hv;have hne:es≠[]:=hp.1;obtain⟨A,n,c,hA,hm,_⟩:=Rd.slice hr2;rw[hA]at hr2;have hAs:A.isNone=false:=by
     cases hr2 with
     |nil=>exact absurd rfl hne
     |row=>rfl
    obtain⟨dd,op,ty,pos,af,gd⟩:=o;simp only at hop;subst hop;have:=Lib.run_eql_slice_nil (P:=E.P) w t e A n c 0 0 hu;rw[hAs]at this;simp only[execOp,hA,hz,eqGuard,Za8,Zab,Result.andThen,Bool.not_true,ZaY,ZaM,this]
   ·cases h
  case h_3=>cases h
  rename_i vx vy hx hy;have run:∀rr,dS E.P op t x z vx vy rr→(execOp a.eval o).run E.P w=.ok (.value rr) w:=fun rr hb=>by
   obtain⟨dd,op,ty,pos,af,gd⟩:=o;simp only at hop;subst hop;have:=hb w;simp only[execOp,(hI.ev x).sv hx,(hI.ev z).sv hy,Za8,Zab]at this ⊢
   rw[this];rfl
  unfold a1q at h;split at h
  ·split at h
   ·rename_i rr hs;cases h;exact gB hr hI hd (run rr (kV hs)) (Rd.val _)
   ·cases h
  ·cases h;cases hr;exact dP hI hd (run _ hp.1) (Rd.val _)
  ·cases h
 case h_16 op t x hop =>
  split at h
  case h_2=>cases h
  rename_i v hx;split at h
  case h_2=>cases h
  rename_i rr hs;cases h;refine gB (u:=rr) hr hI hd ?_ (Rd.val _);have:=b2Q (P:=E.P) hs w;obtain⟨dd,op,ty,pos,af,gd⟩:=o;simp only at hop;subst hop;simp only[execOp,(hI.ev x).sv hx,this,Za8,Zab,Result.andThen]
 case h_17 x i hop =>
  split at h
  ·rename_i cs hx;split at h
   ·rename_i c hc;cases h;have hv:=hI.ev x;rw[hx]at hv;obtain⟨vs,hv,hl⟩:=hv;obtain⟨u,hu1,hu2⟩:=hl.get hc;refine gB (u:=u) hr hI hd ?_ hu2;obtain⟨dd,op,ty,pos,af,gd⟩:=o;simp only at hop;subst hop;have e:vs.toArray[i]?=some u:=by simpa using hu1
    simp only[execOp,hv,Instr.extract,Za8,Zab,Result.andThen,e]
   ·cases h
  ·cases h
 case h_18 src dst x hop =>
  split at h
  ·rename_i k1 k2 k3 n hs hds hx;have hv:=(hI.ev x).sv hx;have hrun:(execOp a.eval o).run E.P w=.ok (.value (.int k2 (k2.wrap n))) w:=by
    obtain⟨dd,op,ty,pos,af,gd⟩:=o;simp only at hop;subst hop;have hcv:(convert src dst (.int k3 n)).run E.P w=.ok (.int k2 (k2.wrap n)) w:=by
     unfold convert;simp only[Za8,Zat hs,Zat hds,Result.andThen];rfl
    simp only[execOp,hv,hcv,Za8,Zab,Result.andThen]
   split at h
   ·cases h;cases hr;rw[hp.1];exact dP hI hd hrun (Rd.val _)
   ·cases h;exact gB hr hI hd hrun (Rd.val _)
  ·rename_i e hs hds hx;split at h
   ·rename_i l aX hue hnx;cases h;exact b2P hop hI hd hs hue hds hr hp
   ·cases h
  ·cases h
 case h_19 f caps hop =>
  have hex:(execOp a.eval o).run E.P w=.ok (.value (.func (.func f) #[] (caps.toList.map a.eval).toArray)) w:=by
   obtain⟨dd,op,ty,pos,af,gd⟩:=o;simp only at hop;subst hop;have e:caps.map a.eval=(caps.toList.map a.eval).toArray:=by
    apply Array.ext';simp
   have e0:(⟨[]⟩:Array Operand).map a.eval=#[]:=by
    show (#[]:Array Operand).map a.eval=#[];simp
   simp only[execOp,Instr.makeFunc,Za8,Zab,Result.andThen,e,e0]
  have mY:RV M w (.clo f (caps.toList.map (J6 tm))) (.func (.func f) #[] (caps.toList.map a.eval).toArray):=⟨_,rfl,RL.map hI.ev _⟩;split at h
  ·cases h;simp only[J5.run]at hr;split at hr
   ·rename_i c' qs hc;cases hr;obtain⟨M1,hI1,h1,h2,h3,h4⟩:=hI.Js hc hp mY;unfold Oper.wp;rw[hex];exact⟨M1,hI1.val o.dst hd (RV.lift (M:=M1) (fun _ h _=>h) h1)⟩
   ·cases hr
  ·cases h;exact gB hr hI hd hex mY
 case h_20 t hop =>
  split at h
  ·cases h;cases hr;exact a8b hop hI hd (hk k (ut.2 rfl))
  ·cases h;cases hr;exact b0d hop hI hd (hk k (ut.2 rfl))
 case h_21 t m x y hop =>
  split at h
  case h_2=>cases h
  rename_i kt z b key hmp hm hx;cases h;obtain⟨e,i,u1,_,_⟩:=CO hmp;exact ZW (.inl hop) hI hd u1 hm ((hI.ev x).sv hx) hr hp
 case h_22 t m x ok hop =>
  split at h
  ·rename_i kt z b key _ i v aX hmp hm hx hnx;cases h;obtain⟨e,ie,u1,u2,u3⟩:=CO hmp;exact a8e hop hI hd u1 u2 u3 hm ((hI.ev x).sv hx) hr hp
  ·rename_i kt z b key _ i aX hmp hm hx hnx;cases h;obtain⟨e,ie,u1,u2,u3⟩:=CO hmp;exact YD hop hI hd u1 u2 u3 hm ((hI.ev x).sv hx) hr hp
  ·rename_i kt z b key aX hmp hm hx hnx;cases h;obtain⟨e,ie,u1,u2,u3⟩:=CO hmp;exact YD hop hI hd u1 u2 u3 hm ((hI.ev x).sv hx) hr hp
  ·cases h
 case h_23 t x y hop =>
  split at h
  ·rename_i e i z l c b n aX he hx hy hnx;split at h
   case h_2=>cases h
   rename_i hc;cases h;cases hr;obtain⟨u1,u2,u3⟩:=wJ he;obtain⟨kl,hkl⟩:=pG hx (hI.ev x);obtain⟨kc,hkc⟩:=pG hy (hI.ev y);simp only[AC]at hc;obtain⟨h1,h2,h3⟩:=hp.1;exact ZR hop hI hd u1 u2 u3 (Zau hc.1.1) (fun u hu=>Zav.1 hc.1.2 u hu) (ZaD hc.2) hkl hkc (hk k (ut.2 rfl)) h1 h2 h3
  ·rename_i e i z c _ aX _ he hx hy hnx;cases h;cases hr;obtain⟨u1,u2,u3⟩:=wJ he;obtain⟨kl,hkl⟩:=pG hx (hI.ev x);obtain⟨kc,hkc⟩:=pG hy (hI.ev y);exact b2O hop hI hd u1 (z:=z) (by rw[u2];simp[u3]) hkl hkc (hk k (ut.2 rfl)) hp.1
  ·rename_i e i z n c _ aX _ he hx hy hnx;split at h
   case h_2=>cases h
   rename_i hc;cases h;cases hr;obtain⟨u1,u2,u3⟩:=wJ he;obtain⟨kl,hkl⟩:=pG hx (hI.ev x);obtain⟨kc,hkc⟩:=pG hy (hI.ev y);simp only[AC]at hc;obtain⟨h1,h2,h3⟩:=hp.1;exact ZR hop hI hd u1 u2 u3 (Zau hc.1.1) (fun u hu=>Zav.1 hc.1.2 u hu) (ZaD hc.2) hkl hkc (hk k (ut.2 rfl)) h1 h2 h3
  ·cases h
 case h_24 t x lo hi mx hop =>
  split at h
  ·rename_i e l hh m hu hlo hhi hmx;split at h
   ·rename_i sz rs aX hsz hnx;cases h;exact ZV hop hI hd hu hsz (qY hI.ev hlo) (qY hI.ev hhi) (qY hI.ev hmx) hr hp
   ·rename_i sz aX hsz hnx;cases h;exact ZV hop hI hd hu hsz (qY hI.ev hlo) (qY hI.ev hhi) (qY hI.ev hmx) hr hp
   ·cases h
  ·rename_i l hh hu hlo hhi hmx;have SN:mx=none:=by
    rcases qY (M:=M) (w:=w) hI.ev hmx with⟨h1,_⟩ | ⟨y,k1,z,_,_,h1⟩
    ·exact h1
    ·cases h1
   subst SN;have key:∀s,J6 tm x=.dt (.val (.string s))→∀rr,Aw s (l.getD 0) (hh.getD s.size) rr→(execOp a.eval o).run E.P w=.ok (.value rr) w:=by
    intro s hx rr ⟨h1,h2,h3,h4⟩;have hv:=hI.ev x;rw[hx]at hv;have hv':a.eval x=.string s:=Rd.Z9 hv;obtain⟨L,hL⟩:∃L:Nat,l.getD 0=L:=⟨(l.getD 0).toNat,J⟩;obtain⟨H,hH⟩:∃H:Nat,hh.getD s.size=H:=⟨(hh.getD s.size).toNat,J⟩;rw[hL,hH]at h2 h4;rw[hH]at h3;have b:∀(k:IntKind) (i y:Nat) (code:BoundsCode),i≤y→(Instr.sliceBound (.int k i) y code).run E.P w=.ok i w:=fun k i y code h=>by
     have:=run_sliceBound (P:=E.P) w k i y code J J;simpa using this
    have hbd:(Instr.sliceBounds false s.size s.size (lo.map a.eval) (hi.map a.eval) none).run E.P w=.ok (L,H,s.size) w:=by
     rcases qY hI.ev hlo with⟨rfl,rfl⟩ | ⟨y,k1,z,rfl,hy,rfl⟩ <;> rcases qY hI.ev hhi with⟨rfl,rfl⟩ | ⟨y2,k2,z2,rfl,hy2,rfl⟩ <;> simp only[Option.getD_none,Zb3]at hL hH
     ·have:L=0:=J;subst this;have:H=s.size:=J;subst this;simp[Instr.sliceBounds]
     ·have:L=0:=J;subst this;subst hH;simp[Instr.sliceBounds,hy2,b,show H≤s.size by omega]
     ·have:H=s.size:=J;subst this;subst hL;simp[Instr.sliceBounds,hy,b,show L≤s.size by omega]
     ·subst hL;subst hH;simp[Instr.sliceBounds,hy,hy2,b,show L≤H by omega,show H≤s.size by omega]
    obtain⟨dd,op,ty,pos,af,gd⟩:=o;simp only at hop;subst hop;have e2:=run_sliceAt_string (P:=E.P) w t (.string s) (lo.map a.eval) (hi.map a.eval) none hu;have e3:(Instr.slice t (.string s) (lo.map a.eval) (hi.map a.eval) none).run E.P w=.ok rr w:=by
     unfold Instr.slice;simp only[Za8,Zat hu,Result.andThen,Option.isSome_none,ZaY,ZaM,hbd,Zab];rw[h4];simp
    simp only[execOp,Za8,hv',Option.map_none,e2,e3,Result.andThen,Zab]
   split at h
   ·rename_i s rr aX hx hnx;cases h;cases hr;exact dP hI hd (key s hx rr hp.1) (Rd.val _)
   ·rename_i s _ aX _ hx hnx;split at h
    ·rename_i hc;cases h;simp only[AC]at hc;refine gB hr hI hd (key s hx _ ⟨Zad hc.1.1,Zad hc.1.2,Zad hc.2,?_⟩) (Rd.val _);rw[Lib.extract_eq]
    ·cases h
   ·cases h
  ·cases h
 case h_25 c hop=>exact a5q hop h hr hp hI hd hG hk
 case h_26 t m x y hop =>
  split at h
  ·rename_i kt z b key hmp hm hx;cases h;obtain⟨e,i,u1,_,_⟩:=CO hmp;exact ZW (.inr hop) hI hd u1 hm ((hI.ev x).sv hx) hr hp
  ·cases h
 case h_27=>cases h
end
def waits(ops:Array Oper)(i:Nat):List Nat :=
 match ops[i]? with
 |some o=>(o.after.toList.filter (Region.binds .any)).map (·.on)
 |none=>[]
theorem WL{ops:Array Oper}{i j:Nat}{o:Oper}(ho:ops[i]?=some o):j∈waits ops i↔∃e∈o.after,Region.binds .any e=true∧e.on=j:=by
 unfold waits;rw[ho];simp only[List.mem_map,List.mem_filter,Array.mem_toList_iff];exact⟨fun⟨e,h1,h2⟩=>⟨e,h1.1,h1.2,h2⟩,fun⟨e,h1,h2,h3⟩=>⟨e,⟨h1,h2⟩,h3⟩⟩
theorem a8g{E:En}{op:Op}{ρ ρ':Operand→AV}{an:List An}(h:∀x∈op.operands.toList,ρ x=ρ' x):bD E op ρ an=bD E op ρ' an:=by
 have hop:∀x:Option Operand,(∀y,x=some y→ρ y=ρ' y)→uK ρ x=uK ρ' x:=fun x hx=>by
  cases x with
  |none=>rfl
  |some y=>simp only[uK,hx y rfl]
 cases op with
 |move x=>have h1:=h x (by simp[Op.operands]);simp only[bD,h1]
 |assign x=>have h1:=h x (by simp[Op.operands]);simp only[bD,h1]
 |nilCheck x=>have h1:=h x (by simp[Op.operands]);simp only[bD,h1]
 |pick c x y =>
  have h1:=h c (by simp[Op.operands]);have h2:=h x (by simp[Op.operands]);have h3:=h y (by simp[Op.operands])
  simp only[bD,h1,h2,h3]
 |alloc t=>rfl
 |box t x=>have h1:=h x (by simp[Op.operands]);simp only[bD,h1]
 |load t x=>have h1:=h x (by simp[Op.operands]);simp only[bD,h1]
 |store t x y=>have h1:=h x (by simp[Op.operands]);have h2:=h y (by simp[Op.operands]);simp only[bD,h1,h2]
 |build t ps =>
  have e:(ps.toList.map fun x=>(x.1,ρ x.2))=ps.toList.map fun x=>(x.1,ρ' x.2):=List.map_congr_left fun x hx=>by
   rw[h x.2 (by simp only[Op.operands,List.mem_map];exact⟨x,hx,rfl⟩)]
  simp only[bD,e]
 |buildSlice t len ps =>
  have e:(ps.toList.map fun x=>(x.1,ρ x.2))=ps.toList.map fun x=>(x.1,ρ' x.2):=List.map_congr_left fun x hx=>by
   rw[h x.2 (by simp only[Op.operands,List.mem_map];exact⟨x,hx,rfl⟩)]
  simp only[bD,e]
 |fieldAddr t x f=>have h1:=h x (by simp[Op.operands]);simp only[bD,h1]
 |field t x f=>have h1:=h x (by simp[Op.operands]);simp only[bD,h1]
 |indexAddr t x i=>have h1:=h x (by simp[Op.operands]);have h2:=h i (by simp[Op.operands]);simp only[bD,h1,h2]
 |index t x i=>have h1:=h x (by simp[Op.operands]);have h2:=h i (by simp[Op.operands]);simp only[bD,h1,h2]
 |binOp op t x y yt=>have h1:=h x (by simp[Op.operands]);have h2:=h y (by simp[Op.operands]);simp only[bD,h1,h2]
 |unOp op t x=>have h1:=h x (by simp[Op.operands]);simp only[bD,h1]
 |extract x i=>have h1:=h x (by simp[Op.operands]);simp only[bD,h1]
 |convert s d x=>have h1:=h x (by simp[Op.operands]);simp only[bD,h1]
 |makeFunc fn first caps =>
  have e:caps.toList.map ρ=caps.toList.map ρ':=List.map_congr_left fun x hx=>h x (by simp[Op.operands];right;simpa using hx)
  obtain⟨fl⟩:=first
  cases fn <;> cases fl <;> first | rfl | simp only[bD,e]
 |makeMap t r=>cases r <;> rfl
 |mapUpdate t m x y=>have h1:=h m (by simp[Op.operands]);have h2:=h x (by simp[Op.operands]);have h3:=h y (by simp[Op.operands]);simp only[bD,h1,h2,h3]
 |insert t m x y=>have h1:=h m (by simp[Op.operands]);have h2:=h x (by simp[Op.operands]);have h3:=h y (by simp[Op.operands]);simp only[bD,h1,h2,h3]
 |lookup t m x ok=>have h1:=h m (by simp[Op.operands]);have h2:=h x (by simp[Op.operands]);simp only[bD,h1,h2]
 |makeSlice t x y=>have h1:=h x (by simp[Op.operands]);have h2:=h y (by simp[Op.operands]);simp only[bD,h1,h2]
 |slice t x lo hi mx =>
  have h1:=h x (by simp[Op.operands]);have h2:=hop lo fun y e=>h y (by subst e;simp[Op.operands])
  have h3:=hop hi fun y e=>h y (by subst e;simp[Op.operands])
  have h4:=hop mx fun y e=>h y (by subst e;simp[Op.operands])
  simp only[bD,h1,h2,h3,h4]
 |call c =>
  obtain⟨callee,args,ts⟩:=c;have ha:∀x∈args.toList,ρ x=ρ' x:=fun x hx=>h x (by simp[Op.operands,Call.operands];right;simpa using hx)
  cases callee with
  |value x =>
   have h1:=h x (by simp[Op.operands,Call.operands]);have e:args.toList.map ρ=args.toList.map ρ':=List.map_congr_left ha;simp only[bD,Dz,h1,e]
  |invoke x s=>rfl
  |builtin b =>
   simp only[bD];unfold Dz;split <;> first | rfl | skip
   all_goals (rename_i heq;try cases heq)
   ·rename_i x t ts;have h1:=ha x I;simp only[h1]
   ·rename_i x y;have h1:=ha x I;have h2:=ha y I;simp only[h1,h2]
   ·rename_i x y;have h1:=ha x I;have h2:=ha y I;simp only[h1,h2]
   ·rename_i x y t t';have h1:=ha x I;have h2:=ha y I;simp only[h1,h2]
 |_=>rfl
mutual
theorem a8h{bx bx':Nat→Option Bx}{rec EE:List AV→Option (List AV×List Prop)}{dw Ec:List AV→List Nat}(hrec:∀cs,(∀b∈dw cs,bx b=bx' b)→rec cs=EE cs∧dw cs=Ec cs):∀(a:AV) (js:List Nat) (kn:Bool),(∀b∈bV js bx dw a,bx b=bx' b) →
  bK js kn bx rec a=bK js kn bx' EE a∧bV js bx dw a=bV js bx' Ec a
 |.own b n,js,kn,h=>by
  simp only[bK,bV]at h ⊢
  cases hi:bf b js 0 with
  |some i=>first | exact⟨rfl,rfl⟩ | exact⟨rfl,Z⟩
  |none=>rw[hi]at h;rw[h b (ut.2 rfl)];first | exact⟨rfl,rfl⟩ | exact⟨rfl,Z⟩
 |.sl b n,js,kn,h=>by
  simp only[bK,bV]at h ⊢
  cases hi:bf b js 0 with
  |some i=>first | exact⟨rfl,rfl⟩ | exact⟨rfl,Z⟩
  |none=>rw[hi]at h;rw[h b (ut.2 rfl)];first | exact⟨rfl,rfl⟩ | exact⟨rfl,Z⟩
 |.ptr b off,js,kn,h=>by
  simp only[bK,bV]at h ⊢
  cases hi:bf b js 0 with
  |some i=>exact⟨rfl,rfl⟩
  |none =>
   rw[hi]at h;simp only at h ⊢;have hb:bx b=bx' b:=h b (by split <;> simp);rw[←hb];cases hx:bx b with
   |none=>exact⟨rfl,rfl⟩
   |some x =>
    rw[hx]at h;cases x with
    |cells cs =>
     obtain⟨h1,h2⟩:=hrec cs fun q hq=>h q (lm _ hq)
     simp only[h1,h2,and_self]
    |_=>exact⟨rfl,rfl⟩
 |.agg cs,js,kn,h=>by
  obtain⟨h1,h2⟩:=qZ hrec cs js kn h;simp only[bK,bV,h1,h2,and_self]
 |.o7 cs,js,kn,h=>by
  obtain⟨h1,h2⟩:=qZ hrec cs js kn h;simp only[bK,bV,h1,h2,and_self]
 |.clo f cs,[],kn,h=>by
  obtain⟨h1,h2⟩:=qZ hrec cs [] false h;simp only[bK,bV,h1,h2,and_self]
 |.clo f cs,j::js,kn,h=>by
  obtain⟨h1,h2⟩:=qZ hrec cs (j::js) kn h;simp only[bK,bV,h1,h2,and_self]
 |.dt _,_,_,_=>⟨rfl,rfl⟩
 |.nil,_,_,_=>⟨rfl,rfl⟩
 |.aW _,_,_,_=>⟨rfl,rfl⟩
 |.V4 _,_,_,_=>⟨rfl,rfl⟩
 |.eX _ _ _,_,_,_=>⟨rfl,rfl⟩
 |.gl _ _,_,_,_=>⟨rfl,rfl⟩
 |.pin _,_,_,_=>⟨rfl,rfl⟩
 |.ak _ _,_,_,_=>⟨rfl,rfl⟩
 |.un,_,_,_=>⟨rfl,rfl⟩
theorem qZ{bx bx':Nat→Option Bx}{rec EE:List AV→Option (List AV×List Prop)}{dw Ec:List AV→List Nat}(hrec:∀cs,(∀b∈dw cs,bx b=bx' b)→rec cs=EE cs∧dw cs=Ec cs):∀(cs:List AV) (js:List Nat) (kn:Bool),(∀b∈iq js bx dw cs,bx b=bx' b) →
  jE js kn bx rec cs=jE js kn bx' EE cs∧iq js bx dw cs=iq js bx' Ec cs
 |[],_,_,_=>⟨rfl,rfl⟩
 |c::cs,js,kn,h=>by
  simp only[iq]at h;obtain⟨h1,h2⟩:=a8h hrec c js kn fun b hb=>h b (ZaB _ hb)
  obtain⟨h3,h4⟩:=qZ hrec cs js kn fun b hb=>h b (ZaS _ hb)
  simp only[jE,iq,h1,h2,h3,h4,and_self]
end
theorem CP{bx bx':Nat→Option Bx}:∀(n:Nat) (cs:List AV),(∀b∈kE bx n cs,bx b=bx' b)→gQ bx n cs=gQ bx' n cs∧kE bx n cs=kE bx' n cs
 |0,_,_=>⟨rfl,rfl⟩
 |n+1,cs,h=>qZ (CP n) cs [] false h
section
variable {E:En} {bx bx':Nat→Option Bx}
theorem gZ{js:List Nat}{kn:Bool}{cs:List AV}(h:∀b∈O4 js bx cs,bx b=bx' b):bM js kn bx cs=bM js kn bx' cs∧O4 js bx cs=O4 js bx' cs:=qZ (CP 1) cs js kn h
theorem b2R{cs:List AV}(h:∀b∈Ug bx cs,bx b=bx' b):KT bx cs=KT bx' cs:=(qZ (CP 4) cs [] false h).1
theorem uz{js:List Nat}{kn:Bool}{cs:List AV}{r:List AV×List Prop}(h:∀b∈O4 js bx cs,bx b=bx' b)(hc:bM js kn bx cs=some r):Q9 bx (O4 js bx cs)=Q9 bx' (O4 js bx cs):=by
 have hst:∀b∈O4 js bx cs,Au (fun _=>True) bx (gQ bx 1) (kE bx 1) (·∈O4 js bx cs) b :=
  uo (fun _ _ _=>⟨trivial,Z⟩) (WI fun _ _ _=>⟨trivial,Z⟩) cs js kn r.1 r.2 hc trivial fun b hb=>hb
 generalize O4 js bx cs=bs at *;have gen:∀l:List Nat,(∀b∈l,b∈bs)→Q9 bx l=Q9 bx' l:=by
  intro l
  induction l with
  |nil=>intro _;rfl
  |cons b l ih =>
   intro hl;have hb:=hl b (PP ..);have ih':=ih fun q hq=>hl q (lm _ hq)
   have e:=h b hb;simp only[Q9,←e,ih'];cases hx:bx b with
   |none=>rfl
   |some x =>
    have:oC bx x=oC bx' x:=by
     cases x with
     |cells c0 =>
      obtain⟨r',_,_,h3⟩:=(hst b hb).2 c0 hx;have:=(CP 1 c0 fun q hq=>h q (h3 q hq)).1;have e2:gQ bx rH c0=gQ bx' rH c0:=this;simp only[oC,e2]
     |_=>rfl
    simp only[this]
 exact gen bs fun b hb=>hb
theorem a7a{x:AV}(h:∀b∈(match x with | .own b _=>[b] | .sl b _=>[b] | _=>([]:List Nat)),bx b=bx' b):xe bx x=xe bx' x:=by
 cases x with
 |own b n=>simp only[xe,h b (ut.2 rfl)]
 |sl b n=>simp only[xe,h b (ut.2 rfl)]
 |dt d =>
  cases d with
  |row xs=>rfl
  |val v =>
   cases v with
   |slice A n c=>cases n <;> rfl
   |_=>rfl
 |_=>rfl
theorem b0g{act:J5}{k:Nat}(h:∀b∈act.bt bx k,bx b=bx' b):act.run E bx k=act.run E bx' k:=by
 have one:∀{b:Nat},act.bt bx k=[b]→bx b=bx' b:=fun e=>h _ (by rw[e];exact ut.2 rfl)
 cases act with
 |load b off n ag=>simp only[J5.run,one rfl]
 |zZ b i k' ds ag=>simp only[J5.run,one rfl]
 |store b off vs=>simp only[J5.run,one rfl]
 |ins b kt key v=>simp only[J5.run,one rfl]
 |look b kt key z ok r=>simp only[J5.run,one rfl]
 |Ac b kt key ok i v=>simp only[J5.run,one rfl]
 |wS b i k' vs =>
  have hb:bx b=bx' b:=h b (PP ..);have ho:∀q∈O4 [] bx vs,bx q=bx' q:=fun q hq=>h q (lm _ hq)
  obtain⟨h1,h2⟩:=gZ (kn:=false) ho;simp only[J5.run,←hb,←h1,←h2];cases hc:bM [] false bx vs with
  |none =>
   cases hbx:bx b with
   |none=>rfl
   |some x=>cases x with
    |rws e k2 es=>simp only;cases (k'.beq k2 && vs.all AV.one && vs.length.beq k') <;> rfl
    |_=>rfl
  |some r=>simp only[uz ho hc]
 |mk e sz len cs =>
  have ho:∀q∈O4 [] bx cs,bx q=bx' q:=h;obtain⟨h1,h2⟩:=gZ (kn:=false) ho;simp only[J5.run,←h1,←h2];cases hc:bM [] false bx cs with
  |none=>rfl
  |some r=>simp only[uz ho hc]
 |app e kk bytes s x c =>
  have hs:=a7a (bx:=bx) (bx':=bx') (x:=x) fun b hb=>h b (ZaS _ hb)
  simp only[J5.run,←hs];cases s with
  |own b n=>simp only[h b (ZaB _ (ut.2 rfl))]
  |_=>rfl
 |idx x i sz r =>
  have ho:∀q∈O4 [] bx [x],bx q=bx' q:=h;obtain⟨h1,h2⟩:=gZ (kn:=false) ho;simp only[J5.run,←h1,←h2];cases hc:bM [] false bx [x] with
  |none=>rfl
  |some r=>simp only[uz ho hc]
 |vC x sz lo hi mx r =>
  have ho:∀q∈O4 [] bx [x],bx q=bx' q:=h;obtain⟨h1,h2⟩:=gZ (kn:=false) ho;simp only[J5.run,←h1,←h2];cases hc:bM [] false bx [x] with
  |none=>rfl
  |some r=>simp only[uz ho hc]
 |qg f args caps e kk es =>
  have ho:∀q∈O4 [] bx args,bx q=bx' q:=fun q hq=>h q (lm _ hq)
  obtain⟨h1,h2⟩:=gZ (kn:=false) ho;simp only[J5.run,←h1,←h2];cases hc:bM [] false bx args with
  |none=>rfl
  |some r=>simp only[uz ho hc]
 |Bv c =>
  have ho:∀q∈O4 [] bx [c],bx q=bx' q:=h;obtain⟨h1,h2⟩:=gZ (kn:=false) ho;simp only[J5.run,←h1,←h2];cases hc:bM [] false bx [c] with
  |none=>rfl
  |some r=>simp only[uz ho hc]
 |xZ x l =>
  have ho:∀q∈O4 [] bx [x],bx q=bx' q:=h;obtain⟨h1,_⟩:=gZ (kn:=false) ho;simp only[J5.run,←h1]
 |call f args caps r =>
  cases hs:r.jg with
  |true =>
   have ho:∀q∈Ug bx args,bx q=bx' q:=fun q hq=>h q (by simp only[J5.bt,hs];exact hq)
   simp only[J5.run,hs,←b2R ho]
  |false =>
   have ho:∀q∈O4 [] bx args,bx q=bx' q:=fun q hq=>h q (by simp only[J5.bt,hs];exact hq)
   obtain⟨h1,h2⟩:=gZ (kn:=false) ho;simp only[J5.run,hs,←h1,←h2];cases hc:bM [] false bx args with
   |none=>rfl
   |some r=>simp only[uz ho hc]
 |_=>rfl
theorem uA{bs:List Nat}{b:Nat}{x:Bx}(h:(b,x)∈Q9 bx bs):b∈bs:=(kR h).1
theorem b0h{act:J5}{k:Nat}{r:AV}{ups:List (Nat×Bx)}{ps:List Prop}(h:act.run E bx k=some (r,ups,ps)):∀b x,(b,x)∈ups→b∈act.bt bx k:=by
 intro b x hb;cases act with
 |val v=>cases h;cases hb
 |prop v qs=>cases h;cases hb
 |load b' off n ag =>
  simp only[J5.run]at h;split at h
  ·split at h <;> cases h;cases hb
  ·split at h <;> cases h;cases hb
  ·cases h
 |zZ b' i k' ds ag =>
  simp only[J5.run]at h;split at h
  ·split at h <;> cases h;cases hb
  ·cases h
 |store b' off vs =>
  simp only[J5.run]at h;split at h
  ·split at h
   ·cases h;simp only[ut,Prod.mk.injEq]at hb;exact ut.2 hb.1
   ·cases h
  ·cases h
 |wS b' i k' vs =>
  simp only[J5.run]at h;split at h
  ·split at h
   ·split at h
    ·cases h;rcases ZaA.1 hb with hb | hb
     ·exact lm _ (uA hb)
     ·simp only[ut,Prod.mk.injEq]at hb;rw[hb.1];exact PP ..
    ·cases h
   ·cases h
  ·cases h
 |alloc t cs =>
  simp only[J5.run]at h;split at h
  ·cases h;simp only[ut,Prod.mk.injEq]at hb;exact ut.2 hb.1
  ·cases h
 |mk e sz len cs =>
  simp only[J5.run]at h;split at h
  ·split at h
   ·cases h;exact uA hb
   ·cases h
  ·cases h
 |mk0 e kk bytes c=>cases h;simp only[ut,Prod.mk.injEq]at hb;exact ut.2 hb.1
 |xY e kk bytes n z l c=>cases h;simp only[ut,Prod.mk.injEq]at hb;exact ut.2 hb.1
 |app e kk bytes s x' c =>
  simp only[J5.run]at h;split at h
  ·split at h
   ·split at h
    ·cases h;simp only[ut,Prod.mk.injEq]at hb;exact ZaB _ (ut.2 hb.1)
    ·cases h
   ·split at h
    ·split at h
     ·cases h;simp only[ut,Prod.mk.injEq]at hb;exact ZaB _ (ut.2 hb.1)
     ·cases h
    ·cases h
   ·split at h
    ·cases h;simp only[ut,Prod.mk.injEq]at hb;exact ZaB _ (ut.2 hb.1)
    ·cases h
   ·cases h
  ·cases h
 |idx x' i sz rr =>
  simp only[J5.run]at h;split at h
  ·split at h
   ·cases h;exact uA hb
   ·split at h
    ·split at h
     ·cases h;exact uA hb
     ·cases h
    ·cases h
  ·cases h
 |vC x' sz lo hi mx rr =>
  simp only[J5.run]at h;split at h
  ·split at h <;> (cases h;exact uA hb)
  ·cases h
 |xZ x' l =>
  simp only[J5.run]at h;split at h
  ·cases h;cases hb
  ·cases h
 |call f args caps r' =>
  simp only[J5.run]at h;split at h
  ·split at h
   ·cases h;cases hb
   ·cases h
  ·rename_i hs;split at h
   ·cases h;simp only[J5.bt,hs];exact uA hb
   ·cases h
 |qg f args caps e kk es =>
  simp only[J5.run]at h;split at h
  ·cases h;rcases Zao.1 hb with hb | hb
   ·cases hb;exact PP ..
   ·exact lm _ (uA hb)
  ·cases h
 |Bv c =>
  simp only[J5.run]at h;split at h
  ·cases h;exact uA hb
  ·cases h
 |Az=>cases h;simp only[ut,Prod.mk.injEq]at hb;exact ut.2 hb.1
 |Aa=>cases h;simp only[ut,Prod.mk.injEq]at hb;exact ut.2 hb.1
 |ins b' kt key v =>
  simp only[J5.run]at h;split at h
  ·cases h;simp only[ut,Prod.mk.injEq]at hb;exact ut.2 hb.1
  ·split at h
   ·split at h
    ·cases h;simp only[ut,Prod.mk.injEq]at hb;exact ut.2 hb.1
    ·cases h
   ·cases h
  ·cases h
 |Ac b' kt key ok i v =>
  simp only[J5.run]at h;split at h
  ·cases h;cases hb
  ·split at h
   ·split at h
    ·cases h;cases hb
    ·cases h
   ·cases h
  ·cases h
 |look b' kt key z ok rr =>
  simp only[J5.run]at h;split at h
  ·split at h
   ·cases h
   ·cases h;cases hb
  ·split at h
   ·split at h <;> cases h;cases hb
   ·cases h;cases hb
  ·cases h
theorem b0i{act:J5}{k:Nat}:∀q∈act.news k,q∈act.bt bx k:=by
 intro q hq;cases act with
 |app e kk bytes s x c =>
  cases s with
  |nil=>exact ZaB _ hq
  |aW _=>exact ZaB _ hq
  |_=>cases hq
 |alloc _ _=>exact hq
 |mk0 _ _ _ _=>exact hq
 |xY _ _ _ _ _ _ _=>exact hq
 |Az=>exact hq
 |Aa=>exact hq
 |qg _ _ _ _ _ _=>rw[ut.1 hq];exact PP ..
 |_=>cases hq
end
def mr(ops:Array Oper)(tm:Nat→AV)(o:Oper):Option Bool:=match o.guard with
 |none=>some true
 |some (g,b)=>match (ops[g]?).bind (·.dst) with
  |none=>none
  |some d=>match tm d with
   |.dt (.val (.bool c))=>some (c == b)
   |.dt (.val (.tuple _))=>some false
   |_=>none
theorem Hw{X:Nat→Prop}{n0:Nat}{w0:World×Mm}{ok0:Nat→Prop}{M:Mm}{nt:Nat}{tm:Nat→AV}{bx:Nat→Option Bx}{a:Act}{w:World}{ops:Array Oper}{o:Oper}{c:Bool}(hI:Inv X n0 w0 ok0 M nt tm bx a w)(h:mr ops tm o=some c):Region.wanted o (yielded ops a.tmps)=c:=by
 unfold mr at h;unfold Region.wanted;cases hg:o.guard with
 |none=>rw[hg]at h;cases h;rfl
 |some x =>
  obtain⟨g,b⟩:=x;rw[hg]at h;simp only at h ⊢;unfold yielded;cases hd:(ops[g]?).bind (·.dst) with
  |none=>rw[hd]at h;cases h
  |some d =>
   rw[hd]at h;simp only[Option.bind_some]at h ⊢
   have hv:=hI.tmps d;split at h
   ·rename_i c' hc;cases h;rw[hc]at hv;have hv':a.tmps.getD d undef=.bool c':=Rd.Z9 hv;have:a.tmps[d]?=some (.bool c'):=by
     cases ht:a.tmps[d]? with
     |none=>simp[Array.getD_eq_getD_getElem?,ht,undef]at hv'
     |some u=>simp[Array.getD_eq_getD_getElem?,ht]at hv';rw[hv']
    rw[this];cases c' <;> cases b <;> rfl
   ·rename_i us hc;cases h;rw[hc]at hv;have hv':a.tmps.getD d undef=.tuple us:=Rd.Z9 hv;cases ht:a.tmps[d]? with
    |none=>rfl
    |some u=>simp[Array.getD_eq_getD_getElem?,ht]at hv';rw[hv'];rfl
   ·cases h
structure Fp where
 rt:List Nat
 wt:Option Nat
 bt:List Nat
 bw:Bool
 all:Bool
structure Stp (E:En) (ops:Array Oper) (nt:Nat) (o:Oper) (tm:Nat→AV) (bx:Nat→Option Bx) (tm':Nat→AV) (bx':Nat→Option Bx) (f:Fp):Prop where
 rt:∀t∈o.looksAt ops,t∈f.rt
 wt:f.wt=o.dst
 lt:∀t,o.dst=some t→t < nt
 go:(mr ops tm o=some false∧tm'=U8 tm o.dst (.dt (.val undef))∧bx'=bx) ∨
  (mr ops tm o=some true∧∃act an O7 k r ups ps,bD E o.op (J6 tm) an=some (act,O7)∧act.run E bx k=some (r,ups,ps)∧I5 ps∧(∀q∈act.news k,bx q=none)∧tm'=U8 tm o.dst r∧bx'=updB bx ups∧(∀b∈act.bt bx k,b∈f.bt)∧(ups≠[]→f.bw=true)) ∨
  (f.all=true∧(∀t,o.dst≠some t→tm' t=tm t)∧(∀b,¬(b∈f.bt∧f.bw=true)→bx' b=bx b) ∧
   ∀(X:Nat→Prop) (n0:Nat) (w0:World×Mm) (ok0:Nat→Prop) (Q:Exit→Act→World→Prop) (i:Nat) (a:Act) (w:World) (K:Act→World→Prop),ops[i]?=some o→(∀w,aN X n0 w0.1 w→E.G w)→Left X n0 w0 ok0 nt tm bx a w→(∀a w,Left X n0 w0 ok0 nt tm' bx' a w→K a w)→wpOp E.P ops Q i K a w) ∨
  (∃r,tm'=U8 tm o.dst r∧(∀b,¬(b∈f.bt∧f.bw=true)→bx' b=bx b) ∧
   ∀(jM:Nat→AV) (gV:Nat→Option Bx),(∀t∈f.rt,jM t=tm t)→(∀b∈f.bt,gV b=bx b)→(∃K,∀k,K≤k→gV k=none) →
   ∀(X:Nat→Prop) (n0:Nat) (w0:World×Mm) (ok0:Nat→Prop) (Q:Exit→Act→World→Prop) (i:Nat) (a:Act) (w:World) (K:Act→World→Prop),ops[i]?=some o→(∀w,aN X n0 w0.1 w→E.G w)→Left X n0 w0 ok0 nt jM gV a w→(∀a w,Left X n0 w0 ok0 nt (U8 jM o.dst r) (fun b=>if b∈f.bt∧f.bw=true then bx' b else gV b) a w→K a w)→wpOp E.P ops Q i K a w)
theorem Ii{tm:Nat→AV}{d:Option Nat}{r:AV}{t:Nat}(h:d≠some t):U8 tm d r t=tm t:=by
 cases d with
 |none=>rfl
 |some d=>exact lw fun e=>h (by rw[e])
theorem zA{tm:Nat→AV}{d:Option Nat}{r:AV}{t:Nat}(h:d=some t):U8 tm d r t=r:=by
 subst h;exact Za0 rfl
theorem Stp.a1s{E:En}{ops:Array Oper}{nt:Nat}{o:Oper}{tm tm':Nat→AV}{bx bx':Nat→Option Bx}{f:Fp}(h:Stp E ops nt o tm bx tm' bx' f){t:Nat}(ht:f.wt≠some t):tm' t=tm t:=by
 rw[h.wt]at ht;rcases h.go with⟨_,rfl,_⟩ | ⟨_,_,_,_,_,_,_,_,_,_,_,_,rfl,_⟩ | ⟨_,h1,_⟩ | ⟨_,rfl,_⟩
 ·exact Ii ht
 ·exact Ii ht
 ·exact h1 t ht
 ·exact Ii ht
theorem Stp.a1t{E:En}{ops:Array Oper}{nt:Nat}{o:Oper}{tm tm':Nat→AV}{bx bx':Nat→Option Bx}{f:Fp}(h:Stp E ops nt o tm bx tm' bx' f){b:Nat}(hb:¬(b∈f.bt∧f.bw=true)):bx' b=bx b:=by
 rcases h.go with⟨_,_,rfl⟩ | ⟨_,act,an,O7,k,r,ups,ps,_,hr,_,_,_,rfl,h1,h2⟩ | ⟨_,_,h1,_⟩ | ⟨_,_,h1,_⟩
 ·rfl
 ·refine uy fun x hx=>hb ⟨h1 _ (b0h hr b x hx),h2 fun e=>?_⟩
  rw[e]at hx;cases hx
 ·exact h1 b hb
 ·exact h1 b hb
theorem Stp.wp{E:En}{ops:Array Oper}{nt:Nat}{o:Oper}{tm tm':Nat→AV}{bx bx':Nat→Option Bx}{f:Fp}(h:Stp E ops nt o tm bx tm' bx' f)
  {X:Nat→Prop} {n0:Nat} {w0:World×Mm} {ok0:Nat→Prop} {a:Act} {w:World} {Q:Exit→Act→World→Prop} {i:Nat} (ho:ops[i]?=some o) (hfin:∃K,∀k,K≤k→bx k=none) (hL:Left X n0 w0 ok0 nt tm bx a w) (hG:∀w,aN X n0 w0.1 w→E.G w) {K:Act→World→Prop} (hK:∀a w,Left X n0 w0 ok0 nt tm' bx' a w→K a w):wpOp E.P ops Q i K a w:=by
 rcases h.go with hg | hg | ⟨_,_,_,hg⟩ | ⟨r,ht,hb,hg⟩
 case inr.inr.inl=>exact hg X n0 w0 ok0 Q i a w K ho hG hL hK
 case inr.inr.inr =>
  refine hg tm bx (fun _ _=>rfl) (fun _ _=>rfl) hfin X n0 w0 ok0 Q i a w K ho hG hL fun a w h2=>hK a w ?_
  have e:(fun b=>if b∈f.bt∧f.bw=true then bx' b else bx b)=bx':=funext fun b=>by
   by_cases c:b∈f.bt∧f.bw=true
   ·rw[Za0 c]
   ·rw[lw c,hb b c]
  rw[e,←ht]at h2;exact h2
 all_goals
  obtain⟨M,hI⟩:=hL;unfold wpOp;simp only[ho]
 ·obtain⟨hw,rfl,rfl⟩:=hg;rw[Hw hI hw];simp only[ZaY,ZaM];exact hK _ _ ⟨M,hI.val o.dst h.lt wM⟩
 ·obtain⟨hw,act,an,O7,k,r,ups,ps,h1,h2,h3,h4,rfl,rfl,_,_⟩:=hg;rw[Hw hI hw];simp only[ZaP];left;exact Oper.wp_mono hK (a6o h1 h2 h3 hI h.lt (hG _ hI.below) h4)
theorem BU{bx bx':Nat→Option Bx}{b:Nat}(h:bx b=bx' b):∀{ups:List (Nat×Bx)},updB bx ups b=updB bx' ups b
 |[]=>h
 | (b0,x)::r=>by
  show (if b=b0 then some x else updB bx r b)=if b=b0 then some x else updB bx' r b
  rw[BU h]
theorem b2S{bx bx':Nat→Option Bx}{act:J5}{k:Nat}(h:∀b∈act.bt bx k,bx b=bx' b):act.bt bx k=act.bt bx' k:=by
 cases act with
 |wS b i k' vs=>exact congrArg (b::·) (gZ (kn:=false) fun q hq=>h q (lm _ hq)).2
 |mk e sz len cs=>exact (gZ (js:=[]) (kn:=false) (cs:=cs) h).2
 |idx x i sz r=>exact (gZ (js:=[]) (kn:=false) (cs:=[x]) h).2
 |vC x sz lo hi mx r=>exact (gZ (js:=[]) (kn:=false) (cs:=[x]) h).2
 |xZ x l=>exact (gZ (js:=[]) (kn:=false) (cs:=[x]) h).2
 |qg f args caps e kk es=>exact congrArg (k::·) (gZ (js:=[]) (kn:=false) (cs:=args) fun q hq=>h q (lm _ hq)).2
 |Bv c=>exact (gZ (js:=[]) (kn:=false) (cs:=[c]) h).2
 |call f args caps r =>
  cases hs:r.jg with
  |true =>
   simp only[J5.bt,hs]at h ⊢
   exact (qZ (CP 4) args [] false h).2
  |false =>
   simp only[J5.bt,hs]at h ⊢
   exact (gZ (js:=[]) (kn:=false) (cs:=args) h).2
 |_=>rfl
theorem a6p{P:Program}{ops:Array Oper}{Q:Exit→Act→World→Prop}{md:Region.Mode}(I:Array Bool→Act→World→Prop)
  (back:∀(i:Nat) (o:Oper),ops[i]?=some o→∀e∈o.after,Region.binds md e=true→e.on < i)
  (step:∀listed a w i,I listed a w→listed.size=ops.size→i∈Region.ready md ops listed→wpOp P ops Q i (I (listed.setIfInBounds i true)) a w)
  (done:∀listed a w,I listed a w→(∀i,i < ops.size→listed.getD i false=true)→Q .normal a w) :
  ∀(fuel:Nat) (listed:Array Bool) (a:Act) (w:World),listed.size=ops.size→listed.toList.countP (fun b=>!b)≤fuel→I listed a w→wpAny P md ops Q fuel listed a w:=by
 have full:∀listed:Array Bool,listed.size=ops.size→Region.ready md ops listed=[]→∀i,i < ops.size→listed.getD i false=true:=by
  intro listed hs hr i
  induction i using Nat.strongRecOn with
  |_ i ih =>
   intro hi;rcases hb:listed.getD i false with _ | _
   ·exfalso
    have hmem:i∈Region.ready md ops listed:=by
     rw[mem_ready];refine⟨?_,ops[i],Array.getElem?_eq_getElem hi,fun e he hbd=>?_⟩
     ·have hlt:i < listed.size:=J;simpa[hlt] using hb
     ·have:=back i _ (Array.getElem?_eq_getElem hi) e he hbd;exact ih e.on this J
    rw[hr]at hmem;cases hmem
   ·rfl
 intro fuel
 induction fuel with
 |zero =>
  intro listed a w hs hc hI;have hall:∀i,i < ops.size→listed.getD i false=true:=by
   intro i hi;have h0:listed.toList.countP (fun b=>!b)=0:=J;rw[List.countP_eq_zero]at h0;have hlt:i < listed.size:=J;have:=h0 listed[i] (by simp);simpa[hlt] using this
  have hr:Region.ready md ops listed=[]:=by
   cases hr:Region.ready md ops listed with
   |nil=>rfl
   |cons x xs =>
    have hx:x∈Region.ready md ops listed:=by rw[hr];exact PP ..
    rw[mem_ready]at hx;obtain⟨h0,o,ho,_⟩:=hx;have hlt:=(Array.getElem?_eq_some_iff.1 ho).1;have:=hall x hlt;have hlt':x < listed.size:=J;simp[hlt']at h0 this;rw[h0]at this;cases this
  exact⟨hr,done _ _ _ hI hall⟩
 |succ fuel ih =>
  intro listed a w hs hc hI;refine⟨fun hr=>done _ _ _ hI (full listed hs hr),fun i hi=>?_⟩;refine wpOp_mono (fun a' w' hI'=>?_) (step listed a w i hI hs hi);refine ih _ _ _ (by simp[hs]) ?_ hI';rw[mem_ready]at hi;obtain⟨h0,o,ho,_⟩:=hi;have hlt:i < listed.size:=by rw[hs];exact (Array.getElem?_eq_some_iff.1 ho).1
  have hf:listed[i]=false:=by simpa[hlt] using h0
  have hl:listed.toList=listed.toList.take i++false::listed.toList.drop (i+1):=by
   have h1:i < listed.toList.length:=by simpa using hlt
   conv=>lhs;rw[←List.take_append_drop i listed.toList,ZaT h1]
   simp[hf]
  have hl':(listed.setIfInBounds i true).toList=listed.toList.take i++true::listed.toList.drop (i+1):=by
   have h1:i < listed.toList.length:=by simpa using hlt
   rw[Array.toList_setIfInBounds,List.set_eq_take_append_cons_drop,Za0 h1]
  rw[hl]at hc;rw[hl'];simp only[List.countP_append,List.countP_cons,Bool.not_false,Bool.not_true,ZaP,ZaY,ZaM]at hc ⊢
  omega
def zB(ops:Array Oper):Bool:=(List.range ops.size).all fun i=>match ops[i]? with | some o=>o.after.all fun e=>!Region.binds .any e || Nat.ble (e.on+1) i | none=>true
theorem a5r{ops:Array Oper}(h:zB ops=true)(i:Nat)(o:Oper)(ho:ops[i]?=some o):∀e∈o.after,Region.binds .any e=true→e.on < i:=by
 unfold zB at h;rw[Zav]at h;have:=h i (List.mem_range.2 (Array.getElem?_eq_some_iff.1 ho).1);rw[ho]at this;simp only[Array.all_eq_true_iff_forall_mem]at this;intro e he hb;have h2:=this e he;rw[hb]at h2;exact ZaD h2
inductive oO (ops:Array Oper):Nat→Nat→Prop
 |one {i j:Nat}:i∈waits ops j→oO ops i j
 |more {i m j:Nat}:m∈waits ops j→oO ops i m→oO ops i j
def Fp.conf(x y:Fp):Bool:=(x.all || y.all) ||
 ((match x.wt with | some d=>y.rt.contains d || (match y.wt with | some e=>Nat.beq d e | none=>false) | none=>false) ||
 (match y.wt with | some d=>x.rt.contains d | none=>false) ||
 (x.bt.any y.bt.contains && (x.bw || y.bw)))
theorem ZX{x y:Fp}(h:x.all=true):x.conf y=true:=by simp only[Fp.conf,h,Bool.true_or]
theorem ZY{x y:Fp}(h:y.all=true):x.conf y=true:=by simp only[Fp.conf,h,Bool.or_true,Bool.true_or]
theorem b0j{x y:Fp}{d:Nat}(h1:x.wt=some d)(h2:d∈y.rt):x.conf y=true:=by
 have:y.rt.contains d=true:=List.contains_iff_mem.2 h2;simp only[Fp.conf,h1,this,Bool.true_or,Bool.or_true]
theorem b0k{x y:Fp}{d:Nat}(h1:y.wt=some d)(h2:d∈x.rt):x.conf y=true:=by
 have:x.rt.contains d=true:=List.contains_iff_mem.2 h2;simp only[Fp.conf,h1,this,Bool.true_or,Bool.or_true]
theorem YE{x y:Fp}{d:Nat}(h1:x.wt=some d)(h2:y.wt=some d):x.conf y=true:=by
 simp only[Fp.conf,h1,h2,Nat.beq_refl,Bool.or_true,Bool.true_or]
theorem IJ{x y:Fp}{d:Nat}(h1:d∈x.bt)(h2:d∈y.bt)(h:x.bw=true∨y.bw=true):x.conf y=true:=by
 have e:(x.bw || y.bw)=true:=by rcases h with h | h <;> rw[h] <;> simp
 have e2:x.bt.any y.bt.contains=true:=List.any_eq_true.2 ⟨d,h1,List.contains_iff_mem.2 h2⟩;simp only[Fp.conf,e,e2,Bool.and_self,Bool.or_true]
theorem a6q{E:En}{ops:Array Oper}{nt:Nat}{U9:Nat→Nat→AV}{P8:Nat→Nat→Option Bx}{fp:Nat→Fp}
  (hstp:∀i o,ops[i]?=some o→Stp E ops nt o (U9 i) (P8 i) (U9 (i+1)) (P8 (i+1)) (fp i))
  (a1u:∀i j,i < j→j < ops.size→(fp i).conf (fp j)=true→oO ops i j) (hback:zB ops=true) (hfin:∃K,∀i,i≤ops.size→∀k,K≤k→P8 i k=none)
  {X:Nat→Prop} {n0:Nat} {w0:World×Mm} {ok0:Nat→Prop} (hG:∀w,aN X n0 w0.1 w→E.G w) {Q:Exit→Act→World→Prop} {a:Act} {w:World} (h0:Left X n0 w0 ok0 nt (U9 0) (P8 0) a w) (hQ:∀a w,Left X n0 w0 ok0 nt (U9 ops.size) (P8 ops.size) a w→Q .normal a w) :
  wpAny E.P .any ops Q ops.size (Array.replicate ops.size false) a w:=by
 have hst:∀i,i < ops.size→∃o,ops[i]?=some o∧Stp E ops nt o (U9 i) (P8 i) (U9 (i+1)) (P8 (i+1)) (fp i):=fun i hi=>⟨ops[i],Array.getElem?_eq_getElem hi,hstp i _ (Array.getElem?_eq_getElem hi)⟩
 -- versions
 have vt':∀t k d,k+d≤ops.size→(∀j,j < ops.size→(fp j).wt=some t→(j < k↔j < k+d))→U9 (k+d) t=U9 k t:=by
  intro t k d
  induction d with
  |zero=>intro _ _;rfl
  |succ d ih =>
   intro hn hw;obtain⟨o,_,hs⟩:=hst (k+d) J;rw[show k+(d+1)=k+d+1 by omega,hs.a1s (fun e=>by have:=hw (k+d) J e;omega)]
   exact ih J fun j hj e=>by have:=hw j hj e;omega
 have vt:∀t k k',k≤ops.size→k'≤ops.size→(∀j,j < ops.size→(fp j).wt=some t→(j < k↔j < k'))→U9 k t=U9 k' t:=by
  intro t k k' hk hk' hw;rcases Nat.le_total k k' with h | h
  ·have:=vt' t k (k' - k) J fun j hj e=>by have:=hw j hj e;omega
   rw[show k+(k' - k)=k' by omega]at this
   exact this.symm
  ·have:=vt' t k' (k - k') J fun j hj e=>by have:=hw j hj e;omega
   rw[show k'+(k - k')=k by omega]at this
   exact this
 have vb':∀t k d,k+d≤ops.size→(∀j,j < ops.size→t∈(fp j).bt→(fp j).bw=true→(j < k↔j < k+d))→P8 (k+d) t=P8 k t:=by
  intro t k d
  induction d with
  |zero=>intro _ _;rfl
  |succ d ih =>
   intro hn hw;obtain⟨o,_,hs⟩:=hst (k+d) J;rw[show k+(d+1)=k+d+1 by omega,hs.a1t (fun e=>by have:=hw (k+d) J e.1 e.2;omega)]
   exact ih J fun j hj e e'=>by have:=hw j hj e e';omega
 have vb:∀t k k',k≤ops.size→k'≤ops.size→(∀j,j < ops.size→t∈(fp j).bt→(fp j).bw=true→(j < k↔j < k'))→P8 k t=P8 k' t:=by
  intro t k k' hk hk' hw;rcases Nat.le_total k k' with h | h
  ·have:=vb' t k (k' - k) J fun j hj e e'=>by have:=hw j hj e e';omega
   rw[show k+(k' - k)=k' by omega]at this
   exact this.symm
  ·have:=vb' t k' (k - k') J fun j hj e e'=>by have:=hw j hj e e';omega
   rw[show k'+(k - k')=k by omega]at this
   exact this
 refine a6p (md:=.any) (fun listed a w=>∃tm bx,Left X n0 w0 ok0 nt tm bx a w∧(∀i,listed.getD i false=true→∀j∈waits ops i,listed.getD j false=true) ∧
   (∀t,∃k,k≤ops.size∧tm t=U9 k t∧∀j,j < ops.size→(fp j).wt=some t→(listed.getD j false=true↔j < k)) ∧
   (∀b,∃k,k≤ops.size∧bx b=P8 k b∧∀j,j < ops.size→b∈(fp j).bt→(fp j).bw=true→(listed.getD j false=true↔j < k))) (fun i o ho=>a5r hback i o ho) ?_ ?_ _ _ _ _ I (by simp[List.countP_replicate]) ?_
 ·intro listed a w i hI hs hr;rw[mem_ready]at hr;obtain⟨hn0,o,ho,hafter⟩:=hr;have hlt:=(Array.getElem?_eq_some_iff.1 ho).1;have hD0:¬listed.getD i false=true:=by
   have hlt':i < listed.size:=J;simp[hlt']at hn0 ⊢
   exact hn0
  obtain⟨tm,bx,hL,SQ,hT,hB⟩:=hI;have hset:(listed.setIfInBounds i true).getD i false=true:=by
   have hlt':i < listed.size:=J;simp[hlt']
  have hup:∀j,listed.getD j false=true→(listed.setIfInBounds i true).getD j false=true:=fun j h=>getD_set_true h
  have hdn:∀j,(listed.setIfInBounds i true).getD j false=true→j=i∨listed.getD j false=true:=fun j h=>getD_upd h
  have hw8:∀j∈waits ops i,listed.getD j false=true:=fun j hj=>by
   obtain⟨e,he,hb,rfl⟩:=(WL ho).1 hj;exact hafter e he hb
  have a1v:∀x y,oO ops x y→listed.getD y false=true→listed.getD x false=true:=by
   intro x y h
   induction h with
   |one h=>exact fun hy=>SQ _ hy _ h
   |more h _ ih=>exact fun hy=>ih (SQ _ hy _ h)
  have b42:∀x,oO ops x i→listed.getD x false=true:=by
   intro x h;cases h with
   |one h=>exact hw8 _ h
   |more h h'=>exact a1v _ _ h' (hw8 _ h)
  -- who touches the same place as i: before i are done,behind i are not
  have side:∀j,j < ops.size→(j < i→(fp j).conf (fp i)=true)→(i < j→(fp i).conf (fp j)=true)→(listed.getD j false=true↔j < i):=by
   intro j hj h1 h2;rcases Nat.lt_trichotomy j i with e | e | e
   ·exact⟨fun _=>e,fun _=>b42 j (a1u j i e hlt (h1 e))⟩
   ·subst e;exact⟨fun h=>absurd h hD0,fun h=>absurd h (Nat.lt_irrefl _)⟩
   ·refine⟨fun h=>absurd (a1v i j (a1u i j e hj (h2 e)) h) hD0,fun h=>J⟩
  have hS:=hstp i o ho;have hrt:∀t∈(fp i).rt,tm t=U9 i t:=by
   intro t ht;obtain⟨k,hk,e,hv⟩:=hT t;rw[e];refine vt t k i hk J fun j hj fD=>?_
   rw[←hv j hj fD];exact side j hj (fun _=>b0j fD ht) (fun _=>b0k fD ht)
  have hbt:∀b,b∈(fp i).bt→(bx b=P8 i b∨(fp i).bw=false)∧((fp i).bw=false→bx b=P8 i b):=by
   intro b hb;have key:bx b=P8 i b:=by
    obtain⟨k,hk,e,hv⟩:=hB b;rw[e];refine vb b k i hk J fun j hj hbj fD=>?_
    rw[←hv j hj hbj fD];exact side j hj (fun _=>IJ hbj hb (.inl fD)) (fun _=>IJ hb hbj (.inr fD))
   exact⟨.inl key,fun _=>key⟩
  have EF:∀b,b∈(fp i).bt→bx b=P8 i b:=fun b hb=>by
   rcases (hbt b hb).1 with h | h
   ·exact h
   ·exact (hbt b hb).2 h
  -- the step in the present state
  have hlook:∀t∈o.looksAt ops,tm t=U9 i t:=fun t ht=>hrt t (hS.rt t ht)
  have hev:∀x∈o.op.operands.toList,J6 tm x=J6 (U9 i) x:=by
   intro x hx;cases x with
   |tmp t =>
    refine hlook t ?_;unfold Oper.looksAt;refine ZaB _ (List.mem_filterMap.2 ⟨.tmp t,hx,rfl⟩)
   |_=>rfl
  have hwant:mr ops tm o=mr ops (U9 i) o:=by
   unfold mr;cases hg:o.guard with
   |none=>rfl
   |some x =>
    obtain⟨g,b⟩:=x;simp only;cases hd:(ops[g]?).bind (·.dst) with
    |none=>rfl
    |some d =>
     simp only;have:tm d=U9 i d:=hlook d (by
      unfold Oper.looksAt;refine ZaS _ ?_;rw[hg];simp[hd])
     rw[this]
  have hst':∃tm' bx',Stp E ops nt o tm bx tm' bx' (fp i)∧(∀t,(fp i).wt=some t→tm' t=U9 (i+1) t)∧(∀b,b∈(fp i).bt→(fp i).bw=true→bx' b=P8 (i+1) b):=by
   rcases hS.go with⟨hw,e1,e2⟩ | ⟨hw,act,an,O7,k,r,ups,ps,h1,h2,h3,h4,e1,e2,h5,h6⟩ | ⟨hall,_⟩ | ⟨r,e1,e2,hg⟩
   ·refine⟨U8 tm o.dst (.dt (.val undef)),bx,⟨hS.rt,hS.wt,hS.lt,.inl ⟨hwant.trans hw,rfl,rfl⟩⟩,fun t ht=>?_,fun b hb hbw=>?_⟩
    ·rw[hS.wt]at ht;rw[e1,zA ht,zA ht]
    ·rw[e2];exact EF b hb
   ·have ZZ:∀b∈act.bt (P8 i) k,P8 i b=bx b:=fun b hb=>(EF b (h5 b hb)).symm
    have hrun:act.run E bx k=some (r,ups,ps):=by rw[←h2];exact (b0g ZZ).symm
    have b7D:∀b∈act.bt bx k,b∈(fp i).bt:=fun b hb=>h5 b (by rw[b2S ZZ];exact hb)
    have hk':∀q∈act.news k,bx q=none:=fun q hq=>by rw[EF q (h5 q (b0i q hq))];exact h4 q hq
    refine⟨U8 tm o.dst r,updB bx ups,⟨hS.rt,hS.wt,hS.lt,.inr (.inl ⟨hwant.trans hw,act,an,O7,k,r,ups,ps,(a8g hev).trans h1,hrun,h3,hk',rfl,rfl,b7D,h6⟩)⟩,fun t ht=>?_,fun b hb hbw=>?_⟩
    ·rw[hS.wt]at ht;rw[e1,zA ht,zA ht]
    ·rw[e2];exact BU (EF b hb)
   ·have e1:tm=U9 i:=funext fun t=>by
     obtain⟨k,hk,e,hv⟩:=hT t;rw[e];refine vt t k i hk J fun j hj fD=>?_
     rw[←hv j hj fD];exact side j hj (fun _=>ZY hall) (fun _=>ZX hall)
    have e2:bx=P8 i:=funext fun b=>by
     obtain⟨k,hk,e,hv⟩:=hB b;rw[e];refine vb b k i hk J fun j hj hbj fD=>?_
     rw[←hv j hj hbj fD];exact side j hj (fun _=>ZY hall) (fun _=>ZX hall)
    exact⟨U9 (i+1),P8 (i+1),by rw[e1,e2];exact hS,fun _ _=>rfl,fun _ _ _=>rfl⟩
   ·refine⟨U8 tm o.dst r,fun b=>if b∈(fp i).bt∧(fp i).bw=true then P8 (i+1) b else bx b,⟨hS.rt,hS.wt,hS.lt,.inr (.inr (.inr ⟨r,rfl,fun b hb=>lw hb,fun jM gV h1 h2 hf X n0 w0 ok0 Q i' a w K ho' hG' hL' hK'=>?_⟩))⟩,fun t ht=>?_,fun b hb hbw=>Za0 ⟨hb,hbw⟩⟩
    ·refine hg jM gV (fun t ht=>(h1 t ht).trans (hrt t ht)) (fun b hb=>(h2 b hb).trans (EF b hb)) hf X n0 w0 ok0 Q i' a w K ho' hG' hL' fun a w h3=>hK' a w ?_
     have e:(fun b=>if b∈(fp i).bt∧(fp i).bw=true then (if b∈(fp i).bt∧(fp i).bw=true then P8 (i+1) b else bx b) else gV b)=fun b=>if b∈(fp i).bt∧(fp i).bw=true then P8 (i+1) b else gV b:=funext fun b=>by
      by_cases c:b∈(fp i).bt∧(fp i).bw=true
      ·simp only[Za0 c]
      ·simp only[lw c]
     rw[e];exact h3
    ·rw[hS.wt]at ht;rw[e1,zA ht,zA ht]
  obtain⟨tm',bx',hS',hTn,hBn⟩:=hst';have hfb:∃K,∀k,K≤k→bx k=none:=by
   obtain⟨K,hK⟩:=hfin;refine⟨K,fun b hb=>?_⟩;obtain⟨k,hk,e,_⟩:=hB b;rw[e];exact hK k hk b hb
  refine hS'.wp ho hfb hL hG fun a2 w2 hL2=>⟨tm',bx',hL2,?_,?_,?_⟩
  ·intro k hk j hj;rcases hdn k hk with rfl | e
   ·exact hup j (hw8 j hj)
   ·exact hup j (SQ k e j hj)
  ·intro t;by_cases hw:(fp i).wt=some t
   ·refine⟨i+1,J,hTn t hw,fun j hj fD=>?_⟩;have:=side j hj (fun _=>YE fD hw) (fun _=>YE hw fD);constructor
    ·intro h;rcases hdn j h with rfl | e
     ·omega
     ·have:=this.1 e;omega
    ·intro h;by_cases e:j=i
     ·subst e;exact hset
     ·exact hup j (this.2 J)
   ·obtain⟨k,hk,e,hv⟩:=hT t;refine⟨k,hk,(hS'.a1s hw).trans e,fun j hj fD=>?_⟩;have hji:j≠i:=fun e=>hw (e ▸ fD)
    rw[←hv j hj fD];exact⟨fun h=>(hdn j h).resolve_left hji,hup j⟩
  ·intro b;by_cases hw:b∈(fp i).bt∧(fp i).bw=true
   ·refine⟨i+1,J,hBn b hw.1 hw.2,fun j hj hbj fD=>?_⟩;have:=side j hj (fun _=>IJ hbj hw.1 (.inl fD)) (fun _=>IJ hw.1 hbj (.inl hw.2));constructor
    ·intro h;rcases hdn j h with rfl | e
     ·omega
     ·have:=this.1 e;omega
    ·intro h;by_cases e:j=i
     ·subst e;exact hset
     ·exact hup j (this.2 J)
   ·obtain⟨k,hk,e,hv⟩:=hB b;refine⟨k,hk,(hS'.a1t hw).trans e,fun j hj hbj fD=>?_⟩;have hji:j≠i:=fun e=>hw (e ▸ ⟨hbj,fD⟩)
    rw[←hv j hj hbj fD];exact⟨fun h=>(hdn j h).resolve_left hji,hup j⟩
 ·intro listed a w hI hall;obtain⟨tm,bx,hL,_,hT,hB⟩:=hI;have e1:tm=U9 ops.size:=funext fun t=>by
   obtain⟨k,hk,e,hv⟩:=hT t;rw[e];exact vt t k _ hk (NE _) fun j hj hw=>⟨fun _=>hj,fun _=>(hv j hj hw).1 (hall j hj)⟩
  have e2:bx=P8 ops.size:=funext fun b=>by
   obtain⟨k,hk,e,hv⟩:=hB b;rw[e];exact vb b k _ hk (NE _) fun j hj hb hw=>⟨fun _=>hj,fun _=>(hv j hj hb hw).1 (hall j hj)⟩
  rw[e1,e2]at hL;exact hQ a w hL
 ·have hno:∀i,¬(Array.replicate ops.size false).getD i false=true:=fun i=>by
   by_cases h:i < ops.size <;> simp[h]
  exact⟨U9 0,P8 0,h0,fun i h=>absurd h (hno _),fun t=>⟨0,ww _,rfl,fun j _ _=>⟨fun h=>absurd h (hno _),fun h=>J⟩⟩,fun t=>⟨0,ww _,rfl,fun j _ _ _=>⟨fun h=>absurd h (hno _),fun h=>J⟩⟩⟩
structure AS where
 tm:List AV
 bx:List (Option Bx)
def AS.J8(s:AS):Nat→AV:=fun t=>s.tm.getD t (.dt (.val undef))
def AS.G5(s:AS):Nat→Option Bx:=fun b=>match s.bx[b]? with
 |some x=>x
 |none=>none
def xA(tm:List AV)(d:Option Nat)(r:AV):List AV:=match d with
 |some d=>tm.set d r
 |none=>tm
def nZ:List (Option Bx)→Nat→Bx→List (Option Bx)
 |[],0,x=>[some x]
 |[],b+1,x=>none::nZ [] b x
 |_::r,0,x=>some x::r
 |y::r,b+1,x=>y::nZ r b x
def Ju(bx:List (Option Bx)):List (Nat×Bx)→List (Option Bx)
 |[]=>bx
 | (b,x)::r=>nZ (Ju bx r) b x
theorem b0l{tm:List AV}:∀(bx:List (Option Bx)) (b:Nat) (x:Bx),(AS.mk tm (nZ bx b x)).G5=fun k=>if k=b then some x else (AS.mk tm bx).G5 k:=by
 intro bx b
 induction b generalizing bx with
 |zero =>
  intro x;funext k;cases bx with
  |nil=>cases k with
   |zero=>rfl
   |succ k=>simp[nZ,AS.G5]
  |cons y r=>cases k with
   |zero=>rfl
   |succ k=>simp[nZ,AS.G5]
 |succ b ih =>
  intro x;funext k;cases bx with
  |nil =>
   have:=congrFun (ih [] x);cases k with
   |zero=>simp[nZ,AS.G5]
   |succ k=>have:=this k;simp[nZ,AS.G5]at this ⊢;exact this
  |cons y r =>
   have:=congrFun (ih r x);cases k with
   |zero=>simp[nZ,AS.G5]
   |succ k=>have:=this k;simp[nZ,AS.G5]at this ⊢;exact this
theorem YF{s:AS}{tm:List AV}:∀(ups:List (Nat×Bx)),(AS.mk tm (Ju s.bx ups)).G5=updB s.G5 ups
 |[]=>rfl
 | (b,x)::r=>by
  funext k;show (AS.mk tm (nZ (Ju s.bx r) b x)).G5 k=if k=b then some x else updB s.G5 r k
  rw[b0l,←YF (tm:=tm) r]
theorem DC{s:AS}{d:Option Nat}{r:AV}{bx:List (Option Bx)}(h:∀t,d=some t→t < s.tm.length):(AS.mk (xA s.tm d r) bx).J8=U8 s.J8 d r:=by
 funext t;cases d with
 |none=>rfl
 |some d =>
  show (s.tm.set d r).getD t _=if t=d then r else s.tm.getD t _
  have:=h d rfl;by_cases e:t=d
  ·subst e;simp[this]
  ·rw[lw e];simp[ZaR e]
theorem b0m(s:AS):s.G5 s.bx.length=none:=by
 unfold AS.G5;rw[Zaf (NE _)]
theorem b2T{act:J5}{k q:Nat}(h:q∈act.news k):q=k:=by
 cases act with
 |app e kk bytes s x c=>cases s <;> first | exact ut.1 h | cases h
 |_=>first | exact ut.1 h | cases h
def Jv(E:En)(ops:Array Oper)(o:Oper)(s:AS)(an:List An):Option (AS×Fp×List Prop×List An) :=
 match (match o.dst with | some d=>Nat.ble (d+1) s.tm.length | none=>true) with
 |false=>none
 |true=>match mr ops s.J8 o with
  |none=>none
  |some false=>some (⟨xA s.tm o.dst (.dt (.val undef)),s.bx⟩,⟨o.looksAt ops,o.dst,[],false,false⟩,[],an)
  |some true=>match bD E o.op (J6 s.J8) an with
   |none=>none
   |some (act,O7)=>match act.run E s.G5 s.bx.length with
    |none=>none
    |some (r,ups,ps)=>some (⟨xA s.tm o.dst r,Ju s.bx ups⟩,⟨o.looksAt ops,o.dst,act.bt s.G5 s.bx.length,match ups with | []=>false | _=>true,false⟩,ps,O7)
theorem Hy(tm:List AV)(d:Option Nat)(r:AV):(xA tm d r).length=tm.length:=by
 cases d with
 |none=>rfl
 |some d=>exact List.length_set
theorem WM{E:En}{ops:Array Oper}{o:Oper}{s s':AS}{an O7:List An}{f:Fp}{ps:List Prop}(h:Jv E ops o s an=some (s',f,ps,O7))(hp:I5 ps) :
  Stp E ops s.tm.length o s.J8 s.G5 s'.J8 s'.G5 f∧s'.tm.length=s.tm.length:=by
 unfold Jv at h;split at h
 ·cases h
 rename_i hd;have hd':∀t,o.dst=some t→t < s.tm.length:=fun t ht=>by
  rw[ht]at hd;have hd2:Nat.ble (t+1) s.tm.length=true:=hd;exact ZaD hd2
 split at h
 ·cases h
 ·rename_i hw;cases h;exact⟨⟨fun t ht=>ht,rfl,hd',.inl ⟨hw,DC hd',rfl⟩⟩,Hy _ _ _⟩
 ·rename_i hw;split at h
  ·cases h
  ·rename_i act c1Z hdec;split at h
   ·cases h
   ·rename_i r ups ps' hr;cases h;refine⟨⟨fun t ht=>ht,rfl,hd',.inr (.inl ⟨hw,act,an,_,s.bx.length,r,ups,_,hdec,hr,hp,fun q hq=>?_,DC hd',YF ups,fun b hb=>hb,fun hu=>?_⟩)⟩,Hy _ _ _⟩
    ·rw[b2T hq];exact b0m s
    ·cases ups with
     |nil=>exact absurd rfl hu
     |cons _ _=>rfl
def JX(E:En)(ops:Array Oper):List Oper→AS→List An→Option (AS×List Fp×List Prop×List An)
 |[],s,an=>some (s,[],[],an)
 |o::os,s,an=>match Jv E ops o s an with
  |none=>none
  |some (s1,f,ps,fP)=>match JX E ops os s1 fP with
   |none=>none
   |some (s2,fs,qs,aX)=>some (s2,f::fs,ps++qs,aX)
theorem OM(s:AS){k:Nat}(h:s.bx.length≤k):s.G5 k=none:=by
 unfold AS.G5;rw[Zaf h]
theorem Xu{s:AS}{P8:Nat→Nat→Option Bx}{n Kf:Nat}(h:∀i,i≤n→∀k,Kf≤k→P8 i k=none):∃K,∀i,i≤n+1→∀k,K≤k→(match i with | 0=>s.G5 | i+1=>P8 i) k=none :=
 ⟨s.bx.length+Kf,fun i hi k hk=>match i with
  |0=>OM s J
  |i+1=>h i J k J⟩
theorem Ot{E:En}{ops:Array Oper}:∀{os:List Oper} {s s':AS} {an O7:List An} {fs:List Fp} {ps:List Prop},JX E ops os s an=some (s',fs,ps,O7)→I5 ps →
  s'.tm.length=s.tm.length∧fs.length=os.length∧∃(U9:Nat→Nat→AV) (P8:Nat→Nat→Option Bx),U9 0=s.J8∧P8 0=s.G5∧U9 os.length=s'.J8∧P8 os.length=s'.G5∧(∃K,∀i,i≤os.length→∀k,K≤k→P8 i k=none) ∧
   ∀i o f,os[i]?=some o→fs[i]?=some f→Stp E ops s.tm.length o (U9 i) (P8 i) (U9 (i+1)) (P8 (i+1)) f
 |[],s,s',an,O7,fs,ps,h,_=>by
  cases h;exact⟨rfl,rfl,fun _=>s.J8,fun _=>s.G5,rfl,rfl,rfl,rfl,⟨s.bx.length,fun _ _ k hk=>OM s hk⟩,fun i o f hi=>by simp at hi⟩
 |o::os,s,s',an,O7,fs,ps,h,hp=>by
  unfold JX at h;split at h
  ·cases h
  ·rename_i s1 f ps1 fP h1;split at h
   ·cases h
   ·rename_i s2 lK qs aX h2;cases h;obtain⟨hp1,hp2⟩:=jl hp;obtain⟨hs,hl⟩:=WM h1 hp1;obtain⟨hl2,hf2,U9,P8,e1,e2,e3,e4,⟨Kf,hKf⟩,hst⟩:=Ot h2 hp2;refine⟨hl2.trans hl,by simp[hf2],fun i=>match i with | 0=>s.J8 | i+1=>U9 i,fun i=>match i with | 0=>s.G5 | i+1=>P8 i,rfl,rfl,e3,e4,Xu hKf,?_⟩;intro i o' f' hi hf;cases i with
    |zero =>
     cases hi;cases hf;simp only[e1,e2];exact hs
    |succ i =>
     rw[hl]at hst;exact hst i o' f' (by simpa using hi) (by simpa using hf)
def EG:List Oper→List Nat→List Nat
 |[],acc=>acc
 |o::os,acc=>EG os (acc++[o.after.toList.foldl (fun m e=>match Region.binds .any e with | true=>m ||| (2 ^ e.on ||| acc.getD e.on 0) | false=>m) 0])
theorem WN{ops:Array Oper}{acc:List Nat}(hacc:∀j m,acc[j]?=some m→∀i,m.testBit i=true→oO ops i j){n:Nat}:∀(es:List Edge) (m0:Nat),(∀i,m0.testBit i=true→oO ops i n)→(∀e∈es,Region.binds .any e=true→e.on∈waits ops n) →
  ∀i,(es.foldl (fun m e=>match Region.binds .any e with | true=>m ||| (2 ^ e.on ||| acc.getD e.on 0) | false=>m) m0).testBit i=true→oO ops i n
 |[],_,h,_=>h
 |e::es,m0,h,hw=>by
  rw[List.foldl_cons];refine WN hacc es _ ?_ (fun e' he'=>hw e' (lm _ he'));intro i hi;cases hb:Region.binds .any e with
  |false=>rw[hb]at hi;exact h i hi
  |true =>
   rw[hb]at hi;simp only[Nat.testBit_or,Bool.or_eq_true]at hi;have hwe:=hw e (PP) hb;rcases hi with hi | hi | hi
   ·exact h i hi
   ·rw[Nat.testBit_two_pow]at hi;have:e.on=i:=Zad hi;subst this;exact .one hwe
   ·cases ha:acc[e.on]? with
    |none=>simp[List.getD,ha]at hi
    |some m=>exact .more hwe (hacc e.on m ha i (by simpa[List.getD,ha] using hi))
theorem YG{ops:Array Oper}:∀(os:List Oper) (acc:List Nat),(∀i o,os[i]?=some o→ops[acc.length+i]?=some o)→(∀j m,acc[j]?=some m→∀i,m.testBit i=true→oO ops i j) →
  ∀j m,(EG os acc)[j]?=some m→∀i,m.testBit i=true→oO ops i j
 |[],acc,_,h=>h
 |o::os,acc,ho,h=>by
  refine YG os _ (fun i o' hi=>?_) ?_
  ·have:=ho (i+1) o' (by simpa using hi);rw[Za4,Zaw];rw[←this];congr 1;omega
  ·intro j m hj;by_cases hlt:j < acc.length
   ·rw[ZaN hlt]at hj;exact h j m hj
   ·have hj':j=acc.length:=by
     have:=(Pi.1 hj).1;simp at this;omega
    subst hj';rw[ZaK (NE _),Zbl]at hj;simp only[List.getElem?_cons_zero,Option.some.injEq]at hj;subst hj;refine WN h _ 0 (fun i hi=>by simp at hi) fun e he hb=>?_
    have:=ho 0 o rfl;rw[Nat.add_zero]at this;exact (WL this).2 ⟨e,Array.mem_toList_iff.1 he,hb,rfl⟩
def JY(m:Nat)(y:Fp):List Fp→Nat→Bool
 |[],_=>true
 |x::xs,i=>(match x.conf y with | true=>m.testBit i | false=>true) && JY m y xs (i+1)
def xB:List Fp→List Fp→List Nat→Bool
 |_,[],_=>true
 |pre,y::ys,m::ms=>JY m y pre 0 && xB (pre++[y]) ys ms
 |_,_::_,[]=>false
theorem YH{m:Nat}{y:Fp}:∀{xs:List Fp} {k:Nat},JY m y xs k=true→∀i x,xs[i]?=some x→x.conf y=true→m.testBit (k+i)=true
 |[],_,_,i,x,hi,_=>by simp at hi
 |x0::xs,k,h,i,x,hi,hc=>by
  unfold JY at h;rw[AC]at h;cases i with
  |zero =>
   cases hi;rw[hc]at h;exact h.1
  |succ i =>
   have:=YH h.2 i x (by simpa using hi) hc;rw[←this];congr 1;omega
theorem YI:∀{ys pre:List Fp} {ms:List Nat},xB pre ys ms=true→∀i j x y,i < j→(pre++ys)[i]?=some x→ys[j - pre.length]?=some y→pre.length≤j→x.conf y=true→∃m,ms[j - pre.length]?=some m∧m.testBit i=true
 |[],_,_,_,i,j,x,y,_,_,hy,_,_=>by simp at hy
 |y0::ys,pre,[],h,_,_,_,_,_,_,_,_,_=>by simp[xB]at h
 |y0::ys,pre,m0::ms,h,i,j,x,y,hij,hx,hy,hj,hc=>by
  unfold xB at h;rw[AC]at h;by_cases e:j=pre.length
  ·subst e;rw[Zbl]at hy ⊢
   cases hy;rw[ZaN hij]at hx;have:=YH h.1 i x hx hc;rw[ZaH]at this;exact⟨m0,rfl,this⟩
  ·have hs:j - pre.length=(j - (pre++[y0]).length)+1:=by simp;omega
   rw[hs]at hy ⊢
   obtain⟨m,h1,h2⟩:=YI h.2 i j x y hij (by simpa using hx) (by simpa using hy) (by simp;omega) hc;exact⟨m,by simpa using h1,h2⟩
def Ij(E:En)(ops:Array Oper)(draw:Bool)(s:AS)(an:List An):Option (AS×List Prop×List An) :=
 match JX E ops ops.toList s an with
 |none=>none
 |some (s',fs,ps,O7)=>match !draw || (zB ops && xB [] fs (EG ops.toList [])) with
  |true=>some (s',ps,O7)
  |false=>none
theorem WO{E:En}{ops:Array Oper}{draw:Bool}{id nt:Nat}{fs:List Fp}{U9:Nat→Nat→AV}{P8:Nat→Nat→Option Bx}(hfl:fs.length=ops.toList.length)(jF:(!draw || (zB ops && xB [] fs (EG ops.toList [])))=true)
  (hst:∀i o f,ops.toList[i]?=some o→fs[i]?=some f→Stp E ops nt o (U9 i) (P8 i) (U9 (i+1)) (P8 (i+1)) f) (hfin:∃K,∀i,i≤ops.toList.length→∀k,K≤k→P8 i k=none)
  {X:Nat→Prop} {n0:Nat} {w0:World×Mm} {ok0:Nat→Prop} (hG:∀w,aN X n0 w0.1 w→E.G w) {Q:Exit→Act→World→Prop} {a:Act} {w:World} (h0:Left X n0 w0 ok0 nt (U9 0) (P8 0) a w) (hQ:∀a w,Left X n0 w0 ok0 nt (U9 ops.toList.length) (P8 ops.toList.length) a w→Q .normal a w) :
  (Code.region id ops draw).wp E.P Q a w:=by
 have hsz:ops.toList.length=ops.size:=I;have hst':∀i o,ops[i]?=some o→Stp E ops nt o (U9 i) (P8 i) (U9 (i+1)) (P8 (i+1)) (fs.getD i ⟨[],none,[],false,false⟩):=by
  intro i o ho;have hi:=(Array.getElem?_eq_some_iff.1 ho).1;have hf:fs[i]?=some (fs.getD i ⟨[],none,[],false,false⟩):=by
   have hi':i < fs.length:=J;simp[hi']
  exact hst i o _ (by simpa using ho) hf
 rw[hsz]at hQ hfin;cases draw with
 |true =>
  simp only[Bool.not_true,Bool.false_or,AC]at jF;refine wp_region_any E.hm ?_;refine a6q (U9:=U9) (P8:=P8) (fp:=fun i=>fs.getD i ⟨[],none,[],false,false⟩) hst' ?_ jF.1 hfin hG ?_ hQ
  ·intro i j hij hj hc;have hi':i < fs.length:=J;have hj':j < fs.length:=J;obtain⟨m,h1,h2⟩:=YI jF.2 i j (fs.getD i ⟨[],none,[],false,false⟩) (fs.getD j ⟨[],none,[],false,false⟩) hij (by simp[hi']) (by simp[hj']) (ww _) hc;exact YG ops.toList [] (fun i o hi=>by simpa using hi) (fun j m hj=>by simp at hj) j m (by simpa using h1) i h2
  ·obtain⟨M,hI⟩:=h0;have g:U1 X n0 M w M { w with drawn:=w.drawn+1 }:=⟨⟨rfl,rfl,rfl,NE _,fun _ _ _=>rfl⟩,fun _ _ _=>rfl,fun _ h _=>h,fun _ _ h=>h,fun _=>uF rfl⟩;exact⟨M,hI.same g (hI.J4.grow g rfl rfl (fun _ _ _ _ _=>rfl) fun q hq=>⟨hI.J4.fz q hq,.inl hq⟩) fun _ h=>.inl h⟩
 |false =>
  refine wp_region ?_;have key:∀k i,i+k=ops.size→∀a w,Left X n0 w0 ok0 nt (U9 i) (P8 i) a w→wpOps E.P ops Q (List.range' i k) a w:=by
   intro k
   induction k with
   |zero =>
    intro i hi a w hL;obtain rfl:i=ops.size:=J;exact hQ a w hL
   |succ k ih =>
    intro i hi a w hL;have ho:ops[i]?=some ops[i]:=Array.getElem?_eq_getElem J;rw[List.range'_succ,wpOps_cons];exact (hst' i _ ho).wp ho (by obtain⟨K,h⟩:=hfin;exact⟨K,h i J⟩) hL hG fun a w hL'=>ih (i+1) J a w hL'
  rw[List.range_eq_range'];exact key ops.size 0 J a w h0
theorem a4W{E:En}{ops:Array Oper}{draw:Bool}{id:Nat}{s s':AS}{an O7:List An}{ps:List Prop}(h:Ij E ops draw s an=some (s',ps,O7))(hp:I5 ps)
  {X:Nat→Prop} {n0:Nat} {w0:World×Mm} {ok0:Nat→Prop} (hG:∀w,aN X n0 w0.1 w→E.G w) {Q:Exit→Act→World→Prop} {a:Act} {w:World} (h0:Left X n0 w0 ok0 s.tm.length s.J8 s.G5 a w) (hQ:∀a w,Left X n0 w0 ok0 s.tm.length s'.J8 s'.G5 a w→Q .normal a w) :
  (Code.region id ops draw).wp E.P Q a w:=by
 unfold Ij at h;split at h
 ·cases h
 rename_i s1 fs ps1 fP hrun;split at h
 case h_2=>cases h
 rename_i jF;cases h;obtain⟨_,hfl,U9,P8,e1,e2,e3,e4,hfin,hst⟩:=Ot hrun hp;exact WO hfl jF hst hfin hG (by rw[e1,e2];exact h0) (by rw[e3,e4];exact hQ)
end Go.Proofs.YthhknjlmjefklaaGreatDoor
