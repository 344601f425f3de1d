/- Plain walks, second form: every operation does what its plain step says. -/
import Derived.Test.YthhknjlmjefklaaGreatDoorMF
import Derived.Lib.SliceRun
import Derived.Test.YthhknjlmjefklaaGreatDoorMD
import Derived.Scope
import Derived.Deep.LoopGhost
namespace Go.Proofs.YthhknjlmjefklaaGreatDoor
open Go.RowKit
section
variable {E:En} {X:Nat→Prop} {n0:Nat} {w0:World×Mm} {ok0:Nat→Prop} {M:Mm} {nt:Nat} {tm:Nat→AV} {bx:Nat→Option Bx} {a:Act} {w:World} {o:Oper} {Q:Exit→Act→World→Prop}
set_option maxHeartbeats 2000000 in
theorem adec_sound {act:AAct} {an an':List An} {k:Nat} {r:AV} {ups:List (Nat×Bx)} {ps:List Prop} (h:adec E o.op (aev tm) an=some (act,an')) (hr:act.run E bx k=some (r,ups,ps)) (hp:AllP ps) (hI:Inv X n0 w0 ok0 M nt tm bx a w) (hd:∀ t,o.dst=some t→t < nt) (hG:E.G w) (hk:∀ q∈act.news k,bx q=none) :
  o.wp E.P a w (Left X n0 w0 ok0 nt (updT tm o.dst r) (updB bx ups)) Q:=by
 unfold adec at h
 split at h
 case h_1 x hop =>
  cases h
  refine wp_one (u:=a.eval x) hr hI hd ?_ (hI.ev x)
  obtain ⟨dd,op,ty,pos,af,gd⟩:=o
  simp only at hop
  subst hop
  rfl
 case h_2 x hop =>
  cases h
  refine wp_one (u:=a.eval x) hr hI hd ?_ (hI.ev x)
  obtain ⟨dd,op,ty,pos,af,gd⟩:=o
  simp only at hop
  subst hop
  rfl
 case h_3 x hop =>
  have run:∀ g q,a.eval x=.pointer (some ⟨g,q,none⟩)→(execOp a.eval o).run E.P w=.ok (.value (a.eval x)) w:=fun g q e=>by
   obtain ⟨dd,op,ty,pos,af,gd⟩:=o
   simp only at hop
   subst hop
   simp only [execOp,e,Sem.run_pure]
  split at h
  ·rename_i b q hx
   cases h
   have hv:=hI.ev x
   rw [hx] at hv
   obtain ⟨g,h1,h2⟩:=hv
   exact wp_one hr hI hd (run _ _ h2) ⟨g,h1,h2⟩
  ·rename_i cs hx
   cases h
   have hv:=hI.ev x
   rw [hx] at hv
   obtain ⟨g,q,vs,h2,h3⟩:=hv
   exact wp_one hr hI hd (run _ _ h2) ⟨g,q,vs,h2,h3⟩
  ·cases h
 case h_4 c x z hop =>
  split at h
  ·rename_i t hc
   cases h
   have hv:=hI.ev c
   rw [hc] at hv
   have hv':a.eval c=.bool t:=Rd.val_eq hv
   refine wp_one (u:=if t then a.eval x else a.eval z) hr hI hd ?_ (by cases t <;> exact hI.ev _)
   obtain ⟨dd,op,ty,pos,af,gd⟩:=o
   simp only at hop
   subst hop
   simp only [execOp,hv',asBool,Sem.run_bind,Sem.run_pure,Result.andThen]
  ·cases h
 case h_5 t hop =>
  split at h
  ·rename_i z hz
   cases h
   obtain ⟨i,v,hi,hv,rfl⟩:=azero_run hz
   simp only [AAct.run] at hr
   split at hr
   ·cases hr
    have hrun:(execOp a.eval o).run E.P w=.ok (.value (.pointer (some ⟨w.heap.size,0,none⟩))) (w.alloc (.cells v.cells.toList.toArray t)):=by
     obtain ⟨dd,op,ty,pos,af,gd⟩:=o
     simp only at hop
     subst hop
     simp only [execOp,Instr.alloc,zeroValue,typeInfo,program,newVar,newRow,newObj,Sem.run_bind,Sem.run,Sem.run_pure,Result.andThen,hi,hv]
     rfl
    exact wp_ok hrun (hI.alloc (hk k (List.mem_singleton.2 rfl)) t (toAV_rl M w _) o.dst hd)
   ·cases hr
  ·cases h
 case h_6 t x hop =>
  cases h
  simp only [AAct.run] at hr
  split at hr
  ·rename_i h1
   cases hr
   obtain ⟨us,hu1,hu2⟩:=(hI.ev x).cells h1
   have hrun:(execOp a.eval o).run E.P w=.ok (.value (.pointer (some ⟨w.heap.size,0,none⟩))) (w.alloc (.cells us.toArray t)):=by
    obtain ⟨dd,op,ty,pos,af,gd⟩:=o
    simp only at hop
    subst hop
    simp only [execOp,Instr.box,newVar,newRow,newObj,Sem.run_bind,Sem.run,Sem.run_pure,Result.andThen,hu1]
    rfl
   exact wp_ok hrun (hI.alloc (hk k (List.mem_singleton.2 rfl)) t hu2 o.dst hd)
  ·cases hr
 case h_7 t x hop =>
  split at h
  ·rename_i n ag hn ha
   exact adLoad_sound hop hn ha h hr hp hI hd hG
  ·cases h
 case h_8 t x z hop =>
  split at h
  ·rename_i n b off hn hx
   split at h
   ·rename_i hb
    cases h
    have hb':=Nat.eq_of_beq_eq_true hb
    exact wp_store hop hI hd hx (by rw [hn,hb']) hr
   ·cases h
  ·rename_i n b i k' hn hx
   split at h
   ·rename_i hb
    cases h
    have hb':=Nat.eq_of_beq_eq_true hb
    exact wp_storeR hop hI hd hx (by rw [hn,hb']) hr hp
   ·cases h
  ·cases h
 case h_9 t qs hop =>
  split at h
  ·rename_i cs hcs
   cases h
   obtain ⟨vs,h1,h2⟩:=abuild_rv (RP.map hI.ev qs.toList) hcs
   refine wp_one (u:=.agg vs.toArray) hr hI hd ?_ ⟨vs,rfl,h2⟩
   obtain ⟨dd,op,ty,pos,af,gd⟩:=o
   simp only at hop
   subst hop
   have:=run_build (P:=E.P) w t (qs.map fun x=>(x.1,a.eval x.2)) vs.toArray (by rw [← h1];simp)
   simp only [execOp,Sem.run_bind,this,Result.andThen,Sem.run_pure]
  ·cases h
 case h_10 t len qs hop =>
  split at h
  case h_2=>cases h
  rename_i e i z he
  split at h
  case h_2 =>
   split at h
   ·rename_i hqs _
    cases h
    obtain ⟨u1,u2,u3⟩:=aelem_run he
    cases hr
    exact wp_bs0 hop hqs hI hd u1 u2 (hk k (List.mem_singleton.2 rfl))
   ·cases h
  rename_i hsz
  split at h
  case h_2=>cases h
  rename_i cs hcs
  cases h
  obtain ⟨u1,u2,u3⟩:=aelem_run he
  rw [Bool.and_eq_true] at hsz
  have hpos:¬ len * i.size=0:=fun e=>by rw [e] at hsz;exact absurd hsz.1 (by decide)
  have hsm:=Nat.le_of_ble_eq_true hsz.2
  obtain ⟨vs,h1,h2⟩:=fill_rl (M:=M) (w:=w) (RP.map hI.ev qs.toList) (vs:=(List.range (len * i.size)).map fun j=>z.cells[j % z.cells.size]!) (by
   have:=toAV_rl M w ((List.range (len * i.size)).map fun j=>z.cells[j % z.cells.size]!)
   rwa [List.map_map] at this) hcs
  refine wp_mk hop hI hd u1 u2 u3 hpos hsm (vs:=vs) ?_ h2 hr hp
  rw [show (Array.range (len * i.size)).map (fun j=>z.cells[j % z.cells.size]!)=((List.range (len * i.size)).map fun j=>z.cells[j % z.cells.size]!).toArray by apply Array.ext';simp]
  rw [← h1]
  simp
 case h_11 t x f hop =>
  split at h
  case h_2=>cases h
  rename_i off ft hf
  split at h
  case h_2=>cases h
  rename_i n hn
  obtain ⟨fs,fl,hu,hfl,rfl,rfl⟩:=afld_run hf
  have run:∀ g q,a.eval x=.pointer (some ⟨g,q,none⟩)→(execOp a.eval o).run E.P w=.ok (.value (.pointer (some ⟨g,q+fl.offset,none⟩))) w:=fun g q h=>by
   obtain ⟨dd,op,ty,pos,af,gd⟩:=o
   simp only at hop
   subst hop
   simp only [execOp,Instr.fieldAt,fieldPlace,Instr.sureAddr,h,Sem.run_bind,Sem.run_pure,Result.andThen,run_underlying hu,hfl,run_sizeOf hn,Nat.succ_ne_zero,if_false,add_addr]
  split at h
  ·rename_i b q hx
   cases h
   have hv:=hI.ev x
   rw [hx] at hv
   obtain ⟨g,h1,h2⟩:=hv
   exact wp_one hr hI hd (run _ _ h2) ⟨g,h1,rfl⟩
  ·rename_i cs hx
   cases h
   have hv:=hI.ev x
   rw [hx] at hv
   obtain ⟨g,q,vs,h2,h3,h4,h5,h6⟩:=hv
   refine wp_one hr hI hd (run _ _ h2) ⟨g,q+fl.offset,vs.drop fl.offset,rfl,h3,h4,fun j u hj=>?_,h6.drop _⟩
   rw [List.getElem?_drop] at hj
   rw [Nat.add_assoc]
   exact h5 _ u hj
  ·cases h
 case h_12 t x f hop =>
  split at h
  case h_2=>cases h
  rename_i off ft hf
  obtain ⟨fs,fl,hu,hfl,rfl,rfl⟩:=afld_run hf
  split at h
  ·rename_i n cs hn ha hx
   cases h
   have hv:=hI.ev x
   rw [hx] at hv
   obtain ⟨vs,hv,hl⟩:=hv
   refine wp_one (u:=.agg ((vs.drop fl.offset).take n).toArray) hr hI hd ?_ ⟨_,rfl,(hl.drop _).take _⟩
   have e:(vs.toArray.extract fl.offset (fl.offset+n))=((vs.drop fl.offset).take n).toArray:=by
    apply Array.ext'
    simp [List.take_drop,Nat.add_comm]
   obtain ⟨dd,op,ty,pos,af,gd⟩:=o
   simp only at hop
   subst hop
   simp only [execOp,Instr.field,hv,asAgg,part,Sem.run_bind,Sem.run_pure,Result.andThen,run_underlying hu,hfl,run_isAgg ha,run_sizeOf hn,if_true,e]
  ·rename_i n cs hn ha hx
   split at h
   ·rename_i c hc
    cases h
    have hv:=hI.ev x
    rw [hx] at hv
    obtain ⟨vs,hv,hl⟩:=hv
    obtain ⟨u,hu1,hu2⟩:=hl.get hc
    refine wp_one (u:=u) hr hI hd ?_ hu2
    have e:vs.toArray[fl.offset]?=some u:=by simpa using hu1
    obtain ⟨dd,op,ty,pos,af,gd⟩:=o
    simp only at hop
    subst hop
    simp only [execOp,Instr.field,hv,asAgg,part,Sem.run_bind,Sem.run_pure,Result.andThen,run_underlying hu,hfl,run_isAgg ha,Bool.false_eq_true,if_false,e]
   ·cases h
  ·cases h
 case h_13 t x i hop =>
  split at h
  ·rename_i e n hu hi
   split at h
   ·rename_i ie hie
    exact adIdx_sound hop hu hie hi h hr hp hI hd
   ·cases h
  ·rename_i len e n hu hi
   have arr:∀ {sz g:Nat},asz E.P e=some sz→aev tm x=.gl g 0→0≤n→n < (len:Int)→(execOp a.eval o).run E.P w=.ok (.value (.pointer (some ⟨g,n.toNat * sz,none⟩))) w:=by
    intro sz g hsz hx h0 h1
    obtain ⟨ki,hki⟩:=intOf_rv hi (hI.ev i)
    have hv:=hI.ev x
    rw [hx] at hv
    have hv':a.eval x=.pointer (some ⟨g,0,none⟩):=hv
    have e2:=add_addr g 0 (n.toNat * sz)
    rw [Nat.zero_add] at e2
    obtain ⟨dd,op,ty,pos,af,gd⟩:=o
    simp only at hop
    subst hop
    have hb:0≤n∧n < (len:Int):=⟨h0,h1⟩
    simp only [execOp,Instr.indexAt,asIntOf,hki,hv',Instr.sureAddr,Sem.run_bind,Sem.run_pure,Result.andThen,run_underlying hu,if_pos hb,run_sizeOf hsz,e2]
   split at h
   ·rename_i sz g an2 hsz hx hnx
    cases h
    cases hr
    exact wp_val hI hd (arr hsz hx hp.1.1 hp.1.2.1) rfl
   ·rename_i sz g an2 hsz hx hnx
    split at h
    ·rename_i hc
     cases h
     simp only [Bool.and_eq_true] at hc
     exact wp_one hr hI hd (arr hsz hx (of_decide_eq_true hc.1.1) (of_decide_eq_true hc.1.2)) rfl
    ·cases h
   ·cases h
  ·cases h
 case h_14 t x i hop =>
  split at h
  case h_2=>cases h
  rename_i s n hu hx hi
  obtain ⟨ki,hki⟩:=intOf_rv hi (hI.ev i)
  have hv:=hI.ev x
  rw [hx] at hv
  have hv':a.eval x=.string s:=Rd.val_eq hv
  have run:∀ b,0≤n→s[n.toNat]?=some b→(execOp a.eval o).run E.P w=.ok (.value (.int .u8 b.toNat)) w:=fun b h0 hb=>by
   obtain ⟨dd,op,ty,pos,af,gd⟩:=o
   simp only at hop
   subst hop
   simp only [execOp,Instr.index,asIntOf,hki,hv',Sem.run_bind,Sem.run_pure,Result.andThen,run_underlying hu,if_pos h0,hb]
  split at h
  ·cases h
   cases hr
   obtain ⟨b,h0,hb,rfl⟩:=hp.1
   exact wp_val hI hd (run b h0 hb) (Rd.val _)
  ·split at h
   ·rename_i b h0 hb
    cases h
    exact wp_one hr hI hd (run b (of_decide_eq_true h0) ((bytes_get _ _).trans hb)) (Rd.val _)
   ·cases h
 case h_15 op t x z yt hop =>
  split at h
  case h_2 =>
   rename_i hx hy
   split at h
   ·rename_i e es an1 an2 hu hxs hnx
    cases h
    cases hr
    refine wp_val hI hd ?_ (Rd.val _)
    have hv:=hI.ev x
    rw [hxs] at hv
    have hz:=(hI.ev z).sv hy
    have hr2:Rd M.F w (a.eval x) (.row es):=hv
    have hne:es≠[]:=hp.1
    obtain ⟨A,n,c,hA,hm,_⟩:=Rd.slice hr2
    rw [hA] at hr2
    have hAs:A.isNone=false:=by
     cases hr2 with
     | nil=>exact absurd rfl hne
     | row=>rfl
    obtain ⟨dd,op,ty,pos,af,gd⟩:=o
    simp only at hop
    subst hop
    have:=Lib.run_eql_slice_nil (P:=E.P) w t e A n c 0 0 hu
    rw [hAs] at this
    simp only [execOp,hA,hz,eqGuard,Sem.run_bind,Sem.run_pure,Result.andThen,Bool.not_true,Bool.false_eq_true,if_false,this]
   ·cases h
  case h_3=>cases h
  rename_i vx vy hx hy
  have run:∀ rr,BinIs E.P op t x z vx vy rr→(execOp a.eval o).run E.P w=.ok (.value rr) w:=fun rr hb=>by
   obtain ⟨dd,op,ty,pos,af,gd⟩:=o
   simp only at hop
   subst hop
   have:=hb w
   simp only [execOp,(hI.ev x).sv hx,(hI.ev z).sv hy,Sem.run_bind,Sem.run_pure] at this ⊢
   rw [this]
   rfl
  unfold adBin at h
  split at h
  ·split at h
   ·rename_i rr hs
    cases h
    exact wp_one hr hI hd (run rr (sbin_is hs)) (Rd.val _)
   ·cases h
  ·cases h
   cases hr
   exact wp_val hI hd (run _ hp.1) (Rd.val _)
  ·cases h
 case h_16 op t x hop =>
  split at h
  case h_2=>cases h
  rename_i v hx
  split at h
  case h_2=>cases h
  rename_i rr hs
  cases h
  refine wp_one (u:=rr) hr hI hd ?_ (Rd.val _)
  have:=sun_is (P:=E.P) hs w
  obtain ⟨dd,op,ty,pos,af,gd⟩:=o
  simp only at hop
  subst hop
  simp only [execOp,(hI.ev x).sv hx,this,Sem.run_bind,Sem.run_pure,Result.andThen]
 case h_17 x i hop =>
  split at h
  ·rename_i cs hx
   split at h
   ·rename_i c hc
    cases h
    have hv:=hI.ev x
    rw [hx] at hv
    obtain ⟨vs,hv,hl⟩:=hv
    obtain ⟨u,hu1,hu2⟩:=hl.get hc
    refine wp_one (u:=u) hr hI hd ?_ hu2
    obtain ⟨dd,op,ty,pos,af,gd⟩:=o
    simp only at hop
    subst hop
    have e:vs.toArray[i]?=some u:=by simpa using hu1
    simp only [execOp,hv,Instr.extract,Sem.run_bind,Sem.run_pure,Result.andThen,e]
   ·cases h
  ·cases h
 case h_18 src dst x hop =>
  split at h
  ·rename_i k1 k2 k3 n hs hds hx
   have hv:=(hI.ev x).sv hx
   have hrun:(execOp a.eval o).run E.P w=.ok (.value (.int k2 (k2.wrap n))) w:=by
    obtain ⟨dd,op,ty,pos,af,gd⟩:=o
    simp only at hop
    subst hop
    have hcv:(convert src dst (.int k3 n)).run E.P w=.ok (.int k2 (k2.wrap n)) w:=by
     unfold convert
     simp only [Sem.run_bind,run_underlying hs,run_underlying hds,Result.andThen]
     rfl
    simp only [execOp,hv,hcv,Sem.run_bind,Sem.run_pure,Result.andThen]
   split at h
   ·cases h
    cases hr
    rw [hp.1]
    exact wp_val hI hd hrun (Rd.val _)
   ·cases h
    exact wp_one hr hI hd hrun (Rd.val _)
  ·rename_i e hs hds hx
   split at h
   ·rename_i l an2 hue hnx
    cases h
    exact wp_rdb hop hI hd hs hue hds hr hp
   ·cases h
  ·cases h
 case h_19 f caps hop =>
  have hex:(execOp a.eval o).run E.P w=.ok (.value (.func (.func f) #[] (caps.toList.map a.eval).toArray)) w:=by
   obtain ⟨dd,op,ty,pos,af,gd⟩:=o
   simp only at hop
   subst hop
   have e:caps.map a.eval=(caps.toList.map a.eval).toArray:=by
    apply Array.ext';simp
   have e0:(⟨[]⟩:Array Operand).map a.eval=#[]:=by
    show (#[]:Array Operand).map a.eval=#[]
    simp
   simp only [execOp,Instr.makeFunc,Sem.run_bind,Sem.run_pure,Result.andThen,e,e0]
  have hrv:RV M w (.clo f (caps.toList.map (aev tm))) (.func (.func f) #[] (caps.toList.map a.eval).toArray):=⟨_,rfl,RL.map hI.ev _⟩
  split at h
  ·cases h
   simp only [AAct.run] at hr
   split at hr
   ·rename_i c' qs hc
    cases hr
    obtain ⟨M1,hI1,h1,h2,h3,h4⟩:=hI.handV hc hp hrv
    unfold Oper.wp
    rw [hex]
    exact ⟨M1,hI1.val o.dst hd (RV.lift (M:=M1) (fun _ h _=>h) h1)⟩
   ·cases hr
  ·cases h
   exact wp_one hr hI hd hex hrv
 case h_20 t hop =>
  split at h
  ·cases h
   cases hr
   exact wp_newmd hop hI hd (hk k (List.mem_singleton.2 rfl))
  ·cases h
   cases hr
   exact wp_newm hop hI hd (hk k (List.mem_singleton.2 rfl))
 case h_21 t m x y hop =>
  split at h
  case h_2=>cases h
  rename_i kt z b key hmp hm hx
  cases h
  obtain ⟨e,i,u1,_,_⟩:=amap_run hmp
  exact wp_ins (.inl hop) hI hd u1 hm ((hI.ev x).sv hx) hr hp
 case h_22 t m x ok hop =>
  split at h
  ·rename_i kt z b key _ i v an2 hmp hm hx hnx
   cases h
   obtain ⟨e,ie,u1,u2,u3⟩:=amap_run hmp
   exact wp_lookP hop hI hd u1 u2 u3 hm ((hI.ev x).sv hx) hr hp
  ·rename_i kt z b key _ i an2 hmp hm hx hnx
   cases h
   obtain ⟨e,ie,u1,u2,u3⟩:=amap_run hmp
   exact wp_look hop hI hd u1 u2 u3 hm ((hI.ev x).sv hx) hr hp
  ·rename_i kt z b key an2 hmp hm hx hnx
   cases h
   obtain ⟨e,ie,u1,u2,u3⟩:=amap_run hmp
   exact wp_look hop hI hd u1 u2 u3 hm ((hI.ev x).sv hx) hr hp
  ·cases h
 case h_23 t x y hop =>
  split at h
  ·rename_i e i z l c b n an2 he hx hy hnx
   split at h
   case h_2=>cases h
   rename_i hc
   cases h
   cases hr
   obtain ⟨u1,u2,u3⟩:=aelem_run he
   obtain ⟨kl,hkl⟩:=intOf_rv hx (hI.ev x)
   obtain ⟨kc,hkc⟩:=intOf_rv hy (hI.ev y)
   simp only [Bool.and_eq_true] at hc
   obtain ⟨h1,h2,h3⟩:=hp.1
   exact wp_mkn hop hI hd u1 u2 u3 (Nat.eq_of_beq_eq_true hc.1.1) (fun u hu=>List.all_eq_true.1 hc.1.2 u hu) (Nat.le_of_ble_eq_true hc.2) hkl hkc (hk k (List.mem_singleton.2 rfl)) h1 h2 h3
  ·rename_i e i z c _ an2 _ he hx hy hnx
   cases h
   cases hr
   obtain ⟨u1,u2,u3⟩:=aelem_run he
   obtain ⟨kl,hkl⟩:=intOf_rv hx (hI.ev x)
   obtain ⟨kc,hkc⟩:=intOf_rv hy (hI.ev y)
   exact wp_mk0 hop hI hd u1 (z:=z) (by rw [u2];simp [u3]) hkl hkc (hk k (List.mem_singleton.2 rfl)) hp.1
  ·rename_i e i z n c _ an2 _ he hx hy hnx
   split at h
   case h_2=>cases h
   rename_i hc
   cases h
   cases hr
   obtain ⟨u1,u2,u3⟩:=aelem_run he
   obtain ⟨kl,hkl⟩:=intOf_rv hx (hI.ev x)
   obtain ⟨kc,hkc⟩:=intOf_rv hy (hI.ev y)
   simp only [Bool.and_eq_true] at hc
   obtain ⟨h1,h2,h3⟩:=hp.1
   exact wp_mkn hop hI hd u1 u2 u3 (Nat.eq_of_beq_eq_true hc.1.1) (fun u hu=>List.all_eq_true.1 hc.1.2 u hu) (Nat.le_of_ble_eq_true hc.2) hkl hkc (hk k (List.mem_singleton.2 rfl)) h1 h2 h3
  ·cases h
 case h_24 t x lo hi mx hop =>
  split at h
  ·rename_i e l hh m hu hlo hhi hmx
   split at h
   ·rename_i sz rs an2 hsz hnx
    cases h
    exact wp_slc hop hI hd hu hsz (intOp_rv hI.ev hlo) (intOp_rv hI.ev hhi) (intOp_rv hI.ev hmx) hr hp
   ·rename_i sz an2 hsz hnx
    cases h
    exact wp_slc hop hI hd hu hsz (intOp_rv hI.ev hlo) (intOp_rv hI.ev hhi) (intOp_rv hI.ev hmx) hr hp
   ·cases h
  ·rename_i l hh hu hlo hhi hmx
   have hmx':mx=none:=by
    rcases intOp_rv (M:=M) (w:=w) hI.ev hmx with ⟨h1,_⟩ | ⟨y,k1,z,_,_,h1⟩
    ·exact h1
    ·cases h1
   subst hmx'
   have key:∀ s,aev tm x=.dt (.val (.string s))→∀ rr,SlcS s (l.getD 0) (hh.getD s.size) rr→(execOp a.eval o).run E.P w=.ok (.value rr) w:=by
    intro s hx rr ⟨h1,h2,h3,h4⟩
    have hv:=hI.ev x
    rw [hx] at hv
    have hv':a.eval x=.string s:=Rd.val_eq hv
    obtain ⟨L,hL⟩:∃ L:Nat,l.getD 0=L:=⟨(l.getD 0).toNat,by omega⟩
    obtain ⟨H,hH⟩:∃ H:Nat,hh.getD s.size=H:=⟨(hh.getD s.size).toNat,by omega⟩
    rw [hL,hH] at h2 h4
    rw [hH] at h3
    have b:∀ (k:IntKind) (i y:Nat) (code:BoundsCode),i≤y→(Instr.sliceBound (.int k i) y code).run E.P w=.ok i w:=fun k i y code h=>by
     have:=run_sliceBound (P:=E.P) w k i y code (by omega) (by omega)
     simpa using this
    have hbd:(Instr.sliceBounds false s.size s.size (lo.map a.eval) (hi.map a.eval) none).run E.P w=.ok (L,H,s.size) w:=by
     rcases intOp_rv hI.ev hlo with ⟨rfl,rfl⟩ | ⟨y,k1,z,rfl,hy,rfl⟩ <;> rcases intOp_rv hI.ev hhi with ⟨rfl,rfl⟩ | ⟨y2,k2,z2,rfl,hy2,rfl⟩ <;> simp only [Option.getD_none,Option.getD_some] at hL hH
     ·have:L=0:=by omega
      subst this
      have:H=s.size:=by omega
      subst this
      simp [Instr.sliceBounds]
     ·have:L=0:=by omega
      subst this
      subst hH
      simp [Instr.sliceBounds,hy2,b,show H≤s.size by omega]
     ·have:H=s.size:=by omega
      subst this
      subst hL
      simp [Instr.sliceBounds,hy,b,show L≤s.size by omega]
     ·subst hL
      subst hH
      simp [Instr.sliceBounds,hy,hy2,b,show L≤H by omega,show H≤s.size by omega]
    obtain ⟨dd,op,ty,pos,af,gd⟩:=o
    simp only at hop
    subst hop
    have e2:=run_sliceAt_string (P:=E.P) w t (.string s) (lo.map a.eval) (hi.map a.eval) none hu
    have e3:(Instr.slice t (.string s) (lo.map a.eval) (hi.map a.eval) none).run E.P w=.ok rr w:=by
     unfold Instr.slice
     simp only [Sem.run_bind,run_underlying hu,Result.andThen,Option.isSome_none,Bool.false_eq_true,if_false,hbd,Sem.run_pure]
     rw [h4]
     simp
    simp only [execOp,Sem.run_bind,hv',Option.map_none,e2,e3,Result.andThen,Sem.run_pure]
   split at h
   ·rename_i s rr an2 hx hnx
    cases h
    cases hr
    exact wp_val hI hd (key s hx rr hp.1) (Rd.val _)
   ·rename_i s _ an2 _ hx hnx
    split at h
    ·rename_i hc
     cases h
     simp only [Bool.and_eq_true] at hc
     refine wp_one hr hI hd (key s hx _ ⟨of_decide_eq_true hc.1.1,of_decide_eq_true hc.1.2,of_decide_eq_true hc.2,?_⟩) (Rd.val _)
     rw [Lib.extract_eq]
    ·cases h
   ·cases h
  ·cases h
 case h_25 c hop=>exact adCall_sound hop h hr hp hI hd hG hk
 case h_26 t m x y hop =>
  split at h
  ·rename_i kt z b key hmp hm hx
   cases h
   obtain ⟨e,i,u1,_,_⟩:=amap_run hmp
   exact wp_ins (.inr hop) hI hd u1 hm ((hI.ev x).sv hx) hr hp
  ·cases h
 case h_27=>cases h
end
end Go.Proofs.YthhknjlmjefklaaGreatDoor
namespace Go.Proofs.YthhknjlmjefklaaGreatDoor
open Go.RowKit
def waits (ops:Array Oper) (i:Nat):List Nat :=
 match ops[i]? with
 | some o=>(o.after.toList.filter (Region.binds .any)).map (·.on)
 | none=>[]
theorem mem_waits {ops:Array Oper} {i j:Nat} {o:Oper} (ho:ops[i]?=some o):j∈waits ops i↔∃ e∈o.after,Region.binds .any e=true∧e.on=j:=by
 unfold waits
 rw [ho]
 simp only [List.mem_map,List.mem_filter,Array.mem_toList_iff]
 exact ⟨fun ⟨e,h1,h2⟩=>⟨e,h1.1,h1.2,h2⟩,fun ⟨e,h1,h2,h3⟩=>⟨e,⟨h1,h2⟩,h3⟩⟩
end Go.Proofs.YthhknjlmjefklaaGreatDoor
namespace Go.Proofs.YthhknjlmjefklaaGreatDoor
open Go.RowKit
theorem adec_loc {E:En} {op:Op} {ρ ρ':Operand→AV} {an:List An} (h:∀ x∈op.operands.toList,ρ x=ρ' x):adec E op ρ an=adec E op ρ' an:=by
 have hop:∀ x:Option Operand,(∀ y,x=some y→ρ y=ρ' y)→intOp ρ x=intOp ρ' x:=fun x hx=>by
  cases x with
  | none=>rfl
  | some y=>simp only [intOp,hx y rfl]
 cases op with
 | move x=>have h1:=h x (by simp [Op.operands]);simp only [adec,h1]
 | assign x=>have h1:=h x (by simp [Op.operands]);simp only [adec,h1]
 | nilCheck x=>have h1:=h x (by simp [Op.operands]);simp only [adec,h1]
 | pick c x y =>
  have h1:=h c (by simp [Op.operands]);have h2:=h x (by simp [Op.operands]);have h3:=h y (by simp [Op.operands])
  simp only [adec,h1,h2,h3]
 | alloc t=>rfl
 | box t x=>have h1:=h x (by simp [Op.operands]);simp only [adec,h1]
 | load t x=>have h1:=h x (by simp [Op.operands]);simp only [adec,h1]
 | store t x y=>have h1:=h x (by simp [Op.operands]);have h2:=h y (by simp [Op.operands]);simp only [adec,h1,h2]
 | build t ps =>
  have e:(ps.toList.map fun x=>(x.1,ρ x.2))=ps.toList.map fun x=>(x.1,ρ' x.2):=List.map_congr_left fun x hx=>by
   rw [h x.2 (by simp only [Op.operands,List.mem_map];exact ⟨x,hx,rfl⟩)]
  simp only [adec,e]
 | buildSlice t len ps =>
  have e:(ps.toList.map fun x=>(x.1,ρ x.2))=ps.toList.map fun x=>(x.1,ρ' x.2):=List.map_congr_left fun x hx=>by
   rw [h x.2 (by simp only [Op.operands,List.mem_map];exact ⟨x,hx,rfl⟩)]
  simp only [adec,e]
 | fieldAddr t x f=>have h1:=h x (by simp [Op.operands]);simp only [adec,h1]
 | field t x f=>have h1:=h x (by simp [Op.operands]);simp only [adec,h1]
 | indexAddr t x i=>have h1:=h x (by simp [Op.operands]);have h2:=h i (by simp [Op.operands]);simp only [adec,h1,h2]
 | index t x i=>have h1:=h x (by simp [Op.operands]);have h2:=h i (by simp [Op.operands]);simp only [adec,h1,h2]
 | binOp op t x y yt=>have h1:=h x (by simp [Op.operands]);have h2:=h y (by simp [Op.operands]);simp only [adec,h1,h2]
 | unOp op t x=>have h1:=h x (by simp [Op.operands]);simp only [adec,h1]
 | extract x i=>have h1:=h x (by simp [Op.operands]);simp only [adec,h1]
 | convert s d x=>have h1:=h x (by simp [Op.operands]);simp only [adec,h1]
 | makeFunc fn first caps =>
  have e:caps.toList.map ρ=caps.toList.map ρ':=List.map_congr_left fun x hx=>h x (by simp [Op.operands];right;simpa using hx)
  obtain ⟨fl⟩:=first
  cases fn <;> cases fl <;> first | rfl | simp only [adec,e]
 | makeMap t r=>cases r <;> rfl
 | mapUpdate t m x y=>have h1:=h m (by simp [Op.operands]);have h2:=h x (by simp [Op.operands]);have h3:=h y (by simp [Op.operands]);simp only [adec,h1,h2,h3]
 | insert t m x y=>have h1:=h m (by simp [Op.operands]);have h2:=h x (by simp [Op.operands]);have h3:=h y (by simp [Op.operands]);simp only [adec,h1,h2,h3]
 | lookup t m x ok=>have h1:=h m (by simp [Op.operands]);have h2:=h x (by simp [Op.operands]);simp only [adec,h1,h2]
 | makeSlice t x y=>have h1:=h x (by simp [Op.operands]);have h2:=h y (by simp [Op.operands]);simp only [adec,h1,h2]
 | slice t x lo hi mx =>
  have h1:=h x (by simp [Op.operands])
  have h2:=hop lo fun y e=>h y (by subst e;simp [Op.operands])
  have h3:=hop hi fun y e=>h y (by subst e;simp [Op.operands])
  have h4:=hop mx fun y e=>h y (by subst e;simp [Op.operands])
  simp only [adec,h1,h2,h3,h4]
 | call c =>
  obtain ⟨callee,args,ts⟩:=c
  have ha:∀ x∈args.toList,ρ x=ρ' x:=fun x hx=>h x (by simp [Op.operands,Call.operands];right;simpa using hx)
  cases callee with
  | value x =>
   have h1:=h x (by simp [Op.operands,Call.operands])
   have e:args.toList.map ρ=args.toList.map ρ':=List.map_congr_left ha
   simp only [adec,adCall,h1,e]
  | invoke x s=>rfl
  | builtin b =>
   simp only [adec]
   unfold adCall
   split <;> first | rfl | skip
   all_goals (rename_i heq;try cases heq)
   ·rename_i x t ts
    have h1:=ha x (by simp)
    simp only [h1]
   ·rename_i x y
    have h1:=ha x (by simp)
    have h2:=ha y (by simp)
    simp only [h1,h2]
   ·rename_i x y
    have h1:=ha x (by simp)
    have h2:=ha y (by simp)
    simp only [h1,h2]
   ·rename_i x y t t'
    have h1:=ha x (by simp)
    have h2:=ha y (by simp)
    simp only [h1,h2]
 | _=>rfl
mutual
theorem cvtA_loc {bx bx':Nat→Option Bx} {rec rec':List AV→Option (List AV×List Prop)} {orec orec':List AV→List Nat} (hrec:∀ cs,(∀ b∈orec cs,bx b=bx' b)→rec cs=rec' cs∧orec cs=orec' cs):∀ (a:AV) (js:List Nat) (kn:Bool),(∀ b∈obsA js bx orec a,bx b=bx' b) →
  cvtA js kn bx rec a=cvtA js kn bx' rec' a∧obsA js bx orec a=obsA js bx' orec' a
 | .own b n,js,kn,h=>by
  simp only [cvtA,obsA] at h ⊢
  cases hi:ixOf b js 0 with
  | some i=>first | exact ⟨rfl,rfl⟩ | exact ⟨rfl,trivial⟩
  | none=>rw [hi] at h;rw [h b (List.mem_singleton.2 rfl)];first | exact ⟨rfl,rfl⟩ | exact ⟨rfl,trivial⟩
 | .sl b n,js,kn,h=>by
  simp only [cvtA,obsA] at h ⊢
  cases hi:ixOf b js 0 with
  | some i=>first | exact ⟨rfl,rfl⟩ | exact ⟨rfl,trivial⟩
  | none=>rw [hi] at h;rw [h b (List.mem_singleton.2 rfl)];first | exact ⟨rfl,rfl⟩ | exact ⟨rfl,trivial⟩
 | .ptr b off,js,kn,h=>by
  simp only [cvtA,obsA] at h ⊢
  cases hi:ixOf b js 0 with
  | some i=>exact ⟨rfl,rfl⟩
  | none =>
   rw [hi] at h
   simp only at h ⊢
   have hb:bx b=bx' b:=h b (by split <;> simp)
   rw [← hb]
   cases hx:bx b with
   | none=>exact ⟨rfl,rfl⟩
   | some x =>
    rw [hx] at h
    cases x with
    | cells cs =>
     obtain ⟨h1,h2⟩:=hrec cs fun q hq=>h q (List.mem_cons_of_mem _ hq)
     simp only [h1,h2,and_self]
    | _=>exact ⟨rfl,rfl⟩
 | .agg cs,js,kn,h=>by
  obtain ⟨h1,h2⟩:=cvtL_loc hrec cs js kn h
  simp only [cvtA,obsA,h1,h2,and_self]
 | .tup cs,js,kn,h=>by
  obtain ⟨h1,h2⟩:=cvtL_loc hrec cs js kn h
  simp only [cvtA,obsA,h1,h2,and_self]
 | .clo f cs,[],kn,h=>by
  obtain ⟨h1,h2⟩:=cvtL_loc hrec cs [] false h
  simp only [cvtA,obsA,h1,h2,and_self]
 | .clo f cs,j::js,kn,h=>by
  obtain ⟨h1,h2⟩:=cvtL_loc hrec cs (j::js) kn h
  simp only [cvtA,obsA,h1,h2,and_self]
 | .dt _,_,_,_=>⟨rfl,rfl⟩
 | .nil,_,_,_=>⟨rfl,rfl⟩
 | .ful _,_,_,_=>⟨rfl,rfl⟩
 | .mapp _,_,_,_=>⟨rfl,rfl⟩
 | .rptr _ _ _,_,_,_=>⟨rfl,rfl⟩
 | .gl _ _,_,_,_=>⟨rfl,rfl⟩
 | .pin _,_,_,_=>⟨rfl,rfl⟩
 | .clf _ _,_,_,_=>⟨rfl,rfl⟩
 | .un,_,_,_=>⟨rfl,rfl⟩
theorem cvtL_loc {bx bx':Nat→Option Bx} {rec rec':List AV→Option (List AV×List Prop)} {orec orec':List AV→List Nat} (hrec:∀ cs,(∀ b∈orec cs,bx b=bx' b)→rec cs=rec' cs∧orec cs=orec' cs):∀ (cs:List AV) (js:List Nat) (kn:Bool),(∀ b∈obsL js bx orec cs,bx b=bx' b) →
  cvtL js kn bx rec cs=cvtL js kn bx' rec' cs∧obsL js bx orec cs=obsL js bx' orec' cs
 | [],_,_,_=>⟨rfl,rfl⟩
 | c::cs,js,kn,h=>by
  simp only [obsL] at h
  obtain ⟨h1,h2⟩:=cvtA_loc hrec c js kn fun b hb=>h b (List.mem_append_left _ hb)
  obtain ⟨h3,h4⟩:=cvtL_loc hrec cs js kn fun b hb=>h b (List.mem_append_right _ hb)
  simp only [cvtL,obsL,h1,h2,h3,h4,and_self]
end
theorem cvtF_loc {bx bx':Nat→Option Bx}:∀ (n:Nat) (cs:List AV),(∀ b∈obsF bx n cs,bx b=bx' b)→cvtF bx n cs=cvtF bx' n cs∧obsF bx n cs=obsF bx' n cs
 | 0,_,_=>⟨rfl,rfl⟩
 | n+1,cs,h=>cvtL_loc (cvtF_loc n) cs [] false h
section
variable {E:En} {bx bx':Nat→Option Bx}
theorem loc_cv {js:List Nat} {kn:Bool} {cs:List AV} (h:∀ b∈obL js bx cs,bx b=bx' b):cvL js kn bx cs=cvL js kn bx' cs∧obL js bx cs=obL js bx' cs:=cvtL_loc (cvtF_loc 1) cs js kn h
theorem loc_cS {cs:List AV} (h:∀ b∈obS bx cs,bx b=bx' b):cvS bx cs=cvS bx' cs:=(cvtL_loc (cvtF_loc 4) cs [] false h).1
theorem loc_frz {js:List Nat} {kn:Bool} {cs:List AV} {r:List AV×List Prop} (h:∀ b∈obL js bx cs,bx b=bx' b) (hc:cvL js kn bx cs=some r):frzs bx (obL js bx cs)=frzs bx' (obL js bx cs):=by
 have hst:∀ b∈obL js bx cs,Stp1 (fun _=>True) bx (cvtF bx 1) (obsF bx 1) (·∈obL js bx cs) b :=
  cvtL_obs (fun _ _ _=>⟨trivial,trivial⟩) (cvtF1_obs fun _ _ _=>⟨trivial,trivial⟩) cs js kn r.1 r.2 hc trivial fun b hb=>hb
 generalize obL js bx cs=bs at *
 have gen:∀ l:List Nat,(∀ b∈l,b∈bs)→frzs bx l=frzs bx' l:=by
  intro l
  induction l with
  | nil=>intro _;rfl
  | cons b l ih =>
   intro hl
   have hb:=hl b (List.mem_cons_self ..)
   have ih':=ih fun q hq=>hl q (List.mem_cons_of_mem _ hq)
   have e:=h b hb
   simp only [frzs,← e,ih']
   cases hx:bx b with
   | none=>rfl
   | some x =>
    have:frzX bx x=frzX bx' x:=by
     cases x with
     | cells c0 =>
      obtain ⟨r',_,_,h3⟩:=(hst b hb).2 c0 hx
      have:=(cvtF_loc 1 c0 fun q hq=>h q (h3 q hq)).1
      have e2:cvtF bx fuelB c0=cvtF bx' fuelB c0:=this
      simp only [frzX,e2]
     | _=>rfl
    simp only [this]
 exact gen bs fun b hb=>hb
theorem srcOf_loc {x:AV} (h:∀ b∈(match x with | .own b _=>[b] | .sl b _=>[b] | _=>([]:List Nat)),bx b=bx' b):srcOf bx x=srcOf bx' x:=by
 cases x with
 | own b n=>simp only [srcOf,h b (List.mem_singleton.2 rfl)]
 | sl b n=>simp only [srcOf,h b (List.mem_singleton.2 rfl)]
 | dt d =>
  cases d with
  | row xs=>rfl
  | val v =>
   cases v with
   | slice A n c=>cases n <;> rfl
   | _=>rfl
 | _=>rfl
theorem run_loc {act:AAct} {k:Nat} (h:∀ b∈act.bt bx k,bx b=bx' b):act.run E bx k=act.run E bx' k:=by
 have one:∀ {b:Nat},act.bt bx k=[b]→bx b=bx' b:=fun e=>h _ (by rw [e];exact List.mem_singleton.2 rfl)
 cases act with
 | load b off n ag=>simp only [AAct.run,one rfl]
 | loadR b i k' ds ag=>simp only [AAct.run,one rfl]
 | store b off vs=>simp only [AAct.run,one rfl]
 | ins b kt key v=>simp only [AAct.run,one rfl]
 | look b kt key z ok r=>simp only [AAct.run,one rfl]
 | lookP b kt key ok i v=>simp only [AAct.run,one rfl]
 | storeR b i k' vs =>
  have hb:bx b=bx' b:=h b (List.mem_cons_self ..)
  have ho:∀ q∈obL [] bx vs,bx q=bx' q:=fun q hq=>h q (List.mem_cons_of_mem _ hq)
  obtain ⟨h1,h2⟩:=loc_cv (kn:=false) ho
  simp only [AAct.run,← hb,← h1,← h2]
  cases hc:cvL [] false bx vs with
  | none =>
   cases hbx:bx b with
   | none=>rfl
   | some x=>cases x with
    | rws e k2 es=>simp only;cases (k'.beq k2 && vs.all AV.one && vs.length.beq k') <;> rfl
    | _=>rfl
  | some r=>simp only [loc_frz ho hc]
 | mk e sz len cs =>
  have ho:∀ q∈obL [] bx cs,bx q=bx' q:=h
  obtain ⟨h1,h2⟩:=loc_cv (kn:=false) ho
  simp only [AAct.run,← h1,← h2]
  cases hc:cvL [] false bx cs with
  | none=>rfl
  | some r=>simp only [loc_frz ho hc]
 | app e kk bytes s x c =>
  have hs:=srcOf_loc (bx:=bx) (bx':=bx') (x:=x) fun b hb=>h b (List.mem_append_right _ hb)
  simp only [AAct.run,← hs]
  cases s with
  | own b n=>simp only [h b (List.mem_append_left _ (List.mem_singleton.2 rfl))]
  | _=>rfl
 | idx x i sz r =>
  have ho:∀ q∈obL [] bx [x],bx q=bx' q:=h
  obtain ⟨h1,h2⟩:=loc_cv (kn:=false) ho
  simp only [AAct.run,← h1,← h2]
  cases hc:cvL [] false bx [x] with
  | none=>rfl
  | some r=>simp only [loc_frz ho hc]
 | slc x sz lo hi mx r =>
  have ho:∀ q∈obL [] bx [x],bx q=bx' q:=h
  obtain ⟨h1,h2⟩:=loc_cv (kn:=false) ho
  simp only [AAct.run,← h1,← h2]
  cases hc:cvL [] false bx [x] with
  | none=>rfl
  | some r=>simp only [loc_frz ho hc]
 | callN f args caps e kk es =>
  have ho:∀ q∈obL [] bx args,bx q=bx' q:=fun q hq=>h q (List.mem_cons_of_mem _ hq)
  obtain ⟨h1,h2⟩:=loc_cv (kn:=false) ho
  simp only [AAct.run,← h1,← h2]
  cases hc:cvL [] false bx args with
  | none=>rfl
  | some r=>simp only [loc_frz ho hc]
 | mkf c =>
  have ho:∀ q∈obL [] bx [c],bx q=bx' q:=h
  obtain ⟨h1,h2⟩:=loc_cv (kn:=false) ho
  simp only [AAct.run,← h1,← h2]
  cases hc:cvL [] false bx [c] with
  | none=>rfl
  | some r=>simp only [loc_frz ho hc]
 | rdb x l =>
  have ho:∀ q∈obL [] bx [x],bx q=bx' q:=h
  obtain ⟨h1,_⟩:=loc_cv (kn:=false) ho
  simp only [AAct.run,← h1]
 | call f args caps r =>
  cases hs:r.scal with
  | true =>
   have ho:∀ q∈obS bx args,bx q=bx' q:=fun q hq=>h q (by simp only [AAct.bt,hs];exact hq)
   simp only [AAct.run,hs,← loc_cS ho]
  | false =>
   have ho:∀ q∈obL [] bx args,bx q=bx' q:=fun q hq=>h q (by simp only [AAct.bt,hs];exact hq)
   obtain ⟨h1,h2⟩:=loc_cv (kn:=false) ho
   simp only [AAct.run,hs,← h1,← h2]
   cases hc:cvL [] false bx args with
   | none=>rfl
   | some r=>simp only [loc_frz ho hc]
 | _=>rfl
theorem frzs_bs {bs:List Nat} {b:Nat} {x:Bx} (h:(b,x)∈frzs bx bs):b∈bs:=(frzs_mem h).1
theorem run_box {act:AAct} {k:Nat} {r:AV} {ups:List (Nat×Bx)} {ps:List Prop} (h:act.run E bx k=some (r,ups,ps)):∀ b x,(b,x)∈ups→b∈act.bt bx k:=by
 intro b x hb
 cases act with
 | val v=>cases h;cases hb
 | prop v qs=>cases h;cases hb
 | load b' off n ag =>
  simp only [AAct.run] at h
  split at h
  ·split at h <;> cases h;cases hb
  ·split at h <;> cases h;cases hb
  ·cases h
 | loadR b' i k' ds ag =>
  simp only [AAct.run] at h
  split at h
  ·split at h <;> cases h;cases hb
  ·cases h
 | store b' off vs =>
  simp only [AAct.run] at h
  split at h
  ·split at h
   ·cases h;simp only [List.mem_singleton,Prod.mk.injEq] at hb;exact List.mem_singleton.2 hb.1
   ·cases h
  ·cases h
 | storeR b' i k' vs =>
  simp only [AAct.run] at h
  split at h
  ·split at h
   ·split at h
    ·cases h
     rcases List.mem_append.1 hb with hb | hb
     ·exact List.mem_cons_of_mem _ (frzs_bs hb)
     ·simp only [List.mem_singleton,Prod.mk.injEq] at hb;rw [hb.1];exact List.mem_cons_self ..
    ·cases h
   ·cases h
  ·cases h
 | alloc t cs =>
  simp only [AAct.run] at h
  split at h
  ·cases h;simp only [List.mem_singleton,Prod.mk.injEq] at hb;exact List.mem_singleton.2 hb.1
  ·cases h
 | mk e sz len cs =>
  simp only [AAct.run] at h
  split at h
  ·split at h
   ·cases h;exact frzs_bs hb
   ·cases h
  ·cases h
 | mk0 e kk bytes c=>cases h;simp only [List.mem_singleton,Prod.mk.injEq] at hb;exact List.mem_singleton.2 hb.1
 | mkn e kk bytes n z l c=>cases h;simp only [List.mem_singleton,Prod.mk.injEq] at hb;exact List.mem_singleton.2 hb.1
 | app e kk bytes s x' c =>
  simp only [AAct.run] at h
  split at h
  ·split at h
   ·split at h
    ·cases h;simp only [List.mem_singleton,Prod.mk.injEq] at hb;exact List.mem_append_left _ (List.mem_singleton.2 hb.1)
    ·cases h
   ·split at h
    ·split at h
     ·cases h;simp only [List.mem_singleton,Prod.mk.injEq] at hb;exact List.mem_append_left _ (List.mem_singleton.2 hb.1)
     ·cases h
    ·cases h
   ·split at h
    ·cases h;simp only [List.mem_singleton,Prod.mk.injEq] at hb;exact List.mem_append_left _ (List.mem_singleton.2 hb.1)
    ·cases h
   ·cases h
  ·cases h
 | idx x' i sz rr =>
  simp only [AAct.run] at h
  split at h
  ·split at h
   ·cases h;exact frzs_bs hb
   ·split at h
    ·split at h
     ·cases h;exact frzs_bs hb
     ·cases h
    ·cases h
  ·cases h
 | slc x' sz lo hi mx rr =>
  simp only [AAct.run] at h
  split at h
  ·split at h <;> (cases h;exact frzs_bs hb)
  ·cases h
 | rdb x' l =>
  simp only [AAct.run] at h
  split at h
  ·cases h;cases hb
  ·cases h
 | call f args caps r' =>
  simp only [AAct.run] at h
  split at h
  ·split at h
   ·cases h;cases hb
   ·cases h
  ·rename_i hs
   split at h
   ·cases h
    simp only [AAct.bt,hs]
    exact frzs_bs hb
   ·cases h
 | callN f args caps e kk es =>
  simp only [AAct.run] at h
  split at h
  ·cases h
   rcases List.mem_cons.1 hb with hb | hb
   ·cases hb;exact List.mem_cons_self ..
   ·exact List.mem_cons_of_mem _ (frzs_bs hb)
  ·cases h
 | mkf c =>
  simp only [AAct.run] at h
  split at h
  ·cases h;exact frzs_bs hb
  ·cases h
 | newm=>cases h;simp only [List.mem_singleton,Prod.mk.injEq] at hb;exact List.mem_singleton.2 hb.1
 | newmd=>cases h;simp only [List.mem_singleton,Prod.mk.injEq] at hb;exact List.mem_singleton.2 hb.1
 | ins b' kt key v =>
  simp only [AAct.run] at h
  split at h
  ·cases h;simp only [List.mem_singleton,Prod.mk.injEq] at hb;exact List.mem_singleton.2 hb.1
  ·split at h
   ·split at h
    ·cases h;simp only [List.mem_singleton,Prod.mk.injEq] at hb;exact List.mem_singleton.2 hb.1
    ·cases h
   ·cases h
  ·cases h
 | lookP b' kt key ok i v =>
  simp only [AAct.run] at h
  split at h
  ·cases h;cases hb
  ·split at h
   ·split at h
    ·cases h;cases hb
    ·cases h
   ·cases h
  ·cases h
 | look b' kt key z ok rr =>
  simp only [AAct.run] at h
  split at h
  ·split at h
   ·cases h
   ·cases h;cases hb
  ·split at h
   ·split at h <;> cases h;cases hb
   ·cases h;cases hb
  ·cases h
theorem news_bt {act:AAct} {k:Nat}:∀ q∈act.news k,q∈act.bt bx k:=by
 intro q hq
 cases act with
 | app e kk bytes s x c =>
  cases s with
  | nil=>exact List.mem_append_left _ hq
  | ful _=>exact List.mem_append_left _ hq
  | _=>cases hq
 | alloc _ _=>exact hq
 | mk0 _ _ _ _=>exact hq
 | mkn _ _ _ _ _ _ _=>exact hq
 | newm=>exact hq
 | newmd=>exact hq
 | callN _ _ _ _ _ _=>rw [List.mem_singleton.1 hq];exact List.mem_cons_self ..
 | _=>cases hq
end
end Go.Proofs.YthhknjlmjefklaaGreatDoor
namespace Go.Proofs.YthhknjlmjefklaaGreatDoor
open Go.RowKit
def awant (ops:Array Oper) (tm:Nat→AV) (o:Oper):Option Bool:=match o.guard with
 | none=>some true
 | some (g,b)=>match (ops[g]?).bind (·.dst) with
  | none=>none
  | some d=>match tm d with
   | .dt (.val (.bool c))=>some (c == b)
   | .dt (.val (.tuple _))=>some false
   | _=>none
theorem awant_ok {X:Nat→Prop} {n0:Nat} {w0:World×Mm} {ok0:Nat→Prop} {M:Mm} {nt:Nat} {tm:Nat→AV} {bx:Nat→Option Bx} {a:Act} {w:World} {ops:Array Oper} {o:Oper} {c:Bool} (hI:Inv X n0 w0 ok0 M nt tm bx a w) (h:awant ops tm o=some c):Region.wanted o (yielded ops a.tmps)=c:=by
 unfold awant at h
 unfold Region.wanted
 cases hg:o.guard with
 | none=>rw [hg] at h;cases h;rfl
 | some x =>
  obtain ⟨g,b⟩:=x
  rw [hg] at h
  simp only at h ⊢
  unfold yielded
  cases hd:(ops[g]?).bind (·.dst) with
  | none=>rw [hd] at h;cases h
  | some d =>
   rw [hd] at h
   simp only [Option.bind_some] at h ⊢
   have hv:=hI.tmps d
   split at h
   ·rename_i c' hc
    cases h
    rw [hc] at hv
    have hv':a.tmps.getD d undef=.bool c':=Rd.val_eq hv
    have:a.tmps[d]?=some (.bool c'):=by
     cases ht:a.tmps[d]? with
     | none=>simp [Array.getD_eq_getD_getElem?,ht,undef] at hv'
     | some u=>simp [Array.getD_eq_getD_getElem?,ht] at hv';rw [hv']
    rw [this]
    cases c' <;> cases b <;> rfl
   ·rename_i us hc
    cases h
    rw [hc] at hv
    have hv':a.tmps.getD d undef=.tuple us:=Rd.val_eq hv
    cases ht:a.tmps[d]? with
    | none=>rfl
    | some u=>simp [Array.getD_eq_getD_getElem?,ht] at hv';rw [hv'];rfl
   ·cases h
structure Fp where
 rt:List Nat
 wt:Option Nat
 bt:List Nat
 bw:Bool
 all:Bool
structure Stp (E:En) (ops:Array Oper) (nt:Nat) (o:Oper) (tm:Nat→AV) (bx:Nat→Option Bx) (tm':Nat→AV) (bx':Nat→Option Bx) (f:Fp):Prop where
 rt:∀ t∈o.looksAt ops,t∈f.rt
 wt:f.wt=o.dst
 lt:∀ t,o.dst=some t→t < nt
 go:(awant ops tm o=some false∧tm'=updT tm o.dst (.dt (.val undef))∧bx'=bx) ∨
  (awant ops tm o=some true∧∃ act an an' k r ups ps,adec E o.op (aev tm) an=some (act,an')∧act.run E bx k=some (r,ups,ps)∧AllP ps∧(∀ q∈act.news k,bx q=none)∧tm'=updT tm o.dst r∧bx'=updB bx ups∧(∀ b∈act.bt bx k,b∈f.bt)∧(ups≠[]→f.bw=true)) ∨
  (f.all=true∧(∀ t,o.dst≠some t→tm' t=tm t)∧(∀ b,¬ (b∈f.bt∧f.bw=true)→bx' b=bx b) ∧
   ∀ (X:Nat→Prop) (n0:Nat) (w0:World×Mm) (ok0:Nat→Prop) (Q:Exit→Act→World→Prop) (i:Nat) (a:Act) (w:World) (K:Act→World→Prop),ops[i]?=some o→(∀ w,Bel X n0 w0.1 w→E.G w)→Left X n0 w0 ok0 nt tm bx a w→(∀ a w,Left X n0 w0 ok0 nt tm' bx' a w→K a w)→wpOp E.P ops Q i K a w) ∨
  (∃ r,tm'=updT tm o.dst r∧(∀ b,¬ (b∈f.bt∧f.bw=true)→bx' b=bx b) ∧
   ∀ (tmX:Nat→AV) (bxX:Nat→Option Bx),(∀ t∈f.rt,tmX t=tm t)→(∀ b∈f.bt,bxX b=bx b)→(∃ K,∀ k,K≤k→bxX k=none) →
   ∀ (X:Nat→Prop) (n0:Nat) (w0:World×Mm) (ok0:Nat→Prop) (Q:Exit→Act→World→Prop) (i:Nat) (a:Act) (w:World) (K:Act→World→Prop),ops[i]?=some o→(∀ w,Bel X n0 w0.1 w→E.G w)→Left X n0 w0 ok0 nt tmX bxX a w→(∀ a w,Left X n0 w0 ok0 nt (updT tmX o.dst r) (fun b=>if b∈f.bt∧f.bw=true then bx' b else bxX b) a w→K a w)→wpOp E.P ops Q i K a w)
theorem updT_ne {tm:Nat→AV} {d:Option Nat} {r:AV} {t:Nat} (h:d≠some t):updT tm d r t=tm t:=by
 cases d with
 | none=>rfl
 | some d=>exact if_neg fun e=>h (by rw [e])
theorem updT_eq {tm:Nat→AV} {d:Option Nat} {r:AV} {t:Nat} (h:d=some t):updT tm d r t=r:=by
 subst h;exact if_pos rfl
theorem Stp.tm_ne {E:En} {ops:Array Oper} {nt:Nat} {o:Oper} {tm tm':Nat→AV} {bx bx':Nat→Option Bx} {f:Fp} (h:Stp E ops nt o tm bx tm' bx' f) {t:Nat} (ht:f.wt≠some t):tm' t=tm t:=by
 rw [h.wt] at ht
 rcases h.go with ⟨_,rfl,_⟩ | ⟨_,_,_,_,_,_,_,_,_,_,_,_,rfl,_⟩ | ⟨_,h1,_⟩ | ⟨_,rfl,_⟩
 ·exact updT_ne ht
 ·exact updT_ne ht
 ·exact h1 t ht
 ·exact updT_ne ht
theorem Stp.bx_ne {E:En} {ops:Array Oper} {nt:Nat} {o:Oper} {tm tm':Nat→AV} {bx bx':Nat→Option Bx} {f:Fp} (h:Stp E ops nt o tm bx tm' bx' f) {b:Nat} (hb:¬ (b∈f.bt∧f.bw=true)):bx' b=bx b:=by
 rcases h.go with ⟨_,_,rfl⟩ | ⟨_,act,an,an',k,r,ups,ps,_,hr,_,_,_,rfl,h1,h2⟩ | ⟨_,_,h1,_⟩ | ⟨_,_,h1,_⟩
 ·rfl
 ·refine updB_ne fun x hx=>hb ⟨h1 _ (run_box hr b x hx),h2 fun e=>?_⟩
  rw [e] at hx;cases hx
 ·exact h1 b hb
 ·exact h1 b hb
theorem Stp.wp {E:En} {ops:Array Oper} {nt:Nat} {o:Oper} {tm tm':Nat→AV} {bx bx':Nat→Option Bx} {f:Fp} (h:Stp E ops nt o tm bx tm' bx' f)
  {X:Nat→Prop} {n0:Nat} {w0:World×Mm} {ok0:Nat→Prop} {a:Act} {w:World} {Q:Exit→Act→World→Prop} {i:Nat} (ho:ops[i]?=some o) (hfin:∃ K,∀ k,K≤k→bx k=none) (hL:Left X n0 w0 ok0 nt tm bx a w) (hG:∀ w,Bel X n0 w0.1 w→E.G w) {K:Act→World→Prop} (hK:∀ a w,Left X n0 w0 ok0 nt tm' bx' a w→K a w):wpOp E.P ops Q i K a w:=by
 rcases h.go with hg | hg | ⟨_,_,_,hg⟩ | ⟨r,ht,hb,hg⟩
 case inr.inr.inl=>exact hg X n0 w0 ok0 Q i a w K ho hG hL hK
 case inr.inr.inr =>
  refine hg tm bx (fun _ _=>rfl) (fun _ _=>rfl) hfin X n0 w0 ok0 Q i a w K ho hG hL fun a w h2=>hK a w ?_
  have e:(fun b=>if b∈f.bt∧f.bw=true then bx' b else bx b)=bx':=funext fun b=>by
   by_cases c:b∈f.bt∧f.bw=true
   ·rw [if_pos c]
   ·rw [if_neg c,hb b c]
  rw [e,← ht] at h2
  exact h2
 all_goals
  obtain ⟨M,hI⟩:=hL
  unfold wpOp
  simp only [ho]
 ·obtain ⟨hw,rfl,rfl⟩:=hg
  rw [awant_ok hI hw]
  simp only [Bool.false_eq_true,if_false]
  exact hK _ _ ⟨M,hI.val o.dst h.lt rv_undef⟩
 ·obtain ⟨hw,act,an,an',k,r,ups,ps,h1,h2,h3,h4,rfl,rfl,_,_⟩:=hg
  rw [awant_ok hI hw]
  simp only [if_true]
  left
  exact Oper.wp_mono hK (adec_sound h1 h2 h3 hI h.lt (hG _ hI.below) h4)
theorem updB_congr {bx bx':Nat→Option Bx} {b:Nat} (h:bx b=bx' b):∀ {ups:List (Nat×Bx)},updB bx ups b=updB bx' ups b
 | []=>h
 | (b0,x)::r=>by
  show (if b=b0 then some x else updB bx r b)=if b=b0 then some x else updB bx' r b
  rw [updB_congr h]
theorem bt_loc {bx bx':Nat→Option Bx} {act:AAct} {k:Nat} (h:∀ b∈act.bt bx k,bx b=bx' b):act.bt bx k=act.bt bx' k:=by
 cases act with
 | storeR b i k' vs=>exact congrArg (b::·) (loc_cv (kn:=false) fun q hq=>h q (List.mem_cons_of_mem _ hq)).2
 | mk e sz len cs=>exact (loc_cv (js:=[]) (kn:=false) (cs:=cs) h).2
 | idx x i sz r=>exact (loc_cv (js:=[]) (kn:=false) (cs:=[x]) h).2
 | slc x sz lo hi mx r=>exact (loc_cv (js:=[]) (kn:=false) (cs:=[x]) h).2
 | rdb x l=>exact (loc_cv (js:=[]) (kn:=false) (cs:=[x]) h).2
 | callN f args caps e kk es=>exact congrArg (k::·) (loc_cv (js:=[]) (kn:=false) (cs:=args) fun q hq=>h q (List.mem_cons_of_mem _ hq)).2
 | mkf c=>exact (loc_cv (js:=[]) (kn:=false) (cs:=[c]) h).2
 | call f args caps r =>
  cases hs:r.scal with
  | true =>
   simp only [AAct.bt,hs] at h ⊢
   exact (cvtL_loc (cvtF_loc 4) args [] false h).2
  | false =>
   simp only [AAct.bt,hs] at h ⊢
   exact (loc_cv (js:=[]) (kn:=false) (cs:=args) h).2
 | _=>rfl
theorem wpAny_invB {P:Program} {ops:Array Oper} {Q:Exit→Act→World→Prop} {md:Region.Mode} (I:Array Bool→Act→World→Prop)
  (back:∀ (i:Nat) (o:Oper),ops[i]?=some o→∀ e∈o.after,Region.binds md e=true→e.on < i)
  (step:∀ listed a w i,I listed a w→listed.size=ops.size→i∈Region.ready md ops listed→wpOp P ops Q i (I (listed.setIfInBounds i true)) a w)
  (done:∀ listed a w,I listed a w→(∀ i,i < ops.size→listed.getD i false=true)→Q .normal a w) :
  ∀ (fuel:Nat) (listed:Array Bool) (a:Act) (w:World),listed.size=ops.size→listed.toList.countP (fun b=>!b)≤fuel→I listed a w→wpAny P md ops Q fuel listed a w:=by
 have full:∀ listed:Array Bool,listed.size=ops.size→Region.ready md ops listed=[]→∀ i,i < ops.size→listed.getD i false=true:=by
  intro listed hs hr i
  induction i using Nat.strongRecOn with
  | _ i ih =>
   intro hi
   rcases hb:listed.getD i false with _ | _
   ·exfalso
    have hmem:i∈Region.ready md ops listed:=by
     rw [mem_ready]
     refine ⟨?_,ops[i],Array.getElem?_eq_getElem hi,fun e he hbd=>?_⟩
     ·have hlt:i < listed.size:=by omega
      simpa [hlt] using hb
     ·have:=back i _ (Array.getElem?_eq_getElem hi) e he hbd
      exact ih e.on this (by omega)
    rw [hr] at hmem
    cases hmem
   ·rfl
 intro fuel
 induction fuel with
 | zero =>
  intro listed a w hs hc hI
  have hall:∀ i,i < ops.size→listed.getD i false=true:=by
   intro i hi
   have h0:listed.toList.countP (fun b=>!b)=0:=by omega
   rw [List.countP_eq_zero] at h0
   have hlt:i < listed.size:=by omega
   have:=h0 listed[i] (by simp)
   simpa [hlt] using this
  have hr:Region.ready md ops listed=[]:=by
   cases hr:Region.ready md ops listed with
   | nil=>rfl
   | cons x xs =>
    have hx:x∈Region.ready md ops listed:=by rw [hr];exact List.mem_cons_self ..
    rw [mem_ready] at hx
    obtain ⟨h0,o,ho,_⟩:=hx
    have hlt:=(Array.getElem?_eq_some_iff.1 ho).1
    have:=hall x hlt
    have hlt':x < listed.size:=by omega
    simp [hlt'] at h0 this
    rw [h0] at this
    cases this
  exact ⟨hr,done _ _ _ hI hall⟩
 | succ fuel ih =>
  intro listed a w hs hc hI
  refine ⟨fun hr=>done _ _ _ hI (full listed hs hr),fun i hi=>?_⟩
  refine wpOp_mono (fun a' w' hI'=>?_) (step listed a w i hI hs hi)
  refine ih _ _ _ (by simp [hs]) ?_ hI'
  rw [mem_ready] at hi
  obtain ⟨h0,o,ho,_⟩:=hi
  have hlt:i < listed.size:=by rw [hs];exact (Array.getElem?_eq_some_iff.1 ho).1
  have hf:listed[i]=false:=by simpa [hlt] using h0
  have hl:listed.toList=listed.toList.take i++false::listed.toList.drop (i+1):=by
   have h1:i < listed.toList.length:=by simpa using hlt
   conv=>lhs;rw [← List.take_append_drop i listed.toList,List.drop_eq_getElem_cons h1]
   simp [hf]
  have hl':(listed.setIfInBounds i true).toList=listed.toList.take i++true::listed.toList.drop (i+1):=by
   have h1:i < listed.toList.length:=by simpa using hlt
   rw [Array.toList_setIfInBounds,List.set_eq_take_append_cons_drop,if_pos h1]
  rw [hl] at hc
  rw [hl']
  simp only [List.countP_append,List.countP_cons,Bool.not_false,Bool.not_true,if_true,Bool.false_eq_true,if_false] at hc ⊢
  omega
def backAny (ops:Array Oper):Bool:=(List.range ops.size).all fun i=>match ops[i]? with | some o=>o.after.all fun e=>!Region.binds .any e || Nat.ble (e.on+1) i | none=>true
theorem backAny_spec {ops:Array Oper} (h:backAny ops=true) (i:Nat) (o:Oper) (ho:ops[i]?=some o):∀ e∈o.after,Region.binds .any e=true→e.on < i:=by
 unfold backAny at h
 rw [List.all_eq_true] at h
 have:=h i (List.mem_range.2 (Array.getElem?_eq_some_iff.1 ho).1)
 rw [ho] at this
 simp only [Array.all_eq_true_iff_forall_mem] at this
 intro e he hb
 have h2:=this e he
 rw [hb] at h2
 exact Nat.le_of_ble_eq_true h2
inductive Anc (ops:Array Oper):Nat→Nat→Prop
 | one {i j:Nat}:i∈waits ops j→Anc ops i j
 | more {i m j:Nat}:m∈waits ops j→Anc ops i m→Anc ops i j
def Fp.conf (x y:Fp):Bool:=(x.all || y.all) ||
 ((match x.wt with | some d=>y.rt.contains d || (match y.wt with | some e=>Nat.beq d e | none=>false) | none=>false) ||
 (match y.wt with | some d=>x.rt.contains d | none=>false) ||
 (x.bt.any y.bt.contains && (x.bw || y.bw)))
theorem conf_l {x y:Fp} (h:x.all=true):x.conf y=true:=by simp only [Fp.conf,h,Bool.true_or]
theorem conf_r {x y:Fp} (h:y.all=true):x.conf y=true:=by simp only [Fp.conf,h,Bool.or_true,Bool.true_or]
theorem conf_wr {x y:Fp} {d:Nat} (h1:x.wt=some d) (h2:d∈y.rt):x.conf y=true:=by
 have:y.rt.contains d=true:=List.contains_iff_mem.2 h2
 simp only [Fp.conf,h1,this,Bool.true_or,Bool.or_true]
theorem conf_rw {x y:Fp} {d:Nat} (h1:y.wt=some d) (h2:d∈x.rt):x.conf y=true:=by
 have:x.rt.contains d=true:=List.contains_iff_mem.2 h2
 simp only [Fp.conf,h1,this,Bool.true_or,Bool.or_true]
theorem conf_ww {x y:Fp} {d:Nat} (h1:x.wt=some d) (h2:y.wt=some d):x.conf y=true:=by
 simp only [Fp.conf,h1,h2,Nat.beq_refl,Bool.or_true,Bool.true_or]
theorem conf_b {x y:Fp} {d:Nat} (h1:d∈x.bt) (h2:d∈y.bt) (h:x.bw=true∨y.bw=true):x.conf y=true:=by
 have e:(x.bw || y.bw)=true:=by rcases h with h | h <;> rw [h] <;> simp
 have e2:x.bt.any y.bt.contains=true:=List.any_eq_true.2 ⟨d,h1,List.contains_iff_mem.2 h2⟩
 simp only [Fp.conf,e,e2,Bool.and_self,Bool.or_true]
theorem any_region {E:En} {ops:Array Oper} {nt:Nat} {tmS:Nat→Nat→AV} {bxS:Nat→Nat→Option Bx} {fp:Nat→Fp}
  (hstp:∀ i o,ops[i]?=some o→Stp E ops nt o (tmS i) (bxS i) (tmS (i+1)) (bxS (i+1)) (fp i))
  (hconf:∀ i j,i < j→j < ops.size→(fp i).conf (fp j)=true→Anc ops i j) (hback:backAny ops=true) (hfin:∃ K,∀ i,i≤ops.size→∀ k,K≤k→bxS i k=none)
  {X:Nat→Prop} {n0:Nat} {w0:World×Mm} {ok0:Nat→Prop} (hG:∀ w,Bel X n0 w0.1 w→E.G w) {Q:Exit→Act→World→Prop} {a:Act} {w:World} (h0:Left X n0 w0 ok0 nt (tmS 0) (bxS 0) a w) (hQ:∀ a w,Left X n0 w0 ok0 nt (tmS ops.size) (bxS ops.size) a w→Q .normal a w) :
  wpAny E.P .any ops Q ops.size (Array.replicate ops.size false) a w:=by
 have hst:∀ i,i < ops.size→∃ o,ops[i]?=some o∧Stp E ops nt o (tmS i) (bxS i) (tmS (i+1)) (bxS (i+1)) (fp i):=fun i hi=>⟨ops[i],Array.getElem?_eq_getElem hi,hstp i _ (Array.getElem?_eq_getElem hi)⟩
 -- versions
 have vt':∀ t k d,k+d≤ops.size→(∀ j,j < ops.size→(fp j).wt=some t→(j < k↔j < k+d))→tmS (k+d) t=tmS k t:=by
  intro t k d
  induction d with
  | zero=>intro _ _;rfl
  | succ d ih =>
   intro hn hw
   obtain ⟨o,_,hs⟩:=hst (k+d) (by omega)
   rw [show k+(d+1)=k+d+1 by omega,hs.tm_ne (fun e=>by have:=hw (k+d) (by omega) e;omega)]
   exact ih (by omega) fun j hj e=>by have:=hw j hj e;omega
 have vt:∀ t k k',k≤ops.size→k'≤ops.size→(∀ j,j < ops.size→(fp j).wt=some t→(j < k↔j < k'))→tmS k t=tmS k' t:=by
  intro t k k' hk hk' hw
  rcases Nat.le_total k k' with h | h
  ·have:=vt' t k (k' - k) (by omega) fun j hj e=>by have:=hw j hj e;omega
   rw [show k+(k' - k)=k' by omega] at this
   exact this.symm
  ·have:=vt' t k' (k - k') (by omega) fun j hj e=>by have:=hw j hj e;omega
   rw [show k'+(k - k')=k by omega] at this
   exact this
 have vb':∀ t k d,k+d≤ops.size→(∀ j,j < ops.size→t∈(fp j).bt→(fp j).bw=true→(j < k↔j < k+d))→bxS (k+d) t=bxS k t:=by
  intro t k d
  induction d with
  | zero=>intro _ _;rfl
  | succ d ih =>
   intro hn hw
   obtain ⟨o,_,hs⟩:=hst (k+d) (by omega)
   rw [show k+(d+1)=k+d+1 by omega,hs.bx_ne (fun e=>by have:=hw (k+d) (by omega) e.1 e.2;omega)]
   exact ih (by omega) fun j hj e e'=>by have:=hw j hj e e';omega
 have vb:∀ t k k',k≤ops.size→k'≤ops.size→(∀ j,j < ops.size→t∈(fp j).bt→(fp j).bw=true→(j < k↔j < k'))→bxS k t=bxS k' t:=by
  intro t k k' hk hk' hw
  rcases Nat.le_total k k' with h | h
  ·have:=vb' t k (k' - k) (by omega) fun j hj e e'=>by have:=hw j hj e e';omega
   rw [show k+(k' - k)=k' by omega] at this
   exact this.symm
  ·have:=vb' t k' (k - k') (by omega) fun j hj e e'=>by have:=hw j hj e e';omega
   rw [show k'+(k - k')=k by omega] at this
   exact this
 refine wpAny_invB (md:=.any) (fun listed a w=>∃ tm bx,Left X n0 w0 ok0 nt tm bx a w∧(∀ i,listed.getD i false=true→∀ j∈waits ops i,listed.getD j false=true) ∧
   (∀ t,∃ k,k≤ops.size∧tm t=tmS k t∧∀ j,j < ops.size→(fp j).wt=some t→(listed.getD j false=true↔j < k)) ∧
   (∀ b,∃ k,k≤ops.size∧bx b=bxS k b∧∀ j,j < ops.size→b∈(fp j).bt→(fp j).bw=true→(listed.getD j false=true↔j < k))) (fun i o ho=>backAny_spec hback i o ho) ?_ ?_ _ _ _ _ (by simp) (by simp [List.countP_replicate]) ?_
 ·intro listed a w i hI hs hr
  rw [mem_ready] at hr
  obtain ⟨hn0,o,ho,hafter⟩:=hr
  have hlt:=(Array.getElem?_eq_some_iff.1 ho).1
  have hD0:¬ listed.getD i false=true:=by
   have hlt':i < listed.size:=by omega
   simp [hlt'] at hn0 ⊢
   exact hn0
  obtain ⟨tm,bx,hL,hclo,hT,hB⟩:=hI
  have hset:(listed.setIfInBounds i true).getD i false=true:=by
   have hlt':i < listed.size:=by omega
   simp [hlt']
  have hup:∀ j,listed.getD j false=true→(listed.setIfInBounds i true).getD j false=true:=fun j h=>getD_set_true h
  have hdn:∀ j,(listed.setIfInBounds i true).getD j false=true→j=i∨listed.getD j false=true:=fun j h=>getD_upd h
  have hw8:∀ j∈waits ops i,listed.getD j false=true:=fun j hj=>by
   obtain ⟨e,he,hb,rfl⟩:=(mem_waits ho).1 hj
   exact hafter e he hb
  have hancL:∀ x y,Anc ops x y→listed.getD y false=true→listed.getD x false=true:=by
   intro x y h
   induction h with
   | one h=>exact fun hy=>hclo _ hy _ h
   | more h _ ih=>exact fun hy=>ih (hclo _ hy _ h)
  have hancI:∀ x,Anc ops x i→listed.getD x false=true:=by
   intro x h
   cases h with
   | one h=>exact hw8 _ h
   | more h h'=>exact hancL _ _ h' (hw8 _ h)
  -- who touches the same place as i: before i are done,behind i are not
  have side:∀ j,j < ops.size→(j < i→(fp j).conf (fp i)=true)→(i < j→(fp i).conf (fp j)=true)→(listed.getD j false=true↔j < i):=by
   intro j hj h1 h2
   rcases Nat.lt_trichotomy j i with e | e | e
   ·exact ⟨fun _=>e,fun _=>hancI j (hconf j i e hlt (h1 e))⟩
   ·subst e
    exact ⟨fun h=>absurd h hD0,fun h=>absurd h (Nat.lt_irrefl _)⟩
   ·refine ⟨fun h=>absurd (hancL i j (hconf i j e hj (h2 e)) h) hD0,fun h=>by omega⟩
  have hS:=hstp i o ho
  have hrt:∀ t∈(fp i).rt,tm t=tmS i t:=by
   intro t ht
   obtain ⟨k,hk,e,hv⟩:=hT t
   rw [e]
   refine vt t k i hk (by omega) fun j hj hwj=>?_
   rw [← hv j hj hwj]
   exact side j hj (fun _=>conf_wr hwj ht) (fun _=>conf_rw hwj ht)
  have hbt:∀ b,b∈(fp i).bt→(bx b=bxS i b∨(fp i).bw=false)∧((fp i).bw=false→bx b=bxS i b):=by
   intro b hb
   have key:bx b=bxS i b:=by
    obtain ⟨k,hk,e,hv⟩:=hB b
    rw [e]
    refine vb b k i hk (by omega) fun j hj hbj hwj=>?_
    rw [← hv j hj hbj hwj]
    exact side j hj (fun _=>conf_b hbj hb (.inl hwj)) (fun _=>conf_b hb hbj (.inr hwj))
   exact ⟨.inl key,fun _=>key⟩
  have hbt':∀ b,b∈(fp i).bt→bx b=bxS i b:=fun b hb=>by
   rcases (hbt b hb).1 with h | h
   ·exact h
   ·exact (hbt b hb).2 h
  -- the step in the present state
  have hlook:∀ t∈o.looksAt ops,tm t=tmS i t:=fun t ht=>hrt t (hS.rt t ht)
  have hev:∀ x∈o.op.operands.toList,aev tm x=aev (tmS i) x:=by
   intro x hx
   cases x with
   | tmp t =>
    refine hlook t ?_
    unfold Oper.looksAt
    refine List.mem_append_left _ (List.mem_filterMap.2 ⟨.tmp t,hx,rfl⟩)
   | _=>rfl
  have hwant:awant ops tm o=awant ops (tmS i) o:=by
   unfold awant
   cases hg:o.guard with
   | none=>rfl
   | some x =>
    obtain ⟨g,b⟩:=x
    simp only
    cases hd:(ops[g]?).bind (·.dst) with
    | none=>rfl
    | some d =>
     simp only
     have:tm d=tmS i d:=hlook d (by
      unfold Oper.looksAt
      refine List.mem_append_right _ ?_
      rw [hg]
      simp [hd])
     rw [this]
  have hst':∃ tm' bx',Stp E ops nt o tm bx tm' bx' (fp i)∧(∀ t,(fp i).wt=some t→tm' t=tmS (i+1) t)∧(∀ b,b∈(fp i).bt→(fp i).bw=true→bx' b=bxS (i+1) b):=by
   rcases hS.go with ⟨hw,e1,e2⟩ | ⟨hw,act,an,an',k,r,ups,ps,h1,h2,h3,h4,e1,e2,h5,h6⟩ | ⟨hall,_⟩ | ⟨r,e1,e2,hg⟩
   ·refine ⟨updT tm o.dst (.dt (.val undef)),bx,⟨hS.rt,hS.wt,hS.lt,.inl ⟨hwant.trans hw,rfl,rfl⟩⟩,fun t ht=>?_,fun b hb hbw=>?_⟩
    ·rw [hS.wt] at ht
     rw [e1,updT_eq ht,updT_eq ht]
    ·rw [e2];exact hbt' b hb
   ·have hagree:∀ b∈act.bt (bxS i) k,bxS i b=bx b:=fun b hb=>(hbt' b (h5 b hb)).symm
    have hrun:act.run E bx k=some (r,ups,ps):=by rw [← h2];exact (run_loc hagree).symm
    have hbtE:∀ b∈act.bt bx k,b∈(fp i).bt:=fun b hb=>h5 b (by rw [bt_loc hagree];exact hb)
    have hk':∀ q∈act.news k,bx q=none:=fun q hq=>by rw [hbt' q (h5 q (news_bt q hq))];exact h4 q hq
    refine ⟨updT tm o.dst r,updB bx ups,⟨hS.rt,hS.wt,hS.lt,.inr (.inl ⟨hwant.trans hw,act,an,an',k,r,ups,ps,(adec_loc hev).trans h1,hrun,h3,hk',rfl,rfl,hbtE,h6⟩)⟩,fun t ht=>?_,fun b hb hbw=>?_⟩
    ·rw [hS.wt] at ht
     rw [e1,updT_eq ht,updT_eq ht]
    ·rw [e2]
     exact updB_congr (hbt' b hb)
   ·have e1:tm=tmS i:=funext fun t=>by
     obtain ⟨k,hk,e,hv⟩:=hT t
     rw [e]
     refine vt t k i hk (by omega) fun j hj hwj=>?_
     rw [← hv j hj hwj]
     exact side j hj (fun _=>conf_r hall) (fun _=>conf_l hall)
    have e2:bx=bxS i:=funext fun b=>by
     obtain ⟨k,hk,e,hv⟩:=hB b
     rw [e]
     refine vb b k i hk (by omega) fun j hj hbj hwj=>?_
     rw [← hv j hj hbj hwj]
     exact side j hj (fun _=>conf_r hall) (fun _=>conf_l hall)
    exact ⟨tmS (i+1),bxS (i+1),by rw [e1,e2];exact hS,fun _ _=>rfl,fun _ _ _=>rfl⟩
   ·refine ⟨updT tm o.dst r,fun b=>if b∈(fp i).bt∧(fp i).bw=true then bxS (i+1) b else bx b,⟨hS.rt,hS.wt,hS.lt,.inr (.inr (.inr ⟨r,rfl,fun b hb=>if_neg hb,fun tmX bxX h1 h2 hf X n0 w0 ok0 Q i' a w K ho' hG' hL' hK'=>?_⟩))⟩,fun t ht=>?_,fun b hb hbw=>if_pos ⟨hb,hbw⟩⟩
    ·refine hg tmX bxX (fun t ht=>(h1 t ht).trans (hrt t ht)) (fun b hb=>(h2 b hb).trans (hbt' b hb)) hf X n0 w0 ok0 Q i' a w K ho' hG' hL' fun a w h3=>hK' a w ?_
     have e:(fun b=>if b∈(fp i).bt∧(fp i).bw=true then (if b∈(fp i).bt∧(fp i).bw=true then bxS (i+1) b else bx b) else bxX b)=fun b=>if b∈(fp i).bt∧(fp i).bw=true then bxS (i+1) b else bxX b:=funext fun b=>by
      by_cases c:b∈(fp i).bt∧(fp i).bw=true
      ·simp only [if_pos c]
      ·simp only [if_neg c]
     rw [e]
     exact h3
    ·rw [hS.wt] at ht
     rw [e1,updT_eq ht,updT_eq ht]
  obtain ⟨tm',bx',hS',hTn,hBn⟩:=hst'
  have hfb:∃ K,∀ k,K≤k→bx k=none:=by
   obtain ⟨K,hK⟩:=hfin
   refine ⟨K,fun b hb=>?_⟩
   obtain ⟨k,hk,e,_⟩:=hB b
   rw [e]
   exact hK k hk b hb
  refine hS'.wp ho hfb hL hG fun a2 w2 hL2=>⟨tm',bx',hL2,?_,?_,?_⟩
  ·intro k hk j hj
   rcases hdn k hk with rfl | e
   ·exact hup j (hw8 j hj)
   ·exact hup j (hclo k e j hj)
  ·intro t
   by_cases hw:(fp i).wt=some t
   ·refine ⟨i+1,by omega,hTn t hw,fun j hj hwj=>?_⟩
    have:=side j hj (fun _=>conf_ww hwj hw) (fun _=>conf_ww hw hwj)
    constructor
    ·intro h
     rcases hdn j h with rfl | e
     ·omega
     ·have:=this.1 e;omega
    ·intro h
     by_cases e:j=i
     ·subst e;exact hset
     ·exact hup j (this.2 (by omega))
   ·obtain ⟨k,hk,e,hv⟩:=hT t
    refine ⟨k,hk,(hS'.tm_ne hw).trans e,fun j hj hwj=>?_⟩
    have hji:j≠i:=fun e=>hw (e ▸ hwj)
    rw [← hv j hj hwj]
    exact ⟨fun h=>(hdn j h).resolve_left hji,hup j⟩
  ·intro b
   by_cases hw:b∈(fp i).bt∧(fp i).bw=true
   ·refine ⟨i+1,by omega,hBn b hw.1 hw.2,fun j hj hbj hwj=>?_⟩
    have:=side j hj (fun _=>conf_b hbj hw.1 (.inl hwj)) (fun _=>conf_b hw.1 hbj (.inl hw.2))
    constructor
    ·intro h
     rcases hdn j h with rfl | e
     ·omega
     ·have:=this.1 e;omega
    ·intro h
     by_cases e:j=i
     ·subst e;exact hset
     ·exact hup j (this.2 (by omega))
   ·obtain ⟨k,hk,e,hv⟩:=hB b
    refine ⟨k,hk,(hS'.bx_ne hw).trans e,fun j hj hbj hwj=>?_⟩
    have hji:j≠i:=fun e=>hw (e ▸ ⟨hbj,hwj⟩)
    rw [← hv j hj hbj hwj]
    exact ⟨fun h=>(hdn j h).resolve_left hji,hup j⟩
 ·intro listed a w hI hall
  obtain ⟨tm,bx,hL,_,hT,hB⟩:=hI
  have e1:tm=tmS ops.size:=funext fun t=>by
   obtain ⟨k,hk,e,hv⟩:=hT t
   rw [e]
   exact vt t k _ hk (Nat.le_refl _) fun j hj hw=>⟨fun _=>hj,fun _=>(hv j hj hw).1 (hall j hj)⟩
  have e2:bx=bxS ops.size:=funext fun b=>by
   obtain ⟨k,hk,e,hv⟩:=hB b
   rw [e]
   exact vb b k _ hk (Nat.le_refl _) fun j hj hb hw=>⟨fun _=>hj,fun _=>(hv j hj hb hw).1 (hall j hj)⟩
  rw [e1,e2] at hL
  exact hQ a w hL
 ·have hno:∀ i,¬ (Array.replicate ops.size false).getD i false=true:=fun i=>by
   by_cases h:i < ops.size <;> simp [h]
  exact ⟨tmS 0,bxS 0,h0,fun i h=>absurd h (hno _),fun t=>⟨0,Nat.zero_le _,rfl,fun j _ _=>⟨fun h=>absurd h (hno _),fun h=>by omega⟩⟩,fun t=>⟨0,Nat.zero_le _,rfl,fun j _ _ _=>⟨fun h=>absurd h (hno _),fun h=>by omega⟩⟩⟩
end Go.Proofs.YthhknjlmjefklaaGreatDoor
namespace Go.Proofs.YthhknjlmjefklaaGreatDoor
open Go.RowKit
structure AS where
 tm:List AV
 bx:List (Option Bx)
def AS.tmf (s:AS):Nat→AV:=fun t=>s.tm.getD t (.dt (.val undef))
def AS.bxf (s:AS):Nat→Option Bx:=fun b=>match s.bx[b]? with
 | some x=>x
 | none=>none
def setT (tm:List AV) (d:Option Nat) (r:AV):List AV:=match d with
 | some d=>tm.set d r
 | none=>tm
def setB1:List (Option Bx)→Nat→Bx→List (Option Bx)
 | [],0,x=>[some x]
 | [],b+1,x=>none::setB1 [] b x
 | _::r,0,x=>some x::r
 | y::r,b+1,x=>y::setB1 r b x
def setBs (bx:List (Option Bx)):List (Nat×Bx)→List (Option Bx)
 | []=>bx
 | (b,x)::r=>setB1 (setBs bx r) b x
theorem setB1_f {tm:List AV}:∀ (bx:List (Option Bx)) (b:Nat) (x:Bx),(AS.mk tm (setB1 bx b x)).bxf=fun k=>if k=b then some x else (AS.mk tm bx).bxf k:=by
 intro bx b
 induction b generalizing bx with
 | zero =>
  intro x
  funext k
  cases bx with
  | nil=>cases k with
   | zero=>rfl
   | succ k=>simp [setB1,AS.bxf]
  | cons y r=>cases k with
   | zero=>rfl
   | succ k=>simp [setB1,AS.bxf]
 | succ b ih =>
  intro x
  funext k
  cases bx with
  | nil =>
   have:=congrFun (ih [] x)
   cases k with
   | zero=>simp [setB1,AS.bxf]
   | succ k=>have:=this k;simp [setB1,AS.bxf] at this ⊢;exact this
  | cons y r =>
   have:=congrFun (ih r x)
   cases k with
   | zero=>simp [setB1,AS.bxf]
   | succ k=>have:=this k;simp [setB1,AS.bxf] at this ⊢;exact this
theorem setBs_f {s:AS} {tm:List AV}:∀ (ups:List (Nat×Bx)),(AS.mk tm (setBs s.bx ups)).bxf=updB s.bxf ups
 | []=>rfl
 | (b,x)::r=>by
  funext k
  show (AS.mk tm (setB1 (setBs s.bx r) b x)).bxf k=if k=b then some x else updB s.bxf r k
  rw [setB1_f,← setBs_f (tm:=tm) r]
theorem setT_f {s:AS} {d:Option Nat} {r:AV} {bx:List (Option Bx)} (h:∀ t,d=some t→t < s.tm.length):(AS.mk (setT s.tm d r) bx).tmf=updT s.tmf d r:=by
 funext t
 cases d with
 | none=>rfl
 | some d =>
  show (s.tm.set d r).getD t _=if t=d then r else s.tm.getD t _
  have:=h d rfl
  by_cases e:t=d
  ·subst e;simp [this]
  ·rw [if_neg e]
   simp [Ne.symm e]
theorem bxf_new (s:AS):s.bxf s.bx.length=none:=by
 unfold AS.bxf
 rw [List.getElem?_eq_none (Nat.le_refl _)]
theorem news_k {act:AAct} {k q:Nat} (h:q∈act.news k):q=k:=by
 cases act with
 | app e kk bytes s x c=>cases s <;> first | exact List.mem_singleton.1 h | cases h
 | _=>first | exact List.mem_singleton.1 h | cases h
def arun1 (E:En) (ops:Array Oper) (o:Oper) (s:AS) (an:List An):Option (AS×Fp×List Prop×List An) :=
 match (match o.dst with | some d=>Nat.ble (d+1) s.tm.length | none=>true) with
 | false=>none
 | true=>match awant ops s.tmf o with
  | none=>none
  | some false=>some (⟨setT s.tm o.dst (.dt (.val undef)),s.bx⟩,⟨o.looksAt ops,o.dst,[],false,false⟩,[],an)
  | some true=>match adec E o.op (aev s.tmf) an with
   | none=>none
   | some (act,an')=>match act.run E s.bxf s.bx.length with
    | none=>none
    | some (r,ups,ps)=>some (⟨setT s.tm o.dst r,setBs s.bx ups⟩,⟨o.looksAt ops,o.dst,act.bt s.bxf s.bx.length,match ups with | []=>false | _=>true,false⟩,ps,an')
theorem setT_len (tm:List AV) (d:Option Nat) (r:AV):(setT tm d r).length=tm.length:=by
 cases d with
 | none=>rfl
 | some d=>exact List.length_set
theorem arun1_stp {E:En} {ops:Array Oper} {o:Oper} {s s':AS} {an an':List An} {f:Fp} {ps:List Prop} (h:arun1 E ops o s an=some (s',f,ps,an')) (hp:AllP ps) :
  Stp E ops s.tm.length o s.tmf s.bxf s'.tmf s'.bxf f∧s'.tm.length=s.tm.length:=by
 unfold arun1 at h
 split at h
 ·cases h
 rename_i hd
 have hd':∀ t,o.dst=some t→t < s.tm.length:=fun t ht=>by
  rw [ht] at hd
  have hd2:Nat.ble (t+1) s.tm.length=true:=hd
  exact Nat.le_of_ble_eq_true hd2
 split at h
 ·cases h
 ·rename_i hw
  cases h
  exact ⟨⟨fun t ht=>ht,rfl,hd',.inl ⟨hw,setT_f hd',rfl⟩⟩,setT_len _ _ _⟩
 ·rename_i hw
  split at h
  ·cases h
  ·rename_i act an'' hdec
   split at h
   ·cases h
   ·rename_i r ups ps' hr
    cases h
    refine ⟨⟨fun t ht=>ht,rfl,hd',.inr (.inl ⟨hw,act,an,_,s.bx.length,r,ups,_,hdec,hr,hp,fun q hq=>?_,setT_f hd',setBs_f ups,fun b hb=>hb,fun hu=>?_⟩)⟩,setT_len _ _ _⟩
    ·rw [news_k hq];exact bxf_new s
    ·cases ups with
     | nil=>exact absurd rfl hu
     | cons _ _=>rfl
def aops (E:En) (ops:Array Oper):List Oper→AS→List An→Option (AS×List Fp×List Prop×List An)
 | [],s,an=>some (s,[],[],an)
 | o::os,s,an=>match arun1 E ops o s an with
  | none=>none
  | some (s1,f,ps,an1)=>match aops E ops os s1 an1 with
   | none=>none
   | some (s2,fs,qs,an2)=>some (s2,f::fs,ps++qs,an2)
theorem bxf_out (s:AS) {k:Nat} (h:s.bx.length≤k):s.bxf k=none:=by
 unfold AS.bxf
 rw [List.getElem?_eq_none h]
theorem fin_cons {s:AS} {bxS:Nat→Nat→Option Bx} {n Kf:Nat} (h:∀ i,i≤n→∀ k,Kf≤k→bxS i k=none):∃ K,∀ i,i≤n+1→∀ k,K≤k→(match i with | 0=>s.bxf | i+1=>bxS i) k=none :=
 ⟨s.bx.length+Kf,fun i hi k hk=>match i with
  | 0=>bxf_out s (by omega)
  | i+1=>h i (by omega) k (by omega)⟩
theorem aops_run {E:En} {ops:Array Oper}:∀ {os:List Oper} {s s':AS} {an an':List An} {fs:List Fp} {ps:List Prop},aops E ops os s an=some (s',fs,ps,an')→AllP ps →
  s'.tm.length=s.tm.length∧fs.length=os.length∧∃ (tmS:Nat→Nat→AV) (bxS:Nat→Nat→Option Bx),tmS 0=s.tmf∧bxS 0=s.bxf∧tmS os.length=s'.tmf∧bxS os.length=s'.bxf∧(∃ K,∀ i,i≤os.length→∀ k,K≤k→bxS i k=none) ∧
   ∀ i o f,os[i]?=some o→fs[i]?=some f→Stp E ops s.tm.length o (tmS i) (bxS i) (tmS (i+1)) (bxS (i+1)) f
 | [],s,s',an,an',fs,ps,h,_=>by
  cases h
  exact ⟨rfl,rfl,fun _=>s.tmf,fun _=>s.bxf,rfl,rfl,rfl,rfl,⟨s.bx.length,fun _ _ k hk=>bxf_out s hk⟩,fun i o f hi=>by simp at hi⟩
 | o::os,s,s',an,an',fs,ps,h,hp=>by
  unfold aops at h
  split at h
  ·cases h
  ·rename_i s1 f ps1 an1 h1
   split at h
   ·cases h
   ·rename_i s2 fs2 qs an2 h2
    cases h
    obtain ⟨hp1,hp2⟩:=AllP_app hp
    obtain ⟨hs,hl⟩:=arun1_stp h1 hp1
    obtain ⟨hl2,hf2,tmS,bxS,e1,e2,e3,e4,⟨Kf,hKf⟩,hst⟩:=aops_run h2 hp2
    refine ⟨hl2.trans hl,by simp [hf2],fun i=>match i with | 0=>s.tmf | i+1=>tmS i,fun i=>match i with | 0=>s.bxf | i+1=>bxS i,rfl,rfl,e3,e4,fin_cons hKf,?_⟩
    intro i o' f' hi hf
    cases i with
    | zero =>
     cases hi
     cases hf
     simp only [e1,e2]
     exact hs
    | succ i =>
     rw [hl] at hst
     exact hst i o' f' (by simpa using hi) (by simpa using hf)
def ancs:List Oper→List Nat→List Nat
 | [],acc=>acc
 | o::os,acc=>ancs os (acc++[o.after.toList.foldl (fun m e=>match Region.binds .any e with | true=>m ||| (2 ^ e.on ||| acc.getD e.on 0) | false=>m) 0])
theorem ancs_fold {ops:Array Oper} {acc:List Nat} (hacc:∀ j m,acc[j]?=some m→∀ i,m.testBit i=true→Anc ops i j) {n:Nat}:∀ (es:List Edge) (m0:Nat),(∀ i,m0.testBit i=true→Anc ops i n)→(∀ e∈es,Region.binds .any e=true→e.on∈waits ops n) →
  ∀ i,(es.foldl (fun m e=>match Region.binds .any e with | true=>m ||| (2 ^ e.on ||| acc.getD e.on 0) | false=>m) m0).testBit i=true→Anc ops i n
 | [],_,h,_=>h
 | e::es,m0,h,hw=>by
  rw [List.foldl_cons]
  refine ancs_fold hacc es _ ?_ (fun e' he'=>hw e' (List.mem_cons_of_mem _ he'))
  intro i hi
  cases hb:Region.binds .any e with
  | false=>rw [hb] at hi;exact h i hi
  | true =>
   rw [hb] at hi
   simp only [Nat.testBit_or,Bool.or_eq_true] at hi
   have hwe:=hw e (List.mem_cons_self) hb
   rcases hi with hi | hi | hi
   ·exact h i hi
   ·rw [Nat.testBit_two_pow] at hi
    have:e.on=i:=of_decide_eq_true hi
    subst this
    exact .one hwe
   ·cases ha:acc[e.on]? with
    | none=>simp [List.getD,ha] at hi
    | some m=>exact .more hwe (hacc e.on m ha i (by simpa [List.getD,ha] using hi))
theorem ancs_ok {ops:Array Oper}:∀ (os:List Oper) (acc:List Nat),(∀ i o,os[i]?=some o→ops[acc.length+i]?=some o)→(∀ j m,acc[j]?=some m→∀ i,m.testBit i=true→Anc ops i j) →
  ∀ j m,(ancs os acc)[j]?=some m→∀ i,m.testBit i=true→Anc ops i j
 | [],acc,_,h=>h
 | o::os,acc,ho,h=>by
  refine ancs_ok os _ (fun i o' hi=>?_) ?_
  ·have:=ho (i+1) o' (by simpa using hi)
   rw [List.length_append,List.length_singleton]
   rw [← this];congr 1;omega
  ·intro j m hj
   by_cases hlt:j < acc.length
   ·rw [List.getElem?_append_left hlt] at hj
    exact h j m hj
   ·have hj':j=acc.length:=by
     have:=(List.getElem?_eq_some_iff.1 hj).1
     simp at this
     omega
    subst hj'
    rw [List.getElem?_append_right (Nat.le_refl _),Nat.sub_self] at hj
    simp only [List.getElem?_cons_zero,Option.some.injEq] at hj
    subst hj
    refine ancs_fold h _ 0 (fun i hi=>by simp at hi) fun e he hb=>?_
    have:=ho 0 o rfl
    rw [Nat.add_zero] at this
    exact (mem_waits this).2 ⟨e,Array.mem_toList_iff.1 he,hb,rfl⟩
def chk1 (m:Nat) (y:Fp):List Fp→Nat→Bool
 | [],_=>true
 | x::xs,i=>(match x.conf y with | true=>m.testBit i | false=>true) && chk1 m y xs (i+1)
def chkA:List Fp→List Fp→List Nat→Bool
 | _,[],_=>true
 | pre,y::ys,m::ms=>chk1 m y pre 0 && chkA (pre++[y]) ys ms
 | _,_::_,[]=>false
theorem chk1_ok {m:Nat} {y:Fp}:∀ {xs:List Fp} {k:Nat},chk1 m y xs k=true→∀ i x,xs[i]?=some x→x.conf y=true→m.testBit (k+i)=true
 | [],_,_,i,x,hi,_=>by simp at hi
 | x0::xs,k,h,i,x,hi,hc=>by
  unfold chk1 at h
  rw [Bool.and_eq_true] at h
  cases i with
  | zero =>
   cases hi
   rw [hc] at h
   exact h.1
  | succ i =>
   have:=chk1_ok h.2 i x (by simpa using hi) hc
   rw [← this];congr 1;omega
theorem chkA_ok:∀ {ys pre:List Fp} {ms:List Nat},chkA pre ys ms=true→∀ i j x y,i < j→(pre++ys)[i]?=some x→ys[j - pre.length]?=some y→pre.length≤j→x.conf y=true→∃ m,ms[j - pre.length]?=some m∧m.testBit i=true
 | [],_,_,_,i,j,x,y,_,_,hy,_,_=>by simp at hy
 | y0::ys,pre,[],h,_,_,_,_,_,_,_,_,_=>by simp [chkA] at h
 | y0::ys,pre,m0::ms,h,i,j,x,y,hij,hx,hy,hj,hc=>by
  unfold chkA at h
  rw [Bool.and_eq_true] at h
  by_cases e:j=pre.length
  ·subst e
   rw [Nat.sub_self] at hy ⊢
   cases hy
   rw [List.getElem?_append_left hij] at hx
   have:=chk1_ok h.1 i x hx hc
   rw [Nat.zero_add] at this
   exact ⟨m0,rfl,this⟩
  ·have hs:j - pre.length=(j - (pre++[y0]).length)+1:=by simp;omega
   rw [hs] at hy ⊢
   obtain ⟨m,h1,h2⟩:=chkA_ok h.2 i j x y hij (by simpa using hx) (by simpa using hy) (by simp;omega) hc
   exact ⟨m,by simpa using h1,h2⟩
def aregion (E:En) (ops:Array Oper) (draw:Bool) (s:AS) (an:List An):Option (AS×List Prop×List An) :=
 match aops E ops ops.toList s an with
 | none=>none
 | some (s',fs,ps,an')=>match !draw || (backAny ops && chkA [] fs (ancs ops.toList [])) with
  | true=>some (s',ps,an')
  | false=>none
theorem region_of {E:En} {ops:Array Oper} {draw:Bool} {id nt:Nat} {fs:List Fp} {tmS:Nat→Nat→AV} {bxS:Nat→Nat→Option Bx} (hfl:fs.length=ops.toList.length) (hchk:(!draw || (backAny ops && chkA [] fs (ancs ops.toList [])))=true)
  (hst:∀ i o f,ops.toList[i]?=some o→fs[i]?=some f→Stp E ops nt o (tmS i) (bxS i) (tmS (i+1)) (bxS (i+1)) f) (hfin:∃ K,∀ i,i≤ops.toList.length→∀ k,K≤k→bxS i k=none)
  {X:Nat→Prop} {n0:Nat} {w0:World×Mm} {ok0:Nat→Prop} (hG:∀ w,Bel X n0 w0.1 w→E.G w) {Q:Exit→Act→World→Prop} {a:Act} {w:World} (h0:Left X n0 w0 ok0 nt (tmS 0) (bxS 0) a w) (hQ:∀ a w,Left X n0 w0 ok0 nt (tmS ops.toList.length) (bxS ops.toList.length) a w→Q .normal a w) :
  (Code.region id ops draw).wp E.P Q a w:=by
 have hsz:ops.toList.length=ops.size:=by simp
 have hst':∀ i o,ops[i]?=some o→Stp E ops nt o (tmS i) (bxS i) (tmS (i+1)) (bxS (i+1)) (fs.getD i ⟨[],none,[],false,false⟩):=by
  intro i o ho
  have hi:=(Array.getElem?_eq_some_iff.1 ho).1
  have hf:fs[i]?=some (fs.getD i ⟨[],none,[],false,false⟩):=by
   have hi':i < fs.length:=by omega
   simp [hi']
  exact hst i o _ (by simpa using ho) hf
 rw [hsz] at hQ hfin
 cases draw with
 | true =>
  simp only [Bool.not_true,Bool.false_or,Bool.and_eq_true] at hchk
  refine wp_region_any E.hm ?_
  refine any_region (tmS:=tmS) (bxS:=bxS) (fp:=fun i=>fs.getD i ⟨[],none,[],false,false⟩) hst' ?_ hchk.1 hfin hG ?_ hQ
  ·intro i j hij hj hc
   have hi':i < fs.length:=by omega
   have hj':j < fs.length:=by omega
   obtain ⟨m,h1,h2⟩:=chkA_ok hchk.2 i j (fs.getD i ⟨[],none,[],false,false⟩) (fs.getD j ⟨[],none,[],false,false⟩) hij (by simp [hi']) (by simp [hj']) (Nat.zero_le _) hc
   exact ancs_ok ops.toList [] (fun i o hi=>by simpa using hi) (fun j m hj=>by simp at hj) j m (by simpa using h1) i h2
  ·obtain ⟨M,hI⟩:=h0
   have g:Go1 X n0 M w M { w with drawn:=w.drawn+1 }:=⟨⟨rfl,rfl,rfl,Nat.le_refl _,fun _ _ _=>rfl⟩,fun _ _ _=>rfl,fun _ h _=>h,fun _ _ h=>h,fun _=>same_o rfl⟩
   exact ⟨M,hI.same g (hI.sto.grow g rfl rfl (fun _ _ _ _ _=>rfl) fun q hq=>⟨hI.sto.fz q hq,.inl hq⟩) fun _ h=>.inl h⟩
 | false =>
  refine wp_region ?_
  have key:∀ k i,i+k=ops.size→∀ a w,Left X n0 w0 ok0 nt (tmS i) (bxS i) a w→wpOps E.P ops Q (List.range' i k) a w:=by
   intro k
   induction k with
   | zero =>
    intro i hi a w hL
    obtain rfl:i=ops.size:=by omega
    exact hQ a w hL
   | succ k ih =>
    intro i hi a w hL
    have ho:ops[i]?=some ops[i]:=Array.getElem?_eq_getElem (by omega)
    rw [List.range'_succ,wpOps_cons]
    exact (hst' i _ ho).wp ho (by obtain ⟨K,h⟩:=hfin;exact ⟨K,h i (by omega)⟩) hL hG fun a w hL'=>ih (i+1) (by omega) a w hL'
  rw [List.range_eq_range']
  exact key ops.size 0 (by omega) a w h0
theorem aregion_sound {E:En} {ops:Array Oper} {draw:Bool} {id:Nat} {s s':AS} {an an':List An} {ps:List Prop} (h:aregion E ops draw s an=some (s',ps,an')) (hp:AllP ps)
  {X:Nat→Prop} {n0:Nat} {w0:World×Mm} {ok0:Nat→Prop} (hG:∀ w,Bel X n0 w0.1 w→E.G w) {Q:Exit→Act→World→Prop} {a:Act} {w:World} (h0:Left X n0 w0 ok0 s.tm.length s.tmf s.bxf a w) (hQ:∀ a w,Left X n0 w0 ok0 s.tm.length s'.tmf s'.bxf a w→Q .normal a w) :
  (Code.region id ops draw).wp E.P Q a w:=by
 unfold aregion at h
 split at h
 ·cases h
 rename_i s1 fs ps1 an1 hrun
 split at h
 case h_2=>cases h
 rename_i hchk
 cases h
 obtain ⟨_,hfl,tmS,bxS,e1,e2,e3,e4,hfin,hst⟩:=aops_run hrun hp
 exact region_of hfl hchk hst hfin hG (by rw [e1,e2];exact h0) (by rw [e3,e4];exact hQ)
end Go.Proofs.YthhknjlmjefklaaGreatDoor
