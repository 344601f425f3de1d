/- Plain walks, second form: code, loops and functions. -/
import Derived.Test.YtbpmpdadppamgaaGreatDoorGL
import Derived.Test.YtbpmpdadppamgaaGreatDoorGG
import Derived.Test.YtbpmpdadppamgaaGreatDoorGE
import Derived.Test.YtbpmpdadppamgaaGreatDoorGH
namespace Go.Proofs.YtbpmpdadppamgaaGreatDoor
open Go.Proofs.Tryz
open Go.RowKit
def AE.ex:AE→Exit
 |.F6=>.normal
 |.out id=>.exit id
 |.ret=>.ret
def y7(E:En)(c:Code)(s:AS)(e:AE)(s':AS):Prop :=
 s'.tm.length=s.tm.length∧∀(X:Nat→Prop) (n0:Nat) (w0:World×Mm) (ok0:Nat→Prop) (a:Act) (w:World),HG E X n0 w0→Left X n0 w0 ok0 s.tm.length s.G9 s.E9 a w →
  c.wp E.P (fun x a' w'=>x=e.ex∧Left X n0 w0 ok0 s.tm.length s'.G9 s'.E9 a' w') a w
mutual
def AV.bK(n:Nat):AV→Bool
 |.ptr b _=>Nat.ble (b+1) n
 |.own b _=>Nat.ble (b+1) n
 |.sl b _=>Nat.ble (b+1) n
 |.Q5 b=>Nat.ble (b+1) n
 |.df b _ _=>Nat.ble (b+1) n
 |.agg cs=>AV.mD n cs
 |.l7 cs=>AV.mD n cs
 |.dm _ cs=>AV.mD n cs
 |_=>true
def AV.mD(n:Nat):List AV→Bool
 |[]=>true
 |c::cs=>AV.bK n c && AV.mD n cs
end
def Mm.cut(M:Mm)(n:Nat):Mm:=⟨fun b=>if b < n then M.m b else none,M.F,fun b=>if b < n then M.o b else none⟩
theorem Mm.ja{M:Mm}{n b:Nat}(h:b < n):(M.cut n).m b=M.m b:=Ch h
theorem Mm.wK{M:Mm}{n b:Nat}(h:b < n):(M.cut n).o b=M.o b:=Ch h
theorem zm{b n:Nat}(h:Nat.ble (b+1) n=true):b < n:=by have:=Zap h;omega
mutual
theorem RV.bK{M:Mm}{w:World}{n:Nat}:∀(a:AV) (v:Value),a.bK n=true→RV M w a v→RV (M.cut n) w a v
 |.dt _d,_v,_,h=>h
 |.nil,_v,_,h=>h
 |.ax _es,_v,_,h=>h
 |.gl _ _,_v,_,h=>h
 |.pin _ds,_v,_,h=>h
 |.au _ _,_v,_,h=>h
 |.un,_v,_,_h=>trivial
 |.ptr _b _off,_v,hp,⟨g,h1,h2⟩=>⟨g,(Mm.ja (zm hp)).trans h1,h2⟩
 |.df _b _i _k,_v,hp,⟨g,h1,h2⟩=>⟨g,(Mm.ja (zm hp)).trans h1,h2⟩
 |.sl _b _m,_v,hp,⟨g,h1,h2⟩=>⟨g,(Mm.ja (zm hp)).trans h1,h2⟩
 |.Q5 _b,_v,hp,⟨g,h1,h2⟩=>⟨g,(Mm.ja (zm hp)).trans h1,h2⟩
 |.own _b _m,_v,hp,⟨A,c,A',n',c',h1,h2,h3⟩=>⟨A,c,A',n',c',h1,(Mm.wK (zm hp)).trans h2,h3⟩
 |.agg cs,_v,hf,⟨vs,h1,h2⟩=>⟨vs,h1,RL.bK cs vs hf h2⟩
 |.l7 cs,_v,hf,⟨vs,h1,h2⟩=>⟨vs,h1,RL.bK cs vs hf h2⟩
 |.dm _f cs,_v,hf,⟨vs,h1,h2⟩=>⟨vs,h1,RL.bK cs vs hf h2⟩
theorem RL.bK{M:Mm}{w:World}{n:Nat}:∀(cs:List AV) (vs:List Value),AV.mD n cs=true→RL M w cs vs→RL (M.cut n) w cs vs
 |[],_,_,h=>h
 |c::cs,_,hf,⟨u,us,h1,h2,h3⟩=>by
  have hf':(c.bK n && AV.mD n cs)=true:=hf;rw[Ce]at hf';exact⟨u,us,h1,RV.bK c u hf'.1 h2,RL.bK cs us hf'.2 h3⟩
end
def qQ(ft:List Nat):Nat→List AV→List AV
 |_,[]=>[]
 |i,x::xs=>(match ft.contains i with | true=>x | false=>.un)::qQ ft (i+1) xs
theorem JF(ft:List Nat):∀(i:Nat) (xs:List AV),(qQ ft i xs).length=xs.length
 |_,[]=>rfl
 |i,x::xs=>by unfold qQ;rw[yM,yM,JF ft (i+1) xs]
theorem Ub(ft:List Nat):∀(i:Nat) (xs:List AV) (t:Nat) (d:AV),(qQ ft i xs).getD t d=.un∨(qQ ft i xs).getD t d=xs.getD t d
 |_,[],t,d=>.inr rfl
 |i,x::xs,0,d=>by
  unfold qQ;cases ft.contains i
  ·exact .inl rfl
  ·exact .inr rfl
 |i,x::xs,t+1,d=>by
  have:=Ub ft (i+1) xs t d;unfold qQ;simpa using this
def forget(ft:List Nat)(nb:Nat)(s:AS):AS:=⟨qQ ft 0 s.tm,s.bx.take nb⟩
def EC(nb:Nat):List (Value×AV)→Bool
 |[]=>true
 | (_,a)::r=>a.bK nb && EC nb r
def Bx.bK(nb:Nat):Option Bx→Bool
 |some (.cells cs)=>AV.mD nb cs
 |some (.mp y9)=>EC nb y9
 |_=>true
def forgets(nb:Nat)(s:AS):Bool:=AV.mD nb s.tm && s.bx.all (Bx.bK nb)
theorem MK.bK{M:Mm}{w:World}{n:Nat}:∀{y9:List (Value×AV)} {es:List MapEntry},EC n y9=true→MK M w y9 es→MK (M.cut n) w y9 es
 |[],_,_,h=>h
 | (k,a)::y9,_,hf,⟨e,es',h1,h2,h3,h4⟩=>by
  have hf':(a.bK n && EC n y9)=true:=hf;rw[Ce]at hf';exact⟨e,es',h1,h2,RV.bK _ _ hf'.1 h3,MK.bK hf'.2 h4⟩
theorem RN{n:Nat}:∀{cs:List AV},AV.mD n cs=true→∀(t:Nat) (d:AV),d.bK n=true→(cs.getD t d).bK n=true
 |[],_,t,d,hd=>by simpa using hd
 |c::cs,h,t,d,hd=>by
  have h':(c.bK n && AV.mD n cs)=true:=h;rw[Ce]at h';cases t with
  |zero=>exact h'.1
  |succ t=>simpa using RN h'.2 t d hd
theorem Left.forget{E:En}{ft:List Nat}{nb:Nat}{s:AS}(hf:(Nat.ble E.nh nb && forgets nb (forget ft nb s))=true){X:Nat→Prop}{n0:Nat}{w0:World×Mm}{ok0:Nat→Prop}{nt:Nat}{a:Act}{w:World}(hG:HG E X n0 w0)(h:Left X n0 w0 ok0 nt s.G9 s.E9 a w):Left X n0 w0 ok0 nt (forget ft nb s).G9 (forget ft nb s).E9 a w:=by
 obtain⟨M,hI⟩:=h;rw[Ce]at hf;obtain⟨hnb,hf⟩:=hf;have hnb:=Zap hnb;unfold forgets at hf;rw[Ce]at hf;have hb:∀b x,(Go.Proofs.YtbpmpdadppamgaaGreatDoor.forget ft nb s).E9 b=some x→b < nb∧s.E9 b=some x∧Bx.bK nb (some x)=true:=by
  intro b cs hbx;unfold AS.E9 at hbx ⊢;cases hx:(Go.Proofs.YtbpmpdadppamgaaGreatDoor.forget ft nb s).bx[b]? with
  |none=>rw[hx]at hbx;cases hbx
  |some x =>
   rw[hx]at hbx;simp only at hbx;subst hbx;have h2:=Zag.1 hf.2 _ (q8 hx);have h3:(s.bx.take nb)[b]?=some (some cs):=hx;rw[List.getElem?_take]at h3;split at h3
   ·rename_i hlt;rw[h3];exact⟨hlt,rfl,h2⟩
   ·cases h3
 have hb2:∀b,b < nb→(Go.Proofs.YtbpmpdadppamgaaGreatDoor.forget ft nb s).E9 b=s.E9 b:=by
  intro b h1;unfold AS.E9;show (match (s.bx.take nb)[b]? with | some x=>x | none=>none)=_;rw[List.getElem?_take,Ch h1]
  all_goals rfl
 have hm:∀b g,(M.cut nb).m b=some g→b < nb∧M.m b=some g:=fun b g h=>by
  by_cases e:b < nb
  ·rw[Mm.ja e]at h;exact⟨e,h⟩
  ·rw[show (M.cut nb).m b=none from EQ e]at h;cases h
 have ho:∀b v,(M.cut nb).o b=some v→b < nb∧M.o b=some v:=fun b g h=>by
  by_cases e:b < nb
  ·rw[Mm.wK e]at h;exact⟨e,h⟩
  ·rw[show (M.cut nb).o b=none from EQ e]at h;cases h
 have hhx:∀b x q,b < nb→(Hx (M.cut nb) b x q↔Hx M b x q):=fun b x q h=>Hx.eq (Mm.ja h) (Mm.wK h)
 refine⟨M.cut nb,hI.below,hI.le,hI.defers,hI.size,?_,⟨?_,?_,?_,?_,?_,hI.I9.fz⟩,hI.src,⟨hI.iI.below,hI.iI.keep,hI.iI.F,fun k q hq=>?_,fun b A n c e=>?_⟩⟩
 ·intro t;have hp:=RN hf.1 t (.dt (.val undef)) rfl;have hp':((Go.Proofs.YtbpmpdadppamgaaGreatDoor.forget ft nb s).G9 t).bK nb=true:=hp;rcases Ub ft 0 s.tm t (.dt (.val undef)) with e | e
  ·have e':(Go.Proofs.YtbpmpdadppamgaaGreatDoor.forget ft nb s).G9 t=.un:=e;rw[e'];trivial
  ·have e':(Go.Proofs.YtbpmpdadppamgaaGreatDoor.forget ft nb s).G9 t=s.G9 t:=e;rw[e']at hp' ⊢
   exact RV.bK _ _ hp' (hI.tmps t)
 ·intro b x hbx;obtain⟨h1,h2,h3⟩:=hb b x hbx;have h4:=hI.I9.box b x h2;cases x with
  |cells cs=>obtain⟨g,T,vs,e1,e2,e3⟩:=h4;exact⟨g,T,vs,(Mm.ja h1).trans e1,e2,RL.bK _ _ h3 e3⟩
  |buf e k es=>obtain⟨A,n,c,e1,e2⟩:=h4;exact⟨A,n,c,(Mm.wK h1).trans e1,e2⟩
  |aI es=>obtain⟨A,n,c,e1,e2⟩:=h4;exact⟨A,n,c,(Mm.wK h1).trans e1,e2⟩
  |mp y9=>obtain⟨g,es,Z6,e1,e2,e3⟩:=h4;exact⟨g,es,Z6,(Mm.ja h1).trans e1,e2,MK.bK h3 e3⟩
  |V3 y9=>obtain⟨g,es,Z6,e1,e2,e3⟩:=h4;exact⟨g,es,Z6,(Mm.ja h1).trans e1,e2,e3⟩
  |rws e k es=>obtain⟨g,vs,e1,e2⟩:=h4;exact⟨g,vs,(Mm.ja h1).trans e1,e2⟩
  |oF es=>obtain⟨g,e1,e2⟩:=h4;exact⟨g,(Mm.ja h1).trans e1,e2⟩
  |cst cs=>obtain⟨g,vs,e1,e2⟩:=h4;exact⟨g,vs,(Mm.ja h1).trans e1,e2⟩
 ·intro b x q hbx hq;obtain⟨h1,h2,_⟩:=hb b x hbx;exact hI.I9.dom b x q h2 ((hhx b x q h1).1 hq)
 ·intro b b' x x' q h1 h2 h3 h4;obtain⟨g1,g2,_⟩:=hb b x h1;obtain⟨k1,k2,_⟩:=hb b' x' h2;exact hI.I9.inj b b' x x' q g2 k2 ((hhx b x q g1).1 h3) ((hhx b' x' q k1).1 h4)
 ·intro b q hbq;obtain⟨h1,h2⟩:=hm b q hbq;obtain⟨x,h3,h4⟩:=hI.I9.hm b q h2;exact⟨x,(hb2 b h1).trans h3,h4⟩
 ·intro b v hbv;obtain⟨h1,h2⟩:=ho b v hbv;rw[hb2 b h1];exact hI.I9.ho b v h2
 ·rcases Za5 k E.nh with h1 | h1
  ·exact (Mm.ja J).trans (hI.iI.m k q hq)
  ·rw[(hG.h k h1).1]at hq;cases hq
 ·rcases Za5 b E.nh with h1 | h1
  ·obtain⟨A',n',c',e1,e2⟩:=hI.iI.o b A n c e;exact⟨A',n',c',(Mm.wK J).trans e1,e2⟩
  ·rw[(hG.h b h1).2]at e;cases e
inductive Lp (E:En) (c:Code):Nat→AS→AE→AS→Prop
 |stop {s s':AS} {e:AE}:y7 E c s e s'→e≠.F6→Lp E c 0 s e s'
 |more {n:Nat} {s s1 s':AS} {e:AE}:y7 E c s .F6 s1→Lp E c n s1 e s'→Lp E c (n+1) s e s'
def I7(E:En)(c:Code)(s:AS)(e:AE)(s':AS):Prop:=∃n,Lp E c n s e s'
theorem I7.stop{E:En}{c:Code}{s s':AS}{e:AE}(h:y7 E c s e s')(he:e≠.F6):I7 E c s e s':=⟨0,.stop h he⟩
theorem I7.more{E:En}{c:Code}{s s1 s':AS}{e:AE}(h:y7 E c s .F6 s1)(h':I7 E c s1 e s'):I7 E c s e s':=h'.elim fun n hn=>⟨n+1,.more h hn⟩
theorem Lp.len{E:En}{c:Code}{n:Nat}{s s':AS}{e:AE}(h:Lp E c n s e s'):s'.tm.length=s.tm.length:=by
 induction h with
 |stop h _=>exact h.1
 |more h _ ih=>exact ih.trans h.1
theorem I7.I8{E:En}{c:Code}{s s':AS}{e:AE}(h:I7 E c s e s'):y7 E (.loop c) s e s':=by
 obtain⟨n,h⟩:=h;refine⟨h.len,fun X n0 w0 ok0 a w hG hL=>?_⟩;have hlen:=h.len;refine wp_loop_ghost (fun k a w=>∃s1,Lp E c k s1 e s'∧s1.tm.length=s.tm.length∧Left X n0 w0 ok0 s.tm.length s1.G9 s1.E9 a w) n ⟨s,h,rfl,hL⟩ ?_;rintro k a w ⟨s1,h1,hl,hL1⟩;cases h1 with
 |stop h2 he =>
  rw[←hl]at hL1;refine wp_mono (h2.2 X n0 w0 ok0 a w hG hL1) ?_;rintro x a' w' ⟨rfl,hL'⟩;rw[hl]at hL';cases e with
  |F6=>exact absurd rfl he
  |out i=>exact⟨rfl,hL'⟩
  |ret=>exact⟨rfl,hL'⟩
 |more h2 h3 =>
  rename_i k' s2;have hl2:=h2.1;rw[←hl]at hL1;refine wp_mono (h2.2 X n0 w0 ok0 a w hG hL1) ?_;rintro x a' w' ⟨rfl,hL'⟩;rw[hl]at hL';exact⟨_,Nat.lt_succ_self _,s2,h3,hl2.trans hl,hL'⟩
def zH(step:AS→List An→List LA→Option (AE×AS×List Prop×List An×List LA)):Nat→AS→List An→List LA→Option (AE×AS×List Prop×List An×List LA)
 |0,_,_,_=>none
 |n+1,s,an,ls=>match step s an ls with
  |some (.F6,s1,ps,dB,gT)=>match zH step n s1 dB gT with
   |some (e,s2,qs,ay,oH)=>some (e,s2,ps++qs,ay,oH)
   |none=>none
  |r=>r
def bW(E:En):Code→AS→List An→List LA→Option (AE×AS×List Prop×List An×List LA)
 |.skip,s,an,ls=>some (.F6,s,[],an,ls)
 |.label _,s,an,ls=>some (.F6,s,[],an,ls)
 |.region id ops draw,s,an,ls=>match a98 id ls with
  |true=>match JE E ops id draw s an ls with
   |none=>none
   |some (s',ps,J9,ls')=>some (.F6,s',ps,J9,ls')
  |false=>match Dz E ops draw s an with
   |none=>none
   |some (s',ps,J9)=>some (.F6,s',ps,J9,ls)
 |.seq x y,s,an,ls=>match bW E x s an ls with
  |some (.F6,s1,ps,dB,gT)=>match bW E y s1 dB gT with
   |some (e,s2,qs,ay,oH)=>some (e,s2,ps++qs,ay,oH)
   |none=>none
  |r=>r
 |.cond c x y,s,an,ls=>match H7 s.G9 c with
  |.dt (.val (.bool true))=>bW E x s an ls
  |.dt (.val (.bool false))=>bW E y s an ls
  |_=>none
 |.block id b,s,an,ls=>match bW E b s an ls with
  |some (.out i,s',ps,J9,ls')=>match Nat.beq i id with
   |true=>some (.F6,s',ps,J9,ls')
   |false=>some (.out i,s',ps,J9,ls')
  |r=>r
 |.scope b,s,an,ls=>bW E b s an ls
 |.loop b,s,an,ls=>match ls with
  |.inv ft nb e s'::ls=>match (Nat.ble E.nh nb && forgets nb (forget ft nb s)) with
   |true=>some (e,s',[y7 E (.loop b) (forget ft nb s) e s'],an,ls)
   |false=>none
  |.run n::ls=>zH (fun s an ls=>bW E b s an ls) n s an ls
  |ls=>zH (fun s an ls=>bW E b s an ls) 4000 s an ls
 |.exit id,s,an,ls=>some (.out id,s,[],an,ls)
 |.ret,s,an,ls=>some (.ret,s,[],an,ls)
 |_,_,_,_=>none
theorem Cy{E:En}:∀{c:Code} {s s':AS} {an J9:List An} {ls ls':List LA} {e:AE} {ps:List Prop},bW E c s an ls=some (e,s',ps,J9,ls')→K7 ps→y7 E c s e s':=by
 intro c
 induction c with
 |skip=>intro s s' an J9 ls ls' e ps h _;cases h;exact⟨rfl,fun X n0 w0 ok0 a w _ hL=>wp_skip ⟨rfl,hL⟩⟩
 |label l=>intro s s' an J9 ls ls' e ps h _;cases h;exact⟨rfl,fun X n0 w0 ok0 a w _ hL=>wp_label ⟨rfl,hL⟩⟩
 |region id ops draw =>
  intro s s' an J9 ls ls' e ps h hp;simp only[bW]at h;split at h
  ·split at h
   ·cases h
   ·rename_i s1 bJ dB gT hr;cases h;obtain⟨hl,hw⟩:=a2B hr hp;exact⟨hl,fun X n0 w0 ok0 a w hG hL=>hw hG hL fun a w hL'=>⟨rfl,hL'⟩⟩
  split at h
  ·cases h
  ·rename_i s1 bJ dB hr;cases h;refine⟨?_,fun X n0 w0 ok0 a w hG hL=>a1i hr hp hG.g hL fun a w hL'=>⟨rfl,hL'⟩⟩;unfold Dz at hr;split at hr
   ·cases hr
   ·rename_i h1;split at hr
    ·cases hr;exact (Jm h1 hp).1
    ·cases hr
 |seq x y Br Gh =>
  intro s s' an J9 ls ls' e ps h hp;simp only[bW]at h;split at h
  ·rename_i s1 bJ dB gT hx;split at h
   ·rename_i e2 s2 qs ay oH hy;cases h;obtain⟨hp1,hp2⟩:=fO hp;obtain⟨l1,t1⟩:=Br hx hp1;obtain⟨l2,t2⟩:=Gh hy hp2;refine⟨l2.trans l1,fun X n0 w0 ok0 a w hG hL=>wp_seq (wp_mono (t1 X n0 w0 ok0 a w hG hL) ?_)⟩;rintro x' a' w' ⟨rfl,hL'⟩;rw[←l1]at hL';have:=t2 X n0 w0 ok0 a' w' hG hL';rw[l1]at this;exact this
   ·cases h
  ·rename_i hne;obtain⟨l1,t1⟩:=Br h hp;refine⟨l1,fun X n0 w0 ok0 a w hG hL=>wp_seq (wp_mono (t1 X n0 w0 ok0 a w hG hL) ?_)⟩;rintro x' a' w' ⟨rfl,hL'⟩;cases e with
   |F6=>exact absurd h (hne _ _ _ _)
   |out i=>exact⟨rfl,hL'⟩
   |ret=>exact⟨rfl,hL'⟩
 |cond c x y Br Gh =>
  intro s s' an J9 ls ls' e ps h hp;simp only[bW]at h;split at h
  ·rename_i hc;obtain⟨l1,t1⟩:=Br h hp;refine⟨l1,fun X n0 w0 ok0 a w hG hL=>?_⟩;obtain⟨M,hI⟩:=hL;have hv:=hI.ev c;rw[hc]at hv;exact wp_cond_true (Rd.Q7 hv) (t1 X n0 w0 ok0 a w hG ⟨M,hI⟩)
  ·rename_i hc;obtain⟨l1,t1⟩:=Gh h hp;refine⟨l1,fun X n0 w0 ok0 a w hG hL=>?_⟩;obtain⟨M,hI⟩:=hL;have hv:=hI.ev c;rw[hc]at hv;exact wp_cond_false (Rd.Q7 hv) (t1 X n0 w0 ok0 a w hG ⟨M,hI⟩)
  ·cases h
 |block id b ih =>
  intro s s' an J9 ls ls' e ps h hp;simp only[bW]at h;split at h
  ·rename_i i s1 bJ dB gT hb;split at h
   ·rename_i hi;have hi':=Zae hi;cases h;obtain⟨l1,t1⟩:=ih hb hp;refine⟨l1,fun X n0 w0 ok0 a w hG hL=>wp_block (wp_mono (t1 X n0 w0 ok0 a w hG hL) ?_)⟩;rintro x' a' w' ⟨rfl,hL'⟩;show if i=id then _ else _
    rw[Ch hi'];exact⟨rfl,hL'⟩
   ·rename_i hi;cases h;obtain⟨l1,t1⟩:=ih hb hp;refine⟨l1,fun X n0 w0 ok0 a w hG hL=>wp_block (wp_mono (t1 X n0 w0 ok0 a w hG hL) ?_)⟩;rintro x' a' w' ⟨rfl,hL'⟩;show if i=id then _ else _
    rw[EQ (fun e=>by rw[e,Nat.beq_refl]at hi;cases hi)];exact⟨rfl,hL'⟩
  ·rename_i hne;obtain⟨l1,t1⟩:=ih h hp;refine⟨l1,fun X n0 w0 ok0 a w hG hL=>wp_block (wp_mono (t1 X n0 w0 ok0 a w hG hL) ?_)⟩;rintro x' a' w' ⟨rfl,hL'⟩;cases e with
   |F6=>exact⟨rfl,hL'⟩
   |out i=>exact absurd h (hne _ _ _ _ _)
   |ret=>exact⟨rfl,hL'⟩
 |scope b ih =>
  intro s s' an J9 ls ls' e ps h hp;simp only[bW]at h;obtain⟨l1,t1⟩:=ih h hp;refine⟨l1,fun X n0 w0 ok0 a w hG hL=>wp_scope_straight (wp_mono (t1 X n0 w0 ok0 a w hG hL) ?_)⟩;rintro x' a' w' ⟨rfl,hL'⟩;cases e <;> exact⟨rfl,hL'⟩
 |loop b ih =>
  intro s s' an J9 ls ls' e ps h hp;have rounds:∀(n:Nat) {s s':AS} {an J9:List An} {ls ls':List LA} {e:AE} {ps:List Prop},zH (fun s an ls=>bW E b s an ls) n s an ls=some (e,s',ps,J9,ls')→K7 ps→I7 E b s e s':=by
   intro n
   induction n with
   |zero=>intro s s' an J9 ls ls' e ps h _;cases h
   |succ n ihn =>
    intro s s' an J9 ls ls' e ps h hp;simp only[zH]at h;split at h
    ·rename_i s1 bJ dB gT hx;split at h
     ·rename_i e2 s2 qs ay oH hy;cases h;obtain⟨hp1,hp2⟩:=fO hp;exact .more (ih hx hp1) (ihn hy hp2)
     ·cases h
    ·rename_i hne;exact .stop (ih h hp) fun he=>by subst he;exact hne _ _ _ _ h
  simp only[bW]at h;split at h
  ·rename_i ft nb e1 s1 gT;split at h
   ·rename_i hf;cases h;obtain⟨l1,t1⟩:=hp.1;have hlen:(forget ft nb s).tm.length=s.tm.length:=JF _ _ _;refine⟨l1.trans hlen,fun X n0 w0 ok0 a w hG hL=>?_⟩;have:=t1 X n0 w0 ok0 a w hG (by rw[hlen];exact Left.forget hf hG hL);rw[hlen]at this;exact this
   ·cases h
  ·exact (rounds _ h hp).I8
  ·exact (rounds _ h hp).I8
 |exit id=>intro s s' an J9 ls ls' e ps h _;cases h;exact⟨rfl,fun X n0 w0 ok0 a w _ hL=>wp_exit ⟨rfl,hL⟩⟩
 |ret=>intro s s' an J9 ls ls' e ps h _;cases h;exact⟨rfl,fun X n0 w0 ok0 a w _ hL=>wp_ret ⟨rfl,hL⟩⟩
 |goto l=>intro s s' an J9 ls ls' e ps h _;cases h
 |refuse l=>intro s s' an J9 ls ls' e ps h _;cases h
 |rangeFunc f p x y Br Gh=>intro s s' an J9 ls ls' e ps h _;cases h
def kW(P:Program)(s:AS):List ResultVar→Option (List AV)
 |[]=>some []
 |.tmp t::rs=>match kW P s rs with
  |some cs=>some (s.G9 t::cs)
  |none=>none
 |.cell x t::rs=>match s.G9 x,cu P t,lg P t,kW P s rs with
  |.ptr b off,some n,some ag,some cs=>match s.E9 b with
   |some (.cells c0)=>match rowAt c0 off n ag with
    |some r=>some (r::cs)
    |none=>none
   |_=>none
  |_,_,_,_=>none
def tF:List AV→AV
 |[x]=>x
 |xs=>.l7 xs
def wL(tmps:Array Value):ResultVar→Sem Value
 |.tmp t=>pure (tmps.getD t undef)
 |.cell a t=>do loadVar t (←asAddr (tmps.getD a undef))
section
variable {P:Program} {X:Nat→Prop} {n0:Nat} {w0:World×Mm} {ok0:Nat→Prop} {M:Mm} {nt:Nat} {a:Act} {w:World}
theorem yG{s:AS}(hI:Inv X n0 w0 ok0 M nt s.G9 s.E9 a w):∀{rs:List ResultVar} {cs:List AV},kW P s rs=some cs→∃vs,(rs.mapM (wL a.tmps)).run P w=.ok vs w∧RL M w cs vs
 |[],cs,h=>by cases h;exact⟨[],rfl,rfl⟩
 |.tmp t::rs,cs,h=>by
  unfold kW at h;split at h
  ·rename_i cs' h';cases h;obtain⟨vs,h1,h2⟩:=yG hI h';refine⟨a.tmps.getD t undef::vs,?_,_,vs,rfl,hI.tmps t,h2⟩;rw[List.mapM_cons];simp only[wL,lc,d9,Result.andThen,h1]
  ·cases h
 |.cell x t::rs,cs,h=>by
  unfold kW at h;split at h
  ·rename_i b off n ag cs' hx hn ha h';split at h
   ·rename_i c0 hb;split at h
    ·rename_i r hr;cases h;obtain⟨vs,h1,h2⟩:=yG hI h';have hv:=hI.tmps x;rw[hx]at hv;obtain⟨g,hg,hv⟩:=hv;obtain⟨g',T,us,e1,e2,e3⟩:=hI.I9.box b _ hb;rw[hg]at e1;cases e1;obtain⟨u,hu1,hu2⟩:=run_load (P:=P) (g:=g) (q:=0) hn ha (fun j u hj=>by rw[Zau,e2.cell];simpa using hj) e3 hr;rw[Zau]at hu1;refine⟨u::vs,?_,u,vs,rfl,hu2,h2⟩;rw[List.mapM_cons];have b5l:(wL a.tmps (.cell x t)).run P w=.ok u w:=by
      simp only[wL,hv,asAddr,lc,d9,Result.andThen,hu1]
     simp only[lc,b5l,d9,Result.andThen,h1]
    ·cases h
   ·cases h
  ·cases h
theorem Ii{fn:Func}{tmps:Array Value}{vs:List Value}(h:(fn.results.toList.mapM (wL tmps)).run P w=.ok vs w):(results fn tmps).run P w=.ok (if h:vs.length=1 then vs[0] else .tuple vs.toArray) w:=by
 have e:results fn tmps=(do let vs ←fn.results.mapM (wL tmps);pure (if h:vs.size=1 then vs[0] else .tuple vs)):=by
  unfold results;congr 1
 rw[e,Array.mapM_eq_mapM_toList];simp only[lc,Sem.run_map,h,Result.andThen,d9];by_cases h1:vs.length=1
 ·simp[h1]
 ·simp[h1]
end
def MW(E:En)(fn:Func)(c:Code)(args:List AV)(an:List An)(ls:List LA):Option (AV×List Prop) :=
 match bW E c ⟨args++List.replicate (fn.ntmps - args.length) (.dt (.val undef)),[]⟩ an ls with
 |some (.out _,_)=>none
 |none=>none
 |some (_,s,ps,_,_)=>match kW E.P s fn.results.toList with
  |some cs=>match bz [] false s.E9 cs with
   |some (cs',qs)=>some (tF cs',ps++qs)
   |none=>none
  |none=>none
def zI(E:En)(fn:Func)(args:List AV)(an:List An)(ls:List LA):Option (AV×List Prop):=match fn.body with
 |some c=>MW E fn c args an ls
 |none=>none
theorem Uc{M:Mm}{w:World}{cs:List AV}{vs:List Value}(h:RL M w cs vs):RV M w (tF cs) (if h:vs.length=1 then vs[0] else .tuple vs.toArray):=by
 have hl:=h.len
 match cs,h with
 |[],h =>
  rw[show vs=[] from h]
  exact⟨[],rfl,rfl⟩
 |[c],⟨u,us,e,h1,h2⟩ =>
  rw[show us=[] from h2]at e
  subst e;exact h1
 |c::c'::cs,h =>
  simp only[yM]at hl;rw[dif_neg J];exact⟨vs,rfl,h⟩
theorem walk{E:En}(hG:∀w w',E.G w→Below w.heap.size w w'→E.G w'){f:FuncId}{fn:Func}{c:Code}(hf:E.P.funcs[f]?=some fn)(hb:fn.body=some c)(hn:(fn.name == "runtime.NumGoroutine")=false)
  {args:List AV} (an:List An) (ls:List LA) {r:AV} {ps:List Prop} (h:MW E fn c args an ls=some (r,ps)) (hp:K7 ps):sF E.P E.G f args r:=by
 refine⟨⟨fn,hf,by rw[hb];rfl,hn⟩,fun ok w vs hw hargs=>?_⟩;unfold MW at h;have key:∃e s cs cs' J9 ls' bJ qs,bW E c ⟨args++List.replicate (fn.ntmps - args.length) (.dt (.val undef)),[]⟩ an ls=some (e,s,bJ,J9,ls')∧(∀i,e≠.out i)∧kW E.P s fn.results.toList=some cs∧bz [] false s.E9 cs=some (cs',qs)∧r=tF cs'∧ps=bJ++qs:=by
  split at h
  ·cases h
  ·cases h
  ·rename_i e s ps' J9 ls' hne hc;split at h
   ·rename_i cs hcs;split at h
    ·rename_i cs' qs hcv;cases h;exact⟨e,s,cs,cs',J9,ls',ps',qs,hc,fun i he=>by subst he;exact hne _ rfl,hcs,hcv,rfl,rfl⟩
    ·cases h
   ·cases h
 obtain⟨e,s,cs,cs',J9,ls',bJ,qs,hc,hne,hcs,hcv,rfl,rfl⟩:=key;obtain⟨hp1,hp2⟩:=fO hp;obtain⟨hlen,Aq⟩:=Cy hc hp1;have hal:=hargs.len;refine calls_of_wp hf hb (wp_mono (Aq (fun _=>False) w.heap.size (w,M0 fun b=>ok b∧b < w.heap.size) ok _ w ⟨fun w' hb=>hG w w' hw hb.below,fun _ _=>⟨rfl,rfl⟩⟩ ⟨M0 fun b=>ok b∧b < w.heap.size,?_⟩) ?_)
 ·have kX:∀b x,(AS.mk (args++List.replicate (fn.ntmps - args.length) (.dt (.val undef))) []).E9 b≠some x:=fun b x h=>by simp[AS.E9]at h
  refine⟨W9.refl _ _ _,PP _,rfl,?_,?_,⟨fun b x h=>absurd h (kX b x),fun b x _ h=>absurd h (kX b x),fun b _ x _ _ h=>absurd h (kX b x),(fun b g h=>by cases h),(fun b v h=>by cases h),fun b hb=>hb.2⟩,fun b hb _=>.inl hb.1,P5.refl _ _ _ _⟩
  ·simp[hal]
  ·intro t;have hargs':RL (M0 fun b=>ok b∧b < w.heap.size) w args vs:=RL.vI (fun b hb hl=>⟨hb,hl⟩) hargs;by_cases ht:t < args.length
   ·obtain⟨u,hu1,hu2⟩:=hargs'.get (i:=t) (c:=args[t]) (ww ht);have e1:(AS.mk (args++List.replicate (fn.ntmps - args.length) (.dt (.val undef))) []).G9 t=args[t]:=by
     unfold AS.G9;simp[ZaD ht,ht]
    have e2:(vs.toArray++Array.replicate (fn.ntmps - vs.toArray.size) undef).getD t undef=u:=by
     have ht':t < vs.length:=J;simp only[ZaK];rw[Array.getElem?_append_left (by simpa using ht')];simp[hu1]
    rw[e1,e2];exact hu2
   ·have e1:(AS.mk (args++List.replicate (fn.ntmps - args.length) (.dt (.val undef))) []).G9 t=.dt (.val undef):=by
     unfold AS.G9;rw[AC,ZaI J,List.getElem?_replicate];split <;> rfl
    have e2:(vs.toArray++Array.replicate (fn.ntmps - vs.toArray.size) undef).getD t undef=undef:=by
     simp only[ZaK];rw[Array.getElem?_append_right (by simp;omega),Array.getElem?_replicate];split <;> rfl
    rw[e1,e2];exact rX
 ·rintro x a' w' ⟨rfl,M,hI⟩;obtain⟨us,h1,h2⟩:=yG hI hcs;obtain⟨M1,hI1,h3,_⟩:=hI.hand hcv hp2 h2;have hR:∃v,(results fn a'.tmps).run E.P w'=.ok v w'∧(fun e w'=>∃v,e=Ending.returned v∧Below w.heap.size w w'∧RV (M0 fun b=>ok b∨w.heap.size≤b) w' (tF cs') v) (.returned v) w':=by
   refine⟨_,Ii h1,_,rfl,hI.below.below,?_⟩;refine RV.lift (F:=M1.F) (M:=M0 fun b=>ok b∨w.heap.size≤b) (fun b hb _=>?_) (Uc h3);by_cases e:b < w.heap.size
   ·rcases hI1.src b hb e with h | h
    ·exact .inl h
    ·exact h.elim
   ·exact .inr J
  cases e with
  |F6=>exact⟨hI.defers,hR⟩
  |ret=>exact⟨hI.defers,hR⟩
  |out i=>exact absurd rfl (hne i)
theorem b2F{E:En}(hG:∀w w',E.G w→Below w.heap.size w w'→E.G w'){f:FuncId}{fn:Func}(hf:E.P.funcs[f]?=some fn)(hn:(fn.name == "runtime.NumGoroutine")=false)
  {args:List AV} {an:List An} {ls:List LA} {r:AV} {ps:List Prop} (h:zI E fn args an ls=some (r,ps)) (hp:K7 ps):sF E.P E.G f args r:=by
 unfold zI at h;split at h
 ·rename_i c hc;exact walk hG hf hc hn an ls h hp
 ·cases h
theorem y7.weak{E:En}{c:Code}{s s':AS}{e:AE}(h:y7 E c s e s')(ft:List Nat)(nb:Nat)(hf:(Nat.ble E.nh nb && forgets nb (forget ft nb s'))=true):y7 E c s e (forget ft nb s'):=by
 refine⟨(JF _ _ _).trans h.1,fun X n0 w0 ok0 a w hG hL=>wp_mono (h.2 X n0 w0 ok0 a w hG hL) ?_⟩;rintro x a' w' ⟨rfl,hL'⟩;exact⟨rfl,Left.forget hf hG hL'⟩
def DX(E:En)(c:Code)(s:AS)(an:List An)(ls:List LA)(ft:List Nat)(nb:Nat):Option (AE×AS×List Prop):=match bW E c s an ls with
 |some (e,s',ps,_,_)=>match Nat.ble E.nh nb && forgets nb (forget ft nb s') with
  |true=>some (e,forget ft nb s',ps)
  |false=>none
 |none=>none
theorem tw{E:En}{c:Code}{s s':AS}{an:List An}{ls:List LA}{ft:List Nat}{nb:Nat}{e:AE}{ps:List Prop}(h:DX E c s an ls ft nb=some (e,s',ps))(hp:K7 ps):y7 E c s e s':=by
 unfold DX at h;split at h
 ·rename_i e1 s1 bJ dB gT hc;split at h
  ·rename_i hf;cases h;exact (Cy hc hp).weak ft nb hf
  ·cases h
 ·cases h
def stG(kv:List (Nat×AV))(i:Nat):AV:=match kv with
 |[]=>.un
 | (j,v)::r=>match Nat.beq i j with
  |true=>v
  |false=>stG r i
def stT(kv:List (Nat×AV)):Nat→Nat→List AV
 |_,0=>[]
 |i,n+1=>stG kv i::stT kv (i+1) n
abbrev stt(n:Nat)(kv:List (Nat×AV)):List AV:=stT kv 0 n
def M6:Code→List Nat→Code
 |c,[]=>c
 |.seq x _,0::p=>M6 x p
 |.seq _ y,_::p=>M6 y p
 |.cond _ x _,0::p=>M6 x p
 |.cond _ _ y,_::p=>M6 y p
 |.block _ b,_::p=>M6 b p
 |.loop b,_::p=>M6 b p
 |.scope b,_::p=>M6 b p
 |c,_=>c
def O4(fn:Func):Code:=match fn.body with
 |some c=>c
 |none=>.skip
def Mj(E:En)(fn:Func)(c:Code)(args:List AV)(xs:List (Option Bx))(ks:List Nat)(an:List An)(ls:List LA):Option (AV×List (Option Bx)×List Prop) :=
 match bW E c ⟨args++List.replicate (fn.ntmps - args.length) (.dt (.val undef)),xs⟩ an ls with
 |some (.out _,_,_,_,_)=>none
 |none=>none
 |some (_,s,ps,_,_)=>match kW E.P s fn.results.toList with
  |some cs=>match bz ks true s.E9 cs with
   |some (cs',qs)=>match iW ks (J2 s.E9 (O8 s.E9 (K6 ks s.E9 cs))) ks with
    |some (xs',rs)=>match nodupB ks && (List.range E.nh).all (fun i=>Nat.beq (ks.getD i (i+1)) i) && Nat.beq xs.length E.nh with
     |true=>some (tF cs',xs',ps++(qs++rs))
     |false=>none
    |none=>none
   |none=>none
  |none=>none
theorem b2G{E:En}{f:FuncId}{fn:Func}{c:Code}(hf:E.P.funcs[f]?=some fn)(hb:fn.body=some c)(hn:(fn.name == "runtime.NumGoroutine")=false)
  {args:List AV} {xs:List (Option Bx)} {ks:List Nat} (an:List An) (ls:List LA) {r:AV} {xs':List (Option Bx)} {ps:List Prop} (h:Mj E fn c args xs ks an ls=some (r,xs',ps)) (hp:K7 ps):aV E.P E.G f args xs r xs':=by
 refine⟨⟨fn,hf,by rw[hb];rfl,hn⟩,fun X M w vs hG hS hargs=>?_⟩;unfold Mj at h;have key:∃e s cs cs' J9 ls' bJ qs rs,bW E c ⟨args++List.replicate (fn.ntmps - args.length) (.dt (.val undef)),xs⟩ an ls=some (e,s,bJ,J9,ls')∧(∀i,e≠.out i)∧kW E.P s fn.results.toList=some cs∧bz ks true s.E9 cs=some (cs',qs) ∧
   iW ks (J2 s.E9 (O8 s.E9 (K6 ks s.E9 cs))) ks=some (xs',rs)∧(nodupB ks && (List.range E.nh).all (fun i=>Nat.beq (ks.getD i (i+1)) i) && Nat.beq xs.length E.nh)=true∧r=tF cs'∧ps=bJ++(qs++rs):=by
  split at h
  ·cases h
  ·cases h
  ·rename_i e s ps' J9 ls' hne hc;split at h
   ·rename_i cs hcs;split at h
    ·rename_i cs' qs hcv;split at h
     ·rename_i xD rs hgb;split at h
      ·rename_i hck;cases h;exact⟨e,s,cs,cs',J9,ls',ps',qs,rs,hc,fun i he=>by subst he;exact hne _ rfl,hcs,hcv,hgb,hck,rfl,rfl⟩
      ·cases h
     ·cases h
    ·cases h
   ·cases h
 obtain⟨e,s,cs,cs',J9,ls',bJ,qs,rs,hc,hne,hcs,hcv,hgb,hck,rfl,rfl⟩:=key;simp only[Ce,Zag,List.mem_range]at hck;obtain⟨⟨hnd,hks⟩,hxl⟩:=hck;have hnd:=IL hnd;have hxl:xs.length=E.nh:=Zae hxl;have hks:∀i,i < E.nh→ks[i]?=some i:=fun i hi=>by
  have:=Zae (hks i hi);rw[AC]at this;cases hk:ks[i]? with
  |none=>rw[hk]at this;simp at this
  |some k=>rw[hk]at this;simp at this;rw[this]
 obtain⟨hp1,hp2⟩:=fO hp;obtain⟨hp2,hp3⟩:=fO hp2;obtain⟨hlen,Aq⟩:=Cy hc hp1;have hal:=hargs.len;have hbx:(AS.mk (args++List.replicate (fn.ntmps - args.length) (.dt (.val undef))) xs).E9=lk xs:=rfl;have hhg:HG E X w.heap.size (w,M):=⟨hG,fun k hk=>by
  have hl:lk xs k=none:=by unfold lk;rw[Za4 J]
  exact⟨hS.yO hl,hS.Dn hl⟩⟩
 refine calls_of_wp hf hb (wp_mono (Aq X w.heap.size (w,M) M.F _ w hhg ⟨M,?_⟩) ?_)
 ·refine⟨W9.refl _ _ _,PP _,rfl,?_,?_,by rw[hbx];exact hS,fun b hb _=>.inl hb,P5.refl _ _ _ _⟩
  ·simp[hal]
  ·intro t;by_cases ht:t < args.length
   ·obtain⟨u,hu1,hu2⟩:=hargs.get (i:=t) (c:=args[t]) (ww ht);have e1:(AS.mk (args++List.replicate (fn.ntmps - args.length) (.dt (.val undef))) xs).G9 t=args[t]:=by
     unfold AS.G9;simp[ZaD ht,ht]
    have e2:(vs.toArray++Array.replicate (fn.ntmps - vs.toArray.size) undef).getD t undef=u:=by
     have ht':t < vs.length:=J;simp only[ZaK];rw[Array.getElem?_append_left (by simpa using ht')];simp[hu1]
    rw[e1,e2];exact hu2
   ·have e1:(AS.mk (args++List.replicate (fn.ntmps - args.length) (.dt (.val undef))) xs).G9 t=.dt (.val undef):=by
     unfold AS.G9;rw[AC,ZaI J,List.getElem?_replicate];split <;> rfl
    have e2:(vs.toArray++Array.replicate (fn.ntmps - vs.toArray.size) undef).getD t undef=undef:=by
     simp only[ZaK];rw[Array.getElem?_append_right (by simp;omega),Array.getElem?_replicate];split <;> rfl
    rw[e1,e2];exact rX
 ·rintro x a' w' ⟨rfl,Mf,hI⟩;obtain⟨us,h1,h2⟩:=yG hI hcs;obtain⟨M1,hI1,h3,_⟩:=hI.XA hcv hp2 h2;have b5m:=Ua hI1 hnd hgb hp3 (Y:=X) (m0:=w.heap.size) fun j hj x q hb hq=>(hI1.I9.dom j x q hb hq).1
  have hnh:∀k,(M.m k).isSome=true∨(M.o k).isSome=true→k < E.nh:=fun k hk=>by
   rcases Za5 k E.nh with h | h
   ·exact h
   ·obtain⟨e1,e2⟩:=hhg.h k h;rw[show M.m k=none from e1,show M.o k=none from e2]at hk
    rcases hk with hk | hk <;> cases hk
  have hgo:P5 X w.heap.size M w (jL M1 ks) w':=⟨hI1.iI.below,hI1.iI.keep,hI1.iI.F,fun k q hq=>by
   have hk:=hks k (hnh k (.inl (by rw[hq];rfl)));show (ks[k]?).bind M1.m=_;rw[hk];exact hI1.iI.m k q hq,fun k A n c hq=>by
   have hk:=hks k (hnh k (.inr (by rw[hq];rfl)));show ∃A' n' c',(ks[k]?).bind M1.o=_∧_;rw[hk];exact hI1.iI.o k A n c hq⟩
  have hR:∃v,(results fn a'.tmps).run E.P w'=.ok v w'∧(fun e w'=>∃v M',e=Ending.returned v∧P5 X w.heap.size M w M' w'∧aa X w.heap.size M' (lk xs') w'∧(∀b,M'.F b→M.F b∨w.heap.size≤b∨X b)∧RV M' w' (tF cs') v) (.returned v) w':=by
   refine⟨_,Ii h1,_,jL M1 ks,rfl,hgo,b5m,fun b hb=>?_,Uc h3⟩;by_cases e:b < w.heap.size
   ·rcases hI1.src b hb e with h | h
    ·exact .inl h
    ·exact .inr (.inr h)
   ·exact .inr (.inl J)
  cases e with
  |F6=>exact⟨hI.defers,hR⟩
  |ret=>exact⟨hI.defers,hR⟩
  |out i=>exact absurd rfl (hne i)
def DY(E:En)(fn:Func)(args:List AV)(xs:List (Option Bx))(ks:List Nat)(an:List An)(ls:List LA):Option (AE×AS×List Prop):=match fn.body with
 |some c=>match Mj E fn c args xs ks an ls with
  |some (r,xs',ps)=>some (.F6,⟨[r],xs'⟩,ps)
  |none=>none
 |none=>none
theorem a99{E:En}{f:FuncId}{fn:Func}(hf:E.P.funcs[f]?=some fn)(hn:(fn.name == "runtime.NumGoroutine")=false)
  {args:List AV} {xs:List (Option Bx)} {ks:List Nat} {an:List An} {ls:List LA} {r:AV} {xs':List (Option Bx)} {ps:List Prop} (h:DY E fn args xs ks an ls=some (.F6,⟨[r],xs'⟩,ps)) (hp:K7 ps):aV E.P E.G f args xs r xs':=by
 unfold DY at h;split at h
 ·rename_i c hc;split at h
  ·rename_i r1 xD bJ h1;cases h;exact b2G hf hc hn an ls h1 hp
  ·cases h
 ·cases h
def Gx(w:World):Prop:=R9 w∧True
theorem Gx.below{w w':World}(h:Gx w)(hb:Below w.heap.size w w'):Gx w':=⟨h.1.below hb,Z⟩
def MX(_g _i:Nat):Option Value:=none
theorem Ud(w:World)(_h:Gx w)(g i:Nat)(v:Value)(hv:MX g i=some v):w.cell? ⟨g,i,none⟩=some v:=by cases hv
theorem mixed:prog.follows .mixedOrders=true:=by kernel_rfl
noncomputable abbrev EX:En:=⟨prog,Gx,MX,Ud,mixed,0⟩
abbrev j5(f:FuncId)(args:List AV)(r:AV):Prop:=sF prog Gx f args r
abbrev vi(n:Int):Value:=.int .i64 n
abbrev bT:Value:=.bool true
abbrev bF:Value:=.bool false
abbrev Bn(op:BinOp)(t:TypeId)(x y:Operand)(a b r:Value):Prop:=bg prog op t x y a b r
abbrev o7(o:Ob):AV:=.agg [.dt (.val (.int .i64 o.kind)),.dt (.val (str o.num)),.dt (.val (str o.den)),.dt (.val (str o.sp)),.dt (.val (str o.sn)),.dt (.val (str o.text)),.dt (.row (o.pair.map Ob.enc))]
abbrev l5(b:Bool):AV:=.dt (.val (.bool b))
abbrev yT:An:=.av (l5 true)
abbrev yF:An:=.av (l5 false)
abbrev j4(n:Int):AV:=.dt (.val (.int .i64 n))
abbrev stA(l:lw):AV:=.dt (.val (str l))
theorem RV.obj{M:Mm}{w:World}{o:Ob}{v:Value}(h:RV M w (o7 o) v):∃A n c,v=G6 o (.slice A n c)∧Rd M.F w (.slice A n c) (.row (o.pair.map Ob.enc)):=by
 obtain⟨vs,rfl,u0,_,rfl,h0,u1,_,rfl,h1,u2,_,rfl,h2,u3,_,rfl,h3,u4,_,rfl,h4,u5,_,rfl,h5,u6,_,rfl,h6,rfl⟩:=h;obtain⟨A,n,c,rfl,_⟩:=Rd.slice h6;refine⟨A,n,c,?_,h6⟩;rw[Rd.Q7 h0,Rd.Q7 h1,Rd.Q7 h2,Rd.Q7 h3,Rd.Q7 h4,Rd.Q7 h5]
theorem RV.XB{M:Mm}{w:World}{o:Ob}{A:Option Addr}{n c:Nat}(h:Rd M.F w (.slice A n c) (.row (o.pair.map Ob.enc))):RV M w (o7 o) (G6 o (.slice A n c)) :=
 ⟨_,rfl,_,_,rfl,.val _,_,_,rfl,.val _,_,_,rfl,.val _,_,_,rfl,.val _,_,_,rfl,.val _,_,_,rfl,.val _,_,_,rfl,h,rfl⟩
theorem RL.vO{M:Mm}{w:World}{o:Ob}{vs:List Value}(h:RL M w [o7 o] vs):∃A n c,vs=[G6 o (.slice A n c)]∧Rd M.F w (.slice A n c) (.row (o.pair.map Ob.enc)):=by
 obtain⟨u,us,rfl,h1,rfl⟩:=h;obtain⟨A,n,c,rfl,h⟩:=h1.obj;exact⟨A,n,c,rfl,h⟩
theorem RL.si{M:Mm}{w:World}{o o':Ob}{vs:List Value}(h:RL M w [o7 o,o7 o'] vs):∃A n c A' n' c',vs=[G6 o (.slice A n c),G6 o' (.slice A' n' c')]∧Rd M.F w (.slice A n c) (.row (o.pair.map Ob.enc))∧Rd M.F w (.slice A' n' c') (.row (o'.pair.map Ob.enc)):=by
 obtain⟨u,us,rfl,h1,h2⟩:=h;obtain⟨A,n,c,rfl,h⟩:=h1.obj;obtain⟨A',n',c',rfl,h'⟩:=RL.vO h2;exact⟨A,n,c,A',n',c',rfl,h,h'⟩
theorem RL.eB{M:Mm}{w:World}{u:Value}{vs:List Value}(h:RL M w [.dt (.val u)] vs):vs=[u]:=by
 obtain⟨x,us,rfl,h1,rfl⟩:=h;rw[Rd.Q7 h1]
theorem kH.pure{ok:Nat→Prop}{r:Ob}{w w':World}{e:Ending}(h:kH ok r w e w'):∃v,e=.returned v∧Below w.heap.size w w'∧RV (M0 fun b=>ok b∨w.heap.size≤b) w' (o7 r) v:=by
 obtain⟨A,n,c,rfl,h1,h2⟩:=h;exact⟨_,rfl,h2,RV.XB h1⟩
theorem J7.pure{ok:Nat→Prop}{r:Value}{w w':World}{e:Ending}(h:J7 r w e w'):∃v,e=.returned v∧Below w.heap.size w w'∧RV (M0 fun b=>ok b∨w.heap.size≤b) w' (.dt (.val r)) v:=by
 obtain⟨rfl,h2⟩:=h;exact⟨_,rfl,h2,.val _⟩
abbrev Fn(f:FuncId):Prop:=∃fn,prog.funcs[f]?=some fn∧fn.body.isNone=false∧(fn.name == "runtime.NumGoroutine")=false
theorem nR{f:FuncId}(hf:Fn f){o:Ob}{r:Value}(h:∀(ok:Nat→Prop) (A:Option Addr) (n c:Nat) (w:World),R9 w→Rd ok w (.slice A n c) (.row (o.pair.map Ob.enc))→Calls prog f #[G6 o (.slice A n c)] w (J7 r w)):j5 f [o7 o] (.dt (.val r)) :=
 ⟨hf,fun ok w vs ht hv=>by
  obtain⟨A,n,c,rfl,hr⟩:=hv.vO;exact (h ok A n c w ht.1 hr).mono fun _ _=>J7.pure⟩
theorem VE{f:FuncId}(hf:Fn f){o o' r:Ob}(h:∀(ok:Nat→Prop) (A A':Option Addr) (n c n' c':Nat) (w:World),R9 w→Rd ok w (.slice A n c) (.row (o.pair.map Ob.enc))→Rd ok w (.slice A' n' c') (.row (o'.pair.map Ob.enc))→Calls prog f #[G6 o (.slice A n c),G6 o' (.slice A' n' c')] w (kH ok r w)):j5 f [o7 o,o7 o'] (o7 r) :=
 ⟨hf,fun ok w vs ht hv=>by
  obtain⟨A,n,c,A',n',c',rfl,hr,hr'⟩:=hv.si;exact (h ok A A' n c n' c' w ht.1 hr hr').mono fun _ _=>kH.pure⟩
theorem XC{f:FuncId}{fn:Func}(hf:prog.funcs[f]?=some fn)(hn:(fn.name == "runtime.NumGoroutine")=false){args:List AV}{an:List An}{ls:List LA}{r:AV}{ps:List Prop}(h:zI EX fn args an ls=some (r,ps))(hp:K7 ps):j5 f args r :=
 b2F (E:=EX) (fun _ _ h hb=>h.below hb) hf hn h hp
noncomputable abbrev J3(n:Nat):En:=⟨prog,Gx,MX,Ud,mixed,n⟩
abbrev D6(f:FuncId)(args:List AV)(xs:List (Option Bx))(r:AV)(xs':List (Option Bx)):Prop:=aV prog Gx f args xs r xs'
theorem psw{n:Nat}{f:FuncId}{fn:Func}(hf:prog.funcs[f]?=some fn)(hn:(fn.name == "runtime.NumGoroutine")=false){args:List AV}{xs:List (Option Bx)}{ks:List Nat}{an:List An}{ls:List LA}{r:AV}{xs':List (Option Bx)}{ps:List Prop}(h:DY (J3 n) fn args xs ks an ls=some (.F6,⟨[r],xs'⟩,ps))(hp:K7 ps):D6 f args xs r xs' :=
 a99 (E:=J3 n) hf hn h hp
theorem b9g{c:Code}{s s':AS}{an:List An}{ls:List LA}{ft:List Nat}{nb:Nat}{e:AE}{ps:List Prop}(h:DX EX c s an ls ft nb=some (e,s',ps))(hp:K7 ps):y7 EX c s e s':=tw h hp
theorem pW(an:List An)(ls:List LA)(ps:List Prop){f:FuncId}{fn:Func}{args:List AV}{r:AV}(hf:prog.funcs[f]?=some fn)(hp:K7 ps)(hn:(fn.name == "runtime.NumGoroutine")=false:=by kernel_rfl)(h:zI EX fn args an ls=some (r,ps):=by kernel_rfl):j5 f args r:=XC hf hn h hp
theorem pV(an:List An)(ps:List Prop){f:FuncId}{fn:Func}{args:List AV}{r:AV}(hf:prog.funcs[f]?=some fn)(hp:K7 ps)(hn:(fn.name == "runtime.NumGoroutine")=false:=by kernel_rfl)(h:zI EX fn args an []=some (r,ps):=by kernel_rfl):j5 f args r:=XC hf hn h hp
theorem sW(n:Nat)(ks:List Nat)(an:List An)(ls:List LA)(ps:List Prop){f:FuncId}{fn:Func}{args:List AV}{xs xs':List (Option Bx)}{r:AV}(hf:prog.funcs[f]?=some fn)(hp:K7 ps)(hn:(fn.name == "runtime.NumGoroutine")=false:=by kernel_rfl)(h:DY (J3 n) fn args xs ks an ls=some (.F6,⟨[r],xs'⟩,ps):=by kernel_rfl):D6 f args xs r xs':=psw hf hn h hp
theorem tW{E:En}{c:Code}{s s':AS}{e:AE}(an:List An)(ls:List LA)(ft:List Nat)(nb:Nat)(ps:List Prop)(hp:K7 ps)(h:DX E c s an ls ft nb=some (e,s',ps):=by kernel_rfl):y7 E c s e s':=tw h hp
abbrev nK:Nat→List An→List An
 |0,l=>l
 |n+1,l=>.no::nK n l
noncomputable abbrev Bt(o:BinOp)(t A B:Nat)(x y:Int)(r:Value):Prop:=Bn o t (.tmp A) (.tmp B) (vi x) (vi y) r
noncomputable abbrev Bk(o:BinOp)(t A:Nat)(k x:Int)(r:Value):Prop:=Bn o t (.tmp A) (.const (vi k)) (vi x) (vi k) r
noncomputable abbrev Bs(o:BinOp)(t A B:Nat)(x y:lw)(r:Value):Prop:=Bn o t (.tmp A) (.tmp B) (str x) (str y) r
noncomputable abbrev Bl(o:BinOp)(t A:Nat)(l x:lw)(r:Value):Prop:=Bn o t (.tmp A) (.const (str l)) (str x) (str l) r
noncomputable abbrev Bu(o:BinOp)(t A:Nat)(k x:Int)(r:Value):Prop:=Bn o t (.tmp A) (.const (Value.int .u8 k)) (Value.int .u8 x) (Value.int .u8 k) r
theorem Q3{f:FuncId}{fn:Func}(hf:prog.funcs[f]?=some fn)(hb:fn.body.isNone=false)(hn:(fn.name == "runtime.NumGoroutine")=false):Fn f:=⟨fn,hf,hb,hn⟩
theorem j5.val{f:FuncId}{args:List AV}{a b:AV}(h:j5 f args a)(e:a=b):j5 f args b:=e ▸ h
theorem j5.b{f:FuncId}{args:List AV}{a b:Bool}(h:j5 f args (l5 a))(e:a=b):j5 f args (l5 b):=e ▸ h
def Tr.dC:Tr→Bool
 |.cons _ _=>true
 |_=>false
abbrev l9(t:Tr):AV:=o7 t.ob
abbrev A9(o:Ob):List Dt:=[.val (.int .i64 o.kind),.val (str o.num),.val (str o.den),.val (str o.sp),.val (str o.sn),.val (str o.text),.row (o.pair.map Ob.enc)]
theorem ED(o:Ob):o.enc=A9 o:=Ob.lU o
theorem DZ{l:List Ob}{i:Nat}{o:Ob}(h:l[i]?=some o):z8 (l.map Ob.enc) (i:Int) 7 (A9 o):=⟨Int.natCast_nonneg _,by
 rw[Int.toNat_natCast,bi,h];exact congrArg some (ED o),rfl⟩
theorem ik.pure{ok:Nat→Prop}{p:Prop}[Decidable p]{w w':World}{e:Ending}(h:ik p w e w'):∃v,e=.returned v∧Below w.heap.size w w'∧RV (M0 fun b=>ok b∨w.heap.size≤b) w' (l5 (decide p)) v:=by
 obtain⟨b,rfl,hb,h2⟩:=h;refine⟨_,rfl,h2,?_⟩;rw[show decide p=b by cases b <;> simp_all]
 exact .val _
theorem ik.iff{p q:Prop}(h:p↔q){w w':World}{e:Ending}(hr:ik p w e w'):ik q w e w':=by
 obtain⟨b,h1,h2,h3⟩:=hr;exact⟨b,h1,h2.trans h,h3⟩
theorem Y9.pure{ok:Nat→Prop}{r:Ob}{w w':World}{e:Ending}(hp:r.pair=[])(h:Y9 r w e w'):∃v,e=.returned v∧Below w.heap.size w w'∧RV (M0 fun b=>ok b∨w.heap.size≤b) w' (o7 r) v:=kH.pure (ok:=ok) (h.obj hp)
theorem qc.pure{ok:Nat→Prop}{q:Rat}{w w':World}{e:Ending}(h:qc q w e w'):∃v,e=.returned v∧Below w.heap.size w w'∧RV (M0 fun b=>ok b∨w.heap.size≤b) w' (l9 (.num q)) v:=by
 obtain⟨A,c,rfl,h2⟩:=h;exact⟨_,rfl,h2,RV.XB (o:=U4 q) (.nil _ _)⟩
theorem Ue(a d:Ob):j5 191 [o7 a,o7 d] (o7 (dW a d)) :=
 VE (Q3 func191 rfl (by kernel_rfl)) fun ok A A' n c n' c' w _ h h'=>a2V ok a d A A' n n' c c' w h h'
theorem b2H{k:Nat}{a:Tr}(b:Tr)(ha:a.Ok k)(hk:k≤100000):j5 104 [l9 a,l9 b] (l5 (decide (a=b))) :=
 ⟨Q3 func104 rfl (by kernel_rfl),fun ok w vs ht hv=>by
  obtain⟨A,n,c,A',n',c',rfl,hr,hr'⟩:=hv.si;exact (PS ok ok a.ob.size a.ob b.ob (PP _) (ha.wf hk) A A' n n' c c' w hr hr').mono fun e w' h=>(ik.iff Tr.vX h).pure⟩
theorem pY{k:Nat}{t:Tr}(h:t.Ok k)(hk:k≤100000):j5 201 [l9 t] (l5 t.valid) :=
 nR (Q3 func201 rfl (by kernel_rfl)) fun ok A n c w ht hr=>by
  rw[←Tr.QE];exact a2u ok t.ob (h.wf hk) (h.sm hk) A n c w ht hr
theorem DC(a d:Ob):j5 81 [o7 a,o7 d] (o7 (dW a d)) :=
 VE (Q3 func81 rfl (by kernel_rfl)) fun ok A A' n c n' c' w _ h h'=>QB ok a d A A' n n' c c' w h h'
theorem b2I{k:Nat}{a:Tr}(b:Tr)(ha:a.Ok k)(hk:k≤100000):j5 49 [l9 a,l9 b] (l5 (decide (a=b))) :=
 ⟨Q3 func49 rfl (by kernel_rfl),fun ok w vs ht hv=>by
  obtain⟨A,n,c,A',n',c',rfl,hr,hr'⟩:=hv.si;exact (Ir ok ok a.ob.size a.ob b.ob (PP _) (ha.wf hk) A A' n n' c c' w hr hr').mono fun e w' h=>(ik.iff Tr.vX h).pure⟩
theorem a4L{k:Nat}{a b:Tr}(ha:a.Ok k)(hb:b.Ok k)(h1:1≤k)(hk:k≤10000):j5 164 [l9 a,l9 b] (l5 (decide (a.val < b.val))) :=
 ⟨Q3 func164 rfl (by kernel_rfl),fun ok w vs ht hv=>by
  obtain⟨A,n,c,A',n',c',rfl,hr,hr'⟩:=hv.si;have e1:=hr.len;have e2:=hr'.len;rw[Cc]at e1 e2;exact (a3c a.ob b.ob a.val b.val a.DT b.DT (ha.val h1) (hb.val h1) hk hk A A' n n' c c' e1 e2 w ht.1).mono fun _ _=>J7.pure⟩
theorem R3{k:Nat}{t:Tr}(h:t.Ok k)(hk:k≤100000):j5 126 [l9 t] (l5 t.valid) :=
 nR (Q3 func126 rfl (by kernel_rfl)) fun ok A n c w ht hr=>by
  rw[←Tr.QE];exact PY ok t.ob (h.wf hk) (h.sm hk) A n c w hr
theorem zn(n:Int)(h0:-9223372036854775808≤n)(h1:n≤9223372036854775807):j5 197 [j4 n] (l9 (.num n)) :=
 ⟨Q3 func197 rfl (by kernel_rfl),fun ok w vs ht hv=>by
  obtain rfl:=hv.eB;exact (Rm n w ht.1 h0 h1).mono fun _ _ h=>Y9.pure (r:=(Tr.num n).ob) rfl (by
   show Y9 (U4 n) _ _ _;rw[Jb];exact h)⟩
theorem wy(n:Int)(h0:-9223372036854775808≤n)(h1:n≤9223372036854775807):j5 55 [j4 n] (l9 (.num n)) :=
 ⟨Q3 func55 rfl (by kernel_rfl),fun ok w vs ht hv=>by
  obtain rfl:=hv.eB;exact (Rs n w ht.1 h0 h1).mono fun _ _ h=>Y9.pure (r:=(Tr.num n).ob) rfl h⟩
theorem vo(o:Ob)(hn:o.pair.length≤9223372036854775807):j5 112 [o7 o] (l5 (decide (o.kind=4∧o.pair.length=2))) :=
 nR (Q3 func112 rfl (by kernel_rfl)) fun ok A n c w _ hr=>by
  have e1:=hr.len;rw[Cc]at e1;rw[e1];exact a1U o A n c w J
theorem a4M(a b:lw):(⟨a.toArray⟩:ByteArray)++⟨b.toArray⟩=⟨(a++b).toArray⟩:=by
 apply ByteArray.ext;rw[ByteArray.data_append];simp
theorem Dh{P:Program}{t:TypeId}{x y:Operand}{a b:lw}(h:a.length+b.length≤9223372036854775807):bg P .add t x y (str a) (str b) (str (a++b)):=by
 have:=a7o (P:=P) (t:=t) (x:=x) (y:=y) (a:=⟨a.toArray⟩) (b:=⟨b.toArray⟩) (by
  show ((a.toArray.size+b.toArray.size:Nat):Int)≤9223372036854775807;simp only[List.size_toArray];omega)
 rw[a4M]at this;exact this
theorem Qf(a:lw):(⟨a.toArray⟩:ByteArray).toList=a:=by
 rw[ZaO]
theorem xI{α:Type}[BEq α][LawfulBEq α][DecidableEq α](a b:α):(a == b)=decide (a=b):=by
 by_cases h:a=b <;> simp[h]
theorem I6{P:Program}{t:TypeId}{x y:Operand}{a b:lw}{r:Bool}(h:decide (a=b)=r):bg P .eql t x y (str a) (str b) (.bool r):=by
 refine iT ?_;show some (Value.bool (a == b))=_;rw[←h,xI a b]
theorem a7z{P:Program}{t:TypeId}{x y:Operand}{a b:lw}{r:Bool}(h:decide (a=b)=!r):bg P .neq t x y (str a) (str b) (.bool r):=by
 refine iT ?_;show some (Value.bool !(a == b))=_;rw[xI a b,h,Bool.not_not]
theorem C9{P:Program}{t:TypeId}{x y:Operand}{k:IntKind}{a b:Int}{r:Bool}(h:decide (a=b)=r):bg P .eql t x y (.int k a) (.int k b) (.bool r):=by
 refine iT ?_;simp only[je,decide_true];rw[xI a b,h]
theorem D8{P:Program}{t:TypeId}{x y:Operand}{k:IntKind}{a b:Int}{r:Bool}(h:decide (a < b)=r):bg P .lss t x y (.int k a) (.int k b) (.bool r):=by
 refine iT ?_;simp only[je,decide_true];rw[h]
theorem K4{P:Program}{t:TypeId}{x y:Operand}{k:IntKind}{a b:Int}{r:Bool}(h:decide (b < a)=r):bg P .gtr t x y (.int k a) (.int k b) (.bool r):=by
 refine iT ?_;simp only[je,decide_true,gt_iff_lt];rw[h]
theorem U0{P:Program}{t:TypeId}{x y:Operand}{k:IntKind}{a b:Int}{r:Bool}(h:decide (b≤a)=r):bg P .geq t x y (.int k a) (.int k b) (.bool r):=by
 refine iT ?_;simp only[je,decide_true,ge_iff_le];rw[h]
theorem H6{P:Program}{t:TypeId}{x y:Operand}{a b c:Int}(h:a+b=c)(h0:-9223372036854775808≤c)(h1:c≤9223372036854775807):bg P .add t x y (.int .i64 a) (.int .i64 b) (.int .i64 c):=by
 refine iT ?_;simp only[je,decide_true];rw[h,show IntKind.i64.wrap c=c by rw[IntKind.wrap_i64];omega]
theorem bL{P:Program}{t:TypeId}{x y:Operand}{a b c:Int}(h:a - b=c)(h0:-9223372036854775808≤c)(h1:c≤9223372036854775807):bg P .sub t x y (.int .i64 a) (.int .i64 b) (.int .i64 c):=by
 refine iT ?_;simp only[je,decide_true];rw[h,show IntKind.i64.wrap c=c by rw[IntKind.wrap_i64];omega]
theorem run_equal_bool{P:Program}{t:TypeId}(hu:P.underlying t=some .bool)(a b:Bool)(w:World):(Op.equal t (.bool a) (.bool b)).run P w=.ok (a == b) w:=by
 show (Op.equalIn (9999+1) t (.bool a) (.bool b)).run P w=_;rw[Op.equalIn];simp only[lc,Zac hu,Result.andThen,d9]
theorem TG{P:Program}{t:TypeId}{x y:Operand}{a b r:Bool}(hu:P.underlying t=some .bool)(h:(a == b)=r):bg P .eql t x y (.bool a) (.bool b) (.bool r):=by
 intro w;rw[←h];have e:(Op.equal t (.bool a) (.bool b)).run P w=.ok (a == b) w:=run_equal_bool hu a b w;simp only[eqGuard,binOp,lc,Result.andThen,Bool.not_true,ZaL,Zav,d9];rw[e]
 all_goals rfl
namespace Ob
mutual
def uC:Ob→Ob→Bool
 |⟨k,n,d,p,s,t,l⟩,⟨k',n',d',p',s',t',l'⟩=>decide (k=k') && decide (n=n') && decide (d=d') && decide (p=p') && decide (s=s') && decide (t=t') && gy l l'
def gy:List Ob→List Ob→Bool
 |[],[]=>true
 |a::l,b::l'=>uC a b && gy l l'
 |[],_::_=>false
 |_::_,[]=>false
end
mutual
theorem yR:∀a b:Ob,uC a b=true↔a=b
 |⟨k,n,d,p,s,t,l⟩,⟨k',n',d',p',s',t',l'⟩=>by
  rw[uC];simp only[Ce,rE,yH l l',Ob.mk.injEq,and_assoc]
theorem yH:∀a b:List Ob,gy a b=true↔a=b
 |[],[]=>by simp[gy]
 |a::l,b::l'=>by
  rw[gy];simp only[Ce,yR a b,yH l l',List.cons.injEq]
 |[],_::_=>by simp[gy]
 |_::_,[]=>by simp[gy]
end
end Ob
instance:DecidableEq Ob:=fun a b=>decidable_of_iff _ (Ob.yR a b)
abbrev U1{α:Type}[DecidableEq α](a b:α):Bool:=decide (a=b)
structure Te where
 kind:Int
 np:lw
 nn:lw
 val:Ob
 args:List Te
namespace Te
mutual
def enc:Te→List Dt
 |⟨k,p,n,o,l⟩=>[.val (.int .i64 k),.val (str p),.val (str n),.val (.int .i64 o.kind),.val (str o.num),.val (str o.den),.val (str o.sp),.val (str o.sn),.val (str o.text),.row (o.pair.map Ob.enc),.row (jK l)]
def jK:List Te→aa0
 |[]=>[]
 |t::r=>enc t::jK r
end
mutual
def size:Te→Nat
 |⟨_,_,_,_,l⟩=>EE l+1
def EE:List Te→Nat
 |[]=>0
 |t::r=>size t+EE r
end
mutual
def uC:Te→Te→Bool
 |⟨k,p,n,o,l⟩,⟨k',p',n',o',l'⟩=>decide (k=k') && decide (p=p') && decide (n=n') && decide (o=o') && gy l l'
def gy:List Te→List Te→Bool
 |[],[]=>true
 |a::l,b::l'=>uC a b && gy l l'
 |[],_::_=>false
 |_::_,[]=>false
end
mutual
theorem yR:∀a b:Te,uC a b=true↔a=b
 |⟨k,p,n,o,l⟩,⟨k',p',n',o',l'⟩=>by
  rw[uC];simp only[Ce,rE,yH l l',Te.mk.injEq,and_assoc]
theorem yH:∀a b:List Te,gy a b=true↔a=b
 |[],[]=>by simp[gy]
 |a::l,b::l'=>by
  rw[gy];simp only[Ce,yR a b,yH l l',List.cons.injEq]
 |[],_::_=>by simp[gy]
 |_::_,[]=>by simp[gy]
end
instance:DecidableEq Te:=fun a b=>decidable_of_iff _ (yR a b)
theorem a4N(l:List Te):jK l=l.map enc:=by
 induction l with
 |nil=>rfl
 |cons t r ih=>rw[jK,ih];rfl
theorem size_pos(t:Te):0 < t.size:=by cases t;rw[size];omega
theorem a3p{l:List Te}{t:Te}(h:t∈l):t.size≤EE l:=by
 induction l with
 |nil=>cases h
 |cons x r ih =>
  rw[EE];rcases Za3.1 h with rfl | h
  ·omega
  ·have:=ih h;omega
theorem ym{t x:Te}(h:x∈t.args):x.size < t.size:=by
 obtain⟨k,p,n,o,l⟩:=t;rw[size];have:=a3p (l:=l) h;omega
inductive Wf:Te→Prop
 |mk (t:Te) (hv:t.val.Wf) (hl:t.args.length≤9223372036854775807) (h:∀x∈t.args,Wf x):Wf t
end Te
abbrev o8(t:Te):List Dt:=[.val (.int .i64 t.kind),.val (str t.np),.val (str t.nn),.val (.int .i64 t.val.kind),.val (str t.val.num),.val (str t.val.den),.val (str t.val.sp),.val (str t.val.sn),.val (str t.val.text),.row (t.val.pair.map Ob.enc),.row (t.args.map Te.enc)]
theorem mf(t:Te):t.enc=o8 t:=by
 obtain⟨k,p,n,o,l⟩:=t;rw[Te.enc,Te.a4N]
abbrev o6(t:Te):AV:=.agg [j4 t.kind,stA t.np,stA t.nn,j4 t.val.kind,stA t.val.num,stA t.val.den,stA t.val.sp,stA t.val.sn,stA t.val.text,.dt (.row (t.val.pair.map Ob.enc)),.dt (.row (t.args.map Te.enc))]
abbrev C8(l:List Te):AV:=.dt (.row (l.map Te.enc))
theorem M5{l:List Te}{i:Nat}{t:Te}(h:l[i]?=some t):z8 (l.map Te.enc) (i:Int) 11 (o8 t):=⟨Int.natCast_nonneg _,by
 rw[Int.toNat_natCast,bi,h];exact congrArg some (mf t),rfl⟩
theorem F9(l:List Te):Value.int .i64 (l.length:Int)=Value.int .i64 ((l.map Te.enc).length:Int):=by rw[Cc]
abbrev dF(c:List Te):List Dt:=[.row (c.map Te.enc)]
abbrev wY(l:List (List Te)):AV:=.dt (.row (l.map dF))
namespace Te
abbrev Q9:Ob:=⟨0,[],[],[],[],[],[]⟩
abbrev F4:Te:=⟨0,[],[],Q9,[]⟩
def ap(n:lw)(l:List Te):Te:=⟨3,o9,n,Q9,l⟩
abbrev is(t:Te)(n:lw)(k:Nat):Prop:=t.kind=3∧t.np=o9∧t.nn=n∧t.args.length=k
abbrev D9:lw:=[110,111,116]
abbrev x8:lw:=[105,102]
abbrev dN:lw:=[105,109,112,108,105,101,115]
abbrev fH:lw:=[105,102,102]
def H9(o:Ob):Te:=⟨2,[],[],o,[]⟩
abbrev r9:Te:=H9 tO
abbrev noT:Te:=H9 K8
abbrev arg(t:Te)(i:Nat):Te:=t.args.getD i F4
def neg(t:Te):Te:=if is t D9 1 then t.arg 0 else ap D9 [t]
def opened(t:Te):Option Te :=
 if is t D9 1 then some (ap x8 [t.arg 0,noT,r9])
 else if is t dN 2 then some (ap x8 [t.arg 0,ap x8 [t.arg 1,r9,noT],r9])
 else if is t fH 2 then some (ap x8 [t.arg 0,ap x8 [t.arg 1,r9,noT],ap x8 [t.arg 1,noT,r9]])
 else none
end Te
open Te
structure NS where
 out:List (List Te)
 ex:Int
 er:Int
def NS.fail(D:List Te→List Te)(s:NS)(c:List Te):NS:=if 60 < (D c).length∨400≤s.out.length then { s with er:=2 } else { s with out:=s.out++[D c] }
def NS.tick(s:NS):NS:=⟨s.out,s.ex+1,if 20000 < s.ex+1 then 2 else s.er⟩
def O0(D:List Te→List Te):Nat→Te→List Te→NS→NS
 |0,_,_,s=>s
 |f+1,t,qs,s =>
  if s.tick.er≠0 then s.tick else
  if t.kind=2 then (if t.val=K8 then s.tick.fail D (qs.map neg) else s.tick) else
  match opened t with
  |some t'=>O0 D f t' qs s.tick
  |none =>
   if is t x8 3 then
    if (t.arg 0).kind=2∧(t.arg 0).val=K8 then O0 D f (t.arg 2) qs s.tick
    else if (t.arg 0).kind=2 then O0 D f (t.arg 1) qs s.tick
    else if is (t.arg 0) D9 1 then O0 D f (ap x8 [(t.arg 0).arg 0,t.arg 2,t.arg 1]) qs s.tick
    else if is (t.arg 0) x8 3 then O0 D f (ap x8 [(t.arg 0).arg 0,ap x8 [(t.arg 0).arg 1,t.arg 1,t.arg 2],ap x8 [(t.arg 0).arg 2,t.arg 1,t.arg 2]]) qs s.tick
    else match opened (t.arg 0) with
     |some a'=>O0 D f (ap x8 [a',t.arg 1,t.arg 2]) qs s.tick
     |none =>
      if t.arg 0∈qs then O0 D f (t.arg 1) qs s.tick
      else if ap D9 [t.arg 0]∈qs then O0 D f (t.arg 2) qs s.tick
      else O0 D f (t.arg 2) (qs++[ap D9 [t.arg 0]]) (O0 D f (t.arg 1) (qs++[t.arg 0]) s.tick)
   else if t∈qs then s.tick
   else if ap D9 [t]∈qs then s.tick.fail D (qs.map neg)
   else s.tick.fail D (qs.map neg++[t])
def addN(out:List Te):List Te→List Te
 |[]=>out
 |t::r=>addN (if t∈out then out else out++[t]) r
theorem b2J(n:lw)(l:List Te):is (ap n l) n l.length:=⟨rfl,rfl,rfl,rfl⟩
theorem a7A(t:Te):neg (ap D9 [t])=t:=Ch (b2J D9 [t])
end Go.Proofs.YtbpmpdadppamgaaGreatDoor
namespace Go.Proofs.YtbpmpdadppamgaaGreatDoor
open Go.Proofs.Tryz
open Go.RowKit
namespace Te
mutual
def gz:Te→Nat
 |⟨k,_,_,o,l⟩=>if k=2 then o.nodes else if k=3 then zJ l+1 else 1
def zJ:List Te→Nat
 |[]=>0
 |x::r=>gz x+zJ r
end
mutual
def dep:Te→Nat
 |⟨k,_,_,_,l⟩=>if k=3 then Au l+1 else 1
def Au:List Te→Nat
 |[]=>0
 |x::r=>max (dep x) (Au r)
end
mutual
def cnt:Te→Int→Int
 |⟨k,_,_,o,l⟩,m=>if k=2 then min m (U8 o) else if k=3 then jM l m 1 else 1
def jM:List Te→Int→Int→Int
 |[],_,n=>n
 |x::r,m,n=>if n < m then jM r m (n+cnt x (m - n)) else n
end
mutual
def qR:Te→Int→Int
 |⟨k,_,_,_,l⟩,m=>if k=3 then jN l m 0+1 else 1
def jN:List Te→Int→Int→Int
 |[],_,d=>d
 |x::r,m,d=>if 1 < m then jN r m (max d (qR x (m - 1))) else d
end
theorem Iy(o:Ob):U8 o=((min o.nodes 3001:Nat):Int):=by unfold U8;split <;> omega
theorem a7B(t:Te):1≤t.dep:=by obtain⟨k,p,n,o,l⟩:=t;rw[dep];split <;> omega
mutual
theorem JG:∀(t:Te) (m:Int),1≤m→m≤3001→cnt t m=min m (gz t)
 |⟨k,p,n,o,l⟩,m,h1,h2=>by
  rw[cnt,gz,Iy];by_cases h:k=2
  ·rw[Ch h,Ch h];omega
  rw[EQ h,EQ h];by_cases h:k=3
  ·rw[Ch h,Ch h];have:=RO l m 1 J J J;omega
  ·rw[EQ h,EQ h];omega
theorem RO:∀(l:List Te) (m n:Int),1≤n→n≤m→m≤3001→jM l m n=min m (n+zJ l)
 |[],m,n,h1,h2,h3=>by rw[jM,zJ];omega
 |x::r,m,n,h1,h2,h3=>by
  rw[jM,zJ];by_cases h:n < m
  ·rw[Ch h];have a:=JG x (m - n) J J;have b:=RO r m (n+cnt x (m - n)) J J h3;omega
  ·rw[EQ h];omega
end
mutual
theorem JH:∀(t:Te) (m:Int),1≤m→qR t m=min m (dep t)
 |⟨k,p,n,o,l⟩,m,h1=>by
  rw[qR,dep];by_cases h:k=3
  ·rw[Ch h,Ch h];have:=RQ l m 0 h1 J J;omega
  ·rw[EQ h,EQ h];omega
theorem RQ:∀(l:List Te) (m d:Int),1≤m→0≤d→d≤m - 1→jN l m d=min (m - 1) (max d (Au l))
 |[],m,d,h1,h2,h3=>by rw[jN,Au];omega
 |x::r,m,d,h1,h2,h3=>by
  rw[jN,Au];by_cases h:1 < m
  ·rw[Ch h];have a:=JH x (m - 1) J;have b:=RQ r m (max d (qR x (m - 1))) h1 J J;omega
  ·rw[EQ h];omega
end
def xe(p n:lw):Bool:=R6 ⟨p,n⟩ && !(decide (p=o9) && decide (n=R8)) && !(decide (p=o9) && decide (n=[116]))
mutual
def qU:Te→Bool
 |⟨k,p,n,o,l⟩ =>
  if k=1 then xe p n && decide (o=Q9) && decide (l.length=0)
  else if k=2 then (decide (p=[]) && decide (n=[])) && o.lW && decide (l.length=0)
  else if k=3 then R6 ⟨p,n⟩ && decide (o=Q9) && decide (l.length≤8) && qC l
  else false
def qC:List Te→Bool
 |[]=>true
 |x::r=>qU x && qC r
end
def valid(t:Te):Bool:=decide (t.gz≤3000) && decide (t.dep≤200) && t.qU
inductive Bd:Te→Prop
 |mk (t:Te) (hv:t.val.Wf) (hs:t.val.Sm) (hp:t.np.length≤9223372036854775807) (hn:t.nn.length≤9223372036854775807) (hl:t.args.length≤9223372036854775807) (h:∀x∈t.args,Bd x):Bd t
theorem Bd.parts{t:Te}(h:t.Bd):t.val.Wf∧t.val.Sm∧t.np.length≤9223372036854775807∧t.nn.length≤9223372036854775807∧t.args.length≤9223372036854775807:=by cases h with | mk _ hv hs hp hn hl hh=>exact⟨hv,hs,hp,hn,hl⟩
theorem Bd.kids{t x:Te}(h:t.Bd)(hx:x∈t.args):x.Bd:=by cases h with | mk _ hv hs hp hn hl hh=>exact hh x hx
end Te
namespace p9
def blk(c:UInt8):Bool:=c == 32 || c == 9 || c == 10 || c == 13
def cst(c:UInt8):Bool:=decide (33≤c.toNat) && decide (c.toNat≤126) && !(c == 40) && !(c == 41) && !(c == 39) && !(c == 34) && !(c == 59) && !(c == 124) && !(c == 58)
def aU(c:UInt8):Bool:=decide (48≤c.toNat) && decide (c.toNat≤57)
def few(c:UInt8):Bool:=blk c || c == 40 || c == 41 || (cst c && !(c == 35) && !(c == 46) && !(c == 47))
def isNum(w:lw):Bool :=
 let r:=if w.head?=some 45 then w.drop 1 else w
 !(r.takeWhile aU).isEmpty && (r.takeWhile aU).length == r.length
structure Tok where
 kind:Int
 pos:Nat
 text:lw
 den:lw
def toks:Nat→Nat→lw→List Tok
 |0,_,_=>[]
 |_+1,i,[]=>[⟨0,i,[],[]⟩]
 |f+1,i,c::r =>
  if blk c then toks f (i+1) r
  else if c == 40 then ⟨1,i,[],[]⟩::toks f (i+1) r
  else if c == 41 then ⟨2,i,[],[]⟩::toks f (i+1) r
  else (if isNum (c::r.takeWhile cst) then ⟨5,i,c::r.takeWhile cst,[49]⟩ else ⟨6,i,c::r.takeWhile cst,[]⟩)::toks f (i+((r.takeWhile cst).length+1)) (r.dropWhile cst)
def qV(w:lw):Bool:=if isNum w then w == [48] || w == [49] || w == [45,49] else decide (w.length≤40) && (match w with | []=>false | c::_=>!(c == 45) && !aU c) && !(w == [46])
def b0a(l:List Tok):Bool:=l.all fun t=>if t.kind=5∨t.kind=6 then qV t.text else true
def numOf(w:lw):Rat:=if w=[49] then 1 else if w=[45,49] then -1 else 0
mutual
def jT:Nat→Nat→List Tok→Option (Tr×List Tok)
 |0,_,_=>none
 |f+1,d,ts=>match ts with
  |[]=>none
  |t::r =>
   if t.kind=5 then some (.num (numOf t.text),r)
   else if t.kind=6 then some (.sym o9 t.text,r)
   else if t.kind=1∧d≤200 then match lu f (d+1) r with
    |some (l,r')=>some (Tr.list l,r')
    |none=>none
   else none
def lu:Nat→Nat→List Tok→Option (List Tr×List Tok)
 |0,_,_=>none
 |f+1,d,ts=>match ts with
  |[]=>none
  |t::r =>
   if t.kind=2 then some ([],r)
   else match jT f d (t::r) with
    |some (x,r1)=>match lu f d r1 with
     |some (l,r2)=>some (x::l,r2)
     |none=>none
    |none=>none
end
def jk:Nat→List Tok→Option (List Tr)
 |0,_=>none
 |f+1,ts=>match ts with
  |[]=>none
  |t::r =>
   if t.kind=0 then some []
   else match jT f 0 (t::r) with
    |some (x,r1)=>match jk f r1 with
     |some l=>some (x::l)
     |none=>none
    |none=>none
def items:Tr→Option (List Tr)
 |.cons a d=>match items d with
  |some l=>some (a::l)
  |none=>none
 |.sym p n=>if p=o9∧n=R8 then some [] else none
 |_=>none
def call(n:lw)(l:List Tr):Tr:=.cons (.sym o9 n) (Tr.list l)
def xg:Tr:=.sym o9 R8
def tX:Tr:=.sym o9 [116]
def expand(n:lw)(l:List Tr):Option Tr :=
 if n=[108,105,115,116] then match l with
  |[]=>some xg
  |x::r=>some (call [99,111,110,115] [x,call n r])
 else if n=[97,112,112,101,110,100] then match l with
  |[]=>some xg
  |[x]=>some x
  |x::r=>some (call [98,105,110,97,114,121,45,97,112,112,101,110,100] [x,call n r])
 else if n=[97,110,100] then match l with
  |[]=>some tX
  |[x]=>some x
  |x::r=>some (call Te.x8 [x,call n r,xg])
 else if n=[111,114] then match l with
  |[]=>some xg
  |[x]=>some x
  |x::r=>some (call Te.x8 [x,x,call n r])
 else if n=[99,111,110,100] then match l with
  |[]=>some xg
  |x::r=>match items x with
   |some [a,b]=>some (call Te.x8 [a,b,call n r])
   |_=>none
 else if n=[43] then match l with
  |[x,y]=>some (call [98,105,110,97,114,121,45,43] [x,y])
  |x::y::z::r=>some (call [98,105,110,97,114,121,45,43] [x,call n (y::z::r)])
  |_=>none
 else none
def KJ:List (lw):=[[108,105,115,116],[108,105,115,116,42],[97,110,100],[111,114],[99,111,110,100],[43],[42],[45],[47],[60,61],[62],[62,61],[97,112,112,101,110,100]]
def yS:List (lw):=[[113,117,111,116,101],[108,101,116],[108,101,116,42]]
mutual
def oI(ar:lw→Option Nat):Nat→Int→Tr→Option (Te×Int)
 |0,_,_=>none
 |f+1,m,x=>match x with
  |.num q=>if q=0∨q=1∨q=-1 then some (Te.H9 (Tr.num q).ob,m) else none
  |.txt _=>none
  |.sym p n=>if p.length≤1000∧n.length≤1000 then (if Te.xe p n then some (⟨1,p,n,Te.Q9,[]⟩,m) else some (Te.H9 (Tr.sym p n).ob,m)) else none
  |.cons a d=>match items (.cons a d) with
   |some (.sym p n::l) =>
    if p=o9∧n.length≤1000∧n ∉ yS∧l.length≤500 then
     if n∈KJ then match expand n l with
      |some o=>if 1≤m then oI ar f (m - 1) o else none
      |none=>none
     else match xh ar f m l with
      |some (ts,m')=>if ar n=some ts.length then some (⟨3,p,n,Te.Q9,ts⟩,m') else none
      |none=>none
    else none
   |_=>none
def xh(ar:lw→Option Nat):Nat→Int→List Tr→Option (List Te×Int)
 |0,_,_=>none
 |f+1,m,l=>match l with
  |[]=>some ([],m)
  |x::r=>match oI ar f m x with
   |some (t,m1)=>match xh ar f m1 r with
    |some (ts,m2)=>some (t::ts,m2)
    |none=>none
   |none=>none
end
structure F7 where
 nm:lw
 ps:List (lw)
 guard:Te
 body:Te
 measure:Te
def Ff:List Tr→Option (List (lw))
 |[]=>some []
 |.sym p n::r=>if p=o9 then (Ff r).map (n::·) else none
 |_=>none
def option(nm:lw):List Tr→Option (Option Tr)
 |x::y::r=>match items x with
  |some [.sym p n,b]=>if p=o9∧n=nm then some (some b) else option nm (y::r)
  |_=>none
 |_=>some none
def nY(mh:List (lw×Nat))(n:lw):Option Nat:=(mh.find? fun x=>x.1 == n).map (·.2)
def arity(mh:List (lw×Nat))(ws:List F7)(nm:lw)(ps:List (lw))(n:lw):Option Nat :=
 if nm=n then some ps.length else match nY mh n with
  |some k=>some k
  |none=>(ws.find? fun f=>f.nm == n).map (·.ps.length)
def Bv(ar:lw→Option Nat)(x:Tr):Option Te:=match oI ar 100 500 x with
 |some (t,_)=>if t.valid then some t else none
 |none=>none
def YI(ar:lw→Option Nat)(d:Te):Option (Option Tr)→Option Te
 |none=>none
 |some none=>some d
 |some (some o)=>Bv ar o
def wz:lw:=[103,117,97,114,100]
def wM:lw:=[109,101,97,115,117,114,101]
def entry(mh:List (lw×Nat))(ws:List F7)(form:Tr):Option F7:=match items form with
 |some (d::.sym p nm::px::y::r)=>match items px with
  |some pl=>match Ff pl with
   |some ps =>
    if p=o9∧nm.length≤1000∧ps≠[]∧ps.length≤8∧r.length≤100 then
     match Bv (arity mh ws nm ps) ((y::r).getLast I),YI (arity mh ws nm ps) Te.r9 (option wz (y::r)),YI (arity mh ws nm ps) Te.F4 (option wM (y::r)) with
     |some b,some g,some m=>some ⟨nm,ps,g,b,m⟩
     |_,_,_=>none
    else none
   |none=>none
  |none=>none
 |_=>none
def world(mh:List (lw×Nat)):List Tr→List F7→Option (List F7)
 |[],ws=>some ws
 |x::r,ws=>match entry mh ws x with
  |some f=>world mh r (ws++[f])
  |none=>none
end p9
def jJ:lw:=[40,100,101,102,117,110,32,110,111,116,32,40,112,41,32,40,105,102,32,112,32,110,105,108,32,116,41,41,10,40,100,101,102,117,110,32,105,109,112,108,105,101,115,32,40,112,32,113,41,32,40,105,102,32,112,32,40,105,102,32,113,32,116,32,110,105,108,41,32,116,41,41,10,40,100,101,102,117,110,32,105,102,102,32,40,112,32,113,41,32,40,105,102,32,112,32,40,105,102,32,113,32,116,32,110,105,108,41,32,40,105,102,32,113,32,110,105,108,32,116,41,41,41,10,40,100,101,102,117,110,32,98,111,111,108,101,97,110,112,32,40,120,41,32,40,105,102,32,40,101,113,117,97,108,32,120,32,116,41,32,116,32,40,101,113,117,97,108,32,120,32,110,105,108,41,41,41,10,40,100,101,102,117,110,32,115,121,110,116,97,120,112,32,40,120,41,32,116,41,10,40,100,101,102,117,110,32,97,116,111,109,32,40,120,41,32,40,110,111,116,32,40,99,111,110,115,112,32,120,41,41,41,10,40,100,101,102,117,110,32,101,110,100,112,32,40,120,41,32,40,103,117,97,114,100,32,40,111,114,32,40,99,111,110,115,112,32,120,41,32,40,101,113,117,97,108,32,120,32,110,105,108,41,41,41,32,40,110,111,116,32,40,99,111,110,115,112,32,120,41,41,41,10,40,100,101,102,117,110,32,102,105,120,32,40,120,41,32,40,105,102,32,40,114,97,116,105,111,110,97,108,112,32,120,41,32,120,32,48,41,41,10,40,100,101,102,117,110,32,105,102,105,120,32,40,120,41,32,40,105,102,32,40,105,110,116,101,103,101,114,112,32,120,41,32,120,32,48,41,41,10,40,100,101,102,117,110,32,110,97,116,112,32,40,120,41,32,40,105,102,32,40,105,110,116,101,103,101,114,112,32,120,41,32,40,110,111,116,32,40,60,32,120,32,48,41,41,32,110,105,108,41,41,10,40,100,101,102,117,110,32,112,111,115,112,32,40,120,41,32,40,105,102,32,40,105,110,116,101,103,101,114,112,32,120,41,32,40,60,32,48,32,120,41,32,110,105,108,41,41,10,40,100,101,102,117,110,32,110,102,105,120,32,40,120,41,32,40,105,102,32,40,110,97,116,112,32,120,41,32,120,32,48,41,41,10,40,100,101,102,117,110,32,122,112,32,40,120,41,32,40,103,117,97,114,100,32,40,110,97,116,112,32,120,41,41,32,40,105,102,32,40,105,110,116,101,103,101,114,112,32,120,41,32,40,110,111,116,32,40,60,32,48,32,120,41,41,32,116,41,41,10,40,100,101,102,117,110,32,99,111,117,110,116,32,40,120,41,32,40,109,101,97,115,117,114,101,32,40,99,111,117,110,116,32,120,41,41,32,40,105,102,32,40,99,111,110,115,112,32,120,41,32,40,43,32,49,32,40,99,111,117,110,116,32,40,99,97,114,32,120,41,41,32,40,99,111,117,110,116,32,40,99,100,114,32,120,41,41,41,32,48,41,41,10,40,100,101,102,117,110,32,111,45,102,105,110,112,32,40,120,41,32,40,110,111,116,32,40,99,111,110,115,112,32,120,41,41,41,10,40,100,101,102,117,110,32,111,45,102,105,114,115,116,45,101,120,112,111,110,101,110,116,32,40,120,41,32,40,105,102,32,40,99,111,110,115,112,32,120,41,32,40,99,97,114,32,40,99,97,114,32,120,41,41,32,48,41,41,10,40,100,101,102,117,110,32,111,45,102,105,114,115,116,45,99,111,101,102,102,105,99,105,101,110,116,32,40,120,41,32,40,105,102,32,40,99,111,110,115,112,32,120,41,32,40,99,100,114,32,40,99,97,114,32,120,41,41,32,120,41,41,10,40,100,101,102,117,110,32,111,45,114,101,115,116,32,40,120,41,32,40,105,102,32,40,99,111,110,115,112,32,120,41,32,40,99,100,114,32,120,41,32,48,41,41,10,40,100,101,102,117,110,32,111,60,32,40,120,32,121,41,32,40,109,101,97,115,117,114,101,32,40,99,111,117,110,116,32,120,41,41,10,32,32,40,99,111,110,100,32,40,40,111,45,102,105,110,112,32,120,41,32,40,105,102,32,40,99,111,110,115,112,32,121,41,32,116,32,40,60,32,120,32,121,41,41,41,10,32,32,32,32,32,32,32,32,40,40,111,45,102,105,110,112,32,121,41,32,110,105,108,41,10,32,32,32,32,32,32,32,32,40,40,110,111,116,32,40,101,113,117,97,108,32,40,111,45,102,105,114,115,116,45,101,120,112,111,110,101,110,116,32,120,41,32,40,111,45,102,105,114,115,116,45,101,120,112,111,110,101,110,116,32,121,41,41,41,10,32,32,32,32,32,32,32,32,32,40,111,60,32,40,111,45,102,105,114,115,116,45,101,120,112,111,110,101,110,116,32,120,41,32,40,111,45,102,105,114,115,116,45,101,120,112,111,110,101,110,116,32,121,41,41,41,10,32,32,32,32,32,32,32,32,40,40,110,111,116,32,40,101,113,117,97,108,32,40,111,45,102,105,114,115,116,45,99,111,101,102,102,105,99,105,101,110,116,32,120,41,32,40,111,45,102,105,114,115,116,45,99,111,101,102,102,105,99,105,101,110,116,32,121,41,41,41,10,32,32,32,32,32,32,32,32,32,40,60,32,40,111,45,102,105,114,115,116,45,99,111,101,102,102,105,99,105,101,110,116,32,120,41,32,40,111,45,102,105,114,115,116,45,99,111,101,102,102,105,99,105,101,110,116,32,121,41,41,41,10,32,32,32,32,32,32,32,32,40,116,32,40,111,60,32,40,111,45,114,101,115,116,32,120,41,32,40,111,45,114,101,115,116,32,121,41,41,41,41,41,10,40,100,101,102,117,110,32,111,45,112,32,40,120,41,32,40,109,101,97,115,117,114,101,32,40,99,111,117,110,116,32,120,41,41,10,32,32,40,105,102,32,40,111,45,102,105,110,112,32,120,41,10,32,32,32,32,32,32,40,110,97,116,112,32,120,41,10,32,32,32,32,40,97,110,100,32,40,99,111,110,115,112,32,40,99,97,114,32,120,41,41,10,32,32,32,32,32,32,32,32,32,40,111,45,112,32,40,111,45,102,105,114,115,116,45,101,120,112,111,110,101,110,116,32,120,41,41,10,32,32,32,32,32,32,32,32,32,40,110,111,116,32,40,101,113,117,97,108,32,40,111,45,102,105,114,115,116,45,101,120,112,111,110,101,110,116,32,120,41,32,48,41,41,10,32,32,32,32,32,32,32,32,32,40,112,111,115,112,32,40,111,45,102,105,114,115,116,45,99,111,101,102,102,105,99,105,101,110,116,32,120,41,41,10,32,32,32,32,32,32,32,32,32,40,111,45,112,32,40,111,45,114,101,115,116,32,120,41,41,10,32,32,32,32,32,32,32,32,32,40,111,60,32,40,111,45,102,105,114,115,116,45,101,120,112,111,110,101,110,116,32,40,111,45,114,101,115,116,32,120,41,41,32,40,111,45,102,105,114,115,116,45,101,120,112,111,110,101,110,116,32,120,41,41,41,41,41,10,40,100,101,102,117,110,32,108,101,110,32,40,120,41,32,40,109,101,97,115,117,114,101,32,40,99,111,117,110,116,32,120,41,41,32,40,105,102,32,40,99,111,110,115,112,32,120,41,32,40,43,32,49,32,40,108,101,110,32,40,99,100,114,32,120,41,41,41,32,48,41,41,10,40,100,101,102,117,110,32,116,114,117,101,45,108,105,115,116,112,32,40,120,41,32,40,109,101,97,115,117,114,101,32,40,99,111,117,110,116,32,120,41,41,32,40,105,102,32,40,99,111,110,115,112,32,120,41,32,40,116,114,117,101,45,108,105,115,116,112,32,40,99,100,114,32,120,41,41,32,40,101,113,117,97,108,32,120,32,110,105,108,41,41,41,10,40,100,101,102,117,110,32,98,105,110,97,114,121,45,97,112,112,101,110,100,32,40,120,32,121,41,32,40,103,117,97,114,100,32,40,116,114,117,101,45,108,105,115,116,112,32,120,41,41,32,40,109,101,97,115,117,114,101,32,40,99,111,117,110,116,32,120,41,41,10,32,32,40,105,102,32,40,99,111,110,115,112,32,120,41,32,40,99,111,110,115,32,40,99,97,114,32,120,41,32,40,98,105,110,97,114,121,45,97,112,112,101,110,100,32,40,99,100,114,32,120,41,32,121,41,41,32,121,41,41,10,40,100,101,102,117,110,32,114,101,118,32,40,120,41,32,40,109,101,97,115,117,114,101,32,40,99,111,117,110,116,32,120,41,41,10,32,32,40,105,102,32,40,99,111,110,115,112,32,120,41,32,40,97,112,112,101,110,100,32,40,114,101,118,32,40,99,100,114,32,120,41,41,32,40,108,105,115,116,32,40,99,97,114,32,120,41,41,41,32,110,105,108,41,41,10,40,100,101,102,117,110,32,109,101,109,98,101,114,45,101,113,117,97,108,32,40,101,32,120,41,32,40,103,117,97,114,100,32,40,116,114,117,101,45,108,105,115,116,112,32,120,41,41,32,40,109,101,97,115,117,114,101,32,40,99,111,117,110,116,32,120,41,41,10,32,32,40,105,102,32,40,99,111,110,115,112,32,120,41,32,40,105,102,32,40,101,113,117,97,108,32,101,32,40,99,97,114,32,120,41,41,32,120,32,40,109,101,109,98,101,114,45,101,113,117,97,108,32,101,32,40,99,100,114,32,120,41,41,41,32,110,105,108,41,41,10,40,100,101,102,117,110,32,97,115,115,111,99,45,101,113,117,97,108,32,40,107,32,97,41,32,40,109,101,97,115,117,114,101,32,40,99,111,117,110,116,32,97,41,41,10,32,32,40,99,111,110,100,32,40,40,110,111,116,32,40,99,111,110,115,112,32,97,41,41,32,110,105,108,41,10,32,32,32,32,32,32,32,32,40,40,97,110,100,32,40,99,111,110,115,112,32,40,99,97,114,32,97,41,41,32,40,101,113,117,97,108,32,107,32,40,99,97,114,32,40,99,97,114,32,97,41,41,41,41,32,40,99,97,114,32,97,41,41,10,32,32,32,32,32,32,32,32,40,116,32,40,97,115,115,111,99,45,101,113,117,97,108,32,107,32,40,99,100,114,32,97,41,41,41,41,41,10,40,100,101,102,117,110,32,110,116,104,32,40,110,32,120,41,32,40,103,117,97,114,100,32,40,97,110,100,32,40,110,97,116,112,32,110,41,32,40,116,114,117,101,45,108,105,115,116,112,32,120,41,41,41,32,40,109,101,97,115,117,114,101,32,40,110,102,105,120,32,110,41,41,10,32,32,40,105,102,32,40,122,112,32,110,41,32,40,99,97,114,32,120,41,32,40,110,116,104,32,40,43,32,45,49,32,110,41,32,40,99,100,114,32,120,41,41,41,41,10,40,100,101,102,117,110,32,117,112,100,97,116,101,45,110,116,104,32,40,110,32,118,32,120,41,32,40,103,117,97,114,100,32,40,97,110,100,32,40,110,97,116,112,32,110,41,32,40,116,114,117,101,45,108,105,115,116,112,32,120,41,41,41,32,40,109,101,97,115,117,114,101,32,40,110,102,105,120,32,110,41,41,10,32,32,40,105,102,32,40,122,112,32,110,41,32,40,99,111,110,115,32,118,32,40,99,100,114,32,120,41,41,32,40,99,111,110,115,32,40,99,97,114,32,120,41,32,40,117,112,100,97,116,101,45,110,116,104,32,40,43,32,45,49,32,110,41,32,118,32,40,99,100,114,32,120,41,41,41,41,41,10]
namespace p9
theorem uU{α:Type}(p:α→Bool)(l:List α):(l.takeWhile p).length+(l.dropWhile p).length=l.length:=by
 rw[←lm,List.takeWhile_append_dropWhile]
theorem drop_tw{α:Type}(p:α→Bool)(l:List α):l.drop (l.takeWhile p).length=l.dropWhile p:=by
 have h:=List.takeWhile_append_dropWhile (p:=p) (l:=l);have e:(l.takeWhile p++l.dropWhile p).drop (l.takeWhile p).length=l.dropWhile p:=List.drop_left
 rwa [h]at e
theorem a3q:∀(f g i:Nat) (r:lw),r.length < f→r.length < g→toks f i r=toks g i r:=by
 intro f
 induction f with
 |zero=>intro g i r h;omega
 |succ f ih =>
  intro g i r h1 h2;cases g with
  |zero=>omega
  |succ g =>
   cases r with
   |nil=>rw[toks,toks]
   |cons c r =>
    rw[yM]at h1 h2;rw[toks,toks];rw[ih g (i+1) r J J];by_cases hb:blk c=true
    ·rw[Ch hb,Ch hb]
    rw[EQ hb,EQ hb];by_cases jl:(c == 40)=true
    ·rw[Ch jl,Ch jl]
    rw[EQ jl,EQ jl];by_cases oJ:(c == 41)=true
    ·rw[Ch oJ,Ch oJ]
    rw[EQ oJ,EQ oJ];have hl:=uU cst r;rw[ih g _ _ J J]
def tk(i:Nat)(r:lw):List Tok:=toks (r.length+1) i r
theorem VF(i:Nat):tk i []=[⟨0,i,[],[]⟩]:=by rw[tk,toks]
theorem b0b{i:Nat}{c:UInt8}{r:lw}(h:blk c=true):tk i (c::r)=tk (i+1) r:=by
 rw[tk,toks,Ch h];rfl
theorem a7C{i:Nat}{r:lw}:tk i (40::r)=⟨1,i,[],[]⟩::tk (i+1) r:=by
 rw[tk,toks,EQ O,Ch O];rfl
theorem a4O{i:Nat}{r:lw}:tk i (41::r)=⟨2,i,[],[]⟩::tk (i+1) r:=by
 rw[tk,toks,EQ O,EQ O,Ch O];rfl
def Av(i:Nat)(w:lw):Tok:=if isNum w then ⟨5,i,w,[49]⟩ else ⟨6,i,w,[]⟩
theorem a7D{c:UInt8}(h:cst c=true):blk c=false∧(c == 40)=false∧(c == 41)=false:=by
 unfold cst at h;simp only[Ce,rE,Bool.not_eq_true']at h;obtain⟨⟨⟨⟨⟨⟨⟨⟨h1,h2⟩,h3⟩,h4⟩,_⟩,_⟩,_⟩,_⟩,_⟩:=h;refine⟨?_,h3,h4⟩;have ne:∀k:UInt8,k.toNat < 33→(c == k)=false:=fun k hk=>by
  rw[IR];intro e;rw[e]at h1;omega
 unfold blk;rw[ne 32 O,ne 9 O,ne 10 O,ne 13 O];rfl
theorem a7E{i:Nat}{c:UInt8}{r:lw}(h:cst c=true):tk i (c::r)=Av i ((c::r).takeWhile cst)::tk (i+((c::r).takeWhile cst).length) ((c::r).drop ((c::r).takeWhile cst).length):=by
 obtain⟨h1,h2,h3⟩:=a7D h;rw[drop_tw,List.takeWhile_cons,Ch h,List.dropWhile_cons,Ch h];rw[tk,toks,EQ (by rw[h1];decide),EQ (by rw[h2];decide),EQ (by rw[h3];decide)];simp only[yM];rw[tk,a3q _ ((r.dropWhile cst).length+1) _ _ (by have:=uU cst r;omega) J]
 rfl
theorem Uf:∀(i:Nat) (r:lw),tk i r=tk (i+(r.takeWhile blk).length) (r.drop (r.takeWhile blk).length)
 |i,[]=>rfl
 |i,c::r=>by
  cases h:blk c with
  |false=>rw[List.takeWhile_cons,EQ (by rw[h];decide)];rfl
  |true =>
   rw[b0b h,Uf (i+1) r,List.takeWhile_cons,Ch h,yM,List.drop_succ_cons];congr 1;omega
end p9
end Go.Proofs.YtbpmpdadppamgaaGreatDoor
