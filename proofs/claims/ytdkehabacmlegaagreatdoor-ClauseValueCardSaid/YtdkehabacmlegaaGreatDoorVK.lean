/- Plain walks, second form: code, loops and functions. -/
import Derived.Test.YtdkehabacmlegaaGreatDoorVJ
import Derived.Test.YtdkehabacmlegaaGreatDoorVF
import Derived.Test.YtdkehabacmlegaaGreatDoorVD
import Derived.Test.YtdkehabacmlegaaGreatDoorVG
namespace Go.Proofs.YtdkehabacmlegaaGreatDoor
open Go.Proofs.Tryz
open Go.RowKit
def AE.ex:AE→Exit
 |.F4=>.normal
 |.out id=>.exit id
 |.ret=>.ret
def y7(E:En)(c:Code)(s:AS)(e:AE)(s':AS):Prop :=
 s'.tm.length=s.tm.length∧∀(X:Nat→Prop) (n0:Nat) (w0:World×Mm) (ok0:Nat→Prop) (a:Act) (w:World),HG E X n0 w0→Left X n0 w0 ok0 s.tm.length s.F9 s.D7 a w →
  c.wp E.P (fun x a' w'=>x=e.ex∧Left X n0 w0 ok0 s.tm.length s'.F9 s'.D7 a' w') a w
mutual
def AV.aW(n:Nat):AV→Bool
 |.ptr b _=>Nat.ble (b+1) n
 |.own b _=>Nat.ble (b+1) n
 |.sl b _=>Nat.ble (b+1) n
 |.O5 b=>Nat.ble (b+1) n
 |.bI b _ _=>Nat.ble (b+1) n
 |.agg cs=>AV.kF n cs
 |.l7 cs=>AV.kF n cs
 |.bK _ cs=>AV.kF n cs
 |_=>true
def AV.kF(n:Nat):List AV→Bool
 |[]=>true
 |c::cs=>AV.aW n c && AV.kF n cs
end
def Mm.cut(M:Mm)(n:Nat):Mm:=⟨fun b=>if b < n then M.m b else none,M.F,fun b=>if b < n then M.o b else none⟩
theorem Mm.gP{M:Mm}{n b:Nat}(h:b < n):(M.cut n).m b=M.m b:=if_pos h
theorem Mm.um{M:Mm}{n b:Nat}(h:b < n):(M.cut n).o b=M.o b:=if_pos h
theorem wT{b n:Nat}(h:Nat.ble (b+1) n=true):b < n:=by have:=Nat.le_of_ble_eq_true h;omega
mutual
theorem RV.aW{M:Mm}{w:World}{n:Nat}:∀(a:AV) (v:Value),a.aW n=true→RV M w a v→RV (M.cut n) w a v
 |.dt _d,_v,_,h=>h
 |.nil,_v,_,h=>h
 |.X8 _es,_v,_,h=>h
 |.gl _ _,_v,_,h=>h
 |.pin _ds,_v,_,h=>h
 |.Z6 _ _,_v,_,h=>h
 |.un,_v,_,_h=>trivial
 |.ptr _b _off,_v,hp,⟨g,h1,h2⟩=>⟨g,(Mm.gP (wT hp)).trans h1,h2⟩
 |.bI _b _i _k,_v,hp,⟨g,h1,h2⟩=>⟨g,(Mm.gP (wT hp)).trans h1,h2⟩
 |.sl _b _m,_v,hp,⟨g,h1,h2⟩=>⟨g,(Mm.gP (wT hp)).trans h1,h2⟩
 |.O5 _b,_v,hp,⟨g,h1,h2⟩=>⟨g,(Mm.gP (wT hp)).trans h1,h2⟩
 |.own _b _m,_v,hp,⟨A,c,A',n',c',h1,h2,h3⟩=>⟨A,c,A',n',c',h1,(Mm.um (wT hp)).trans h2,h3⟩
 |.agg cs,_v,hf,⟨vs,h1,h2⟩=>⟨vs,h1,RL.aW cs vs hf h2⟩
 |.l7 cs,_v,hf,⟨vs,h1,h2⟩=>⟨vs,h1,RL.aW cs vs hf h2⟩
 |.bK _f cs,_v,hf,⟨vs,h1,h2⟩=>⟨vs,h1,RL.aW cs vs hf h2⟩
theorem RL.aW{M:Mm}{w:World}{n:Nat}:∀(cs:List AV) (vs:List Value),AV.kF n cs=true→RL M w cs vs→RL (M.cut n) w cs vs
 |[],_,_,h=>h
 |c::cs,_,hf,⟨u,us,h1,h2,h3⟩=>by
  have hf':(c.aW n && AV.kF n cs)=true:=hf;rw[Bool.and_eq_true]at hf';exact⟨u,us,h1,RV.aW c u hf'.1 h2,RL.aW cs us hf'.2 h3⟩
end
def oM(ft:List Nat):Nat→List AV→List AV
 |_,[]=>[]
 |i,x::xs=>(match ft.contains i with | true=>x | false=>.un)::oM ft (i+1) xs
theorem FR(ft:List Nat):∀(i:Nat) (xs:List AV),(oM ft i xs).length=xs.length
 |_,[]=>rfl
 |i,x::xs=>by unfold oM;rw[List.length_cons,List.length_cons,FR ft (i+1) xs]
theorem PH(ft:List Nat):∀(i:Nat) (xs:List AV) (t:Nat) (d:AV),(oM ft i xs).getD t d=.un∨(oM ft i xs).getD t d=xs.getD t d
 |_,[],t,d=>.inr rfl
 |i,x::xs,0,d=>by
  unfold oM;cases ft.contains i
  ·exact .inl rfl
  ·exact .inr rfl
 |i,x::xs,t+1,d=>by
  have:=PH ft (i+1) xs t d;unfold oM;simpa using this
def forget(ft:List Nat)(nb:Nat)(s:AS):AS:=⟨oM ft 0 s.tm,s.bx.take nb⟩
def BV(nb:Nat):List (Value×AV)→Bool
 |[]=>true
 | (_,a)::r=>a.aW nb && BV nb r
def Bx.aW(nb:Nat):Option Bx→Bool
 |some (.cells cs)=>AV.kF nb cs
 |some (.mp x9)=>BV nb x9
 |_=>true
def forgets(nb:Nat)(s:AS):Bool:=AV.kF nb s.tm && s.bx.all (Bx.aW nb)
theorem MK.aW{M:Mm}{w:World}{n:Nat}:∀{x9:List (Value×AV)} {es:List MapEntry},BV n x9=true→MK M w x9 es→MK (M.cut n) w x9 es
 |[],_,_,h=>h
 | (k,a)::x9,_,hf,⟨e,es',h1,h2,h3,h4⟩=>by
  have hf':(a.aW n && BV n x9)=true:=hf;rw[Bool.and_eq_true]at hf';exact⟨e,es',h1,h2,RV.aW _ _ hf'.1 h3,MK.aW hf'.2 h4⟩
theorem NY{n:Nat}:∀{cs:List AV},AV.kF n cs=true→∀(t:Nat) (d:AV),d.aW n=true→(cs.getD t d).aW n=true
 |[],_,t,d,hd=>by simpa using hd
 |c::cs,h,t,d,hd=>by
  have h':(c.aW n && AV.kF n cs)=true:=h;rw[Bool.and_eq_true]at h';cases t with
  |zero=>exact h'.1
  |succ t=>simpa using NY h'.2 t d hd
theorem Left.forget{E:En}{ft:List Nat}{nb:Nat}{s:AS}(hf:(Nat.ble E.nh nb && forgets nb (forget ft nb s))=true){X:Nat→Prop}{n0:Nat}{w0:World×Mm}{ok0:Nat→Prop}{nt:Nat}{a:Act}{w:World}(hG:HG E X n0 w0)(h:Left X n0 w0 ok0 nt s.F9 s.D7 a w):Left X n0 w0 ok0 nt (forget ft nb s).F9 (forget ft nb s).D7 a w:=by
 obtain⟨M,hI⟩:=h;rw[Bool.and_eq_true]at hf;obtain⟨hnb,hf⟩:=hf;have hnb:=Nat.le_of_ble_eq_true hnb;unfold forgets at hf;rw[Bool.and_eq_true]at hf;have hb:∀b x,(Go.Proofs.YtdkehabacmlegaaGreatDoor.forget ft nb s).D7 b=some x→b < nb∧s.D7 b=some x∧Bx.aW nb (some x)=true:=by
  intro b cs hbx;unfold AS.D7 at hbx ⊢;cases hx:(Go.Proofs.YtdkehabacmlegaaGreatDoor.forget ft nb s).bx[b]? with
  |none=>rw[hx]at hbx;cases hbx
  |some x =>
   rw[hx]at hbx;simp only at hbx;subst hbx;have h2:=List.all_eq_true.1 hf.2 _ (List.mem_of_getElem? hx);have h3:(s.bx.take nb)[b]?=some (some cs):=hx;rw[List.getElem?_take]at h3;split at h3
   ·rename_i hlt;rw[h3];exact⟨hlt,rfl,h2⟩
   ·cases h3
 have hb2:∀b,b < nb→(Go.Proofs.YtdkehabacmlegaaGreatDoor.forget ft nb s).D7 b=s.D7 b:=by
  intro b h1;unfold AS.D7;show (match (s.bx.take nb)[b]? with | some x=>x | none=>none)=_;rw[List.getElem?_take,if_pos h1]
  all_goals rfl
 have hm:∀b g,(M.cut nb).m b=some g→b < nb∧M.m b=some g:=fun b g h=>by
  by_cases e:b < nb
  ·rw[Mm.gP e]at h;exact⟨e,h⟩
  ·rw[show (M.cut nb).m b=none from if_neg e]at h;cases h
 have ho:∀b v,(M.cut nb).o b=some v→b < nb∧M.o b=some v:=fun b g h=>by
  by_cases e:b < nb
  ·rw[Mm.um e]at h;exact⟨e,h⟩
  ·rw[show (M.cut nb).o b=none from if_neg e]at h;cases h
 have hhx:∀b x q,b < nb→(Hx (M.cut nb) b x q↔Hx M b x q):=fun b x q h=>Hx.eq (Mm.gP h) (Mm.um h)
 refine⟨M.cut nb,hI.below,hI.le,hI.defers,hI.size,?_,⟨?_,?_,?_,?_,?_,hI.H6.fz⟩,hI.src,⟨hI.gD.below,hI.gD.keep,hI.gD.F,fun k q hq=>?_,fun b A n c e=>?_⟩⟩
 ·intro t;have hp:=NY hf.1 t (.dt (.val undef)) rfl;have hp':((Go.Proofs.YtdkehabacmlegaaGreatDoor.forget ft nb s).F9 t).aW nb=true:=hp;rcases PH ft 0 s.tm t (.dt (.val undef)) with e | e
  ·have e':(Go.Proofs.YtdkehabacmlegaaGreatDoor.forget ft nb s).F9 t=.un:=e;rw[e'];trivial
  ·have e':(Go.Proofs.YtdkehabacmlegaaGreatDoor.forget ft nb s).F9 t=s.F9 t:=e;rw[e']at hp' ⊢
   exact RV.aW _ _ hp' (hI.tmps t)
 ·intro b x hbx;obtain⟨h1,h2,h3⟩:=hb b x hbx;have h4:=hI.H6.box b x h2;cases x with
  |cells cs=>obtain⟨g,T,vs,e1,e2,e3⟩:=h4;exact⟨g,T,vs,(Mm.gP h1).trans e1,e2,RL.aW _ _ h3 e3⟩
  |buf e k es=>obtain⟨A,n,c,e1,e2⟩:=h4;exact⟨A,n,c,(Mm.um h1).trans e1,e2⟩
  |ak es=>obtain⟨A,n,c,e1,e2⟩:=h4;exact⟨A,n,c,(Mm.um h1).trans e1,e2⟩
  |mp x9=>obtain⟨g,es,V4,e1,e2,e3⟩:=h4;exact⟨g,es,V4,(Mm.gP h1).trans e1,e2,MK.aW h3 e3⟩
  |T9 x9=>obtain⟨g,es,V4,e1,e2,e3⟩:=h4;exact⟨g,es,V4,(Mm.gP h1).trans e1,e2,e3⟩
  |rws e k es=>obtain⟨g,vs,e1,e2⟩:=h4;exact⟨g,vs,(Mm.gP h1).trans e1,e2⟩
  |mq es=>obtain⟨g,e1,e2⟩:=h4;exact⟨g,(Mm.gP h1).trans e1,e2⟩
  |cst cs=>obtain⟨g,vs,e1,e2⟩:=h4;exact⟨g,vs,(Mm.gP h1).trans e1,e2⟩
 ·intro b x q hbx hq;obtain⟨h1,h2,_⟩:=hb b x hbx;exact hI.H6.dom b x q h2 ((hhx b x q h1).1 hq)
 ·intro b b' x x' q h1 h2 h3 h4;obtain⟨g1,g2,_⟩:=hb b x h1;obtain⟨k1,k2,_⟩:=hb b' x' h2;exact hI.H6.inj b b' x x' q g2 k2 ((hhx b x q g1).1 h3) ((hhx b' x' q k1).1 h4)
 ·intro b q hbq;obtain⟨h1,h2⟩:=hm b q hbq;obtain⟨x,h3,h4⟩:=hI.H6.hm b q h2;exact⟨x,(hb2 b h1).trans h3,h4⟩
 ·intro b v hbv;obtain⟨h1,h2⟩:=ho b v hbv;rw[hb2 b h1];exact hI.H6.ho b v h2
 ·rcases Nat.lt_or_ge k E.nh with h1 | h1
  ·exact (Mm.gP J).trans (hI.gD.m k q hq)
  ·rw[(hG.h k h1).1]at hq;cases hq
 ·rcases Nat.lt_or_ge b E.nh with h1 | h1
  ·obtain⟨A',n',c',e1,e2⟩:=hI.gD.o b A n c e;exact⟨A',n',c',(Mm.um J).trans e1,e2⟩
  ·rw[(hG.h b h1).2]at e;cases e
inductive Lp (E:En) (c:Code):Nat→AS→AE→AS→Prop
 |stop {s s':AS} {e:AE}:y7 E c s e s'→e≠.F4→Lp E c 0 s e s'
 |more {n:Nat} {s s1 s':AS} {e:AE}:y7 E c s .F4 s1→Lp E c n s1 e s'→Lp E c (n+1) s e s'
def J7(E:En)(c:Code)(s:AS)(e:AE)(s':AS):Prop:=∃n,Lp E c n s e s'
theorem J7.stop{E:En}{c:Code}{s s':AS}{e:AE}(h:y7 E c s e s')(he:e≠.F4):J7 E c s e s':=⟨0,.stop h he⟩
theorem J7.more{E:En}{c:Code}{s s1 s':AS}{e:AE}(h:y7 E c s .F4 s1)(h':J7 E c s1 e s'):J7 E c s e s':=h'.elim fun n hn=>⟨n+1,.more h hn⟩
theorem Lp.len{E:En}{c:Code}{n:Nat}{s s':AS}{e:AE}(h:Lp E c n s e s'):s'.tm.length=s.tm.length:=by
 induction h with
 |stop h _=>exact h.1
 |more h _ ih=>exact ih.trans h.1
theorem J7.K3{E:En}{c:Code}{s s':AS}{e:AE}(h:J7 E c s e s'):y7 E (.loop c) s e s':=by
 obtain⟨n,h⟩:=h;refine⟨h.len,fun X n0 w0 ok0 a w hG hL=>?_⟩;have hlen:=h.len;refine wp_loop_ghost (fun k a w=>∃s1,Lp E c k s1 e s'∧s1.tm.length=s.tm.length∧Left X n0 w0 ok0 s.tm.length s1.F9 s1.D7 a w) n ⟨s,h,rfl,hL⟩ ?_;rintro k a w ⟨s1,h1,hl,hL1⟩;cases h1 with
 |stop h2 he =>
  rw[←hl]at hL1;refine wp_mono (h2.2 X n0 w0 ok0 a w hG hL1) ?_;rintro x a' w' ⟨rfl,hL'⟩;rw[hl]at hL';cases e with
  |F4=>exact absurd rfl he
  |out i=>exact⟨rfl,hL'⟩
  |ret=>exact⟨rfl,hL'⟩
 |more h2 h3 =>
  rename_i k' s2;have hl2:=h2.1;rw[←hl]at hL1;refine wp_mono (h2.2 X n0 w0 ok0 a w hG hL1) ?_;rintro x a' w' ⟨rfl,hL'⟩;rw[hl]at hL';exact⟨_,Nat.lt_succ_self _,s2,h3,hl2.trans hl,hL'⟩
def xz(step:AS→List An→List LA→Option (AE×AS×List Prop×List An×List LA)):Nat→AS→List An→List LA→Option (AE×AS×List Prop×List An×List LA)
 |0,_,_,_=>none
 |n+1,s,an,ls=>match step s an ls with
  |some (.F4,s1,ps,bS,fG)=>match xz step n s1 bS fG with
   |some (e,s2,qs,X9,mD)=>some (e,s2,ps++qs,X9,mD)
   |none=>none
  |r=>r
def bz(E:En):Code→AS→List An→List LA→Option (AE×AS×List Prop×List An×List LA)
 |.skip,s,an,ls=>some (.F4,s,[],an,ls)
 |.label _,s,an,ls=>some (.F4,s,[],an,ls)
 |.region id ops draw,s,an,ls=>match a5I id ls with
  |true=>match FQ E ops id draw s an ls with
   |none=>none
   |some (s',ps,I8,ls')=>some (.F4,s',ps,I8,ls')
  |false=>match AP E ops draw s an with
   |none=>none
   |some (s',ps,I8)=>some (.F4,s',ps,I8,ls)
 |.seq x y,s,an,ls=>match bz E x s an ls with
  |some (.F4,s1,ps,bS,fG)=>match bz E y s1 bS fG with
   |some (e,s2,qs,X9,mD)=>some (e,s2,ps++qs,X9,mD)
   |none=>none
  |r=>r
 |.cond c x y,s,an,ls=>match G6 s.F9 c with
  |.dt (.val (.bool true))=>bz E x s an ls
  |.dt (.val (.bool false))=>bz E y s an ls
  |_=>none
 |.block id b,s,an,ls=>match bz E b s an ls with
  |some (.out i,s',ps,I8,ls')=>match Nat.beq i id with
   |true=>some (.F4,s',ps,I8,ls')
   |false=>some (.out i,s',ps,I8,ls')
  |r=>r
 |.scope b,s,an,ls=>bz E b s an ls
 |.loop b,s,an,ls=>match ls with
  |.inv ft nb e s'::ls=>match (Nat.ble E.nh nb && forgets nb (forget ft nb s)) with
   |true=>some (e,s',[y7 E (.loop b) (forget ft nb s) e s'],an,ls)
   |false=>none
  |.run n::ls=>xz (fun s an ls=>bz E b s an ls) n s an ls
  |ls=>xz (fun s an ls=>bz E b s an ls) 4000 s an ls
 |.exit id,s,an,ls=>some (.out id,s,[],an,ls)
 |.ret,s,an,ls=>some (.ret,s,[],an,ls)
 |_,_,_,_=>none
theorem Aa{E:En}:∀{c:Code} {s s':AS} {an I8:List An} {ls ls':List LA} {e:AE} {ps:List Prop},bz E c s an ls=some (e,s',ps,I8,ls')→J4 ps→y7 E c s e s':=by
 intro c
 induction c with
 |skip=>intro s s' an I8 ls ls' e ps h _;cases h;exact⟨rfl,fun X n0 w0 ok0 a w _ hL=>wp_skip ⟨rfl,hL⟩⟩
 |label l=>intro s s' an I8 ls ls' e ps h _;cases h;exact⟨rfl,fun X n0 w0 ok0 a w _ hL=>wp_label ⟨rfl,hL⟩⟩
 |region id ops draw =>
  intro s s' an I8 ls ls' e ps h hp;simp only[bz]at h;split at h
  ·split at h
   ·cases h
   ·rename_i s1 aV bS fG hr;cases h;obtain⟨hl,hw⟩:=YT hr hp;exact⟨hl,fun X n0 w0 ok0 a w hG hL=>hw hG hL fun a w hL'=>⟨rfl,hL'⟩⟩
  split at h
  ·cases h
  ·rename_i s1 aV bS hr;cases h;refine⟨?_,fun X n0 w0 ok0 a w hG hL=>Xu hr hp hG.g hL fun a w hL'=>⟨rfl,hL'⟩⟩;unfold AP at hr;split at hr
   ·cases hr
   ·rename_i h1;split at hr
    ·cases hr;exact (Fy h1 hp).1
    ·cases hr
 |seq x y yZ Df =>
  intro s s' an I8 ls ls' e ps h hp;simp only[bz]at h;split at h
  ·rename_i s1 aV bS fG hx;split at h
   ·rename_i e2 s2 qs X9 mD hy;cases h;obtain⟨hp1,hp2⟩:=ed hp;obtain⟨l1,t1⟩:=yZ hx hp1;obtain⟨l2,t2⟩:=Df hy hp2;refine⟨l2.trans l1,fun X n0 w0 ok0 a w hG hL=>wp_seq (wp_mono (t1 X n0 w0 ok0 a w hG hL) ?_)⟩;rintro x' a' w' ⟨rfl,hL'⟩;rw[←l1]at hL';have:=t2 X n0 w0 ok0 a' w' hG hL';rw[l1]at this;exact this
   ·cases h
  ·rename_i hne;obtain⟨l1,t1⟩:=yZ h hp;refine⟨l1,fun X n0 w0 ok0 a w hG hL=>wp_seq (wp_mono (t1 X n0 w0 ok0 a w hG hL) ?_)⟩;rintro x' a' w' ⟨rfl,hL'⟩;cases e with
   |F4=>exact absurd h (hne _ _ _ _)
   |out i=>exact⟨rfl,hL'⟩
   |ret=>exact⟨rfl,hL'⟩
 |cond c x y yZ Df =>
  intro s s' an I8 ls ls' e ps h hp;simp only[bz]at h;split at h
  ·rename_i hc;obtain⟨l1,t1⟩:=yZ h hp;refine⟨l1,fun X n0 w0 ok0 a w hG hL=>?_⟩;obtain⟨M,hI⟩:=hL;have hv:=hI.ev c;rw[hc]at hv;exact wp_cond_true (Rd.Q9 hv) (t1 X n0 w0 ok0 a w hG ⟨M,hI⟩)
  ·rename_i hc;obtain⟨l1,t1⟩:=Df h hp;refine⟨l1,fun X n0 w0 ok0 a w hG hL=>?_⟩;obtain⟨M,hI⟩:=hL;have hv:=hI.ev c;rw[hc]at hv;exact wp_cond_false (Rd.Q9 hv) (t1 X n0 w0 ok0 a w hG ⟨M,hI⟩)
  ·cases h
 |block id b ih =>
  intro s s' an I8 ls ls' e ps h hp;simp only[bz]at h;split at h
  ·rename_i i s1 aV bS fG hb;split at h
   ·rename_i hi;have hi':=Nat.eq_of_beq_eq_true hi;cases h;obtain⟨l1,t1⟩:=ih hb hp;refine⟨l1,fun X n0 w0 ok0 a w hG hL=>wp_block (wp_mono (t1 X n0 w0 ok0 a w hG hL) ?_)⟩;rintro x' a' w' ⟨rfl,hL'⟩;show if i=id then _ else _
    rw[if_pos hi'];exact⟨rfl,hL'⟩
   ·rename_i hi;cases h;obtain⟨l1,t1⟩:=ih hb hp;refine⟨l1,fun X n0 w0 ok0 a w hG hL=>wp_block (wp_mono (t1 X n0 w0 ok0 a w hG hL) ?_)⟩;rintro x' a' w' ⟨rfl,hL'⟩;show if i=id then _ else _
    rw[if_neg (fun e=>by rw[e,Nat.beq_refl]at hi;cases hi)];exact⟨rfl,hL'⟩
  ·rename_i hne;obtain⟨l1,t1⟩:=ih h hp;refine⟨l1,fun X n0 w0 ok0 a w hG hL=>wp_block (wp_mono (t1 X n0 w0 ok0 a w hG hL) ?_)⟩;rintro x' a' w' ⟨rfl,hL'⟩;cases e with
   |F4=>exact⟨rfl,hL'⟩
   |out i=>exact absurd h (hne _ _ _ _ _)
   |ret=>exact⟨rfl,hL'⟩
 |scope b ih =>
  intro s s' an I8 ls ls' e ps h hp;simp only[bz]at h;obtain⟨l1,t1⟩:=ih h hp;refine⟨l1,fun X n0 w0 ok0 a w hG hL=>wp_scope_straight (wp_mono (t1 X n0 w0 ok0 a w hG hL) ?_)⟩;rintro x' a' w' ⟨rfl,hL'⟩;cases e <;> exact⟨rfl,hL'⟩
 |loop b ih =>
  intro s s' an I8 ls ls' e ps h hp;have rounds:∀(n:Nat) {s s':AS} {an I8:List An} {ls ls':List LA} {e:AE} {ps:List Prop},xz (fun s an ls=>bz E b s an ls) n s an ls=some (e,s',ps,I8,ls')→J4 ps→J7 E b s e s':=by
   intro n
   induction n with
   |zero=>intro s s' an I8 ls ls' e ps h _;cases h
   |succ n ihn =>
    intro s s' an I8 ls ls' e ps h hp;simp only[xz]at h;split at h
    ·rename_i s1 aV bS fG hx;split at h
     ·rename_i e2 s2 qs X9 mD hy;cases h;obtain⟨hp1,hp2⟩:=ed hp;exact .more (ih hx hp1) (ihn hy hp2)
     ·cases h
    ·rename_i hne;exact .stop (ih h hp) fun he=>by subst he;exact hne _ _ _ _ h
  simp only[bz]at h;split at h
  ·rename_i ft nb e1 s1 fG;split at h
   ·rename_i hf;cases h;obtain⟨l1,t1⟩:=hp.1;have hlen:(forget ft nb s).tm.length=s.tm.length:=FR _ _ _;refine⟨l1.trans hlen,fun X n0 w0 ok0 a w hG hL=>?_⟩;have:=t1 X n0 w0 ok0 a w hG (by rw[hlen];exact Left.forget hf hG hL);rw[hlen]at this;exact this
   ·cases h
  ·exact (rounds _ h hp).K3
  ·exact (rounds _ h hp).K3
 |exit id=>intro s s' an I8 ls ls' e ps h _;cases h;exact⟨rfl,fun X n0 w0 ok0 a w _ hL=>wp_exit ⟨rfl,hL⟩⟩
 |ret=>intro s s' an I8 ls ls' e ps h _;cases h;exact⟨rfl,fun X n0 w0 ok0 a w _ hL=>wp_ret ⟨rfl,hL⟩⟩
 |goto l=>intro s s' an I8 ls ls' e ps h _;cases h
 |refuse l=>intro s s' an I8 ls ls' e ps h _;cases h
 |rangeFunc f p x y yZ Df=>intro s s' an I8 ls ls' e ps h _;cases h
def jC(P:Program)(s:AS):List ResultVar→Option (List AV)
 |[]=>some []
 |.tmp t::rs=>match jC P s rs with
  |some cs=>some (s.F9 t::cs)
  |none=>none
 |.cell x t::rs=>match s.F9 x,bB P t,jG P t,jC P s rs with
  |.ptr b off,some n,some ag,some cs=>match s.D7 b with
   |some (.cells c0)=>match rowAt c0 off n ag with
    |some r=>some (r::cs)
    |none=>none
   |_=>none
  |_,_,_,_=>none
def qE:List AV→AV
 |[x]=>x
 |xs=>.l7 xs
def uo(tmps:Array Value):ResultVar→Sem Value
 |.tmp t=>pure (tmps.getD t undef)
 |.cell a t=>do loadVar t (←asAddr (tmps.getD a undef))
section
variable {P:Program} {X:Nat→Prop} {n0:Nat} {w0:World×Mm} {ok0:Nat→Prop} {M:Mm} {nt:Nat} {a:Act} {w:World}
theorem wu{s:AS}(hI:Inv X n0 w0 ok0 M nt s.F9 s.D7 a w):∀{rs:List ResultVar} {cs:List AV},jC P s rs=some cs→∃vs,(rs.mapM (uo a.tmps)).run P w=.ok vs w∧RL M w cs vs
 |[],cs,h=>by cases h;exact⟨[],rfl,rfl⟩
 |.tmp t::rs,cs,h=>by
  unfold jC at h;split at h
  ·rename_i cs' h';cases h;obtain⟨vs,h1,h2⟩:=wu hI h';refine⟨a.tmps.getD t undef::vs,?_,_,vs,rfl,hI.tmps t,h2⟩;rw[List.mapM_cons];simp only[uo,Sem.run_bind,Sem.run_pure,Result.andThen,h1]
  ·cases h
 |.cell x t::rs,cs,h=>by
  unfold jC at h;split at h
  ·rename_i b off n ag cs' hx hn ha h';split at h
   ·rename_i c0 hb;split at h
    ·rename_i r hr;cases h;obtain⟨vs,h1,h2⟩:=wu hI h';have hv:=hI.tmps x;rw[hx]at hv;obtain⟨g,hg,hv⟩:=hv;obtain⟨g',T,us,e1,e2,e3⟩:=hI.H6.box b _ hb;rw[hg]at e1;cases e1;obtain⟨u,hu1,hu2⟩:=run_load (P:=P) (g:=g) (q:=0) hn ha (fun j u hj=>by rw[Nat.zero_add,e2.cell];simpa using hj) e3 hr;rw[Nat.zero_add]at hu1;refine⟨u::vs,?_,u,vs,rfl,hu2,h2⟩;rw[List.mapM_cons];have b0j:(uo a.tmps (.cell x t)).run P w=.ok u w:=by
      simp only[uo,hv,asAddr,Sem.run_bind,Sem.run_pure,Result.andThen,hu1]
     simp only[Sem.run_bind,b0j,Sem.run_pure,Result.andThen,h1]
    ·cases h
   ·cases h
  ·cases h
theorem Ew{fn:Func}{tmps:Array Value}{vs:List Value}(h:(fn.results.toList.mapM (uo tmps)).run P w=.ok vs w):(results fn tmps).run P w=.ok (if h:vs.length=1 then vs[0] else .tuple vs.toArray) w:=by
 have e:results fn tmps=(do let vs ←fn.results.mapM (uo tmps);pure (if h:vs.size=1 then vs[0] else .tuple vs)):=by
  unfold results;congr 1
 rw[e,Array.mapM_eq_mapM_toList];simp only[Sem.run_bind,Sem.run_map,h,Result.andThen,Sem.run_pure];by_cases h1:vs.length=1
 ·simp[h1]
 ·simp[h1]
end
def Jp(E:En)(fn:Func)(c:Code)(args:List AV)(an:List An)(ls:List LA):Option (AV×List Prop) :=
 match bz E c ⟨args++List.replicate (fn.ntmps - args.length) (.dt (.val undef)),[]⟩ an ls with
 |some (.out _,_)=>none
 |none=>none
 |some (_,s,ps,_,_)=>match jC E.P s fn.results.toList with
  |some cs=>match aN [] false s.D7 cs with
   |some (cs',qs)=>some (qE cs',ps++qs)
   |none=>none
  |none=>none
def xA(E:En)(fn:Func)(args:List AV)(an:List An)(ls:List LA):Option (AV×List Prop):=match fn.body with
 |some c=>Jp E fn c args an ls
 |none=>none
theorem PI{M:Mm}{w:World}{cs:List AV}{vs:List Value}(h:RL M w cs vs):RV M w (qE cs) (if h:vs.length=1 then vs[0] else .tuple vs.toArray):=by
 have hl:=h.len
 match cs,h with
 |[],h =>
  rw[show vs=[] from h]
  exact⟨[],rfl,rfl⟩
 |[c],⟨u,us,e,h1,h2⟩ =>
  rw[show us=[] from h2]at e
  subst e;exact h1
 |c::c'::cs,h =>
  simp only[List.length_cons]at hl;rw[dif_neg J];exact⟨vs,rfl,h⟩
theorem walk{E:En}(hG:∀w w',E.G w→Below w.heap.size w w'→E.G w'){f:FuncId}{fn:Func}{c:Code}(hf:E.P.funcs[f]?=some fn)(hb:fn.body=some c)(hn:(fn.name == "runtime.NumGoroutine")=false)
  {args:List AV} (an:List An) (ls:List LA) {r:AV} {ps:List Prop} (h:Jp E fn c args an ls=some (r,ps)) (hp:J4 ps):qj E.P E.G f args r:=by
 refine⟨⟨fn,hf,by rw[hb];rfl,hn⟩,fun ok w vs hw hargs=>?_⟩;unfold Jp at h;have key:∃e s cs cs' I8 ls' aV qs,bz E c ⟨args++List.replicate (fn.ntmps - args.length) (.dt (.val undef)),[]⟩ an ls=some (e,s,aV,I8,ls')∧(∀i,e≠.out i)∧jC E.P s fn.results.toList=some cs∧aN [] false s.D7 cs=some (cs',qs)∧r=qE cs'∧ps=aV++qs:=by
  split at h
  ·cases h
  ·cases h
  ·rename_i e s ps' I8 ls' hne hc;split at h
   ·rename_i cs hcs;split at h
    ·rename_i cs' qs hcv;cases h;exact⟨e,s,cs,cs',I8,ls',ps',qs,hc,fun i he=>by subst he;exact hne _ rfl,hcs,hcv,rfl,rfl⟩
    ·cases h
   ·cases h
 obtain⟨e,s,cs,cs',I8,ls',aV,qs,hc,hne,hcs,hcv,rfl,rfl⟩:=key;obtain⟨hp1,hp2⟩:=ed hp;obtain⟨hlen,yj⟩:=Aa hc hp1;have hal:=hargs.len;refine calls_of_wp hf hb (wp_mono (yj (fun _=>False) w.heap.size (w,M0 fun b=>ok b∧b < w.heap.size) ok _ w ⟨fun w' hb=>hG w w' hw hb.below,fun _ _=>⟨rfl,rfl⟩⟩ ⟨M0 fun b=>ok b∧b < w.heap.size,?_⟩) ?_)
 ·have jD:∀b x,(AS.mk (args++List.replicate (fn.ntmps - args.length) (.dt (.val undef))) []).D7 b≠some x:=fun b x h=>by simp[AS.D7]at h
  refine⟨V3.refl _ _ _,Nat.le_refl _,rfl,?_,?_,⟨fun b x h=>absurd h (jD b x),fun b x _ h=>absurd h (jD b x),fun b _ x _ _ h=>absurd h (jD b x),(fun b g h=>by cases h),(fun b v h=>by cases h),fun b hb=>hb.2⟩,fun b hb _=>.inl hb.1,N8.refl _ _ _ _⟩
  ·simp[hal]
  ·intro t;have hargs':RL (M0 fun b=>ok b∧b < w.heap.size) w args vs:=RL.sO (fun b hb hl=>⟨hb,hl⟩) hargs;by_cases ht:t < args.length
   ·obtain⟨u,hu1,hu2⟩:=hargs'.get (i:=t) (c:=args[t]) (List.getElem?_eq_getElem ht);have e1:(AS.mk (args++List.replicate (fn.ntmps - args.length) (.dt (.val undef))) []).F9 t=args[t]:=by
     unfold AS.F9;simp[List.getElem?_append_left ht,ht]
    have e2:(vs.toArray++Array.replicate (fn.ntmps - vs.toArray.size) undef).getD t undef=u:=by
     have ht':t < vs.length:=J;simp only[Array.getD_eq_getD_getElem?];rw[Array.getElem?_append_left (by simpa using ht')];simp[hu1]
    rw[e1,e2];exact hu2
   ·have e1:(AS.mk (args++List.replicate (fn.ntmps - args.length) (.dt (.val undef))) []).F9 t=.dt (.val undef):=by
     unfold AS.F9;rw[List.getD_eq_getElem?_getD,List.getElem?_append_right J,List.getElem?_replicate];split <;> rfl
    have e2:(vs.toArray++Array.replicate (fn.ntmps - vs.toArray.size) undef).getD t undef=undef:=by
     simp only[Array.getD_eq_getD_getElem?];rw[Array.getElem?_append_right (by simp;omega),Array.getElem?_replicate];split <;> rfl
    rw[e1,e2];exact qb
 ·rintro x a' w' ⟨rfl,M,hI⟩;obtain⟨us,h1,h2⟩:=wu hI hcs;obtain⟨M1,hI1,h3,_⟩:=hI.hand hcv hp2 h2;have hR:∃v,(results fn a'.tmps).run E.P w'=.ok v w'∧(fun e w'=>∃v,e=Ending.returned v∧Below w.heap.size w w'∧RV (M0 fun b=>ok b∨w.heap.size≤b) w' (qE cs') v) (.returned v) w':=by
   refine⟨_,Ew h1,_,rfl,hI.below.below,?_⟩;refine RV.lift (F:=M1.F) (M:=M0 fun b=>ok b∨w.heap.size≤b) (fun b hb _=>?_) (PI h3);by_cases e:b < w.heap.size
   ·rcases hI1.src b hb e with h | h
    ·exact .inl h
    ·exact h.elim
   ·exact .inr J
  cases e with
  |F4=>exact⟨hI.defers,hR⟩
  |ret=>exact⟨hI.defers,hR⟩
  |out i=>exact absurd rfl (hne i)
theorem a7N{E:En}(hG:∀w w',E.G w→Below w.heap.size w w'→E.G w'){f:FuncId}{fn:Func}(hf:E.P.funcs[f]?=some fn)(hn:(fn.name == "runtime.NumGoroutine")=false)
  {args:List AV} {an:List An} {ls:List LA} {r:AV} {ps:List Prop} (h:xA E fn args an ls=some (r,ps)) (hp:J4 ps):qj E.P E.G f args r:=by
 unfold xA at h;split at h
 ·rename_i c hc;exact walk hG hf hc hn an ls h hp
 ·cases h
theorem y7.weak{E:En}{c:Code}{s s':AS}{e:AE}(h:y7 E c s e s')(ft:List Nat)(nb:Nat)(hf:(Nat.ble E.nh nb && forgets nb (forget ft nb s'))=true):y7 E c s e (forget ft nb s'):=by
 refine⟨(FR _ _ _).trans h.1,fun X n0 w0 ok0 a w hG hL=>wp_mono (h.2 X n0 w0 ok0 a w hG hL) ?_⟩;rintro x a' w' ⟨rfl,hL'⟩;exact⟨rfl,Left.forget hf hG hL'⟩
def Bh(E:En)(c:Code)(s:AS)(an:List An)(ls:List LA)(ft:List Nat)(nb:Nat):Option (AE×AS×List Prop):=match bz E c s an ls with
 |some (e,s',ps,_,_)=>match Nat.ble E.nh nb && forgets nb (forget ft nb s') with
  |true=>some (e,forget ft nb s',ps)
  |false=>none
 |none=>none
theorem tw{E:En}{c:Code}{s s':AS}{an:List An}{ls:List LA}{ft:List Nat}{nb:Nat}{e:AE}{ps:List Prop}(h:Bh E c s an ls ft nb=some (e,s',ps))(hp:J4 ps):y7 E c s e s':=by
 unfold Bh at h;split at h
 ·rename_i e1 s1 aV bS fG hc;split at h
  ·rename_i hf;cases h;exact (Aa hc hp).weak ft nb hf
  ·cases h
 ·cases h
def Wm(kv:List (Nat×AV))(i:Nat):AV:=match kv with
 |[]=>.un
 | (j,v)::r=>match Nat.beq i j with
  |true=>v
  |false=>Wm r i
def Wn(kv:List (Nat×AV)):Nat→Nat→List AV
 |_,0=>[]
 |i,n+1=>Wm kv i::Wn kv (i+1) n
abbrev stt(n:Nat)(kv:List (Nat×AV)):List AV:=Wn kv 0 n
def M9:Code→List Nat→Code
 |c,[]=>c
 |.seq x _,0::p=>M9 x p
 |.seq _ y,_::p=>M9 y p
 |.cond _ x _,0::p=>M9 x p
 |.cond _ _ y,_::p=>M9 y p
 |.block _ b,_::p=>M9 b p
 |.loop b,_::p=>M9 b p
 |.scope b,_::p=>M9 b p
 |c,_=>c
def P6(fn:Func):Code:=match fn.body with
 |some c=>c
 |none=>.skip
def IL(E:En)(fn:Func)(c:Code)(args:List AV)(xs:List (Option Bx))(ks:List Nat)(an:List An)(ls:List LA):Option (AV×List (Option Bx)×List Prop) :=
 match bz E c ⟨args++List.replicate (fn.ntmps - args.length) (.dt (.val undef)),xs⟩ an ls with
 |some (.out _,_,_,_,_)=>none
 |none=>none
 |some (_,s,ps,_,_)=>match jC E.P s fn.results.toList with
  |some cs=>match aN ks true s.D7 cs with
   |some (cs',qs)=>match gL ks (H9 s.D7 (M8 s.D7 (J3 ks s.D7 cs))) ks with
    |some (xs',rs)=>match nodupB ks && (List.range E.nh).all (fun i=>Nat.beq (ks.getD i (i+1)) i) && Nat.beq xs.length E.nh with
     |true=>some (qE cs',xs',ps++(qs++rs))
     |false=>none
    |none=>none
   |none=>none
  |none=>none
theorem a7O{E:En}{f:FuncId}{fn:Func}{c:Code}(hf:E.P.funcs[f]?=some fn)(hb:fn.body=some c)(hn:(fn.name == "runtime.NumGoroutine")=false)
  {args:List AV} {xs:List (Option Bx)} {ks:List Nat} (an:List An) (ls:List LA) {r:AV} {xs':List (Option Bx)} {ps:List Prop} (h:IL E fn c args xs ks an ls=some (r,xs',ps)) (hp:J4 ps):aK E.P E.G f args xs r xs':=by
 refine⟨⟨fn,hf,by rw[hb];rfl,hn⟩,fun X M w vs hG hS hargs=>?_⟩;unfold IL at h;have key:∃e s cs cs' I8 ls' aV qs rs,bz E c ⟨args++List.replicate (fn.ntmps - args.length) (.dt (.val undef)),xs⟩ an ls=some (e,s,aV,I8,ls')∧(∀i,e≠.out i)∧jC E.P s fn.results.toList=some cs∧aN ks true s.D7 cs=some (cs',qs) ∧
   gL ks (H9 s.D7 (M8 s.D7 (J3 ks s.D7 cs))) ks=some (xs',rs)∧(nodupB ks && (List.range E.nh).all (fun i=>Nat.beq (ks.getD i (i+1)) i) && Nat.beq xs.length E.nh)=true∧r=qE cs'∧ps=aV++(qs++rs):=by
  split at h
  ·cases h
  ·cases h
  ·rename_i e s ps' I8 ls' hne hc;split at h
   ·rename_i cs hcs;split at h
    ·rename_i cs' qs hcv;split at h
     ·rename_i uW rs hgb;split at h
      ·rename_i hck;cases h;exact⟨e,s,cs,cs',I8,ls',ps',qs,rs,hc,fun i he=>by subst he;exact hne _ rfl,hcs,hcv,hgb,hck,rfl,rfl⟩
      ·cases h
     ·cases h
    ·cases h
   ·cases h
 obtain⟨e,s,cs,cs',I8,ls',aV,qs,rs,hc,hne,hcs,hcv,hgb,hck,rfl,rfl⟩:=key;simp only[Bool.and_eq_true,List.all_eq_true,List.mem_range]at hck;obtain⟨⟨hnd,hks⟩,hxl⟩:=hck;have hnd:=ET hnd;have hxl:xs.length=E.nh:=Nat.eq_of_beq_eq_true hxl;have hks:∀i,i < E.nh→ks[i]?=some i:=fun i hi=>by
  have:=Nat.eq_of_beq_eq_true (hks i hi);rw[List.getD_eq_getElem?_getD]at this;cases hk:ks[i]? with
  |none=>rw[hk]at this;simp at this
  |some k=>rw[hk]at this;simp at this;rw[this]
 obtain⟨hp1,hp2⟩:=ed hp;obtain⟨hp2,hp3⟩:=ed hp2;obtain⟨hlen,yj⟩:=Aa hc hp1;have hal:=hargs.len;have hbx:(AS.mk (args++List.replicate (fn.ntmps - args.length) (.dt (.val undef))) xs).D7=lk xs:=rfl;have Wo:HG E X w.heap.size (w,M):=⟨hG,fun k hk=>by
  have hl:lk xs k=none:=by unfold lk;rw[List.getElem?_eq_none J]
  exact⟨hS.wG hl,hS.AB hl⟩⟩
 refine calls_of_wp hf hb (wp_mono (yj X w.heap.size (w,M) M.F _ w Wo ⟨M,?_⟩) ?_)
 ·refine⟨V3.refl _ _ _,Nat.le_refl _,rfl,?_,?_,by rw[hbx];exact hS,fun b hb _=>.inl hb,N8.refl _ _ _ _⟩
  ·simp[hal]
  ·intro t;by_cases ht:t < args.length
   ·obtain⟨u,hu1,hu2⟩:=hargs.get (i:=t) (c:=args[t]) (List.getElem?_eq_getElem ht);have e1:(AS.mk (args++List.replicate (fn.ntmps - args.length) (.dt (.val undef))) xs).F9 t=args[t]:=by
     unfold AS.F9;simp[List.getElem?_append_left ht,ht]
    have e2:(vs.toArray++Array.replicate (fn.ntmps - vs.toArray.size) undef).getD t undef=u:=by
     have ht':t < vs.length:=J;simp only[Array.getD_eq_getD_getElem?];rw[Array.getElem?_append_left (by simpa using ht')];simp[hu1]
    rw[e1,e2];exact hu2
   ·have e1:(AS.mk (args++List.replicate (fn.ntmps - args.length) (.dt (.val undef))) xs).F9 t=.dt (.val undef):=by
     unfold AS.F9;rw[List.getD_eq_getElem?_getD,List.getElem?_append_right J,List.getElem?_replicate];split <;> rfl
    have e2:(vs.toArray++Array.replicate (fn.ntmps - vs.toArray.size) undef).getD t undef=undef:=by
     simp only[Array.getD_eq_getD_getElem?];rw[Array.getElem?_append_right (by simp;omega),Array.getElem?_replicate];split <;> rfl
    rw[e1,e2];exact qb
 ·rintro x a' w' ⟨rfl,Mf,hI⟩;obtain⟨us,h1,h2⟩:=wu hI hcs;obtain⟨M1,hI1,h3,_⟩:=hI.Tu hcv hp2 h2;have b0k:=PG hI1 hnd hgb hp3 (Y:=X) (m0:=w.heap.size) fun j hj x q hb hq=>(hI1.H6.dom j x q hb hq).1
  have Wp:∀k,(M.m k).isSome=true∨(M.o k).isSome=true→k < E.nh:=fun k hk=>by
   rcases Nat.lt_or_ge k E.nh with h | h
   ·exact h
   ·obtain⟨e1,e2⟩:=Wo.h k h;rw[show M.m k=none from e1,show M.o k=none from e2]at hk
    rcases hk with hk | hk <;> cases hk
  have hgo:N8 X w.heap.size M w (iQ M1 ks) w':=⟨hI1.gD.below,hI1.gD.keep,hI1.gD.F,fun k q hq=>by
   have hk:=hks k (Wp k (.inl (by rw[hq];rfl)));show (ks[k]?).bind M1.m=_;rw[hk];exact hI1.gD.m k q hq,fun k A n c hq=>by
   have hk:=hks k (Wp k (.inr (by rw[hq];rfl)));show ∃A' n' c',(ks[k]?).bind M1.o=_∧_;rw[hk];exact hI1.gD.o k A n c hq⟩
  have hR:∃v,(results fn a'.tmps).run E.P w'=.ok v w'∧(fun e w'=>∃v M',e=Ending.returned v∧N8 X w.heap.size M w M' w'∧V7 X w.heap.size M' (lk xs') w'∧(∀b,M'.F b→M.F b∨w.heap.size≤b∨X b)∧RV M' w' (qE cs') v) (.returned v) w':=by
   refine⟨_,Ew h1,_,iQ M1 ks,rfl,hgo,b0k,fun b hb=>?_,PI h3⟩;by_cases e:b < w.heap.size
   ·rcases hI1.src b hb e with h | h
    ·exact .inl h
    ·exact .inr (.inr h)
   ·exact .inr (.inl J)
  cases e with
  |F4=>exact⟨hI.defers,hR⟩
  |ret=>exact⟨hI.defers,hR⟩
  |out i=>exact absurd rfl (hne i)
def Bi(E:En)(fn:Func)(args:List AV)(xs:List (Option Bx))(ks:List Nat)(an:List An)(ls:List LA):Option (AE×AS×List Prop):=match fn.body with
 |some c=>match IL E fn c args xs ks an ls with
  |some (r,xs',ps)=>some (.F4,⟨[r],xs'⟩,ps)
  |none=>none
 |none=>none
theorem a5J{E:En}{f:FuncId}{fn:Func}(hf:E.P.funcs[f]?=some fn)(hn:(fn.name == "runtime.NumGoroutine")=false)
  {args:List AV} {xs:List (Option Bx)} {ks:List Nat} {an:List An} {ls:List LA} {r:AV} {xs':List (Option Bx)} {ps:List Prop} (h:Bi E fn args xs ks an ls=some (.F4,⟨[r],xs'⟩,ps)) (hp:J4 ps):aK E.P E.G f args xs r xs':=by
 unfold Bi at h;split at h
 ·rename_i c hc;split at h
  ·rename_i r1 uW aV h1;cases h;exact a7O hf hc hn an ls h1 hp
  ·cases h
 ·cases h
def Gx(w:World):Prop:=Q4 w∧True
theorem Gx.below{w w':World}(h:Gx w)(hb:Below w.heap.size w w'):Gx w':=⟨h.1.below hb,Z⟩
def Jq(_g _i:Nat):Option Value:=none
theorem PK(w:World)(_h:Gx w)(g i:Nat)(v:Value)(hv:Jq g i=some v):w.cell? ⟨g,i,none⟩=some v:=by cases hv
theorem mixed:prog.follows .mixedOrders=true:=by kernel_rfl
noncomputable abbrev EX:En:=⟨prog,Gx,Jq,PK,mixed,0⟩
abbrev j5(f:FuncId)(args:List AV)(r:AV):Prop:=qj prog Gx f args r
abbrev vi(n:Int):Value:=.int .i64 n
abbrev bT:Value:=.bool true
abbrev bF:Value:=.bool false
abbrev Bn(op:BinOp)(t:TypeId)(x y:Operand)(a b r:Value):Prop:=aS prog op t x y a b r
abbrev l9(o:Ob):AV:=.agg [.dt (.val (.int .i64 o.kind)),.dt (.val (str o.num)),.dt (.val (str o.den)),.dt (.val (str o.sp)),.dt (.val (str o.sn)),.dt (.val (str o.text)),.dt (.row (o.pair.map Ob.enc))]
abbrev j6(b:Bool):AV:=.dt (.val (.bool b))
abbrev yT:An:=.av (j6 true)
abbrev yF:An:=.av (j6 false)
abbrev j3(n:Int):AV:=.dt (.val (.int .i64 n))
abbrev stA(l:bi):AV:=.dt (.val (str l))
theorem RV.obj{M:Mm}{w:World}{o:Ob}{v:Value}(h:RV M w (l9 o) v):∃A n c,v=F5 o (.slice A n c)∧Rd M.F w (.slice A n c) (.row (o.pair.map Ob.enc)):=by
 obtain⟨vs,rfl,u0,_,rfl,h0,u1,_,rfl,h1,u2,_,rfl,h2,u3,_,rfl,h3,u4,_,rfl,h4,u5,_,rfl,h5,u6,_,rfl,h6,rfl⟩:=h;obtain⟨A,n,c,rfl,_⟩:=Rd.slice h6;refine⟨A,n,c,?_,h6⟩;rw[Rd.Q9 h0,Rd.Q9 h1,Rd.Q9 h2,Rd.Q9 h3,Rd.Q9 h4,Rd.Q9 h5]
theorem RV.Tv{M:Mm}{w:World}{o:Ob}{A:Option Addr}{n c:Nat}(h:Rd M.F w (.slice A n c) (.row (o.pair.map Ob.enc))):RV M w (l9 o) (F5 o (.slice A n c)) :=
 ⟨_,rfl,_,_,rfl,.val _,_,_,rfl,.val _,_,_,rfl,.val _,_,_,rfl,.val _,_,_,rfl,.val _,_,_,rfl,.val _,_,_,rfl,h,rfl⟩
theorem RL.sV{M:Mm}{w:World}{o:Ob}{vs:List Value}(h:RL M w [l9 o] vs):∃A n c,vs=[F5 o (.slice A n c)]∧Rd M.F w (.slice A n c) (.row (o.pair.map Ob.enc)):=by
 obtain⟨u,us,rfl,h1,rfl⟩:=h;obtain⟨A,n,c,rfl,h⟩:=h1.obj;exact⟨A,n,c,rfl,h⟩
theorem RL.qg{M:Mm}{w:World}{o o':Ob}{vs:List Value}(h:RL M w [l9 o,l9 o'] vs):∃A n c A' n' c',vs=[F5 o (.slice A n c),F5 o' (.slice A' n' c')]∧Rd M.F w (.slice A n c) (.row (o.pair.map Ob.enc))∧Rd M.F w (.slice A' n' c') (.row (o'.pair.map Ob.enc)):=by
 obtain⟨u,us,rfl,h1,h2⟩:=h;obtain⟨A,n,c,rfl,h⟩:=h1.obj;obtain⟨A',n',c',rfl,h'⟩:=RL.sV h2;exact⟨A,n,c,A',n',c',rfl,h,h'⟩
theorem RL.dA{M:Mm}{w:World}{u:Value}{vs:List Value}(h:RL M w [.dt (.val u)] vs):vs=[u]:=by
 obtain⟨x,us,rfl,h1,rfl⟩:=h;rw[Rd.Q9 h1]
theorem ji.pure{ok:Nat→Prop}{r:Ob}{w w':World}{e:Ending}(h:ji ok r w e w'):∃v,e=.returned v∧Below w.heap.size w w'∧RV (M0 fun b=>ok b∨w.heap.size≤b) w' (l9 r) v:=by
 obtain⟨A,n,c,rfl,h1,h2⟩:=h;exact⟨_,rfl,h2,RV.Tv h1⟩
theorem I7.pure{ok:Nat→Prop}{r:Value}{w w':World}{e:Ending}(h:I7 r w e w'):∃v,e=.returned v∧Below w.heap.size w w'∧RV (M0 fun b=>ok b∨w.heap.size≤b) w' (.dt (.val r)) v:=by
 obtain⟨rfl,h2⟩:=h;exact⟨_,rfl,h2,.val _⟩
abbrev Fn(f:FuncId):Prop:=∃fn,prog.funcs[f]?=some fn∧fn.body.isNone=false∧(fn.name == "runtime.NumGoroutine")=false
theorem lQ{f:FuncId}(hf:Fn f){o:Ob}{r:Value}(h:∀(ok:Nat→Prop) (A:Option Addr) (n c:Nat) (w:World),Q4 w→Rd ok w (.slice A n c) (.row (o.pair.map Ob.enc))→Calls prog f #[F5 o (.slice A n c)] w (I7 r w)):j5 f [l9 o] (.dt (.val r)) :=
 ⟨hf,fun ok w vs ht hv=>by
  obtain⟨A,n,c,rfl,hr⟩:=hv.sV;exact (h ok A n c w ht.1 hr).mono fun _ _=>I7.pure⟩
theorem Rf{f:FuncId}(hf:Fn f){o o' r:Ob}(h:∀(ok:Nat→Prop) (A A':Option Addr) (n c n' c':Nat) (w:World),Q4 w→Rd ok w (.slice A n c) (.row (o.pair.map Ob.enc))→Rd ok w (.slice A' n' c') (.row (o'.pair.map Ob.enc))→Calls prog f #[F5 o (.slice A n c),F5 o' (.slice A' n' c')] w (ji ok r w)):j5 f [l9 o,l9 o'] (l9 r) :=
 ⟨hf,fun ok w vs ht hv=>by
  obtain⟨A,n,c,A',n',c',rfl,hr,hr'⟩:=hv.qg;exact (h ok A A' n c n' c' w ht.1 hr hr').mono fun _ _=>ji.pure⟩
theorem Tw{f:FuncId}{fn:Func}(hf:prog.funcs[f]?=some fn)(hn:(fn.name == "runtime.NumGoroutine")=false){args:List AV}{an:List An}{ls:List LA}{r:AV}{ps:List Prop}(h:xA EX fn args an ls=some (r,ps))(hp:J4 ps):j5 f args r :=
 a7N (E:=EX) (fun _ _ h hb=>h.below hb) hf hn h hp
noncomputable abbrev J5(n:Nat):En:=⟨prog,Gx,Jq,PK,mixed,n⟩
abbrev C8(f:FuncId)(args:List AV)(xs:List (Option Bx))(r:AV)(xs':List (Option Bx)):Prop:=aK prog Gx f args xs r xs'
theorem psw{n:Nat}{f:FuncId}{fn:Func}(hf:prog.funcs[f]?=some fn)(hn:(fn.name == "runtime.NumGoroutine")=false){args:List AV}{xs:List (Option Bx)}{ks:List Nat}{an:List An}{ls:List LA}{r:AV}{xs':List (Option Bx)}{ps:List Prop}(h:Bi (J5 n) fn args xs ks an ls=some (.F4,⟨[r],xs'⟩,ps))(hp:J4 ps):C8 f args xs r xs' :=
 a5J (E:=J5 n) hf hn h hp
theorem b4u{c:Code}{s s':AS}{an:List An}{ls:List LA}{ft:List Nat}{nb:Nat}{e:AE}{ps:List Prop}(h:Bh EX c s an ls ft nb=some (e,s',ps))(hp:J4 ps):y7 EX c s e s':=tw h hp
theorem pW(an:List An)(ls:List LA)(ps:List Prop){f:FuncId}{fn:Func}{args:List AV}{r:AV}(hf:prog.funcs[f]?=some fn)(hp:J4 ps)(hn:(fn.name == "runtime.NumGoroutine")=false:=by kernel_rfl)(h:xA EX fn args an ls=some (r,ps):=by kernel_rfl):j5 f args r:=Tw hf hn h hp
theorem pV(an:List An)(ps:List Prop){f:FuncId}{fn:Func}{args:List AV}{r:AV}(hf:prog.funcs[f]?=some fn)(hp:J4 ps)(hn:(fn.name == "runtime.NumGoroutine")=false:=by kernel_rfl)(h:xA EX fn args an []=some (r,ps):=by kernel_rfl):j5 f args r:=Tw hf hn h hp
theorem sW(n:Nat)(ks:List Nat)(an:List An)(ls:List LA)(ps:List Prop){f:FuncId}{fn:Func}{args:List AV}{xs xs':List (Option Bx)}{r:AV}(hf:prog.funcs[f]?=some fn)(hp:J4 ps)(hn:(fn.name == "runtime.NumGoroutine")=false:=by kernel_rfl)(h:Bi (J5 n) fn args xs ks an ls=some (.F4,⟨[r],xs'⟩,ps):=by kernel_rfl):C8 f args xs r xs':=psw hf hn h hp
theorem tW{E:En}{c:Code}{s s':AS}{e:AE}(an:List An)(ls:List LA)(ft:List Nat)(nb:Nat)(ps:List Prop)(hp:J4 ps)(h:Bh E c s an ls ft nb=some (e,s',ps):=by kernel_rfl):y7 E c s e s':=tw h hp
abbrev nK:Nat→List An→List An
 |0,l=>l
 |n+1,l=>.no::nK n l
noncomputable abbrev Bt(o:BinOp)(t A B:Nat)(x y:Int)(r:Value):Prop:=Bn o t (.tmp A) (.tmp B) (vi x) (vi y) r
noncomputable abbrev Bk(o:BinOp)(t A:Nat)(k x:Int)(r:Value):Prop:=Bn o t (.tmp A) (.const (vi k)) (vi x) (vi k) r
noncomputable abbrev Bs(o:BinOp)(t A B:Nat)(x y:bi)(r:Value):Prop:=Bn o t (.tmp A) (.tmp B) (str x) (str y) r
noncomputable abbrev Bl(o:BinOp)(t A:Nat)(l x:bi)(r:Value):Prop:=Bn o t (.tmp A) (.const (str l)) (str x) (str l) r
noncomputable abbrev Bu(o:BinOp)(t A:Nat)(k x:Int)(r:Value):Prop:=Bn o t (.tmp A) (.const (Value.int .u8 k)) (Value.int .u8 x) (Value.int .u8 k) r
theorem O3{f:FuncId}{fn:Func}(hf:prog.funcs[f]?=some fn)(hb:fn.body.isNone=false)(hn:(fn.name == "runtime.NumGoroutine")=false):Fn f:=⟨fn,hf,hb,hn⟩
theorem j5.val{f:FuncId}{args:List AV}{a b:AV}(h:j5 f args a)(e:a=b):j5 f args b:=e ▸ h
theorem j5.b{f:FuncId}{args:List AV}{a b:Bool}(h:j5 f args (j6 a))(e:a=b):j5 f args (j6 b):=e ▸ h
def Tr.bU:Tr→Bool
 |.cons _ _=>true
 |_=>false
abbrev l5(t:Tr):AV:=l9 t.ob
abbrev y8(o:Ob):List Dt:=[.val (.int .i64 o.kind),.val (str o.num),.val (str o.den),.val (str o.sp),.val (str o.sn),.val (str o.text),.row (o.pair.map Ob.enc)]
theorem BX(o:Ob):o.enc=y8 o:=Ob.lD o
theorem Bj{l:List Ob}{i:Nat}{o:Ob}(h:l[i]?=some o):z8 (l.map Ob.enc) (i:Int) 7 (y8 o):=⟨Int.natCast_nonneg _,by
 rw[Int.toNat_natCast,List.getElem?_map,h];exact congrArg some (BX o),rfl⟩
theorem fT.pure{ok:Nat→Prop}{p:Prop}[Decidable p]{w w':World}{e:Ending}(h:fT p w e w'):∃v,e=.returned v∧Below w.heap.size w w'∧RV (M0 fun b=>ok b∨w.heap.size≤b) w' (j6 (decide p)) v:=by
 obtain⟨b,rfl,hb,h2⟩:=h;refine⟨_,rfl,h2,?_⟩;rw[show decide p=b by cases b <;> simp_all]
 exact .val _
theorem fT.iff{p q:Prop}(h:p↔q){w w':World}{e:Ending}(hr:fT p w e w'):fT q w e w':=by
 obtain⟨b,h1,h2,h3⟩:=hr;exact⟨b,h1,h2.trans h,h3⟩
theorem U8.pure{ok:Nat→Prop}{r:Ob}{w w':World}{e:Ending}(hp:r.pair=[])(h:U8 r w e w'):∃v,e=.returned v∧Below w.heap.size w w'∧RV (M0 fun b=>ok b∨w.heap.size≤b) w' (l9 r) v:=ji.pure (ok:=ok) (h.obj hp)
theorem nQ.pure{ok:Nat→Prop}{q:Rat}{w w':World}{e:Ending}(h:nQ q w e w'):∃v,e=.returned v∧Below w.heap.size w w'∧RV (M0 fun b=>ok b∨w.heap.size≤b) w' (l5 (.num q)) v:=by
 obtain⟨A,c,rfl,h2⟩:=h;exact⟨_,rfl,h2,RV.Tv (o:=R6 q) (.nil _ _)⟩
theorem PL(a d:Ob):j5 191 [l9 a,l9 d] (l9 (dh a d)) :=
 Rf (O3 func191 rfl (by kernel_rfl)) fun ok A A' n c n' c' w _ h h'=>Zo ok a d A A' n n' c c' w h h'
theorem a7P{k:Nat}{a:Tr}(b:Tr)(ha:a.Ok k)(hk:k≤100000):j5 105 [l5 a,l5 b] (j6 (decide (a=b))) :=
 ⟨O3 func105 rfl (by kernel_rfl),fun ok w vs ht hv=>by
  obtain⟨A,n,c,A',n',c',rfl,hr,hr'⟩:=hv.qg;exact (LY ok ok a.ob.size a.ob b.ob (Nat.le_refl _) (ha.wf hk) A A' n n' c c' w hr hr').mono fun e w' h=>(fT.iff Tr.wO h).pure⟩
theorem nM{k:Nat}{t:Tr}(h:t.Ok k)(hk:k≤100000):j5 201 [l5 t] (j6 t.valid) :=
 lQ (O3 func201 rfl (by kernel_rfl)) fun ok A n c w ht hr=>by
  rw[←Tr.MZ];exact YN ok t.ob (h.wf hk) (h.sm hk) A n c w ht hr
theorem AQ(a d:Ob):j5 78 [l9 a,l9 d] (l9 (dh a d)) :=
 Rf (O3 func78 rfl (by kernel_rfl)) fun ok A A' n c n' c' w _ h h'=>MV ok a d A A' n n' c c' w h h'
theorem a7Q{k:Nat}{a:Tr}(b:Tr)(ha:a.Ok k)(hk:k≤100000):j5 51 [l5 a,l5 b] (j6 (decide (a=b))) :=
 ⟨O3 func51 rfl (by kernel_rfl),fun ok w vs ht hv=>by
  obtain⟨A,n,c,A',n',c',rfl,hr,hr'⟩:=hv.qg;exact (EE ok ok a.ob.size a.ob b.ob (Nat.le_refl _) (ha.wf hk) A A' n n' c c' w hr hr').mono fun e w' h=>(fT.iff Tr.wO h).pure⟩
theorem a0Z{k:Nat}{a b:Tr}(ha:a.Ok k)(hb:b.Ok k)(h1:1≤k)(hk:k≤10000):j5 165 [l5 a,l5 b] (j6 (decide (a.val < b.val))) :=
 ⟨O3 func165 rfl (by kernel_rfl),fun ok w vs ht hv=>by
  obtain⟨A,n,c,A',n',c',rfl,hr,hr'⟩:=hv.qg;have e1:=hr.len;have e2:=hr'.len;rw[List.length_map]at e1 e2;exact (Zw a.ob b.ob a.val b.val a.Be b.Be (ha.val h1) (hb.val h1) hk hk A A' n n' c c' e1 e2 w ht.1).mono fun _ _=>I7.pure⟩
theorem O8{k:Nat}{t:Tr}(h:t.Ok k)(hk:k≤100000):j5 127 [l5 t] (j6 t.valid) :=
 lQ (O3 func127 rfl (by kernel_rfl)) fun ok A n c w ht hr=>by
  rw[←Tr.MZ];exact Mh ok t.ob (h.wf hk) (h.sm hk) A n c w hr
theorem wU(n:Int)(h0:-9223372036854775808≤n)(h1:n≤9223372036854775807):j5 197 [j3 n] (l5 (.num n)) :=
 ⟨O3 func197 rfl (by kernel_rfl),fun ok w vs ht hv=>by
  obtain rfl:=hv.dA;exact (NG n w ht.1 h0 h1).mono fun _ _ h=>U8.pure (r:=(Tr.num n).ob) rfl (by
   show U8 (R6 n) _ _ _;rw[Fj];exact h)⟩
theorem wV(n:Int)(h0:-9223372036854775808≤n)(h1:n≤9223372036854775807):j5 56 [j3 n] (l5 (.num n)) :=
 ⟨O3 func56 rfl (by kernel_rfl),fun ok w vs ht hv=>by
  obtain rfl:=hv.dA;exact (NL n w ht.1 h0 h1).mono fun _ _ h=>U8.pure (r:=(Tr.num n).ob) rfl h⟩
theorem sD(o:Ob)(hn:o.pair.length≤9223372036854775807):j5 113 [l9 o] (j6 (decide (o.kind=4∧o.pair.length=2))) :=
 lQ (O3 func113 rfl (by kernel_rfl)) fun ok A n c w _ hr=>by
  have e1:=hr.len;rw[List.length_map]at e1;rw[e1];exact Yh o A n c w J
theorem a02(a b:bi):(⟨a.toArray⟩:ByteArray)++⟨b.toArray⟩=⟨(a++b).toArray⟩:=by
 apply ByteArray.ext;rw[ByteArray.data_append];simp
theorem Az{P:Program}{t:TypeId}{x y:Operand}{a b:bi}(h:a.length+b.length≤9223372036854775807):aS P .add t x y (str a) (str b) (str (a++b)):=by
 have:=a2U (P:=P) (t:=t) (x:=x) (y:=y) (a:=⟨a.toArray⟩) (b:=⟨b.toArray⟩) (by
  show ((a.toArray.size+b.toArray.size:Nat):Int)≤9223372036854775807;simp only[List.size_toArray];omega)
 rw[a02]at this;exact this
theorem Ms(a:bi):(⟨a.toArray⟩:ByteArray).toList=a:=by
 rw[Lib.toList_data]
theorem ve{α:Type}[BEq α][LawfulBEq α][DecidableEq α](a b:α):(a == b)=decide (a=b):=by
 by_cases h:a=b <;> simp[h]
theorem H5{P:Program}{t:TypeId}{x y:Operand}{a b:bi}{r:Bool}(h:decide (a=b)=r):aS P .eql t x y (str a) (str b) (.bool r):=by
 refine gJ ?_;show some (Value.bool (a == b))=_;rw[←h,ve a b]
theorem a3f{P:Program}{t:TypeId}{x y:Operand}{a b:bi}{r:Bool}(h:decide (a=b)=!r):aS P .neq t x y (str a) (str b) (.bool r):=by
 refine gJ ?_;show some (Value.bool !(a == b))=_;rw[ve a b,h,Bool.not_not]
theorem A9{P:Program}{t:TypeId}{x y:Operand}{k:IntKind}{a b:Int}{r:Bool}(h:decide (a=b)=r):aS P .eql t x y (.int k a) (.int k b) (.bool r):=by
 refine gJ ?_;simp only[gV,decide_true];rw[ve a b,h]
theorem C9{P:Program}{t:TypeId}{x y:Operand}{k:IntKind}{a b:Int}{r:Bool}(h:decide (a < b)=r):aS P .lss t x y (.int k a) (.int k b) (.bool r):=by
 refine gJ ?_;simp only[gV,decide_true];rw[h]
theorem Q0{P:Program}{t:TypeId}{x y:Operand}{k:IntKind}{a b:Int}{r:Bool}(h:decide (b < a)=r):aS P .gtr t x y (.int k a) (.int k b) (.bool r):=by
 refine gJ ?_;simp only[gV,decide_true,gt_iff_lt];rw[h]
theorem R7{P:Program}{t:TypeId}{x y:Operand}{k:IntKind}{a b:Int}{r:Bool}(h:decide (b≤a)=r):aS P .geq t x y (.int k a) (.int k b) (.bool r):=by
 refine gJ ?_;simp only[gV,decide_true,ge_iff_le];rw[h]
theorem I4{P:Program}{t:TypeId}{x y:Operand}{a b c:Int}(h:a+b=c)(h0:-9223372036854775808≤c)(h1:c≤9223372036854775807):aS P .add t x y (.int .i64 a) (.int .i64 b) (.int .i64 c):=by
 refine gJ ?_;simp only[gV,decide_true];rw[h,show IntKind.i64.wrap c=c by rw[IntKind.wrap_i64];omega]
theorem bE{P:Program}{t:TypeId}{x y:Operand}{a b c:Int}(h:a - b=c)(h0:-9223372036854775808≤c)(h1:c≤9223372036854775807):aS P .sub t x y (.int .i64 a) (.int .i64 b) (.int .i64 c):=by
 refine gJ ?_;simp only[gV,decide_true];rw[h,show IntKind.i64.wrap c=c by rw[IntKind.wrap_i64];omega]
theorem run_equal_bool{P:Program}{t:TypeId}(hu:P.underlying t=some .bool)(a b:Bool)(w:World):(Op.equal t (.bool a) (.bool b)).run P w=.ok (a == b) w:=by
 show (Op.equalIn (9999+1) t (.bool a) (.bool b)).run P w=_;rw[Op.equalIn];simp only[Sem.run_bind,run_underlying hu,Result.andThen,Sem.run_pure]
theorem a3g{P:Program}{t:TypeId}{x y:Operand}{a b r:Bool}(hu:P.underlying t=some .bool)(h:(a == b)=r):aS P .eql t x y (.bool a) (.bool b) (.bool r):=by
 intro w;rw[←h];have e:(Op.equal t (.bool a) (.bool b)).run P w=.ok (a == b) w:=run_equal_bool hu a b w;simp only[eqGuard,binOp,Sem.run_bind,Result.andThen,Bool.not_true,Bool.false_eq_true,if_false,Sem.run_pure];rw[e]
 all_goals rfl
namespace Ob
mutual
def rq:Ob→Ob→Bool
 |⟨k,n,d,p,s,t,l⟩,⟨k',n',d',p',s',t',l'⟩=>decide (k=k') && decide (n=n') && decide (d=d') && decide (p=p') && decide (s=s') && decide (t=t') && eT l l'
def eT:List Ob→List Ob→Bool
 |[],[]=>true
 |a::l,b::l'=>rq a b && eT l l'
 |[],_::_=>false
 |_::_,[]=>false
end
mutual
theorem wI:∀a b:Ob,rq a b=true↔a=b
 |⟨k,n,d,p,s,t,l⟩,⟨k',n',d',p',s',t',l'⟩=>by
  rw[rq];simp only[Bool.and_eq_true,decide_eq_true_eq,wy l l',Ob.mk.injEq,and_assoc]
theorem wy:∀a b:List Ob,eT a b=true↔a=b
 |[],[]=>by simp[eT]
 |a::l,b::l'=>by
  rw[eT];simp only[Bool.and_eq_true,wI a b,wy l l',List.cons.injEq]
 |[],_::_=>by simp[eT]
 |_::_,[]=>by simp[eT]
end
end Ob
instance:DecidableEq Ob:=fun a b=>decidable_of_iff _ (Ob.wI a b)
abbrev Q7{α:Type}[DecidableEq α](a b:α):Bool:=decide (a=b)
structure Te where
 kind:Int
 np:bi
 nn:bi
 val:Ob
 args:List Te
namespace Te
mutual
def enc:Te→List Dt
 |⟨k,p,n,o,l⟩=>[.val (.int .i64 k),.val (str p),.val (str n),.val (.int .i64 o.kind),.val (str o.num),.val (str o.den),.val (str o.sp),.val (str o.sn),.val (str o.text),.row (o.pair.map Ob.enc),.row (iP l)]
def iP:List Te→bv
 |[]=>[]
 |t::r=>enc t::iP r
end
mutual
def size:Te→Nat
 |⟨_,_,_,_,l⟩=>BZ l+1
def BZ:List Te→Nat
 |[]=>0
 |t::r=>size t+BZ r
end
mutual
def rq:Te→Te→Bool
 |⟨k,p,n,o,l⟩,⟨k',p',n',o',l'⟩=>decide (k=k') && decide (p=p') && decide (n=n') && decide (o=o') && eT l l'
def eT:List Te→List Te→Bool
 |[],[]=>true
 |a::l,b::l'=>rq a b && eT l l'
 |[],_::_=>false
 |_::_,[]=>false
end
mutual
theorem wI:∀a b:Te,rq a b=true↔a=b
 |⟨k,p,n,o,l⟩,⟨k',p',n',o',l'⟩=>by
  rw[rq];simp only[Bool.and_eq_true,decide_eq_true_eq,wy l l',Te.mk.injEq,and_assoc]
theorem wy:∀a b:List Te,eT a b=true↔a=b
 |[],[]=>by simp[eT]
 |a::l,b::l'=>by
  rw[eT];simp only[Bool.and_eq_true,wI a b,wy l l',List.cons.injEq]
 |[],_::_=>by simp[eT]
 |_::_,[]=>by simp[eT]
end
instance:DecidableEq Te:=fun a b=>decidable_of_iff _ (wI a b)
theorem a03(l:List Te):iP l=l.map enc:=by
 induction l with
 |nil=>rfl
 |cons t r ih=>rw[iP,ih];rfl
theorem size_pos(t:Te):0 < t.size:=by cases t;rw[size];omega
theorem ZJ{l:List Te}{t:Te}(h:t∈l):t.size≤BZ l:=by
 induction l with
 |nil=>cases h
 |cons x r ih =>
  rw[BZ];rcases List.mem_cons.1 h with rfl | h
  ·omega
  ·have:=ih h;omega
theorem vR{t x:Te}(h:x∈t.args):x.size < t.size:=by
 obtain⟨k,p,n,o,l⟩:=t;rw[size];have:=ZJ (l:=l) h;omega
inductive Wf:Te→Prop
 |mk (t:Te) (hv:t.val.Wf) (hl:t.args.length≤9223372036854775807) (h:∀x∈t.args,Wf x):Wf t
end Te
abbrev p9(t:Te):List Dt:=[.val (.int .i64 t.kind),.val (str t.np),.val (str t.nn),.val (.int .i64 t.val.kind),.val (str t.val.num),.val (str t.val.den),.val (str t.val.sp),.val (str t.val.sn),.val (str t.val.text),.row (t.val.pair.map Ob.enc),.row (t.args.map Te.enc)]
theorem xB(t:Te):t.enc=p9 t:=by
 obtain⟨k,p,n,o,l⟩:=t;rw[Te.enc,Te.a03]
abbrev o7(t:Te):AV:=.agg [j3 t.kind,stA t.np,stA t.nn,j3 t.val.kind,stA t.val.num,stA t.val.den,stA t.val.sp,stA t.val.sn,stA t.val.text,.dt (.row (t.val.pair.map Ob.enc)),.dt (.row (t.args.map Te.enc))]
abbrev D9(l:List Te):AV:=.dt (.row (l.map Te.enc))
theorem L8{l:List Te}{i:Nat}{t:Te}(h:l[i]?=some t):z8 (l.map Te.enc) (i:Int) 11 (p9 t):=⟨Int.natCast_nonneg _,by
 rw[Int.toNat_natCast,List.getElem?_map,h];exact congrArg some (xB t),rfl⟩
theorem H7(l:List Te):Value.int .i64 (l.length:Int)=Value.int .i64 ((l.map Te.enc).length:Int):=by rw[List.length_map]
abbrev kG(c:List Te):List Dt:=[.row (c.map Te.enc)]
abbrev b0l(l:List (List Te)):AV:=.dt (.row (l.map kG))
namespace Te
abbrev U0:Ob:=⟨0,[],[],[],[],[],[]⟩
abbrev E5:Te:=⟨0,[],[],U0,[]⟩
def ap(n:bi)(l:List Te):Te:=⟨3,o6,n,U0,l⟩
abbrev is(t:Te)(n:bi)(k:Nat):Prop:=t.kind=3∧t.np=o6∧t.nn=n∧t.args.length=k
abbrev D5:bi:=[110,111,116]
abbrev x8:bi:=[105,102]
abbrev qF:bi:=[105,109,112,108,105,101,115]
abbrev Cs:bi:=[105,102,102]
def V8(o:Ob):Te:=⟨2,[],[],o,[]⟩
abbrev p8:Te:=V8 tO
abbrev noT:Te:=V8 M5
abbrev arg(t:Te)(i:Nat):Te:=t.args.getD i E5
def neg(t:Te):Te:=if is t D5 1 then t.arg 0 else ap D5 [t]
def opened(t:Te):Option Te :=
 if is t D5 1 then some (ap x8 [t.arg 0,noT,p8])
 else if is t qF 2 then some (ap x8 [t.arg 0,ap x8 [t.arg 1,p8,noT],p8])
 else if is t Cs 2 then some (ap x8 [t.arg 0,ap x8 [t.arg 1,p8,noT],ap x8 [t.arg 1,noT,p8]])
 else none
end Te
open Te
structure NS where
 out:List (List Te)
 ex:Int
 er:Int
def NS.fail(D:List Te→List Te)(s:NS)(c:List Te):NS:=if 60 < (D c).length∨400≤s.out.length then { s with er:=2 } else { s with out:=s.out++[D c] }
def NS.tick(s:NS):NS:=⟨s.out,s.ex+1,if 20000 < s.ex+1 then 2 else s.er⟩
def U7(D:List Te→List Te):Nat→Te→List Te→NS→NS
 |0,_,_,s=>s
 |f+1,t,qs,s =>
  if s.tick.er≠0 then s.tick else
  if t.kind=2 then (if t.val=M5 then s.tick.fail D (qs.map neg) else s.tick) else
  match opened t with
  |some t'=>U7 D f t' qs s.tick
  |none =>
   if is t x8 3 then
    if (t.arg 0).kind=2∧(t.arg 0).val=M5 then U7 D f (t.arg 2) qs s.tick
    else if (t.arg 0).kind=2 then U7 D f (t.arg 1) qs s.tick
    else if is (t.arg 0) D5 1 then U7 D f (ap x8 [(t.arg 0).arg 0,t.arg 2,t.arg 1]) qs s.tick
    else if is (t.arg 0) x8 3 then U7 D f (ap x8 [(t.arg 0).arg 0,ap x8 [(t.arg 0).arg 1,t.arg 1,t.arg 2],ap x8 [(t.arg 0).arg 2,t.arg 1,t.arg 2]]) qs s.tick
    else match opened (t.arg 0) with
     |some a'=>U7 D f (ap x8 [a',t.arg 1,t.arg 2]) qs s.tick
     |none =>
      if t.arg 0∈qs then U7 D f (t.arg 1) qs s.tick
      else if ap D5 [t.arg 0]∈qs then U7 D f (t.arg 2) qs s.tick
      else U7 D f (t.arg 2) (qs++[ap D5 [t.arg 0]]) (U7 D f (t.arg 1) (qs++[t.arg 0]) s.tick)
   else if t∈qs then s.tick
   else if ap D5 [t]∈qs then s.tick.fail D (qs.map neg)
   else s.tick.fail D (qs.map neg++[t])
def addN(out:List Te):List Te→List Te
 |[]=>out
 |t::r=>addN (if t∈out then out else out++[t]) r
theorem a7R(n:bi)(l:List Te):is (ap n l) n l.length:=⟨rfl,rfl,rfl,rfl⟩
theorem a3h(t:Te):neg (ap D5 [t])=t:=if_pos (a7R D5 [t])
end Go.Proofs.YtdkehabacmlegaaGreatDoor
namespace Go.Proofs.YtdkehabacmlegaaGreatDoor
open Go.Proofs.Tryz
open Go.RowKit
namespace Te
mutual
def eU:Te→Nat
 |⟨k,_,_,o,l⟩=>if k=2 then o.nodes else if k=3 then xC l+1 else 1
def xC:List Te→Nat
 |[]=>0
 |x::r=>eU x+xC r
end
mutual
def dep:Te→Nat
 |⟨k,_,_,_,l⟩=>if k=3 then ym l+1 else 1
def ym:List Te→Nat
 |[]=>0
 |x::r=>max (dep x) (ym r)
end
mutual
def cnt:Te→Int→Int
 |⟨k,_,_,o,l⟩,m=>if k=2 then min m (R9 o) else if k=3 then iR l m 1 else 1
def iR:List Te→Int→Int→Int
 |[],_,n=>n
 |x::r,m,n=>if n < m then iR r m (n+cnt x (m - n)) else n
end
mutual
def oN:Te→Int→Int
 |⟨k,_,_,_,l⟩,m=>if k=3 then iT l m 0+1 else 1
def iT:List Te→Int→Int→Int
 |[],_,d=>d
 |x::r,m,d=>if 1 < m then iT r m (max d (oN x (m - 1))) else d
end
theorem EG(o:Ob):R9 o=((min o.nodes 3001:Nat):Int):=by unfold R9;split <;> omega
theorem a3i(t:Te):1≤t.dep:=by obtain⟨k,p,n,o,l⟩:=t;rw[dep];split <;> omega
mutual
theorem FT:∀(t:Te) (m:Int),1≤m→m≤3001→cnt t m=min m (eU t)
 |⟨k,p,n,o,l⟩,m,h1,h2=>by
  rw[cnt,eU,EG];by_cases h:k=2
  ·rw[if_pos h,if_pos h];omega
  rw[if_neg h,if_neg h];by_cases h:k=3
  ·rw[if_pos h,if_pos h];have:=NZ l m 1 J J J;omega
  ·rw[if_neg h,if_neg h];omega
theorem NZ:∀(l:List Te) (m n:Int),1≤n→n≤m→m≤3001→iR l m n=min m (n+xC l)
 |[],m,n,h1,h2,h3=>by rw[iR,xC];omega
 |x::r,m,n,h1,h2,h3=>by
  rw[iR,xC];by_cases h:n < m
  ·rw[if_pos h];have a:=FT x (m - n) J J;have b:=NZ r m (n+cnt x (m - n)) J J h3;omega
  ·rw[if_neg h];omega
end
mutual
theorem FU:∀(t:Te) (m:Int),1≤m→oN t m=min m (dep t)
 |⟨k,p,n,o,l⟩,m,h1=>by
  rw[oN,dep];by_cases h:k=3
  ·rw[if_pos h,if_pos h];have:=Oa l m 0 h1 J J;omega
  ·rw[if_neg h,if_neg h];omega
theorem Oa:∀(l:List Te) (m d:Int),1≤m→0≤d→d≤m - 1→iT l m d=min (m - 1) (max d (ym l))
 |[],m,d,h1,h2,h3=>by rw[iT,ym];omega
 |x::r,m,d,h1,h2,h3=>by
  rw[iT,ym];by_cases h:1 < m
  ·rw[if_pos h];have a:=FU x (m - 1) J;have b:=Oa r m (max d (oN x (m - 1))) h1 J J;omega
  ·rw[if_neg h];omega
end
def uI(p n:bi):Bool:=P7 ⟨p,n⟩ && !(decide (p=o6) && decide (n=R4)) && !(decide (p=o6) && decide (n=[116]))
mutual
def oO:Te→Bool
 |⟨k,p,n,o,l⟩ =>
  if k=1 then uI p n && decide (o=U0) && decide (l.length=0)
  else if k=2 then (decide (p=[]) && decide (n=[])) && o.jZ && decide (l.length=0)
  else if k=3 then P7 ⟨p,n⟩ && decide (o=U0) && decide (l.length≤8) && oz l
  else false
def oz:List Te→Bool
 |[]=>true
 |x::r=>oO x && oz r
end
def valid(t:Te):Bool:=decide (t.eU≤3000) && decide (t.dep≤200) && t.oO
inductive Bd:Te→Prop
 |mk (t:Te) (hv:t.val.Wf) (hs:t.val.Sm) (hp:t.np.length≤9223372036854775807) (hn:t.nn.length≤9223372036854775807) (hl:t.args.length≤9223372036854775807) (h:∀x∈t.args,Bd x):Bd t
theorem Bd.parts{t:Te}(h:t.Bd):t.val.Wf∧t.val.Sm∧t.np.length≤9223372036854775807∧t.nn.length≤9223372036854775807∧t.args.length≤9223372036854775807:=by cases h with | mk _ hv hs hp hn hl hh=>exact⟨hv,hs,hp,hn,hl⟩
theorem Bd.kids{t x:Te}(h:t.Bd)(hx:x∈t.args):x.Bd:=by cases h with | mk _ hv hs hp hn hl hh=>exact hh x hx
end Te
namespace o8
def blk(c:UInt8):Bool:=c == 32 || c == 9 || c == 10 || c == 13
def cst(c:UInt8):Bool:=decide (33≤c.toNat) && decide (c.toNat≤126) && !(c == 40) && !(c == 41) && !(c == 39) && !(c == 34) && !(c == 59) && !(c == 124) && !(c == 58)
def aD(c:UInt8):Bool:=decide (48≤c.toNat) && decide (c.toNat≤57)
def few(c:UInt8):Bool:=blk c || c == 40 || c == 41 || (cst c && !(c == 35) && !(c == 46) && !(c == 47))
def isNum(w:bi):Bool :=
 let r:=if w.head?=some 45 then w.drop 1 else w
 !(r.takeWhile aD).isEmpty && (r.takeWhile aD).length == r.length
structure Tok where
 kind:Int
 pos:Nat
 text:bi
 den:bi
def toks:Nat→Nat→bi→List Tok
 |0,_,_=>[]
 |_+1,i,[]=>[⟨0,i,[],[]⟩]
 |f+1,i,c::r =>
  if blk c then toks f (i+1) r
  else if c == 40 then ⟨1,i,[],[]⟩::toks f (i+1) r
  else if c == 41 then ⟨2,i,[],[]⟩::toks f (i+1) r
  else (if isNum (c::r.takeWhile cst) then ⟨5,i,c::r.takeWhile cst,[49]⟩ else ⟨6,i,c::r.takeWhile cst,[]⟩)::toks f (i+((r.takeWhile cst).length+1)) (r.dropWhile cst)
def oP(w:bi):Bool:=if isNum w then w == [48] || w == [49] || w == [45,49] else decide (w.length≤40) && (match w with | []=>false | c::_=>!(c == 45) && !aD c) && !(w == [46])
def a5K(l:List Tok):Bool:=l.all fun t=>if t.kind=5∨t.kind=6 then oP t.text else true
def numOf(w:bi):Rat:=if w=[49] then 1 else if w=[45,49] then -1 else 0
mutual
def iW:Nat→Nat→List Tok→Option (Tr×List Tok)
 |0,_,_=>none
 |f+1,d,ts=>match ts with
  |[]=>none
  |t::r =>
   if t.kind=5 then some (.num (numOf t.text),r)
   else if t.kind=6 then some (.sym o6 t.text,r)
   else if t.kind=1∧d≤200 then match jJ f (d+1) r with
    |some (l,r')=>some (Tr.list l,r')
    |none=>none
   else none
def jJ:Nat→Nat→List Tok→Option (List Tr×List Tok)
 |0,_,_=>none
 |f+1,d,ts=>match ts with
  |[]=>none
  |t::r =>
   if t.kind=2 then some ([],r)
   else match iW f d (t::r) with
    |some (x,r1)=>match jJ f d r1 with
     |some (l,r2)=>some (x::l,r2)
     |none=>none
    |none=>none
end
def ik:Nat→List Tok→Option (List Tr)
 |0,_=>none
 |f+1,ts=>match ts with
  |[]=>none
  |t::r =>
   if t.kind=0 then some []
   else match iW f 0 (t::r) with
    |some (x,r1)=>match ik f r1 with
     |some l=>some (x::l)
     |none=>none
    |none=>none
def items:Tr→Option (List Tr)
 |.cons a d=>match items d with
  |some l=>some (a::l)
  |none=>none
 |.sym p n=>if p=o6∧n=R4 then some [] else none
 |_=>none
def call(n:bi)(l:List Tr):Tr:=.cons (.sym o6 n) (Tr.list l)
def uJ:Tr:=.sym o6 R4
def tX:Tr:=.sym o6 [116]
def expand(n:bi)(l:List Tr):Option Tr :=
 if n=[108,105,115,116] then match l with
  |[]=>some uJ
  |x::r=>some (call [99,111,110,115] [x,call n r])
 else if n=[97,112,112,101,110,100] then match l with
  |[]=>some uJ
  |[x]=>some x
  |x::r=>some (call [98,105,110,97,114,121,45,97,112,112,101,110,100] [x,call n r])
 else if n=[97,110,100] then match l with
  |[]=>some tX
  |[x]=>some x
  |x::r=>some (call Te.x8 [x,call n r,uJ])
 else if n=[111,114] then match l with
  |[]=>some uJ
  |[x]=>some x
  |x::r=>some (call Te.x8 [x,x,call n r])
 else if n=[99,111,110,100] then match l with
  |[]=>some uJ
  |x::r=>match items x with
   |some [a,b]=>some (call Te.x8 [a,b,call n r])
   |_=>none
 else if n=[43] then match l with
  |[x,y]=>some (call [98,105,110,97,114,121,45,43] [x,y])
  |x::y::z::r=>some (call [98,105,110,97,114,121,45,43] [x,call n (y::z::r)])
  |_=>none
 else none
def GR:List (bi):=[[108,105,115,116],[108,105,115,116,42],[97,110,100],[111,114],[99,111,110,100],[43],[42],[45],[47],[60,61],[62],[62,61],[97,112,112,101,110,100]]
def wJ:List (bi):=[[113,117,111,116,101],[108,101,116],[108,101,116,42]]
mutual
def mE(ar:bi→Option Nat):Nat→Int→Tr→Option (Te×Int)
 |0,_,_=>none
 |f+1,m,x=>match x with
  |.num q=>if q=0∨q=1∨q=-1 then some (Te.V8 (Tr.num q).ob,m) else none
  |.txt _=>none
  |.sym p n=>if p.length≤1000∧n.length≤1000 then (if Te.uI p n then some (⟨1,p,n,Te.U0,[]⟩,m) else some (Te.V8 (Tr.sym p n).ob,m)) else none
  |.cons a d=>match items (.cons a d) with
   |some (.sym p n::l) =>
    if p=o6∧n.length≤1000∧n ∉ wJ∧l.length≤500 then
     if n∈GR then match expand n l with
      |some o=>if 1≤m then mE ar f (m - 1) o else none
      |none=>none
     else match uK ar f m l with
      |some (ts,m')=>if ar n=some ts.length then some (⟨3,p,n,Te.U0,ts⟩,m') else none
      |none=>none
    else none
   |_=>none
def uK(ar:bi→Option Nat):Nat→Int→List Tr→Option (List Te×Int)
 |0,_,_=>none
 |f+1,m,l=>match l with
  |[]=>some ([],m)
  |x::r=>match mE ar f m x with
   |some (t,m1)=>match uK ar f m1 r with
    |some (ts,m2)=>some (t::ts,m2)
    |none=>none
   |none=>none
end
structure E8 where
 nm:bi
 ps:List (bi)
 guard:Te
 body:Te
 measure:Te
def Ct:List Tr→Option (List (bi))
 |[]=>some []
 |.sym p n::r=>if p=o6 then (Ct r).map (n::·) else none
 |_=>none
def option(nm:bi):List Tr→Option (Option Tr)
 |x::y::r=>match items x with
  |some [.sym p n,b]=>if p=o6∧n=nm then some (some b) else option nm (y::r)
  |_=>none
 |_=>some none
def uL(kz:List (bi×Nat))(n:bi):Option Nat:=(kz.find? fun x=>x.1 == n).map (·.2)
def arity(kz:List (bi×Nat))(ws:List E8)(nm:bi)(ps:List (bi))(n:bi):Option Nat :=
 if nm=n then some ps.length else match uL kz n with
  |some k=>some k
  |none=>(ws.find? fun f=>f.nm == n).map (·.ps.length)
def za(ar:bi→Option Nat)(x:Tr):Option Te:=match mE ar 100 500 x with
 |some (t,_)=>if t.valid then some t else none
 |none=>none
def Ux(ar:bi→Option Nat)(d:Te):Option (Option Tr)→Option Te
 |none=>none
 |some none=>some d
 |some (some o)=>za ar o
def tY:bi:=[103,117,97,114,100]
def uq:bi:=[109,101,97,115,117,114,101]
def entry(kz:List (bi×Nat))(ws:List E8)(form:Tr):Option E8:=match items form with
 |some (d::.sym p nm::px::y::r)=>match items px with
  |some pl=>match Ct pl with
   |some ps =>
    if p=o6∧nm.length≤1000∧ps≠[]∧ps.length≤8∧r.length≤100 then
     match za (arity kz ws nm ps) ((y::r).getLast I),Ux (arity kz ws nm ps) Te.p8 (option tY (y::r)),Ux (arity kz ws nm ps) Te.E5 (option uq (y::r)) with
     |some b,some g,some m=>some ⟨nm,ps,g,b,m⟩
     |_,_,_=>none
    else none
   |none=>none
  |none=>none
 |_=>none
def world(kz:List (bi×Nat)):List Tr→List E8→Option (List E8)
 |[],ws=>some ws
 |x::r,ws=>match entry kz ws x with
  |some f=>world kz r (ws++[f])
  |none=>none
end o8
def iO:bi:=[40,100,101,102,117,110,32,110,111,116,32,40,112,41,32,40,105,102,32,112,32,110,105,108,32,116,41,41,10,40,100,101,102,117,110,32,105,109,112,108,105,101,115,32,40,112,32,113,41,32,40,105,102,32,112,32,40,105,102,32,113,32,116,32,110,105,108,41,32,116,41,41,10,40,100,101,102,117,110,32,105,102,102,32,40,112,32,113,41,32,40,105,102,32,112,32,40,105,102,32,113,32,116,32,110,105,108,41,32,40,105,102,32,113,32,110,105,108,32,116,41,41,41,10,40,100,101,102,117,110,32,98,111,111,108,101,97,110,112,32,40,120,41,32,40,105,102,32,40,101,113,117,97,108,32,120,32,116,41,32,116,32,40,101,113,117,97,108,32,120,32,110,105,108,41,41,41,10,40,100,101,102,117,110,32,115,121,110,116,97,120,112,32,40,120,41,32,116,41,10,40,100,101,102,117,110,32,97,116,111,109,32,40,120,41,32,40,110,111,116,32,40,99,111,110,115,112,32,120,41,41,41,10,40,100,101,102,117,110,32,101,110,100,112,32,40,120,41,32,40,103,117,97,114,100,32,40,111,114,32,40,99,111,110,115,112,32,120,41,32,40,101,113,117,97,108,32,120,32,110,105,108,41,41,41,32,40,110,111,116,32,40,99,111,110,115,112,32,120,41,41,41,10,40,100,101,102,117,110,32,102,105,120,32,40,120,41,32,40,105,102,32,40,114,97,116,105,111,110,97,108,112,32,120,41,32,120,32,48,41,41,10,40,100,101,102,117,110,32,105,102,105,120,32,40,120,41,32,40,105,102,32,40,105,110,116,101,103,101,114,112,32,120,41,32,120,32,48,41,41,10,40,100,101,102,117,110,32,110,97,116,112,32,40,120,41,32,40,105,102,32,40,105,110,116,101,103,101,114,112,32,120,41,32,40,110,111,116,32,40,60,32,120,32,48,41,41,32,110,105,108,41,41,10,40,100,101,102,117,110,32,112,111,115,112,32,40,120,41,32,40,105,102,32,40,105,110,116,101,103,101,114,112,32,120,41,32,40,60,32,48,32,120,41,32,110,105,108,41,41,10,40,100,101,102,117,110,32,110,102,105,120,32,40,120,41,32,40,105,102,32,40,110,97,116,112,32,120,41,32,120,32,48,41,41,10,40,100,101,102,117,110,32,122,112,32,40,120,41,32,40,103,117,97,114,100,32,40,110,97,116,112,32,120,41,41,32,40,105,102,32,40,105,110,116,101,103,101,114,112,32,120,41,32,40,110,111,116,32,40,60,32,48,32,120,41,41,32,116,41,41,10,40,100,101,102,117,110,32,99,111,117,110,116,32,40,120,41,32,40,109,101,97,115,117,114,101,32,40,99,111,117,110,116,32,120,41,41,32,40,105,102,32,40,99,111,110,115,112,32,120,41,32,40,43,32,49,32,40,99,111,117,110,116,32,40,99,97,114,32,120,41,41,32,40,99,111,117,110,116,32,40,99,100,114,32,120,41,41,41,32,48,41,41,10,40,100,101,102,117,110,32,111,45,102,105,110,112,32,40,120,41,32,40,110,111,116,32,40,99,111,110,115,112,32,120,41,41,41,10,40,100,101,102,117,110,32,111,45,102,105,114,115,116,45,101,120,112,111,110,101,110,116,32,40,120,41,32,40,105,102,32,40,99,111,110,115,112,32,120,41,32,40,99,97,114,32,40,99,97,114,32,120,41,41,32,48,41,41,10,40,100,101,102,117,110,32,111,45,102,105,114,115,116,45,99,111,101,102,102,105,99,105,101,110,116,32,40,120,41,32,40,105,102,32,40,99,111,110,115,112,32,120,41,32,40,99,100,114,32,40,99,97,114,32,120,41,41,32,120,41,41,10,40,100,101,102,117,110,32,111,45,114,101,115,116,32,40,120,41,32,40,105,102,32,40,99,111,110,115,112,32,120,41,32,40,99,100,114,32,120,41,32,48,41,41,10,40,100,101,102,117,110,32,111,60,32,40,120,32,121,41,32,40,109,101,97,115,117,114,101,32,40,99,111,117,110,116,32,120,41,41,10,32,32,40,99,111,110,100,32,40,40,111,45,102,105,110,112,32,120,41,32,40,105,102,32,40,99,111,110,115,112,32,121,41,32,116,32,40,60,32,120,32,121,41,41,41,10,32,32,32,32,32,32,32,32,40,40,111,45,102,105,110,112,32,121,41,32,110,105,108,41,10,32,32,32,32,32,32,32,32,40,40,110,111,116,32,40,101,113,117,97,108,32,40,111,45,102,105,114,115,116,45,101,120,112,111,110,101,110,116,32,120,41,32,40,111,45,102,105,114,115,116,45,101,120,112,111,110,101,110,116,32,121,41,41,41,10,32,32,32,32,32,32,32,32,32,40,111,60,32,40,111,45,102,105,114,115,116,45,101,120,112,111,110,101,110,116,32,120,41,32,40,111,45,102,105,114,115,116,45,101,120,112,111,110,101,110,116,32,121,41,41,41,10,32,32,32,32,32,32,32,32,40,40,110,111,116,32,40,101,113,117,97,108,32,40,111,45,102,105,114,115,116,45,99,111,101,102,102,105,99,105,101,110,116,32,120,41,32,40,111,45,102,105,114,115,116,45,99,111,101,102,102,105,99,105,101,110,116,32,121,41,41,41,10,32,32,32,32,32,32,32,32,32,40,60,32,40,111,45,102,105,114,115,116,45,99,111,101,102,102,105,99,105,101,110,116,32,120,41,32,40,111,45,102,105,114,115,116,45,99,111,101,102,102,105,99,105,101,110,116,32,121,41,41,41,10,32,32,32,32,32,32,32,32,40,116,32,40,111,60,32,40,111,45,114,101,115,116,32,120,41,32,40,111,45,114,101,115,116,32,121,41,41,41,41,41,10,40,100,101,102,117,110,32,111,45,112,32,40,120,41,32,40,109,101,97,115,117,114,101,32,40,99,111,117,110,116,32,120,41,41,10,32,32,40,105,102,32,40,111,45,102,105,110,112,32,120,41,10,32,32,32,32,32,32,40,110,97,116,112,32,120,41,10,32,32,32,32,40,97,110,100,32,40,99,111,110,115,112,32,40,99,97,114,32,120,41,41,10,32,32,32,32,32,32,32,32,32,40,111,45,112,32,40,111,45,102,105,114,115,116,45,101,120,112,111,110,101,110,116,32,120,41,41,10,32,32,32,32,32,32,32,32,32,40,110,111,116,32,40,101,113,117,97,108,32,40,111,45,102,105,114,115,116,45,101,120,112,111,110,101,110,116,32,120,41,32,48,41,41,10,32,32,32,32,32,32,32,32,32,40,112,111,115,112,32,40,111,45,102,105,114,115,116,45,99,111,101,102,102,105,99,105,101,110,116,32,120,41,41,10,32,32,32,32,32,32,32,32,32,40,111,45,112,32,40,111,45,114,101,115,116,32,120,41,41,10,32,32,32,32,32,32,32,32,32,40,111,60,32,40,111,45,102,105,114,115,116,45,101,120,112,111,110,101,110,116,32,40,111,45,114,101,115,116,32,120,41,41,32,40,111,45,102,105,114,115,116,45,101,120,112,111,110,101,110,116,32,120,41,41,41,41,41,10,40,100,101,102,117,110,32,108,101,110,32,40,120,41,32,40,109,101,97,115,117,114,101,32,40,99,111,117,110,116,32,120,41,41,32,40,105,102,32,40,99,111,110,115,112,32,120,41,32,40,43,32,49,32,40,108,101,110,32,40,99,100,114,32,120,41,41,41,32,48,41,41,10,40,100,101,102,117,110,32,116,114,117,101,45,108,105,115,116,112,32,40,120,41,32,40,109,101,97,115,117,114,101,32,40,99,111,117,110,116,32,120,41,41,32,40,105,102,32,40,99,111,110,115,112,32,120,41,32,40,116,114,117,101,45,108,105,115,116,112,32,40,99,100,114,32,120,41,41,32,40,101,113,117,97,108,32,120,32,110,105,108,41,41,41,10,40,100,101,102,117,110,32,98,105,110,97,114,121,45,97,112,112,101,110,100,32,40,120,32,121,41,32,40,103,117,97,114,100,32,40,116,114,117,101,45,108,105,115,116,112,32,120,41,41,32,40,109,101,97,115,117,114,101,32,40,99,111,117,110,116,32,120,41,41,10,32,32,40,105,102,32,40,99,111,110,115,112,32,120,41,32,40,99,111,110,115,32,40,99,97,114,32,120,41,32,40,98,105,110,97,114,121,45,97,112,112,101,110,100,32,40,99,100,114,32,120,41,32,121,41,41,32,121,41,41,10,40,100,101,102,117,110,32,114,101,118,32,40,120,41,32,40,109,101,97,115,117,114,101,32,40,99,111,117,110,116,32,120,41,41,10,32,32,40,105,102,32,40,99,111,110,115,112,32,120,41,32,40,97,112,112,101,110,100,32,40,114,101,118,32,40,99,100,114,32,120,41,41,32,40,108,105,115,116,32,40,99,97,114,32,120,41,41,41,32,110,105,108,41,41,10,40,100,101,102,117,110,32,109,101,109,98,101,114,45,101,113,117,97,108,32,40,101,32,120,41,32,40,103,117,97,114,100,32,40,116,114,117,101,45,108,105,115,116,112,32,120,41,41,32,40,109,101,97,115,117,114,101,32,40,99,111,117,110,116,32,120,41,41,10,32,32,40,105,102,32,40,99,111,110,115,112,32,120,41,32,40,105,102,32,40,101,113,117,97,108,32,101,32,40,99,97,114,32,120,41,41,32,120,32,40,109,101,109,98,101,114,45,101,113,117,97,108,32,101,32,40,99,100,114,32,120,41,41,41,32,110,105,108,41,41,10,40,100,101,102,117,110,32,97,115,115,111,99,45,101,113,117,97,108,32,40,107,32,97,41,32,40,109,101,97,115,117,114,101,32,40,99,111,117,110,116,32,97,41,41,10,32,32,40,99,111,110,100,32,40,40,110,111,116,32,40,99,111,110,115,112,32,97,41,41,32,110,105,108,41,10,32,32,32,32,32,32,32,32,40,40,97,110,100,32,40,99,111,110,115,112,32,40,99,97,114,32,97,41,41,32,40,101,113,117,97,108,32,107,32,40,99,97,114,32,40,99,97,114,32,97,41,41,41,41,32,40,99,97,114,32,97,41,41,10,32,32,32,32,32,32,32,32,40,116,32,40,97,115,115,111,99,45,101,113,117,97,108,32,107,32,40,99,100,114,32,97,41,41,41,41,41,10,40,100,101,102,117,110,32,110,116,104,32,40,110,32,120,41,32,40,103,117,97,114,100,32,40,97,110,100,32,40,110,97,116,112,32,110,41,32,40,116,114,117,101,45,108,105,115,116,112,32,120,41,41,41,32,40,109,101,97,115,117,114,101,32,40,110,102,105,120,32,110,41,41,10,32,32,40,105,102,32,40,122,112,32,110,41,32,40,99,97,114,32,120,41,32,40,110,116,104,32,40,43,32,45,49,32,110,41,32,40,99,100,114,32,120,41,41,41,41,10,40,100,101,102,117,110,32,117,112,100,97,116,101,45,110,116,104,32,40,110,32,118,32,120,41,32,40,103,117,97,114,100,32,40,97,110,100,32,40,110,97,116,112,32,110,41,32,40,116,114,117,101,45,108,105,115,116,112,32,120,41,41,41,32,40,109,101,97,115,117,114,101,32,40,110,102,105,120,32,110,41,41,10,32,32,40,105,102,32,40,122,112,32,110,41,32,40,99,111,110,115,32,118,32,40,99,100,114,32,120,41,41,32,40,99,111,110,115,32,40,99,97,114,32,120,41,32,40,117,112,100,97,116,101,45,110,116,104,32,40,43,32,45,49,32,110,41,32,118,32,40,99,100,114,32,120,41,41,41,41,41,10]
namespace o8
theorem rW{α:Type}(p:α→Bool)(l:List α):(l.takeWhile p).length+(l.dropWhile p).length=l.length:=by
 rw[←List.length_append,List.takeWhile_append_dropWhile]
theorem drop_tw{α:Type}(p:α→Bool)(l:List α):l.drop (l.takeWhile p).length=l.dropWhile p:=by
 have h:=List.takeWhile_append_dropWhile (p:=p) (l:=l);have e:(l.takeWhile p++l.dropWhile p).drop (l.takeWhile p).length=l.dropWhile p:=List.drop_left
 rwa [h]at e
theorem ZK:∀(f g i:Nat) (r:bi),r.length < f→r.length < g→toks f i r=toks g i r:=by
 intro f
 induction f with
 |zero=>intro g i r h;omega
 |succ f ih =>
  intro g i r h1 h2;cases g with
  |zero=>omega
  |succ g =>
   cases r with
   |nil=>rw[toks,toks]
   |cons c r =>
    rw[List.length_cons]at h1 h2;rw[toks,toks];rw[ih g (i+1) r J J];by_cases hb:blk c=true
    ·rw[if_pos hb,if_pos hb]
    rw[if_neg hb,if_neg hb];by_cases il:(c == 40)=true
    ·rw[if_pos il,if_pos il]
    rw[if_neg il,if_neg il];by_cases mF:(c == 41)=true
    ·rw[if_pos mF,if_pos mF]
    rw[if_neg mF,if_neg mF];have hl:=rW cst r;rw[ih g _ _ J J]
def tk(i:Nat)(r:bi):List Tok:=toks (r.length+1) i r
theorem Rh(i:Nat):tk i []=[⟨0,i,[],[]⟩]:=by rw[tk,toks]
theorem a5L{i:Nat}{c:UInt8}{r:bi}(h:blk c=true):tk i (c::r)=tk (i+1) r:=by
 rw[tk,toks,if_pos h];rfl
theorem a3j{i:Nat}{r:bi}:tk i (40::r)=⟨1,i,[],[]⟩::tk (i+1) r:=by
 rw[tk,toks,if_neg O,if_pos O];rfl
theorem a04{i:Nat}{r:bi}:tk i (41::r)=⟨2,i,[],[]⟩::tk (i+1) r:=by
 rw[tk,toks,if_neg O,if_neg O,if_pos O];rfl
def yo(i:Nat)(w:bi):Tok:=if isNum w then ⟨5,i,w,[49]⟩ else ⟨6,i,w,[]⟩
theorem a3k{c:UInt8}(h:cst c=true):blk c=false∧(c == 40)=false∧(c == 41)=false:=by
 unfold cst at h;simp only[Bool.and_eq_true,decide_eq_true_eq,Bool.not_eq_true']at h;obtain⟨⟨⟨⟨⟨⟨⟨⟨h1,h2⟩,h3⟩,h4⟩,_⟩,_⟩,_⟩,_⟩,_⟩:=h;refine⟨?_,h3,h4⟩;have ne:∀k:UInt8,k.toNat < 33→(c == k)=false:=fun k hk=>by
  rw[beq_eq_false_iff_ne];intro e;rw[e]at h1;omega
 unfold blk;rw[ne 32 O,ne 9 O,ne 10 O,ne 13 O];rfl
theorem a3l{i:Nat}{c:UInt8}{r:bi}(h:cst c=true):tk i (c::r)=yo i ((c::r).takeWhile cst)::tk (i+((c::r).takeWhile cst).length) ((c::r).drop ((c::r).takeWhile cst).length):=by
 obtain⟨h1,h2,h3⟩:=a3k h;rw[drop_tw,List.takeWhile_cons,if_pos h,List.dropWhile_cons,if_pos h];rw[tk,toks,if_neg (by rw[h1];decide),if_neg (by rw[h2];decide),if_neg (by rw[h3];decide)];simp only[List.length_cons];rw[tk,ZK _ ((r.dropWhile cst).length+1) _ _ (by have:=rW cst r;omega) J]
 rfl
theorem PM:∀(i:Nat) (r:bi),tk i r=tk (i+(r.takeWhile blk).length) (r.drop (r.takeWhile blk).length)
 |i,[]=>rfl
 |i,c::r=>by
  cases h:blk c with
  |false=>rw[List.takeWhile_cons,if_neg (by rw[h];decide)];rfl
  |true =>
   rw[a5L h,PM (i+1) r,List.takeWhile_cons,if_pos h,List.length_cons,List.drop_succ_cons];congr 1;omega
end o8
theorem Uy:(prog).fieldsOf 45=#[⟨"Package", 9,0,false, "", "", 0⟩,⟨"Name", 9,1,false, "", "", 16⟩]:=by kernel_rfl
theorem Kz:prog.underlying 45=some (.struct (prog.fieldsOf 45)):=by kernel_rfl
theorem syH:prog.stoodInHeld 45=false:=by kernel_rfl
theorem syG:prog.eqGuardType prog.depth 45=false:=by kernel_rfl
theorem Bo(p s:bi)(w:World):(part 9 #[str p,str s] 0).run prog w=.ok (str p) w∧(part 9 #[str p,str s] 1).run prog w=.ok (str s) w:=by
 constructor <;> simp[part]
theorem FD{p s p' s':bi}(w:World):(Op.equalIn 10000 45 (.agg #[str p,str s]) (.agg #[str p',str s'])).run prog w=.ok (decide (p=p') && decide (s=s')) w:=by
 rw[run_equalIn_agg w 9999 _ _ _ Kz syH,Uy];have e1:=run_equalIn_string (P:=prog) w 9998 9 ⟨p.toArray⟩ ⟨p'.toArray⟩ Tryz.underlying9;have e2:=run_equalIn_string (P:=prog) w 9998 9 ⟨s.toArray⟩ ⟨s'.toArray⟩ Tryz.underlying9;rw[Ms,Ms,ve]at e1 e2;simp only[Op.eqFields,Sem.run_bind,(Bo p s w).1,(Bo p s w).2,(Bo p' s' w).1,(Bo p' s' w).2,Result.andThen_ok,e1,e2,ne_eq,Sem.run_ite,Sem.run_pure];cases decide (p=p') <;> cases decide (s=s') <;> simp
theorem ah{x y:Operand}{p s p' s':bi}{r:Bool}(h:(decide (p=p') && decide (s=s'))=r):aS prog .eql 45 x y (.agg #[str p,str s]) (.agg #[str p',str s']) (.bool r):=by
 intro w;rw[←h];simp only[Sem.run_bind,run_eqGuard_agg w .eql _ x y _ _ syG,Result.andThen_ok,run_eql_struct,FD]
theorem E9{P:Program}{t:TypeId}{x y:Operand}{k:IntKind}{a b:Int}{r:Bool}(h:decide (a=b)=!r):aS P .neq t x y (.int k a) (.int k b) (.bool r):=by
 refine gJ ?_;simp only[gV,decide_true];show some (Value.bool (!(a == b)))=_;rw[ve a b,h,Bool.not_not]
abbrev o9(p n:bi):AV:=.agg [stA p,stA n]
theorem Oc(o:Ob):j5 89 [l9 o] (o7 (Te.V8 o)):=pV [] [] func89 trivial
theorem nN(o:Ob):j5 53 [l9 o] (o7 (Te.V8 o)):=pV [] [] func53 trivial
theorem Ri(p n:bi):j5 122 [o9 p n] (l9 ⟨2,[],[],p,n,[],[]⟩):=pV [] [] func122 trivial
theorem wW(p n:bi):j5 73 [o9 p n] (l9 ⟨2,[],[],p,n,[],[]⟩):=pV [] [] func73 trivial
theorem a5M:j5 91 [] (l9 M5):=pV [.av (l9 M5)] [j5 122 [(o9 [108,105,115,112] [110,105,108])] (l9 M5)] func91 ⟨Ri _ _,Z⟩
theorem b0m:j5 90 [] (l9 tO):=pV [.av (l9 tO)] [j5 122 [(o9 [108,105,115,112] [116])] (l9 tO)] func90 ⟨Ri _ _,Z⟩
theorem O7(n:bi):j5 36 [stA n] (o9 o6 n):=pV [] [] func36 trivial
theorem nS:j5 38 [] (l9 M5):=pV [.av (o9 o6 [110,105,108]),.av (l9 M5)] [j5 36 [(stA [110,105,108])] (o9 o6 [110,105,108]),j5 73 [(o9 o6 [110,105,108])] (l9 M5)] func38 ⟨O7 _,wW _ _,Z⟩
theorem yu:j5 54 [] (l9 tO):=pV [.av (o9 o6 [116]),.av (l9 tO)] [j5 36 [(stA [116])] (o9 o6 [116]),j5 73 [(o9 o6 [116])] (l9 tO)] func54 ⟨O7 _,wW _ _,Z⟩
theorem kY(b:Bool):j5 48 [j6 b] (o7 (bif b then Te.p8 else Te.noT)):=by
 cases b with
 |true=>exact pV [.av (l9 tO),.av (o7 Te.p8)] [_,j5 89 [(l9 tO)] (.agg [(j3 2),(stA Te.p8.np),(stA Te.p8.nn),(j3 2),(stA Te.p8.val.num),(stA Te.p8.val.den),(stA Te.p8.val.sp),(stA Te.p8.val.sn),(stA Te.p8.val.text),(.dt (.row (List.map Ob.enc Te.p8.val.pair))),(.dt (.row (List.map Te.enc Te.p8.args)))])] func48 ⟨b0m,Oc _,Z⟩
 |false=>exact pV [.av (l9 M5),.av (o7 Te.noT)] [_,j5 89 [(l9 M5)] (.agg [(j3 2),(stA Te.noT.np),(stA Te.noT.nn),(j3 2),(stA Te.noT.val.num),(stA Te.noT.val.den),(stA Te.noT.val.sp),(stA Te.noT.val.sn),(stA Te.noT.val.text),(.dt (.row (List.map Ob.enc Te.noT.val.pair))),(.dt (.row (List.map Te.enc Te.noT.args)))])] func48 ⟨a5M,Oc _,Z⟩
abbrev vg(p n:bi)(rs:bv):AV:=.agg [j3 3,stA p,stA n,j3 0,stA [],stA [],stA [],stA [],stA [],.dt (.row []),.dt (.row rs)]
theorem a5N(p n:bi)(rs:bv):j5 92 [o9 p n,.dt (.row rs)] (vg p n rs):=pV [] [] func92 trivial
theorem GU(p n:bi)(rs:bv):j5 59 [o9 p n,.dt (.row rs)] (vg p n rs):=pV [] [] func59 trivial
theorem a05(n:bi)(rs:bv):j5 49 [stA n,.dt (.row rs)] (vg o6 n rs):=pV [.av (vg o6 n rs)] [j5 92 [(o9 [108,105,115,112] n),(.dt (.row rs))] (.agg [(j3 3),(stA o6),(stA n),(j3 0),(stA []),(stA []),(stA []),(stA []),(stA []),(.dt (.row [])),(.dt (.row rs))])] func49 ⟨a5N _ _ _,Z⟩
theorem a06(n:bi)(rs:bv):j5 29 [stA n,.dt (.row rs)] (vg o6 n rs):=pV [.av (o9 o6 n),.av (vg o6 n rs)] [j5 36 [(stA n)] (o9 o6 n),j5 59 [(o9 o6 n),(.dt (.row rs))] (.agg [(j3 3),(stA o6),(stA n),(j3 0),(stA []),(stA []),(stA []),(stA []),(stA []),(.dt (.row [])),(.dt (.row rs))])] func29 ⟨O7 n,GU _ _ _,Z⟩
theorem FV(n:bi)(l:List Te){rs:bv}(h:rs=l.map Te.enc):j5 49 [stA n,.dt (.row rs)] (o7 (Te.ap n l)):=by subst h;exact a05 _ _
theorem FW(n:bi)(l:List Te){rs:bv}(h:rs=l.map Te.enc):j5 29 [stA n,.dt (.row rs)] (o7 (Te.ap n l)):=by subst h;exact a06 _ _
theorem Od(o:Ob):j5 41 [l9 o] (j6 (decide (o.kind=2∧o.sp=o6∧o.sn=R4))) :=
 lQ (O3 func41 rfl (by kernel_rfl)) fun _ A n c w _ _=>LX o A n c w
theorem a07{o:Ob}(h:o.Wf):j5 23 [l9 o] (j6 (Q7 o M5)) :=
 ⟨O3 func23 rfl (by kernel_rfl),fun ok w vs _ hv=>by
  obtain⟨A,n,c,rfl,hr⟩:=hv.sV;exact (Me ok o h A n c w hr).mono fun _ _ h=>h.pure⟩
theorem a5O{a:Ob}(h:a.Wf)(b:Ob):j5 105 [l9 a,l9 b] (j6 (Q7 a b)) :=
 ⟨O3 func105 rfl (by kernel_rfl),fun ok w vs _ hv=>by
  obtain⟨A,n,c,A',n',c',rfl,hr,hr'⟩:=hv.qg;exact (LY ok ok a.size a b (Nat.le_refl _) h A A' n n' c c' w hr hr').mono fun _ _ h=>h.pure⟩
theorem Rj{a:Ob}(h:a.Wf)(b:Ob):j5 51 [l9 a,l9 b] (j6 (Q7 a b)) :=
 ⟨O3 func51 rfl (by kernel_rfl),fun ok w vs _ hv=>by
  obtain⟨A,n,c,A',n',c',rfl,hr,hr'⟩:=hv.qg;exact (EE ok ok a.size a b (Nat.le_refl _) h A A' n n' c c' w hr hr').mono fun _ _ h=>h.pure⟩
theorem Wq{t:Te}{n:bi}{k:Nat}:decide (t.is n k)=(decide (t.kind=3) && (decide (t.np=o6) && decide (t.nn=n) && decide (t.args.length=k))):=by
 show decide (_∧_∧_∧_)=_;simp[Bool.and_assoc]
theorem ay(t:Te)(n:bi)(k:Nat):j5 62 [o7 t,stA n,j3 k] (j6 (decide (t.is n k))):=by
 rw[Wq];cases hk:decide (t.kind=3) with
 |false=>exact pV [yF] [Bk .eql 3 8 3 t.kind bF] func62 ⟨A9 hk,Z⟩
 |true =>
  cases hs:decide (t.np=o6) && decide (t.nn=n) with
  |false=>exact pV [yT,yF] [Bk .eql 3 8 3 t.kind bT,Bn .eql 45 (.tmp 12) (.tmp 14) (Value.agg #[str t.np,str t.nn]) (Value.agg #[Value.string { data:=#[108,105,115,112]:ByteArray },str n]) bF] func62 ⟨A9 hk,ah hs,Z⟩
  |true=>exact pV [yT,yT,.av (j3 t.args.length),.av (j6 (decide (t.args.length=k)))] [Bk .eql 3 8 3 t.kind bT,Bn .eql 45 (.tmp 12) (.tmp 14) (Value.agg #[str t.np,str t.nn]) (Value.agg #[Value.string { data:=#[108,105,115,112]:ByteArray },str n]) bT,(vi ↑t.args.length)=(vi (↑(List.map Te.enc t.args).length)),Bt .eql 3 20 21 ↑t.args.length ↑k (Value.bool (decide (t.args.length=k)))] func62 ⟨A9 hk,ah hs,H7 _,A9 (by rw[decide_eq_decide];omega),Z⟩
theorem a7S(t:Te)(n:bi)(k:Nat):j5 97 [o7 t,stA n,j3 k] (j6 (decide (t.is n k))):=by
 rw[Wq];cases hk:decide (t.kind=3) with
 |false=>exact pV [yF] [Bk .eql 3 8 3 t.kind bF] func97 ⟨A9 hk,Z⟩
 |true =>
  cases hs:decide (t.np=o6) && decide (t.nn=n) with
  |false=>exact pV [yT,.av (o9 o6 n),yF] [Bk .eql 3 8 3 t.kind bT,j5 36 [(stA n)] (o9 o6 n),Bn .eql 45 (.tmp 12) (.tmp 14) (Value.agg #[str t.np,str t.nn]) (Value.agg #[str o6,str n]) bF] func97 ⟨A9 hk,O7 n,ah hs,Z⟩
  |true=>exact pV [yT,.av (o9 o6 n),yT,.av (j3 t.args.length),.av (j6 (decide (t.args.length=k)))] [Bk .eql 3 8 3 t.kind bT,j5 36 [(stA n)] (o9 o6 n),Bn .eql 45 (.tmp 12) (.tmp 14) (Value.agg #[str t.np,str t.nn]) (Value.agg #[str o6,str n]) bT,(vi ↑t.args.length)=(vi (↑(List.map Te.enc t.args).length)),Bt .eql 3 20 21 ↑t.args.length ↑k (Value.bool (decide (t.args.length=k)))] func97 ⟨A9 hk,O7 n,ah hs,H7 _,A9 (by rw[decide_eq_decide];omega),Z⟩
end Go.Proofs.YtdkehabacmlegaaGreatDoor
