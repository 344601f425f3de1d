/- number.add, Add, Subtract. -/
import Derived.Test.YtbpmpdadppamgaaGreatDoorGC
import Derived.Test.YtbpmpdadppamgaaGreatDoorGA
import Derived.Deep.LoopGhost
set_option maxRecDepth 100000
set_option maxHeartbeats 4000000
namespace Go.Proofs.YtbpmpdadppamgaaGreatDoor
open Tryz
open Go.RowKit
def Ej(K:Nat)(v:Int)(w:World)(e:Ending)(w':World):Prop :=
 ∃(s:Bool) (m:Nat) (A:Option Addr) (n c:Nat),e=.returned (.agg #[.bool s,.slice A n c])∧Sl w' .u32 A n c (j6.limbs 1000000000 m)∧n≤K∧(if s then -(m:Int) else m)=v∧Below w.heap.size w w'
theorem fM{s:Bool}{m:Nat}{v:Int}(h:(if s then -(m:Int) else m)=v):bC s m=Lib.itoa v:=by unfold bC;rw[h]
theorem OQ{a b n n':Nat}(h:(j6.limbs 1000000000 a).length=n)(h':(j6.limbs 1000000000 b).length=n'):(j6.limbs 1000000000 (a+b)).length≤n+n'+1:=by
 apply j6.xM J;have h1:=yx h;have h2:=yx h';have h3:1000000000 ^ n≤1000000000 ^ (n+n'):=Zar J J;have h4:1000000000 ^ n'≤1000000000 ^ (n+n'):=Zar J J;rw[ZaM];omega
theorem Hw(w:World)(T:TypeId)(u0 v0 u1 v1 u2 v2:Value) :
  Hid (D5 (((w.alloc (.cells #[u0,v0] T)).alloc (.cells #[u1,v1] T)).alloc (.cells #[u2,v2] T)) w.heap.size T #[u0,v0])∧Hid (D5 (((w.alloc (.cells #[u0,v0] T)).alloc (.cells #[u1,v1] T)).alloc (.cells #[u2,v2] T)) (w.heap.size+1) T #[u1,v1]) ∧
  Hid (D5 (((w.alloc (.cells #[u0,v0] T)).alloc (.cells #[u1,v1] T)).alloc (.cells #[u2,v2] T)) (w.heap.size+1+1) T #[u2,v2])∧Below w.heap.size w (((w.alloc (.cells #[u0,v0] T)).alloc (.cells #[u1,v1] T)).alloc (.cells #[u2,v2] T)):=by
 refine⟨WP (((D5.new w T _).alloc _).alloc _),WP ?_,WP ?_,(((Below.refl _ _).alloc (PP _) _).alloc I _).alloc (by simp;omega) _⟩
 ·have:=(D5.new (w.alloc (.cells #[u0,v0] T)) T #[u1,v1]).alloc (.cells #[u2,v2] T);simpa using this
 ·have:=D5.new ((w.alloc (.cells #[u0,v0] T)).alloc (.cells #[u1,v1] T)) T #[u2,v2];simpa using this
theorem Ab{w:World}{g:Nat}{t:TypeId}{u v u' v':Value}(h:D5 w g t #[u,v]):D5 ((w.setCell ⟨g,0,none⟩ u').setCell ⟨g,1,none⟩ v') g t #[u',v']:=by
 have:=(h.fD 0 u').fD 1 v';simpa using this
theorem add_same(s:Bool)(A A':Option Addr)(n n' c c' a b:Nat)(v:Int)(w:World)(hx:Sl w .u32 A n c (j6.limbs 1000000000 a))(hy:Sl w .u32 A' n' c' (j6.limbs 1000000000 b))(hn:n≤10000000)(hn':n'≤10000000)
  (HV:Hid ((if s then -((a+b:Nat):Int) else ((a+b:Nat):Int))=v)) :
  Calls prog 254 #[.agg #[.bool s,.slice A n c],.agg #[.bool s,.slice A' n' c']] w (Ej (n+n'+1) v w):=by
 have hl:=OQ hx.len hy.len;have HP:Hid (∀W,Below w.heap.size w W→Calls prog 265 #[.slice A n c,.slice A' n' c'] W (dV .u32 (j6.limbs 1000000000 (a+b)) W)):=fun W hb=>by
  have:=QZ A A' n n' c c' _ _ W (hx.below hb) (hy.below hb) J J (j6.N7 J a) (j6.N7 J b)
  rwa [j6.H8 J,j6.H8 J]at this
 have hbb:(s == s)=true:=I
 go_enter func254,ntmps254
 go_wp2_with fail
 obtain⟨B0,B1,B2,hbw⟩:=Hw w 278 (.bool s) (.slice A n c) (.bool s) (.slice A' n' c') (.bool false) (.slice none 0 0);generalize (((w.alloc (.cells #[.bool s,.slice A n c] 278)).alloc (.cells #[.bool s,.slice A' n' c'] 278)).alloc (.cells #[.bool false,.slice none 0 0] 278))=W at *;obtain⟨AR,AU,_,_,l0⟩:=B0.out.two;obtain⟨AX,AY,_,_,l1⟩:=B1.out.two;obtain⟨Zo,Zp,f20,f21,l2⟩:=B2.out.two;have HPW:=WP (HP.out W.drew hbw.drew);clear HP
 go_region_law (go_simp;go_at_call 265;refine HPW.out.mono ?_;rintro e w2 ⟨A2,n2,c2,rfl,hs2,hb2,hf2⟩;obtain⟨xA,q01,_,_,_⟩:=(B0.out.drew.below hb2).two;obtain⟨Zq,Zr,g20,g21,_⟩:=(B2.out.drew.below hb2).two)
 all_goals go_wp2
 all_goals
  have hfin:=Ab (u':=.bool s) (v':=.slice A2 n2 c2) (B2.out.drew.below hb2);have hbz:Below w.heap.size w ((w2.setCell ⟨w.heap.size+1+1,0,none⟩ (.bool s)).setCell ⟨w.heap.size+1+1,1,none⟩ (.slice A2 n2 c2)) :=
   ((hbw.drew.trans (hb2.mono hbw.drew.size)).setCell (p:=⟨w.heap.size+1+1,0,none⟩) (by simp;omega) _).setCell (p:=⟨w.heap.size+1+1,1,none⟩) (by simp;omega) _
  have qw:Sl ((w2.setCell ⟨w.heap.size+1+1,0,none⟩ (.bool s)).setCell ⟨w.heap.size+1+1,1,none⟩ (.slice A2 n2 c2)) .u32 A2 n2 c2 (j6.limbs 1000000000 (a+b)) :=
   (hs2.far (p:=⟨w.heap.size+1+1,0,none⟩) (fun b o e=>by have:=hf2 b o e;show b≠w.heap.size+1+1;have:W.drew.heap.size=W.heap.size:=rfl;omega) _).far (p:=⟨w.heap.size+1+1,1,none⟩) (fun b o e=>by have:=hf2 b o e;show b≠w.heap.size+1+1;have:W.drew.heap.size=W.heap.size:=rfl;omega) _
  generalize ((w2.setCell ⟨w.heap.size+1+1,0,none⟩ (.bool s)).setCell ⟨w.heap.size+1+1,1,none⟩ (.slice A2 n2 c2))=Z at *;obtain⟨z0,z1,_,_,_⟩:=hfin.two;refine bodyPost_ret (v:=.agg #[.bool s,.slice A2 n2 c2]) ?_ rfl ⟨s,a+b,A2,n2,c2,rfl,qw,by rw[←qw.len];exact hl,HV.out,hbz⟩;simp[results,Tryz.results254,go_sem,z0,z1]
theorem Vl(s s':Bool)(A A':Option Addr)(n n' c c' a b:Nat)(v:Int)(w:World)(hx:Sl w .u32 A n c (j6.limbs 1000000000 a))(hy:Sl w .u32 A' n' c' (j6.limbs 1000000000 b))(hn:n≤10000000)(hn':n'≤10000000)
  (hss:(s == s')=false) (hlt:b≤a) (HV:Hid ((if s then -((a - b:Nat):Int) else ((a - b:Nat):Int))=v)) :
  Calls prog 254 #[.agg #[.bool s,.slice A n c],.agg #[.bool s',.slice A' n' c']] w (Ej (n+n'+1) v w):=by
 have hl:(j6.limbs 1000000000 (a - b)).length≤n+n'+1:=by
  have:=j6.aS (B:=1000000000) (a:=a) (b:=a - b) J J;rw[hx.len]at this;omega
 have hll:n'≤n:=by
  have:=j6.aS (B:=1000000000) (a:=a) (b:=b) J J
  rwa [hx.len,hy.len]at this
 have HC:Hid (∀W,Below w.heap.size w W→Calls prog 275 #[.slice A n c,.slice A' n' c'] W (qD a b W)):=fun W hb =>
  uV 1000000000 J A A' n n' c c' a b W (hx.below hb) (hy.below hb) J J
 have HM:Hid (∀W,Below w.heap.size w W→Calls prog 266 #[.slice A n c,.slice A' n' c'] W (dV .u32 (j6.limbs 1000000000 (a - b)) W)):=fun W hb=>by
  have:=CJ A A' n n' c c' _ _ W (hx.below hb) (hy.below hb) J hll (j6.N7 J _) (j6.N7 J _) (by rw[j6.H8 J,j6.H8 J];omega)
  rwa [j6.H8 J,j6.H8 J]at this
 have HO:=WP hlt;have hz:0≤dJ a b:=by
  rcases Za5 b a with h | h
  ·rw[lL h];omega
  ·obtain rfl:a=b:=J;rw[qa];omega
 clear hlt
 go_enter func254,ntmps254
 go_wp2_with fail
 obtain⟨B0,B1,B2,hbw⟩:=Hw w 278 (.bool s) (.slice A n c) (.bool s') (.slice A' n' c') (.bool false) (.slice none 0 0);generalize (((w.alloc (.cells #[.bool s,.slice A n c] 278)).alloc (.cells #[.bool s',.slice A' n' c'] 278)).alloc (.cells #[.bool false,.slice none 0 0] 278))=W at *;obtain⟨AR,AU,FE,FH,l0⟩:=B0.out.two;obtain⟨AX,AY,f10,f11,l1⟩:=B1.out.two;have Nw:=WP (HC.out W hbw);clear HC;refine Nw.out.mono ?_;rintro e wq ⟨rfl,q,rfl⟩;have C0:Hid (D5 (W.drewN q) w.heap.size 278 #[.bool s,.slice A n c]):=B0;have C1:Hid (D5 (W.drewN q) (w.heap.size+1) 278 #[.bool s',.slice A' n' c']):=B1;have C2:Hid (D5 (W.drewN q) (w.heap.size+1+1) 278 #[.bool false,.slice none 0 0]):=B2;have tZ:Below w.heap.size w (W.drewN q):=below_drewN hbw q
 go_wp2_with fail
 generalize W.drewN q=V at *;obtain⟨Zo,Zp,f20,f21,l2⟩:=C2.out.two;obtain⟨Zt,Zu,_,_,_⟩:=C0.out.two;obtain⟨Zv,Zw,_,_,_⟩:=C1.out.two;have Ny:=WP (HM.out V.drew tZ.drew);clear HM
 go_region_law (go_simp;go_at_call 266;refine Ny.out.mono ?_;rintro e w2 ⟨A2,n2,c2,rfl,hs2,hb2,hf2⟩;obtain⟨xA,q01,_,_,_⟩:=(C0.out.drew.below hb2).two;obtain⟨Zq,Zr,g20,g21,_⟩:=(C2.out.drew.below hb2).two)
 all_goals go_wp2
 all_goals
  have hfin:=Ab (u':=.bool s) (v':=.slice A2 n2 c2) (C2.out.drew.below hb2);have hbz:Below w.heap.size w ((w2.setCell ⟨w.heap.size+1+1,0,none⟩ (.bool s)).setCell ⟨w.heap.size+1+1,1,none⟩ (.slice A2 n2 c2)) :=
   ((tZ.drew.trans (hb2.mono tZ.drew.size)).setCell (p:=⟨w.heap.size+1+1,0,none⟩) (by simp;omega) _).setCell (p:=⟨w.heap.size+1+1,1,none⟩) (by simp;omega) _
  have qw:Sl ((w2.setCell ⟨w.heap.size+1+1,0,none⟩ (.bool s)).setCell ⟨w.heap.size+1+1,1,none⟩ (.slice A2 n2 c2)) .u32 A2 n2 c2 (j6.limbs 1000000000 (a - b)) :=
   (hs2.far (p:=⟨w.heap.size+1+1,0,none⟩) (fun b o e=>by have:=hf2 b o e;show b≠w.heap.size+1+1;have:V.drew.heap.size=V.heap.size:=rfl;omega) _).far (p:=⟨w.heap.size+1+1,1,none⟩) (fun b o e=>by have:=hf2 b o e;show b≠w.heap.size+1+1;have:V.drew.heap.size=V.heap.size:=rfl;omega) _
  generalize ((w2.setCell ⟨w.heap.size+1+1,0,none⟩ (.bool s)).setCell ⟨w.heap.size+1+1,1,none⟩ (.slice A2 n2 c2))=Z at *;obtain⟨z0,z1,_,_,_⟩:=hfin.two;refine bodyPost_ret (v:=.agg #[.bool s,.slice A2 n2 c2]) ?_ rfl ⟨s,a - b,A2,n2,c2,rfl,qw,by rw[←qw.len];exact hl,HV.out,hbz⟩;simp[results,Tryz.results254,go_sem,z0,z1]
theorem add_lt(s s':Bool)(A A':Option Addr)(n n' c c' a b:Nat)(v:Int)(w:World)(hx:Sl w .u32 A n c (j6.limbs 1000000000 a))(hy:Sl w .u32 A' n' c' (j6.limbs 1000000000 b))(hn:n≤10000000)(hn':n'≤10000000)
  (hss:(s == s')=false) (hlt:a < b) (HV:Hid ((if s' then -((b - a:Nat):Int) else ((b - a:Nat):Int))=v)) :
  Calls prog 254 #[.agg #[.bool s,.slice A n c],.agg #[.bool s',.slice A' n' c']] w (Ej (n+n'+1) v w):=by
 have hl:(j6.limbs 1000000000 (b - a)).length≤n+n'+1:=by
  have:=j6.aS (B:=1000000000) (a:=b) (b:=b - a) J J;rw[hy.len]at this;omega
 have hll:n≤n':=by
  have:=j6.aS (B:=1000000000) (a:=b) (b:=a) J J
  rwa [hx.len,hy.len]at this
 have HC:Hid (∀W,Below w.heap.size w W→Calls prog 275 #[.slice A n c,.slice A' n' c'] W (qD a b W)):=fun W hb =>
  uV 1000000000 J A A' n n' c c' a b W (hx.below hb) (hy.below hb) J J
 have HM:Hid (∀W,Below w.heap.size w W→Calls prog 266 #[.slice A' n' c',.slice A n c] W (dV .u32 (j6.limbs 1000000000 (b - a)) W)):=fun W hb=>by
  have:=CJ A' A n' n c' c _ _ W (hy.below hb) (hx.below hb) J hll (j6.N7 J _) (j6.N7 J _) (by rw[j6.H8 J,j6.H8 J];omega)
  rwa [j6.H8 J,j6.H8 J]at this
 have HO:=WP hlt;have hz:dJ a b < 0:=by rw[lK hlt];omega
 clear hlt
 go_enter func254,ntmps254
 go_wp2_with fail
 obtain⟨B0,B1,B2,hbw⟩:=Hw w 278 (.bool s) (.slice A n c) (.bool s') (.slice A' n' c') (.bool false) (.slice none 0 0);generalize (((w.alloc (.cells #[.bool s,.slice A n c] 278)).alloc (.cells #[.bool s',.slice A' n' c'] 278)).alloc (.cells #[.bool false,.slice none 0 0] 278))=W at *;obtain⟨AR,AU,FE,FH,l0⟩:=B0.out.two;obtain⟨AX,AY,f10,f11,l1⟩:=B1.out.two;have Nw:=WP (HC.out W hbw);clear HC;refine Nw.out.mono ?_;rintro e wq ⟨rfl,q,rfl⟩
 go_wp2_with fail
 have tZ:Below w.heap.size w (((((W.drewN q).setCell ⟨w.heap.size,0,none⟩ (.bool s')).setCell ⟨w.heap.size,1,none⟩ (.slice A' n' c')).setCell ⟨w.heap.size+1,0,none⟩ (.bool s)).setCell ⟨w.heap.size+1,1,none⟩ (.slice A n c)) :=
  ((((below_drewN hbw q).setCell (p:=⟨w.heap.size,0,none⟩) (PP _) _).setCell (p:=⟨w.heap.size,1,none⟩) (PP _) _).setCell (p:=⟨w.heap.size+1,0,none⟩) I _).setCell (p:=⟨w.heap.size+1,1,none⟩) I _
 have D0:D5 (W.drewN q) w.heap.size 278 #[.bool s,.slice A n c]:=B0.out;have D1:D5 (W.drewN q) (w.heap.size+1) 278 #[.bool s',.slice A' n' c']:=B1.out;have D2:D5 (W.drewN q) (w.heap.size+1+1) 278 #[.bool false,.slice none 0 0]:=B2.out;have C0:Hid (D5 (((((W.drewN q).setCell ⟨w.heap.size,0,none⟩ (.bool s')).setCell ⟨w.heap.size,1,none⟩ (.slice A' n' c')).setCell ⟨w.heap.size+1,0,none⟩ (.bool s)).setCell ⟨w.heap.size+1,1,none⟩ (.slice A n c)) w.heap.size 278 #[.bool s',.slice A' n' c']) :=
  WP (((Ab D0).far (p:=⟨w.heap.size+1,0,none⟩) I _).far (p:=⟨w.heap.size+1,1,none⟩) I _)
 have C1:Hid (D5 (((((W.drewN q).setCell ⟨w.heap.size,0,none⟩ (.bool s')).setCell ⟨w.heap.size,1,none⟩ (.slice A' n' c')).setCell ⟨w.heap.size+1,0,none⟩ (.bool s)).setCell ⟨w.heap.size+1,1,none⟩ (.slice A n c)) (w.heap.size+1) 278 #[.bool s,.slice A n c]) :=
  WP (Ab ((D1.far (p:=⟨w.heap.size,0,none⟩) I _).far (p:=⟨w.heap.size,1,none⟩) I _))
 have C2:Hid (D5 (((((W.drewN q).setCell ⟨w.heap.size,0,none⟩ (.bool s')).setCell ⟨w.heap.size,1,none⟩ (.slice A' n' c')).setCell ⟨w.heap.size+1,0,none⟩ (.bool s)).setCell ⟨w.heap.size+1,1,none⟩ (.slice A n c)) (w.heap.size+1+1) 278 #[.bool false,.slice none 0 0]) :=
  WP ((((D2.far (p:=⟨w.heap.size,0,none⟩) (by simp;omega) _).far (p:=⟨w.heap.size,1,none⟩) (by simp;omega) _).far (p:=⟨w.heap.size+1,0,none⟩) I _).far (p:=⟨w.heap.size+1,1,none⟩) I _)
 clear D0 D1 D2;generalize (((((W.drewN q).setCell ⟨w.heap.size,0,none⟩ (.bool s')).setCell ⟨w.heap.size,1,none⟩ (.slice A' n' c')).setCell ⟨w.heap.size+1,0,none⟩ (.bool s)).setCell ⟨w.heap.size+1,1,none⟩ (.slice A n c))=V at *;obtain⟨Zo,Zp,f20,f21,l2⟩:=C2.out.two;obtain⟨Zt,Zu,_,_,_⟩:=C0.out.two;obtain⟨Zv,Zw,_,_,_⟩:=C1.out.two;have Ny:=WP (HM.out V.drew tZ.drew);clear HM
 go_region_law (go_simp;go_at_call 266;refine Ny.out.mono ?_;rintro e w2 ⟨A2,n2,c2,rfl,hs2,hb2,hf2⟩;obtain⟨xA,q01,_,_,_⟩:=(C0.out.drew.below hb2).two;obtain⟨Zq,Zr,g20,g21,_⟩:=(C2.out.drew.below hb2).two)
 all_goals go_wp2
 all_goals
  have hfin:=Ab (u':=.bool s') (v':=.slice A2 n2 c2) (C2.out.drew.below hb2);have hbz:Below w.heap.size w ((w2.setCell ⟨w.heap.size+1+1,0,none⟩ (.bool s')).setCell ⟨w.heap.size+1+1,1,none⟩ (.slice A2 n2 c2)) :=
   ((tZ.drew.trans (hb2.mono tZ.drew.size)).setCell (p:=⟨w.heap.size+1+1,0,none⟩) (by simp;omega) _).setCell (p:=⟨w.heap.size+1+1,1,none⟩) (by simp;omega) _
  have qw:Sl ((w2.setCell ⟨w.heap.size+1+1,0,none⟩ (.bool s')).setCell ⟨w.heap.size+1+1,1,none⟩ (.slice A2 n2 c2)) .u32 A2 n2 c2 (j6.limbs 1000000000 (b - a)) :=
   (hs2.far (p:=⟨w.heap.size+1+1,0,none⟩) (fun b o e=>by have:=hf2 b o e;show b≠w.heap.size+1+1;have:V.drew.heap.size=V.heap.size:=rfl;omega) _).far (p:=⟨w.heap.size+1+1,1,none⟩) (fun b o e=>by have:=hf2 b o e;show b≠w.heap.size+1+1;have:V.drew.heap.size=V.heap.size:=rfl;omega) _
  generalize ((w2.setCell ⟨w.heap.size+1+1,0,none⟩ (.bool s')).setCell ⟨w.heap.size+1+1,1,none⟩ (.slice A2 n2 c2))=Z at *;obtain⟨z0,z1,_,_,_⟩:=hfin.two;refine bodyPost_ret (v:=.agg #[.bool s',.slice A2 n2 c2]) ?_ rfl ⟨s',b - a,A2,n2,c2,rfl,qw,by rw[←qw.len];exact hl,HV.out,hbz⟩;simp[results,Tryz.results254,go_sem,z0,z1]
theorem a6E(l:lw):(j6.x9 l).natAbs < 10 ^ (l.length)∨j6.x9 l=0:=by
 unfold j6.x9;cases hd:j6.O5 l with
 |false=>right;simp
 |true =>
  by_cases h0:l=[48]
  ·right;subst h0;decide
  ·left;obtain⟨h1,_⟩:=(j6.mZ h0).1 hd;have h2:=j6.yN _ h1;have h3:10 ^ (j6.mag l).length≤10 ^ l.length:=Zar J (j6.jA l);simp only[ZaG];split <;> omega
theorem jC{l:lw}{k:Nat}(h:l.length≤k):(j6.x9 l).natAbs < 10 ^ k:=by
 have h3:10 ^ l.length≤10 ^ k:=Zar J h;have h4:0 < 10 ^ k:=Nat.pow_pos J;rcases a6E l with h1 | h1
 ·omega
 ·rw[h1];simpa using h4
theorem a6F(x y:Int)(A A':Option Addr)(n n' c c':Nat)(w:World)(hx:Sl w .u32 A n c (j6.limbs 1000000000 x.natAbs))(hy:Sl w .u32 A' n' c' (j6.limbs 1000000000 y.natAbs))(hn:n≤10000000)(hn':n'≤10000000) :
  Calls prog 254 #[.agg #[.bool (decide (x < 0)),.slice A n c],.agg #[.bool (decide (y < 0)),.slice A' n' c']] w (Ej (n+n'+1) (x+y) w):=by
 by_cases h1:x < 0 <;> by_cases h2:y < 0
 ·rw[Pi h1,Pi h2];exact add_same true A A' n n' c c' _ _ _ w hx hy hn hn' (WP (by simp;omega))
 ·rw[Pi h1,WF h2];rcases Za5 x.natAbs y.natAbs with h | h
  ·exact add_lt true false A A' n n' c c' _ _ _ w hx hy hn hn' rfl h (WP (by simp;omega))
  ·exact Vl true false A A' n n' c c' _ _ _ w hx hy hn hn' rfl h (WP (by simp;omega))
 ·rw[WF h1,Pi h2];rcases Za5 x.natAbs y.natAbs with h | h
  ·exact add_lt false true A A' n n' c c' _ _ _ w hx hy hn hn' rfl h (WP (by simp;omega))
  ·exact Vl false true A A' n n' c c' _ _ _ w hx hy hn hn' rfl h (WP (by simp;omega))
 ·rw[WF h1,WF h2];exact add_same false A A' n n' c c' _ _ _ w hx hy hn hn' (WP (by simp;omega))
theorem a3S(a b:lw)(w:World)(ha:a.length≤2500000)(hb:b.length≤2500000)(ht:R9 w) :
  Calls prog 223 #[.string ⟨a.toArray⟩,.string ⟨b.toArray⟩] w (bD (Lib.itoa (j6.x9 a+j6.x9 b)) w):=by
 by_cases hs:(a.length:Int)≤18∧(b.length:Int)≤18∧j6.O5 a=true∧j6.O5 b=true
 ·obtain⟨h1,h2,h3,h4⟩:=hs;have HS:=WP (Qv a b 18 w J h1 h2 h3 h4);have qF:=jC (l:=a) (k:=18) J;have hbb:=jC (l:=b) (k:=18) J;have HF:Hid (∀w',R9 w'→Calls prog 253 #[.int .i64 (j6.x9 a+j6.x9 b),.int .i64 10] w' fun e w''=>e=.returned (.string ⟨(Lib.itoa (j6.x9 a+j6.x9 b)).toArray⟩)∧Below w'.heap.size w' w''):=fun w' ht'=>OZ _ w' ht' J J
  clear h3 h4;generalize j6.x9 a=x at *;generalize j6.x9 b=y at *;have b1:x≤1000000000000000000:=J;have b2:-1000000000000000000≤x:=J;have b3:y≤1000000000000000000:=J;have b4:-1000000000000000000≤y:=J;clear qF hbb
  go_enter func223,ntmps223
  go_wp2_with fail
  refine HS.out.mono ?_;rintro e w1 ⟨rfl,hb1⟩
  go_wp2_with fail
  refine (HF.out _ (ht.below hb1)).mono ?_;rintro e w2 ⟨rfl,hb2⟩;go_wp2;go_ret;exact⟨rfl,hb1.trans (hb2.mono hb1.size)⟩
 ·have HS:=WP (Rf a b 18 w ha hb hs);have U2:Hid (∀w',Calls prog 255 #[.string ⟨a.toArray⟩] w' (gZ (a.length+1) (j6.x9 a) w')):=fun w'=>gX a w' ha
  have S9:Hid (∀w',Calls prog 255 #[.string ⟨b.toArray⟩] w' (gZ (b.length+1) (j6.x9 b) w')):=fun w'=>gX b w' hb
  clear hs;generalize j6.x9 a=x at *;generalize j6.x9 b=y at *
  go_enter func223,ntmps223
  go_wp2_with fail
  refine HS.out.mono ?_;rintro e w' ⟨rfl,rfl⟩
  go_wp2_with fail
  refine (U2.out _).mono ?_;rintro e w1 ⟨A1,n1,c1,rfl,hs1,hn1,hb1⟩
  go_wp2_with fail
  refine (S9.out _).mono ?_;rintro e w2 ⟨A2,n2,c2,rfl,hs2,hn2,hb2⟩;have hbw2:=hb1.trans (hb2.mono hb1.size)
  go_wp2_with fail
  refine (a6F x y A1 A2 n1 n2 c1 c2 _ (hs1.below hb2) hs2 J J).mono ?_;rintro e w3 ⟨s,m,A3,n3,c3,rfl,hs3,gG,hv3,hb3⟩;have O7:=hbw2.trans (hb3.mono hbw2.size);have HV:=WP hv3;clear hv3
  go_wp2_with fail
  refine (rO s A3 n3 c3 m _ hs3 J (ht.below O7)).mono ?_;rintro e w4 ⟨rfl,hb4⟩;rw[fM HV.out];go_wp2;go_ret;exact⟨rfl,O7.trans (hb4.mono O7.size)⟩
theorem iP(v:Int){k:Nat}(hk:1≤k)(h:v.natAbs < 10 ^ k):(Lib.itoa v).length≤k+1:=by
 have h1:=j6.pF hk h;by_cases hv:v < 0
 ·rw[rH hv,yM];omega
 ·rw[uW J];omega
theorem Rh(x y:Int):(if (decide (x < 0)) != (decide (y < 0)) then -((x.natAbs * y.natAbs:Nat):Int) else ((x.natAbs * y.natAbs:Nat):Int))=x * y:=by
 rw[←Int.natAbs_mul];by_cases h1:x < 0 <;> by_cases h2:y < 0
 ·have:=Int.mul_pos_of_neg_of_neg h1 h2;simp[h1,h2];omega
 ·have:x * y≤0:=Int.mul_nonpos_of_nonpos_of_nonneg J J;simp[h1,h2];omega
 ·have:x * y≤0:=Int.mul_nonpos_of_nonneg_of_nonpos J J;simp[h1,h2];omega
 ·have:0≤x * y:=Int.mul_nonneg J J;simp[h1,h2];omega
theorem b4N{x y:Int}(hx:x.natAbs < 10 ^ 9)(hy:y.natAbs < 10 ^ 9):-1000000000000000000≤x * y∧x * y≤1000000000000000000:=by
 have h:(x * y).natAbs≤10 ^ 9 * 10 ^ 9:=by rw[Int.natAbs_mul];exact Nat.mul_le_mul J J
 omega
theorem a0S{a b n n':Nat}(h:(j6.limbs 1000000000 a).length=n)(h':(j6.limbs 1000000000 b).length=n'):(j6.limbs 1000000000 (a * b)).length≤n+n':=by
 apply j6.xM J;rw[Nat.pow_add];have h1:=yx h;have h2:=yx h';rcases Zaa b with e | e
 ·subst e;rw[Nat.mul_zero];exact Nat.mul_pos (Nat.pow_pos J) (Nat.pow_pos J)
 ·exact Nat.mul_lt_mul'' h1 h2
theorem CF(w:World)(T:TypeId)(u0 v0 u1 v1:Value) :
  Hid (D5 ((w.alloc (.cells #[u0,v0] T)).alloc (.cells #[u1,v1] T)) w.heap.size T #[u0,v0])∧Hid (D5 ((w.alloc (.cells #[u0,v0] T)).alloc (.cells #[u1,v1] T)) (w.heap.size+1) T #[u1,v1])∧Below w.heap.size w ((w.alloc (.cells #[u0,v0] T)).alloc (.cells #[u1,v1] T)):=by
 refine⟨WP ((D5.new w T _).alloc _),WP ?_,((Below.refl _ _).alloc (PP _) _).alloc I _⟩;have:=D5.new (w.alloc (.cells #[u0,v0] T)) T #[u1,v1];simpa using this
theorem Ri(a b:lw)(w:World)(ha:a.length≤2500000)(hb:b.length≤2500000)(ht:R9 w) :
  Calls prog 225 #[.string ⟨a.toArray⟩,.string ⟨b.toArray⟩] w (bD (Lib.itoa (j6.x9 a * j6.x9 b)) w):=by
 by_cases hs:(a.length:Int)≤9∧(b.length:Int)≤9∧j6.O5 a=true∧j6.O5 b=true
 ·obtain⟨h1,h2,h3,h4⟩:=hs;have HS:=WP (Qv a b 9 w J h1 h2 h3 h4);have qF:=jC (l:=a) (k:=9) J;have hbb:=jC (l:=b) (k:=9) J;obtain⟨m1,m2⟩:=b4N qF hbb;have HF:Hid (∀w',R9 w'→Calls prog 253 #[.int .i64 (j6.x9 a * j6.x9 b),.int .i64 10] w' fun e w''=>e=.returned (.string ⟨(Lib.itoa (j6.x9 a * j6.x9 b)).toArray⟩)∧Below w'.heap.size w' w''):=fun w' ht'=>OZ _ w' ht' J J
  clear h3 h4 qF hbb;generalize j6.x9 a=x at *;generalize j6.x9 b=y at *
  go_enter func225,ntmps225
  go_wp2_with fail
  refine HS.out.mono ?_;rintro e w1 ⟨rfl,hb1⟩
  go_wp2_with fail
  refine (HF.out _ (ht.below hb1)).mono ?_;rintro e w2 ⟨rfl,hb2⟩;go_wp2;go_ret;exact⟨rfl,hb1.trans (hb2.mono hb1.size)⟩
 ·have HS:=WP (Rf a b 9 w ha hb hs);have U2:Hid (∀w',Calls prog 255 #[.string ⟨a.toArray⟩] w' (gZ (a.length+1) (j6.x9 a) w')):=fun w'=>gX a w' ha
  have S9:Hid (∀w',Calls prog 255 #[.string ⟨b.toArray⟩] w' (gZ (b.length+1) (j6.x9 b) w')):=fun w'=>gX b w' hb
  clear hs;generalize j6.x9 a=x at *;generalize j6.x9 b=y at *;have hms:(if (!(decide (x < 0) == decide (y < 0)))=true then -((x.natAbs * y.natAbs:Nat):Int) else ((x.natAbs * y.natAbs:Nat):Int))=x * y:=Rh x y;obtain⟨s,hsd⟩:∃s,s=decide (x < 0):=⟨_,rfl⟩;obtain⟨s',bn⟩:∃s',s'=decide (y < 0):=⟨_,rfl⟩;rw[←hsd,←bn]at hms;have dh:=WP hsd;have gm:=WP bn;clear hsd bn;obtain⟨z,hz⟩:∃z,z=(!(s == s')):=⟨_,rfl⟩;rw[←hz]at hms;have Nz:=WP hms;have hz':(!(s == s'))=z:=hz.symm;clear hz hms
  go_enter func225,ntmps225
  go_wp2_with fail
  refine HS.out.mono ?_;rintro e w' ⟨rfl,rfl⟩
  go_wp2_with fail
  refine (U2.out _).mono ?_;rintro e w1 ⟨A1,n1,c1,rfl,hs1,hn1,hb1⟩;rw[←dh.out]
  go_wp2_with fail
  refine (S9.out _).mono ?_;rintro e w2 ⟨A2,n2,c2,rfl,hs2,hn2,hb2⟩;rw[←gm.out];have hbw2:=hb1.trans (hb2.mono hb1.size)
  go_wp2_with fail
  obtain⟨B0,B1,hbW⟩:=CF w2 278 (.bool s) (.slice A1 n1 c1) (.bool s') (.slice A2 n2 c2);generalize ((w2.alloc (.cells #[.bool s,.slice A1 n1 c1] 278)).alloc (.cells #[.bool s',.slice A2 n2 c2] 278))=W at *;have qx:=hbw2.trans (hbW.mono hbw2.size);obtain⟨AR,AU,_,_,l0⟩:=B0.out.two;obtain⟨AX,AY,_,_,l1⟩:=B1.out.two;have hsA:=(hs1.below hb2).below hbW;have hsB:=hs2.below hbW;have hT:=Iz A1 A2 n1 n2 c1 c2 _ _ W.drew hsA.ma hsB.ma J J (j6.N7 J _) (j6.N7 J _);rw[j6.H8 J,j6.H8 J]at hT;have HT:=WP hT;have hlm:=a0S hsA.len hsB.len;clear hT
  go_region_held3 (fun w'=>w'.cell? ⟨w2.heap.size,0,none⟩=some (.bool s)∧w'.cell? ⟨w2.heap.size,1,none⟩=some (.slice A1 n1 c1)∧w'.cell? ⟨w2.heap.size+1,0,none⟩=some (.bool s')∧w'.cell? ⟨w2.heap.size+1,1,none⟩=some (.slice A2 n2 c2)) (go_keep)
   (first | (go_at_call 258;refine HT.out.mono ?_;rintro e w3 ⟨A3,n3,c3,rfl,hs3,hb3,hf3⟩;obtain⟨xA,q01,_,_,_⟩:=(B0.out.drew.below hb3).two;obtain⟨ow,NA,_,_,_⟩:=(B1.out.drew.below hb3).two;have O7:=qx.drew.trans (hb3.mono qx.drew.size);have HS3:=WP (rO z A3 n3 c3 (x.natAbs * y.natAbs) w3 hs3 (by rw[←hs3.len];omega) (ht.below O7))) | (go_at_call 256;refine HS3.out.mono ?_;rintro e w4 ⟨rfl,hb4⟩;obtain⟨NB,NC,_,_,_⟩:=((B0.out.drew.below hb3).below hb4).two;obtain⟨t10,t11,_,_,_⟩:=((B1.out.drew.below hb3).below hb4).two))
  go_wp2;go_ret;exact⟨by rw[←fM Nz.out];rfl,O7.trans (hb4.mono O7.size)⟩
end Go.Proofs.YtbpmpdadppamgaaGreatDoor
namespace Go.Proofs.YtbpmpdadppamgaaGreatDoor
open Tryz
def qd(x y:Int):Int:=if y=0 then 0 else if 0 < y then x / y else (-x) / (-y)
def rm(x y:Int):Int:=x - qd x y * y
theorem Tj(x:Int):qd x 0=0:=rfl
theorem Tk(x:Int):rm x 0=x:=by simp[rm]
theorem Tm{x Y q r:Int}(hY:0 < Y)(h:x=q * Y+r)(h0:0≤r)(h1:r < Y):x / Y=q :=
 ((Int.ediv_emod_unique hY).2 ⟨by rw[h,Zb8];omega,h0,h1⟩).1
theorem pM{x y q r:Int}(hy:0 < y)(h:x=q * y+r)(h0:0≤r)(h1:r < y):qd x y=q∧rm x y=r:=by
 have e:qd x y=q:=by unfold qd;rw[EQ J,Ch hy];exact Tm hy h h0 h1
 exact⟨e,by unfold rm;rw[e];omega⟩
theorem IC{x y q r:Int}(hy:y < 0)(h:x=q * y+r)(h0:r≤0)(h1:y < r):qd x y=q∧rm x y=r:=by
 have e:qd x y=q:=by
  unfold qd;rw[EQ J,EQ J];exact Tm J (by rw[h,Int.mul_neg];omega:-x=q * (-y)+(-r)) J J
 exact⟨e,by unfold rm;rw[e];omega⟩
theorem Tn{x y:Int}{s:Bool}(hy:y≠0)(hx:decide (x < 0)=s)(hs:decide (y < 0)=s) :
  ((x.natAbs / y.natAbs:Nat):Int)=qd x y∧(if s then -((x.natAbs % y.natAbs:Nat):Int) else ((x.natAbs % y.natAbs:Nat):Int))=rm x y:=by
 have h1:=Nat.div_add_mod x.natAbs y.natAbs;have h2:=Nat.mod_lt x.natAbs (show 0 < y.natAbs by omega);generalize x.natAbs / y.natAbs=Q at *;generalize x.natAbs % y.natAbs=R at *;have h3:(y.natAbs:Int) * Q+R=x.natAbs:=by rw[←h1];simp
 cases s with
 |true =>
  have hx':x < 0:=bv hx;have hy':y < 0:=bv hs;have e:x=(Q:Int) * y+-(R:Int):=by
   have:(y.natAbs:Int)=-y:=J;rw[this,Int.neg_mul,Zb8]at h3;omega
  obtain⟨a,b⟩:=IC hy' e J J;exact⟨a.symm,by simp;omega⟩
 |false =>
  have hx':¬x < 0:=ZaF hx;have hy':¬y < 0:=ZaF hs;have e:x=(Q:Int) * y+(R:Int):=by
   have:(y.natAbs:Int)=y:=J;rw[this,Zb8]at h3;omega
  obtain⟨a,b⟩:=pM J e J J;exact⟨a.symm,by simp;omega⟩
theorem Rj{x y:Int}{s:Bool}(hy:y≠0)(hx:decide (x < 0)=!s)(hs:decide (y < 0)=s)(h0:x.natAbs % y.natAbs=0) :
  -((x.natAbs / y.natAbs:Nat):Int)=qd x y∧rm x y=0:=by
 have h1:=Nat.div_add_mod x.natAbs y.natAbs;rw[h0]at h1;generalize x.natAbs / y.natAbs=Q at *;have h3:(y.natAbs:Int) * Q=x.natAbs:=by rw[←h1];simp
 cases s with
 |true =>
  have hx':¬x < 0:=ZaF hx;have hy':y < 0:=bv hs;have e:x=-(Q:Int) * y+0:=by
   have:(y.natAbs:Int)=-y:=J;rw[this,Int.neg_mul,Zb8]at h3;rw[Int.neg_mul];omega
  obtain⟨a,b⟩:=IC hy' e J J;exact⟨a.symm,b⟩
 |false =>
  have hx':x < 0:=bv hx;have hy':¬y < 0:=ZaF hs;have e:x=-(Q:Int) * y+0:=by
   have:(y.natAbs:Int)=y:=J;rw[this,Zb8]at h3;rw[Int.neg_mul];omega
  obtain⟨a,b⟩:=pM J e J J;exact⟨a.symm,b⟩
theorem Tp{x y:Int}{s:Bool}(hy:y≠0)(hx:decide (x < 0)=!s)(hs:decide (y < 0)=s)(h0:x.natAbs % y.natAbs≠0) :
  -((x.natAbs / y.natAbs+1:Nat):Int)=qd x y∧(if s then -((y.natAbs - x.natAbs % y.natAbs:Nat):Int) else ((y.natAbs - x.natAbs % y.natAbs:Nat):Int))=rm x y:=by
 have h1:=Nat.div_add_mod x.natAbs y.natAbs;have h2:=Nat.mod_lt x.natAbs (show 0 < y.natAbs by omega);generalize x.natAbs / y.natAbs=Q at *;generalize x.natAbs % y.natAbs=R at *;have h3:(y.natAbs:Int) * Q+R=x.natAbs:=by rw[←h1];simp
 cases s with
 |true =>
  have hx':¬x < 0:=ZaF hx;have hy':y < 0:=bv hs;have e:x=-((Q:Int)+1) * y+(y+R):=by
   have:(y.natAbs:Int)=-y:=J;rw[this,Int.neg_mul,Zb8]at h3;rw[Int.neg_mul,Int.add_mul];omega
  obtain⟨a,b⟩:=IC hy' e J J;exact⟨by rw[a];omega,by simp;omega⟩
 |false =>
  have hx':x < 0:=bv hx;have hy':¬y < 0:=ZaF hs;have e:x=-((Q:Int)+1) * y+(y - R):=by
   have:(y.natAbs:Int)=y:=J;rw[this,Zb8]at h3;rw[Int.neg_mul,Int.add_mul];omega
  obtain⟨a,b⟩:=pM J e J J;exact⟨by rw[a];omega,by simp;omega⟩
end Go.Proofs.YtbpmpdadppamgaaGreatDoor
namespace Go.Proofs.YtbpmpdadppamgaaGreatDoor
open Tryz
open Go.RowKit
def eu(a b:lw)(w:World)(e:Ending)(w':World):Prop:=e=.returned (.tuple #[.string ⟨a.toArray⟩,.string ⟨b.toArray⟩])∧Below w.heap.size w w'
theorem Hy{x:Int}{n:Nat}(h:(j6.limbs 1000000000 x.natAbs).length=n):n=0↔x=0:=by
 subst h;constructor
 ·intro h;have:=(j6.mX (B:=1000000000) J).1 (q9 h);omega
 ·rintro rfl;rfl
theorem OT{a b n:Nat}(h:(j6.limbs 1000000000 a).length=n):(j6.limbs 1000000000 (a / b)).length≤n:=by
 rw[←h];exact j6.aS J (Nat.div_le_self a b)
theorem He{a b n:Nat}(hb:0 < b)(h:(j6.limbs 1000000000 b).length=n):(j6.limbs 1000000000 (a % b)).length≤n:=by
 rw[←h];exact j6.aS J (Nat.le_of_lt (Nat.mod_lt a hb))
theorem Dk(w:World)(T:TypeId)(u0 v0 u1 v1:Value):D5 ((w.alloc (.cells #[u0,v0] T)).alloc (.cells #[u1,v1] T)) w.heap.size T #[u0,v0]∧D5 ((w.alloc (.cells #[u0,v0] T)).alloc (.cells #[u1,v1] T)) (w.heap.size+1) T #[u1,v1]:=by
 obtain⟨a,b,_⟩:=CF w T u0 v0 u1 v1;exact⟨a.out,b.out⟩
theorem Ym{w:World}{g:Nat}{t:TypeId}{u v v':Value}(h:D5 w g t #[u,v]):D5 (w.setCell ⟨g,1,none⟩ v') g t #[u,v']:=by
 have:=h.fD 1 v';simpa using this
theorem a2P(a b:lw)(w:World)(ha:a.length≤2400000)(hb:b.length≤2400000)(hy0:j6.x9 b=0) :
  Calls prog 235 #[.string ⟨a.toArray⟩,.string ⟨b.toArray⟩] w (eu [48] (Lib.itoa (j6.x9 a)) w):=by
 have U2:Hid (∀w',Calls prog 255 #[.string ⟨a.toArray⟩] w' (gZ (a.length+1) (j6.x9 a) w')):=fun w'=>gX a w' J
 have S9:Hid (∀w',Calls prog 255 #[.string ⟨b.toArray⟩] w' (gZ (b.length+1) 0 w')):=fun w'=>by have:=gX b w' J;rwa [hy0]at this
 have HDc:Hid (∀w',Calls prog 261 #[.string ⟨a.toArray⟩] w' fun e w''=>e=.returned (.string ⟨(Lib.itoa (j6.x9 a)).toArray⟩)∧w'=w''):=fun w'=>by have:=rG a w' J;rwa [norm_eq]at this
 clear hy0
 go_enter func235,ntmps235
 go_wp2_with fail
 refine (U2.out _).mono ?_;rintro e w1 ⟨A1,n1,c1,rfl,hs1,hn1,hb1⟩
 go_wp2_with fail
 refine (S9.out _).mono ?_;rintro e w2 ⟨A2,n2,c2,rfl,hs2,hn2,hb2⟩;have hbw2:=hb1.trans (hb2.mono hb1.size);obtain rfl:n2=0:=(Hy (x:=0) hs2.len).2 rfl
 go_wp2_with fail
 refine (HDc.out _).mono ?_;rintro e w' ⟨rfl,rfl⟩;go_wp2;go_ret2;exact⟨rfl,(hbw2.alloc hbw2.size _).alloc (by rw[World.size_alloc];have:=hbw2.size;omega) _⟩
theorem Qw(a b:lw)(w:World)(ha:a.length≤2400000)(hb:b.length≤2400000)(ht:R9 w)(x y:Int)(hxv:j6.x9 a=x)(hyv:j6.x9 b=y)(hy0:y≠0)(s s' z:Bool)(hsd:decide (x < 0)=s)(bn:decide (y < 0)=s')
  (hz:(!(s == s'))=z) (hcase:z=false∨x.natAbs % y.natAbs=0) (q r:lw) (HQ:Hid (bC z (x.natAbs / y.natAbs)=q)) (HR:Hid (bC s' (x.natAbs % y.natAbs)=r)) :
  Calls prog 235 #[.string ⟨a.toArray⟩,.string ⟨b.toArray⟩] w (eu q r w):=by
 have U2:Hid (∀w',Calls prog 255 #[.string ⟨a.toArray⟩] w' (gZ (a.length+1) x w')):=fun w'=>by have:=gX a w' J;rwa [hxv]at this
 have S9:Hid (∀w',Calls prog 255 #[.string ⟨b.toArray⟩] w' (gZ (b.length+1) y w')):=fun w'=>by have:=gX b w' J;rwa [hyv]at this
 have dh:=WP hsd;have gm:=WP bn;have hyp:0 < y.natAbs:=J;have zx:=WP hcase;clear hcase;clear hsd bn hxv hyv
 go_enter func235,ntmps235
 go_wp2_with fail
 refine (U2.out _).mono ?_;rintro e w1 ⟨A1,n1,c1,rfl,hs1,hn1,hb1⟩;rw[dh.out]
 go_wp2_with fail
 refine (S9.out _).mono ?_;rintro e w2 ⟨A2,n2,c2,rfl,hs2,hn2,hb2⟩;rw[gm.out];have hbw2:=hb1.trans (hb2.mono hb1.size);have EM:((n2:Int) == 0)=false:=by rw[IR];intro e;exact hy0 ((Hy hs2.len).1 J)
 clear hy0
 go_wp2_with fail
 obtain⟨B0,B1,hbW⟩:=CF w2 278 (.bool s) (.slice A1 n1 c1) (.bool s') (.slice A2 n2 c2);generalize ((w2.alloc (.cells #[.bool s,.slice A1 n1 c1] 278)).alloc (.cells #[.bool s',.slice A2 n2 c2] 278))=W at *;have qx:=hbw2.trans (hbW.mono hbw2.size);have hsA:=(hs1.below hb2).below hbW;have hsB:=hs2.below hbW;have hl1:=hsA.len;have hl2:=hsB.len;have hlq:=OT (b:=y.natAbs) hl1;have hlr:=He (a:=x.natAbs) hyp hl2;clear hl1 hl2;refine (Im A1 A2 n1 n2 c1 c2 _ _ W hsA hsB J J hyp).mono ?_;rintro e w3 ⟨A3,n3,c3,A4,n4,c4,rfl,hs3,hs4,hb3⟩;have O7:=qx.trans (hb3.mono qx.size);have gG:n3≤n1:=by rw[←hs3.len];exact hlq
 have oz:n4≤n2:=by rw[←hs4.len];exact hlr
 have uf:=WP hs4.len;have E0:=WP (B0.out.below hb3);have E1:=WP (B1.out.below hb3);obtain⟨AR,AU,_,_,l0⟩:=E0.out.two;obtain⟨AX,AY,_,_,l1⟩:=E1.out.two;have EN:=hsB.below hb3;clear B0 B1
 go_upto_region 5 with (fail)
 go_cut [10,11] (fun s10 s11 wx=>∃g g':Nat,s10=.pointer (some ⟨g,0,none⟩)∧s11=.pointer (some ⟨g',0,none⟩)∧g≠g'∧w3.heap.size≤g∧w3.heap.size≤g'∧Hid (D5 wx g 278 #[.bool z,.slice A3 n3 c3])∧Hid (D5 wx g' 278 #[.bool s',.slice A4 n4 c4])∧Below w3.heap.size w3 wx)
 case first =>
  go_region
  all_goals (go_wp2_with fail;go_meet)
  all_goals (go_wp2_with fail)
  all_goals (obtain⟨t1,t2⟩:=Dk w3 278 (.bool z) (.slice A3 n3 c3) (.bool s') (.slice A4 n4 c4))
  all_goals (obtain⟨t3,t4⟩:=Dk w3 278 (.bool s') (.slice A4 n4 c4) (.bool z) (.slice A3 n3 c3))
  all_goals first
   |exact⟨w3.heap.size,w3.heap.size+1,rfl,rfl,J,J,J,WP t1,WP t2,(((Below.refl _ _).alloc (PP _) _).alloc I _).drew⟩
   |exact⟨w3.heap.size+1,w3.heap.size,rfl,rfl,J,J,J,WP t4,WP t3,(((Below.refl _ _).alloc (PP _) _).alloc I _).drew⟩
 case rest =>
  obtain⟨g,g',rfl,rfl,hgg,hg1,hg2,G0,G1,hbx⟩:=hcut;have Yn:=O7.trans (hbx.mono O7.size);obtain⟨xA,q01,FE,FH,m0⟩:=G0.out.two;obtain⟨ow,NA,f10,f11,m1⟩:=G1.out.two;obtain⟨_,v11,_,_,_⟩:=(E1.out.below hbx).two;have hgd:z=true→¬0 < n4:=fun e=>by
   rcases zx.out with h | h
   ·rw[h]at e;cases e
   ·have:=uf.out;rw[h]at this;simp[j6.rJ]at this;omega
  have K0:=G0;have K1:=G1;have dK:=Yn;have FI:=WP (rO z A3 n3 c3 _ wc.drew (hs3.below hbx).ma J (ht.below dK.drew));have FJ:Hid (∀w7,Below wc.drew.heap.size wc.drew w7→Calls prog 256 #[.agg #[.bool s',.slice A4 n4 c4]] w7 (bD (bC s' (x.natAbs % y.natAbs)) w7)):=fun w7 h7=>rO s' A4 n4 c4 _ w7 ((hs4.below hbx).ma.below h7) J (ht.below (dK.drew.trans (h7.mono dK.drew.size)))
  have HGD:=WP hgd;clear hgd;by_cases xB:z=true
  ·have EO:n4=0:=by have:=HGD.out xB;omega
   subst EO;subst xB
   go_upto_region 9 with (fail)
   go_region_held3 (fun w'=>w'.cell? ⟨g,0,none⟩=some (.bool true)∧w'.cell? ⟨g,1,none⟩=some (.slice A3 n3 c3)∧w'.cell? ⟨g',0,none⟩=some (.bool s')∧w'.cell? ⟨g',1,none⟩=some (.slice A4 0 c4)) (go_keep)
    (first | (go_at_call 256;((with_reducible refine FI.out.mono ?_));rintro e w7 ⟨rfl,X9⟩;obtain⟨NB,NC,_,_,_⟩:=(K0.out.drew.below X9).two;obtain⟨t10,t11,_,_,_⟩:=(K1.out.drew.below X9).two;have Ac:=WP (FJ.out w7 X9)) | (go_at_call 256;((with_reducible refine Ac.out.mono ?_));rintro e w8 ⟨rfl,jf⟩;obtain⟨Zx,Zy,_,_,_⟩:=((K0.out.drew.below X9).below jf).two;obtain⟨Zz,ZA,_,_,_⟩:=((K1.out.drew.below X9).below jf).two))
   go_wp2;go_ret2;exact⟨by rw[←HQ.out,←HR.out];rfl,(dK.drew.trans (X9.mono dK.drew.size)).trans (jf.mono (dK.drew.trans (X9.mono dK.drew.size)).size)⟩
  ·have ND:z=false:=by cases z <;> simp_all
   subst ND
   go_upto_region 9 with (fail)
   go_region_held3 (fun w'=>w'.cell? ⟨g,0,none⟩=some (.bool false)∧w'.cell? ⟨g,1,none⟩=some (.slice A3 n3 c3)∧w'.cell? ⟨g',0,none⟩=some (.bool s')∧w'.cell? ⟨g',1,none⟩=some (.slice A4 n4 c4)) (go_keep)
    (first | (go_at_call 256;((with_reducible refine FI.out.mono ?_));rintro e w7 ⟨rfl,X9⟩;obtain⟨NB,NC,_,_,_⟩:=(K0.out.drew.below X9).two;obtain⟨t10,t11,_,_,_⟩:=(K1.out.drew.below X9).two;have Ac:=WP (FJ.out w7 X9)) | (go_at_call 256;((with_reducible refine Ac.out.mono ?_));rintro e w8 ⟨rfl,jf⟩;obtain⟨Zx,Zy,_,_,_⟩:=((K0.out.drew.below X9).below jf).two;obtain⟨Zz,ZA,_,_,_⟩:=((K1.out.drew.below X9).below jf).two))
   go_wp2;go_ret2;exact⟨by rw[←HQ.out,←HR.out];rfl,(dK.drew.trans (X9.mono dK.drew.size)).trans (jf.mono (dK.drew.trans (X9.mono dK.drew.size)).size)⟩
theorem a2Q(a b:lw)(w:World)(ha:a.length≤2400000)(hb:b.length≤2400000)(ht:R9 w)(x y:Int)(hxv:j6.x9 a=x)(hyv:j6.x9 b=y)(hy0:y≠0)(s s' z:Bool)(hsd:decide (x < 0)=s)(bn:decide (y < 0)=s')
  (hz:(!(s == s'))=z) (hcase:z=true∧x.natAbs % y.natAbs≠0) (q r:lw) (HQ:Hid (bC z (x.natAbs / y.natAbs+1)=q)) (HR:Hid (bC s' (y.natAbs - x.natAbs % y.natAbs)=r)) :
  Calls prog 235 #[.string ⟨a.toArray⟩,.string ⟨b.toArray⟩] w (eu q r w):=by
 have U2:Hid (∀w',Calls prog 255 #[.string ⟨a.toArray⟩] w' (gZ (a.length+1) x w')):=fun w'=>by have:=gX a w' J;rwa [hxv]at this
 have S9:Hid (∀w',Calls prog 255 #[.string ⟨b.toArray⟩] w' (gZ (b.length+1) y w')):=fun w'=>by have:=gX b w' J;rwa [hyv]at this
 have dh:=WP hsd;have gm:=WP bn;have hyp:0 < y.natAbs:=J;obtain⟨rfl,hrz⟩:=hcase;have HRZ:=WP hrz;clear hrz;clear hsd bn hxv hyv
 go_enter func235,ntmps235
 go_wp2_with fail
 refine (U2.out _).mono ?_;rintro e w1 ⟨A1,n1,c1,rfl,hs1,hn1,hb1⟩;rw[dh.out]
 go_wp2_with fail
 refine (S9.out _).mono ?_;rintro e w2 ⟨A2,n2,c2,rfl,hs2,hn2,hb2⟩;rw[gm.out];have hbw2:=hb1.trans (hb2.mono hb1.size);have EM:((n2:Int) == 0)=false:=by rw[IR];intro e;exact hy0 ((Hy hs2.len).1 J)
 clear hy0
 go_wp2_with fail
 obtain⟨B0,B1,hbW⟩:=CF w2 278 (.bool s) (.slice A1 n1 c1) (.bool s') (.slice A2 n2 c2);generalize ((w2.alloc (.cells #[.bool s,.slice A1 n1 c1] 278)).alloc (.cells #[.bool s',.slice A2 n2 c2] 278))=W at *;have qx:=hbw2.trans (hbW.mono hbw2.size);have hsA:=(hs1.below hb2).below hbW;have hsB:=hs2.below hbW;have hl1:=hsA.len;have hl2:=hsB.len;have hlq:=OT (b:=y.natAbs) hl1;have hlr:=He (a:=x.natAbs) hyp hl2;clear hl1 hl2;refine (Im A1 A2 n1 n2 c1 c2 _ _ W hsA hsB J J hyp).mono ?_;rintro e w3 ⟨A3,n3,c3,A4,n4,c4,rfl,hs3,hs4,hb3⟩;have O7:=qx.trans (hb3.mono qx.size);have gG:n3≤n1:=by rw[←hs3.len];exact hlq
 have oz:n4≤n2:=by rw[←hs4.len];exact hlr
 have uf:=WP hs4.len;have E0:=WP (B0.out.below hb3);have E1:=WP (B1.out.below hb3);obtain⟨AR,AU,_,_,l0⟩:=E0.out.two;obtain⟨AX,AY,_,_,l1⟩:=E1.out.two;have EN:=hsB.below hb3;clear B0 B1
 go_upto_region 5 with (fail)
 go_cut [10,11] (fun s10 s11 wx=>∃g g':Nat,s10=.pointer (some ⟨g,0,none⟩)∧s11=.pointer (some ⟨g',0,none⟩)∧g≠g'∧w3.heap.size≤g∧w3.heap.size≤g'∧Hid (D5 wx g 278 #[.bool true,.slice A3 n3 c3])∧Hid (D5 wx g' 278 #[.bool s',.slice A4 n4 c4])∧Below w3.heap.size w3 wx)
 case first =>
  go_region
  all_goals (go_wp2_with fail;go_meet)
  all_goals (go_wp2_with fail)
  all_goals (obtain⟨t1,t2⟩:=Dk w3 278 (.bool true) (.slice A3 n3 c3) (.bool s') (.slice A4 n4 c4))
  all_goals (obtain⟨t3,t4⟩:=Dk w3 278 (.bool s') (.slice A4 n4 c4) (.bool true) (.slice A3 n3 c3))
  all_goals first
   |exact⟨w3.heap.size,w3.heap.size+1,rfl,rfl,J,J,J,WP t1,WP t2,(((Below.refl _ _).alloc (PP _) _).alloc I _).drew⟩
   |exact⟨w3.heap.size+1,w3.heap.size,rfl,rfl,J,J,J,WP t4,WP t3,(((Below.refl _ _).alloc (PP _) _).alloc I _).drew⟩
 case rest =>
  obtain⟨g,g',rfl,rfl,hgg,hg1,hg2,G0,G1,hbx⟩:=hcut;have Yn:=O7.trans (hbx.mono O7.size);obtain⟨xA,q01,FE,FH,m0⟩:=G0.out.two;obtain⟨ow,NA,f10,f11,m1⟩:=G1.out.two;obtain⟨_,v11,_,_,_⟩:=(E1.out.below hbx).two;have EO:0 < n4:=by
   rcases Zaa n4 with h | h
   ·exfalso
    have:=uf.out;rw[h]at this;exact HRZ.out ((j6.mX J).1 (q9 this))
   ·exact h
  have NF:=QZ A3 (some ⟨wc.heap.size,0,none⟩) n3 1 c3 1 _ [1] (wc.alloc (.cells #[.int .u32 1] 267)) ((hs3.below hbx).alloc _) (Sl.one wc .u32 267 1) J J (j6.N7 J _) (j6.Small.cons J j6.Small.nil);rw[j6.H8 J,show j6.y8 1000000000 [1]=1 by decide]at NF
  have HPl:=WP NF;clear NF;have hl3:=OQ (b:=1) (n':=1) hs3.len O;have hlen3:n4≤n2:=oz;have HMn:Hid (∀V,Below w3.heap.size w3 V→Calls prog 266 #[.slice A2 n2 c2,.slice A4 n4 c4] V (dV .u32 (j6.limbs 1000000000 (y.natAbs - x.natAbs % y.natAbs)) V)):=fun V hV=>by
   have:=CJ A2 A4 n2 n4 c2 c4 _ _ V (EN.below hV) (hs4.below hV) J hlen3 (j6.N7 J _) (j6.N7 J _) (by rw[j6.H8 J,j6.H8 J];exact Nat.le_of_lt (Nat.mod_lt _ hyp))
   rwa [j6.H8 J,j6.H8 J]at this
  go_upto_region 7 with (fail)
  go_wp2_with fail
  refine HPl.out.mono ?_;rintro e w5 ⟨A5,n5,c5,rfl,hs5,hb5,AQ⟩;have EP:=((Below.refl wc.heap.size wc).alloc (PP _) (.cells #[.int .u32 1] 267)).trans (hb5.mono I);have ZB:=WP (G0.out.below EP);have ZC:=WP (G1.out.below EP);have ZE:=WP ((E1.out.below hbx).below EP);obtain⟨a00,a01,b00,b01,m2⟩:=ZB.out.two;obtain⟨a10,a11,b10,b11,m3⟩:=ZC.out.two;obtain⟨_,v51,_,_,m4⟩:=ZE.out.two;have Yo:Below w3.heap.size w3 (w5.setCell ⟨g,1,none⟩ (.slice A5 n5 c5)):=(hbx.trans (EP.mono hbx.size)).setCell (p:=⟨g,1,none⟩) hg1 _;have H0:=WP (Ym (v':=.slice A5 n5 c5) ZB.out);have H1:=WP (ZC.out.far (p:=⟨g,1,none⟩) (ZaJ hgg) (.slice A5 n5 c5));have HE:=WP (ZE.out.far (p:=⟨g,1,none⟩) (show w2.heap.size+1≠g by omega) (.slice A5 n5 c5));have b4O:=hs5.far (p:=⟨g,1,none⟩) (fun b o e=>by have:=AQ b o e;rw[World.size_alloc]at this;show b≠g;omega) (.slice A5 n5 c5);have kQ:Below w.heap.size w (w5.setCell ⟨g,1,none⟩ (.slice A5 n5 c5)):=O7.trans (Yo.mono O7.size);have ZF:n5≤n3+2:=by rw[←hs5.len];exact hl3
  clear xA q01 FE FH ow NA f10 f11 G0 G1
  go_wp2_with fail
  generalize (w5.setCell ⟨g,1,none⟩ (.slice A5 n5 c5))=V at *;obtain⟨_,v61,_,_,m5⟩:=HE.out.two;obtain⟨_,_,_,_,m6⟩:=H0.out.two;obtain⟨_,_,_,_,m7⟩:=H1.out.two;refine (HMn.out V Yo).mono ?_;rintro e w6 ⟨A6,n6,c6,rfl,hs6,hb6,hf6⟩;have J0:=WP (H0.out.below hb6);have J1:=WP (H1.out.below hb6);obtain⟨_,_,_,_,_⟩:=J0.out.two;obtain⟨_,d11,_,e11,m8⟩:=J1.out.two;have K0:=WP (J0.out.far (p:=⟨g',1,none⟩) hgg (.slice A6 n6 c6));have K1:=WP (Ym (v':=.slice A6 n6 c6) J1.out);have hs7:=hs6.far (p:=⟨g',1,none⟩) (fun b o e=>by have:=hf6 b o e;show b≠g';omega) (.slice A6 n6 c6);have ZG:=(b4O.below hb6).far (p:=⟨g',1,none⟩) (fun b o e=>by have:=AQ b o e;rw[World.size_alloc]at this;show b≠g';omega) (.slice A6 n6 c6);have dK:Below w.heap.size w (w6.setCell ⟨g',1,none⟩ (.slice A6 n6 c6)):=(kQ.trans (hb6.mono kQ.size)).setCell (p:=⟨g',1,none⟩) (by have:=O7.size;show w.heap.size≤g';omega) _;have hn6:n6≤n2:=by
   rw[←hs6.len,←hsB.len];exact j6.aS J (Nat.sub_le _ _)
  go_upto_region 9 with (fail)
  generalize (w6.setCell ⟨g',1,none⟩ (.slice A6 n6 c6))=U at *;obtain⟨Zt,Zu,_,_,_⟩:=K0.out.two;obtain⟨Zv,Zw,_,_,_⟩:=K1.out.two;have FI:=WP (rO true A5 n5 c5 _ U.drew ZG.ma J (ht.below dK.drew));have FJ:Hid (∀w7,Below U.drew.heap.size U.drew w7→Calls prog 256 #[.agg #[.bool s',.slice A6 n6 c6]] w7 (bD (bC s' (y.natAbs - x.natAbs % y.natAbs)) w7)):=fun w7 h7=>rO s' A6 n6 c6 _ w7 (hs7.ma.below h7) J (ht.below (dK.drew.trans (h7.mono dK.drew.size)))
  go_region_held3 (fun w'=>w'.cell? ⟨g,0,none⟩=some (.bool true)∧w'.cell? ⟨g,1,none⟩=some (.slice A5 n5 c5)∧w'.cell? ⟨g',0,none⟩=some (.bool s')∧w'.cell? ⟨g',1,none⟩=some (.slice A6 n6 c6)) (go_keep)
   (first | (go_at_call 256;((with_reducible refine FI.out.mono ?_));rintro e w7 ⟨rfl,X9⟩;obtain⟨NB,NC,_,_,_⟩:=(K0.out.drew.below X9).two;obtain⟨t10,t11,_,_,_⟩:=(K1.out.drew.below X9).two;have Ac:=WP (FJ.out w7 X9)) | (go_at_call 256;((with_reducible refine Ac.out.mono ?_));rintro e w8 ⟨rfl,jf⟩;obtain⟨Zx,Zy,_,_,_⟩:=((K0.out.drew.below X9).below jf).two;obtain⟨Zz,ZA,_,_,_⟩:=((K1.out.drew.below X9).below jf).two))
  go_wp2;go_ret2;exact⟨by rw[←HQ.out,←HR.out];rfl,(dK.drew.trans (X9.mono dK.drew.size)).trans (jf.mono (dK.drew.trans (X9.mono dK.drew.size)).size)⟩
theorem yz(a b:lw)(w:World)(ha:a.length≤2400000)(hb:b.length≤2400000)(ht:R9 w) :
  Calls prog 235 #[.string ⟨a.toArray⟩,.string ⟨b.toArray⟩] w (eu (Lib.itoa (qd (j6.x9 a) (j6.x9 b))) (Lib.itoa (rm (j6.x9 a) (j6.x9 b))) w):=by
 by_cases hy:j6.x9 b=0
 ·have:=a2P a b w ha hb hy;rw[hy,Tj,Tk,j6.gW];exact this
 ·generalize hx:j6.x9 a=x;generalize hyv:j6.x9 b=y at hy;cases hs:decide (y < 0) with
  |_ =>
   by_cases hd:decide (x < 0)=decide (y < 0)
   ·obtain⟨h1,h2⟩:=Tn hy (hd.trans hs) hs;exact Qw a b w ha hb ht x y hx hyv hy _ _ false (hd.trans hs) hs I (.inl rfl) _ _ (WP (fM (by simpa using h1))) (WP (fM h2))
   ·have hd':decide (x < 0)=!(decide (y < 0)):=by cases h1:decide (x < 0) <;> cases h2:decide (y < 0) <;> simp_all
    rw[hs]at hd';by_cases h0:x.natAbs % y.natAbs=0
    ·obtain⟨h1,h2⟩:=Rj hy hd' hs h0;exact Qw a b w ha hb ht x y hx hyv hy _ _ true hd' hs I (.inr h0) _ _ (WP (fM (by simpa using h1))) (WP (by rw[h0,Cu,h2,j6.gW]))
    ·obtain⟨h1,h2⟩:=Tp hy hd' hs h0;exact a2Q a b w ha hb ht x y hx hyv hy _ _ true hd' hs I ⟨rfl,h0⟩ _ _ (WP (fM (by simpa using h1))) (WP (fM h2))
theorem a1L(s:Bool)(A:Option Addr)(n c:Nat)(w:World):(Instr.field 278 (.agg #[.bool s,.slice A n c]) 1).run prog w=.ok (.slice A n c) w:=by kernel_rfl
theorem Rk(a b:lw)(w:World)(ha:a.length≤2400000)(hb:b.length≤2400000)(ht:R9 w) :
  Calls prog 282 #[.string ⟨a.toArray⟩,.string ⟨b.toArray⟩] w (bD (Lib.itoa (Nat.gcd (j6.x9 a).natAbs (j6.x9 b).natAbs:Nat)) w):=by
 have U2:Hid (∀w',Calls prog 255 #[.string ⟨a.toArray⟩] w' (gZ (a.length+1) (j6.x9 a) w')):=fun w'=>gX a w' J
 have S9:Hid (∀w',Calls prog 255 #[.string ⟨b.toArray⟩] w' (gZ (b.length+1) (j6.x9 b) w')):=fun w'=>gX b w' J
 generalize j6.x9 a=x at *;generalize j6.x9 b=y at *;generalize hG:Nat.gcd x.natAbs y.natAbs=G;have HG:=WP hG;clear hG;have hfl:=a1L
 go_enter func282,ntmps282
 go_wp2_with fail
 refine (U2.out _).mono ?_;rintro e w1 ⟨A1,n1,c1,rfl,hs1,hn1,hb1⟩
 go_wp2_with fail
 refine (S9.out _).mono ?_;rintro e w2 ⟨A2,n2,c2,rfl,hs2,hn2,hb2⟩;have hbw2:=hb1.trans (hb2.mono hb1.size)
 go_wp2_with fail
 go_loopg [5,6] y.natAbs (fun kx s5 s6 wr=>∃(A B:Option Addr) (n c m d u v:Nat),s5=.slice A n c∧s6=.slice B m d∧Sl wr .u32 A n c (j6.limbs 1000000000 u)∧Sl wr .u32 B m d (j6.limbs 1000000000 v)∧n≤2400001∧m≤2400001∧v≤kx∧Hid (Nat.gcd u v=G)∧Below w.heap.size w wr)
 case atStart=>exact⟨A1,A2,n1,c1,n2,c2,_,_,rfl,rfl,hs1.below hb2,hs2,J,J,PP _,HG,hbw2⟩
 case round =>
  obtain⟨A,B,n,c,m,d,u,v,rfl,rfl,hu,hv,hn,hm,hk,AZ,hb⟩:=hrel;by_cases hm0:0 < m
  ·have hv0:0 < v:=by
    rcases Zaa v with e | e
    ·subst e;have:=hv.len;rw[j6.rJ]at this;simp at this;omega
    ·exact e
   have hlr:=He (a:=u) hv0 hv.len;have iF:=Nat.mod_lt u hv0;have NG:Hid (Nat.gcd v (u % v)=G):=by show _=_;rw[←AZ.out,Nat.gcd_comm v,←Nat.gcd_rec,Nat.gcd_comm]
   have xC:=WP (Im A B n m c d u v wr hu hv J J hv0)
   go_wp2_with (go_at_call 264;refine xC.out.mono ?_;rintro e w3 ⟨A3,n3,c3,A4,n4,c4,rfl,hs3,hs4,hb3⟩;have oz:n4≤m:=(by rw[←hs4.len];exact hlr))
   go_roundg (u % v)
   case measure=>omega
   case rel=>exact⟨B,A4,m,d,n4,c4,v,u % v,rfl,rfl,hv.below hb3,hs4,hm,J,PP _,NG,hb.trans (hb3.mono hb.size)⟩
  ·have hv0:v=0:=(j6.mX (B:=1000000000) J).1 (q9 (by rw[hv.len];omega));subst hv0;have HE:Hid (bC false u=Lib.itoa (G:Int)):=by show _=_;rw[←AZ.out,Nat.gcd_zero_right];rfl
   go_wp2_with fail
   refine (rO false A n c u _ hu J (ht.below hb)).mono ?_;rintro e w3 ⟨rfl,hb3⟩;rw[HE.out];go_wp2;go_ret;exact⟨rfl,hb.trans (hb3.mono hb.size)⟩
def jg(x y:Int):Int:=if y < 0 then -x else x
def ug(y:Int):Int:=if y < 0 then -y else y
def aj(x y:Int):Int:=if y=0 then 0 else qd (jg x y) (Nat.gcd x.natAbs y.natAbs:Nat)
def ak(x y:Int):Int:=if y=0 then 1 else qd (ug y) (Nat.gcd x.natAbs y.natAbs:Nat)
theorem vV(x:Int):qd x 1=x:=by simp[qd]
theorem vB:Lib.itoa 1=[49]:=by decide +kernel
theorem Cv{v:Int}:(Lib.itoa v == [49])=decide (v=1):=by
 rw[←vB];by_cases h:v=1
 ·subst h;simp
 ·rw[WF h,IR];exact fun e=>h (j6.yu e)
theorem Qx(l:lw):(Lib.itoa (j6.x9 l)).length≤l.length+1:=by rw[←norm_eq];exact lF l
theorem Tq{K:Nat}{x y:Int}(hK:1≤K)(hx:x.natAbs < 10 ^ K)(hy:y.natAbs < 10 ^ K):(Lib.itoa (Nat.gcd x.natAbs y.natAbs:Nat)).length≤K+1:=by
 have h:Nat.gcd x.natAbs y.natAbs < 10 ^ K:=by
  rcases Zaa x.natAbs with h1 | h1
  ·rw[h1,Nat.gcd_zero_left];exact hy
  ·exact Nat.lt_of_le_of_lt (Nat.gcd_le_left _ h1) hx
 exact iP ((Nat.gcd x.natAbs y.natAbs:Nat):Int) hK (by rw[Int.natAbs_natCast];exact h)
theorem Ic(a b:lw)(w:World)(ha:a.length≤1100000)(hb:b.length≤1100000)(ht:R9 w) :
    Calls prog 257 #[.string ⟨a.toArray⟩,.string ⟨b.toArray⟩] w (eu (Lib.itoa (aj (j6.x9 a) (j6.x9 b))) (Lib.itoa (ak (j6.x9 a) (j6.x9 b))) w):=by
  have oC:=rG a w J;have Ba:∀w',Calls prog 261 #[.string ⟨b.toArray⟩] w' fun e w''=>e=.returned (.string ⟨(norm b).toArray⟩)∧w'=w'':=fun w'=>rG b w' J
  rw[norm_eq]at oC;simp only[norm_eq]at Ba;have hla:=Qx a;have hlb:=Qx b;have qF:=jC (l:=a) (k:=a.length+b.length+1) J;have hbb:=jC (l:=b) (k:=a.length+b.length+1) J;generalize j6.x9 a=x at *;generalize j6.x9 b=y at *;have Yp:(Lib.itoa (Nat.gcd x.natAbs y.natAbs:Nat)).length≤2300000:=by have:=Tq J qF hbb;omega
  have hnx:=iP (-x) (k:=a.length+b.length+1) J (by rw[Int.natAbs_neg];exact qF);have hny:=iP (-y) (k:=a.length+b.length+1) J (by rw[Int.natAbs_neg];exact hbb);have HA:=WP oC;have HB:=WP Ba;clear oC Ba qF hbb;by_cases hy0:y=0
  · subst hy0
    have oD:Hid (aj x 0=0):=rfl;have jh:Hid (ak x 0=1):=rfl;have hz:=j6.gW;rw[hz]at HB;clear hz
    go_enter func257,ntmps257
    go_wp2_with fail
    refine HA.out.mono ?_;rintro e w' ⟨rfl,rfl⟩
    go_wp2_with fail
    refine (HB.out _).mono ?_;rintro e w' ⟨rfl,rfl⟩;go_wp2;go_ret2;exact⟨by rw[oD.out,jh.out,j6.gW,vB];rfl,Below.refl _ _⟩
  obtain⟨D1,hD1⟩:∃D1:ByteArray,D1=⟨(Lib.itoa x).toArray⟩:=⟨_,rfl⟩;obtain⟨D2,hD2⟩:∃D2:ByteArray,D2=⟨(Lib.itoa y).toArray⟩:=⟨_,rfl⟩;rw[←hD1]at HA;rw[←hD2]at HB;have HT2:Hid (D2.data.toList=Lib.itoa y):=by rw[hD2];exact (rfl:(Lib.itoa y).toArray.toList=_)
  have HD1:=WP hD1;have HD2:=WP hD2;clear hD1 hD2;have hE0:(D2.toList == [48])=false:=by rw[ZaO,HT2.out];simpa using Pm hy0
  by_cases hy1:y=1
  · subst hy1
    have hE1:(D2.toList == [49])=true:=by rw[ZaO,HT2.out,vB];rfl
    have oD:Hid (aj x 1=x):=by show _=_;simp[aj,jg,vV]
    have jh:Hid (ak x 1=1):=by show _=_;simp[ak,ug,vV]
    go_enter func257,ntmps257
    go_wp2_with fail
    refine HA.out.mono ?_;rintro e w' ⟨rfl,rfl⟩
    go_wp2_with fail
    refine (HB.out _).mono ?_;rintro e w' ⟨rfl,rfl⟩;go_wp2;go_ret2;exact⟨by rw[oD.out,jh.out,←HD1.out,←HD2.out];rfl,Below.refl _ _⟩
  have hE1:(D2.toList == [49])=false:=by rw[ZaO,HT2.out,Cv,WF hy1]
  by_cases hn:y < 0
  · obtain⟨hp,e0⟩:=CE (HT2.out.trans (rH hn))
    have nU:((D2[0].toNat:Int) == 45)=true:=by rw[e0];rfl
    have ZH:Hid (∀w',Calls prog 263 #[.string D1] w' (lM (.string ⟨(Lib.itoa (-x)).toArray⟩) w')):=fun w'=>by
      have:=Io (Lib.itoa x) w' J;rw[j6.M7]at this;rw[HD1.out];exact this
    have ZI:Hid (∀w',Calls prog 263 #[.string D2] w' (lM (.string ⟨(Lib.itoa (-y)).toArray⟩) w')):=fun w'=>by
      have:=Io (Lib.itoa y) w' J;rw[j6.M7]at this;rw[HD2.out];exact this
    have ME:Hid (aj x y=qd (-x) (Nat.gcd x.natAbs y.natAbs:Nat)):=by show _=_;simp[aj,jg,hy0,hn]
    have MF:Hid (ak x y=qd (-y) (Nat.gcd x.natAbs y.natAbs:Nat)):=by show _=_;simp[ak,ug,hy0,hn]
    have MG:Hid (Nat.gcd (-x).natAbs (-y).natAbs=Nat.gcd x.natAbs y.natAbs):=by show _=_;rw[Int.natAbs_neg,Int.natAbs_neg]
    have Bb:(Lib.itoa (-x)).length≤2400000:=J;have Bc:(Lib.itoa (-y)).length≤2400000:=J;clear e0 hy0 hy1 hn;generalize -x=X at *;generalize -y=Y at *;have mF:=WP (Rk (Lib.itoa X) (Lib.itoa Y) w Bb Bc ht);rw[j6.M7,j6.M7]at mF;have ZJ:Hid (Nat.gcd X.natAbs Y.natAbs=Nat.gcd x.natAbs y.natAbs):=MG;rw[ZJ.out]at mF;have hgl:(Lib.itoa (Nat.gcd x.natAbs y.natAbs:Nat)).length≤2300000:=Yp;have hone:=Cv (v:=(Nat.gcd x.natAbs y.natAbs:Nat));have NH:Hid (∀w',R9 w'→Calls prog 235 #[.string ⟨(Lib.itoa X).toArray⟩,.string ⟨(Lib.itoa (Nat.gcd x.natAbs y.natAbs:Nat)).toArray⟩] w' (eu (Lib.itoa (qd X (Nat.gcd x.natAbs y.natAbs:Nat))) (Lib.itoa (rm X (Nat.gcd x.natAbs y.natAbs:Nat))) w')):=fun w' ht'=>by
      have:=yz (Lib.itoa X) (Lib.itoa (Nat.gcd x.natAbs y.natAbs:Nat)) w' Bb J ht'
      rwa [j6.M7,j6.M7]at this
    have NI:Hid (∀w',R9 w'→Calls prog 235 #[.string ⟨(Lib.itoa Y).toArray⟩,.string ⟨(Lib.itoa (Nat.gcd x.natAbs y.natAbs:Nat)).toArray⟩] w' (eu (Lib.itoa (qd Y (Nat.gcd x.natAbs y.natAbs:Nat))) (Lib.itoa (rm Y (Nat.gcd x.natAbs y.natAbs:Nat))) w')):=fun w' ht'=>by
      have:=yz (Lib.itoa Y) (Lib.itoa (Nat.gcd x.natAbs y.natAbs:Nat)) w' Bc J ht'
      rwa [j6.M7,j6.M7]at this
    have oD:Hid (aj x y=qd X (Nat.gcd x.natAbs y.natAbs:Nat)):=ME;have jh:Hid (ak x y=qd Y (Nat.gcd x.natAbs y.natAbs:Nat)):=MF;generalize Nat.gcd x.natAbs y.natAbs=G at *;by_cases hG1:(G:Int)=1
    · have MH:Hid (aj x y=X):=by show _=_;rw[oD.out,hG1,vV]
      have MI:Hid (ak x y=Y):=by show _=_;rw[jh.out,hG1,vV]
      rw[Pi hG1]at hone;clear hG1
      go_enter func257,ntmps257
      go_wp2_with fail
      refine HA.out.mono ?_;rintro e w' ⟨rfl,rfl⟩
      go_wp2_with fail
      refine (HB.out _).mono ?_;rintro e w' ⟨rfl,rfl⟩
      go_wp2_with fail
      refine (ZH.out _).mono ?_;rintro e w' ⟨rfl,rfl⟩
      go_wp2_with fail
      refine (ZI.out _).mono ?_;rintro e w' ⟨rfl,rfl⟩
      go_wp2_with fail
      refine mF.out.mono ?_;rintro e w1 ⟨rfl,hb1⟩;go_wp2;go_ret2;exact⟨by rw[MH.out,MI.out];rfl,hb1⟩
    · rw[WF hG1]at hone
      clear hG1
      go_enter func257,ntmps257
      go_wp2_with fail
      refine HA.out.mono ?_;rintro e w' ⟨rfl,rfl⟩
      go_wp2_with fail
      refine (HB.out _).mono ?_;rintro e w' ⟨rfl,rfl⟩
      go_wp2_with fail
      refine (ZH.out _).mono ?_;rintro e w' ⟨rfl,rfl⟩
      go_wp2_with fail
      refine (ZI.out _).mono ?_;rintro e w' ⟨rfl,rfl⟩
      go_wp2_with fail
      refine mF.out.mono ?_;rintro e w1 ⟨rfl,hb1⟩
      go_wp2_with fail
      refine (NH.out _ (ht.below hb1)).mono ?_;rintro e w2 ⟨rfl,hb2⟩;have hbw2:=hb1.trans (hb2.mono hb1.size)
      go_wp2_with fail
      refine (NI.out _ (ht.below hbw2)).mono ?_;rintro e w3 ⟨rfl,hb3⟩;go_wp2;go_ret2;exact⟨by rw[oD.out,jh.out];rfl,hbw2.trans (hb3.mono hbw2.size)⟩
  · obtain⟨c,r,hcr,_⟩:=j6.uS (u:=y.natAbs) J
    have hD3:D2.data.toList=c::r:=by rw[HT2.out,uW J,hcr]
    obtain⟨hp,e0⟩:=CE hD3;have h45:c≠45:=j6.xZ (r:=r) (by rw[←hcr];exact j6.rF _);have nU:((D2[0].toNat:Int) == 45)=false:=by
      rw[e0,IR];intro e;exact h45 (UInt8.toNat_inj.1 (by
                                       have:c.toNat=45:=J;simpa using this))
    have ME:Hid (aj x y=qd x (Nat.gcd x.natAbs y.natAbs:Nat)):=by show _=_;simp[aj,jg,hy0,hn]
    have MF:Hid (ak x y=qd y (Nat.gcd x.natAbs y.natAbs:Nat)):=by show _=_;simp[ak,ug,hy0,hn]
    have MG:Hid (Nat.gcd x.natAbs y.natAbs=Nat.gcd x.natAbs y.natAbs):=(rfl:Nat.gcd x.natAbs y.natAbs=_);have Bb:(Lib.itoa x).length≤2400000:=J;have Bc:(Lib.itoa y).length≤2400000:=J;clear e0 hy0 hy1 hn hD3 h45 hcr;have mF:=WP (Rk (Lib.itoa x) (Lib.itoa y) w Bb Bc ht);rw[j6.M7,j6.M7]at mF;have ZJ:Hid (Nat.gcd x.natAbs y.natAbs=Nat.gcd x.natAbs y.natAbs):=MG;have mF:=WP (show Calls prog 282 #[.string D1,.string D2] w (bD (Lib.itoa (Nat.gcd x.natAbs y.natAbs:Nat)) w) by rw[HD1.out,HD2.out];exact mF.out);have hgl:(Lib.itoa (Nat.gcd x.natAbs y.natAbs:Nat)).length≤2300000:=Yp;have hone:=Cv (v:=(Nat.gcd x.natAbs y.natAbs:Nat));have NH:Hid (∀w',R9 w'→Calls prog 235 #[.string D1,.string ⟨(Lib.itoa (Nat.gcd x.natAbs y.natAbs:Nat)).toArray⟩] w' (eu (Lib.itoa (qd x (Nat.gcd x.natAbs y.natAbs:Nat))) (Lib.itoa (rm x (Nat.gcd x.natAbs y.natAbs:Nat))) w')):=fun w' ht'=>by
      have:=yz (Lib.itoa x) (Lib.itoa (Nat.gcd x.natAbs y.natAbs:Nat)) w' Bb J ht';rw[j6.M7,j6.M7]at this;rw[HD1.out];exact this
    have NI:Hid (∀w',R9 w'→Calls prog 235 #[.string D2,.string ⟨(Lib.itoa (Nat.gcd x.natAbs y.natAbs:Nat)).toArray⟩] w' (eu (Lib.itoa (qd y (Nat.gcd x.natAbs y.natAbs:Nat))) (Lib.itoa (rm y (Nat.gcd x.natAbs y.natAbs:Nat))) w')):=fun w' ht'=>by
      have:=yz (Lib.itoa y) (Lib.itoa (Nat.gcd x.natAbs y.natAbs:Nat)) w' Bc J ht';rw[j6.M7,j6.M7]at this;rw[HD2.out];exact this
    have oD:Hid (aj x y=qd x (Nat.gcd x.natAbs y.natAbs:Nat)):=ME;have jh:Hid (ak x y=qd y (Nat.gcd x.natAbs y.natAbs:Nat)):=MF;generalize Nat.gcd x.natAbs y.natAbs=G at *;by_cases hG1:(G:Int)=1
    · have MH:Hid (aj x y=x):=by show _=_;rw[oD.out,hG1,vV]
      have MI:Hid (ak x y=y):=by show _=_;rw[jh.out,hG1,vV]
      rw[Pi hG1]at hone;clear hG1
      go_enter func257,ntmps257
      go_wp2_with fail
      refine HA.out.mono ?_;rintro e w' ⟨rfl,rfl⟩
      go_wp2_with fail
      refine (HB.out _).mono ?_;rintro e w' ⟨rfl,rfl⟩
      go_wp2_with fail
      refine mF.out.mono ?_;rintro e w1 ⟨rfl,hb1⟩;go_wp2;go_ret2;exact⟨by rw[MH.out,MI.out,←HD1.out,←HD2.out];rfl,hb1⟩
    · rw[WF hG1]at hone
      clear hG1
      go_enter func257,ntmps257
      go_wp2_with fail
      refine HA.out.mono ?_;rintro e w' ⟨rfl,rfl⟩
      go_wp2_with fail
      refine (HB.out _).mono ?_;rintro e w' ⟨rfl,rfl⟩
      go_wp2_with fail
      refine mF.out.mono ?_;rintro e w1 ⟨rfl,hb1⟩
      go_wp2_with fail
      refine (NH.out _ (ht.below hb1)).mono ?_;rintro e w2 ⟨rfl,hb2⟩;have hbw2:=hb1.trans (hb2.mono hb1.size)
      go_wp2_with fail
      refine (NI.out _ (ht.below hbw2)).mono ?_;rintro e w3 ⟨rfl,hb3⟩;go_wp2;go_ret2;exact⟨by rw[oD.out,jh.out];rfl,hbw2.trans (hb3.mono hbw2.size)⟩
structure Num (k:Nat) (l:lw) (X:Int):Prop where
 val:j6.x9 l=X
 len:l.length≤k
theorem Num.abs{k:Nat}{l:lw}{X:Int}(h:Num k l X):X.natAbs < 10 ^ k:=by rw[←h.val];exact jC h.len
theorem Num.mul{k m:Nat}{l r:lw}{X Y:Int}(h:Num k l X)(h':Num m r Y):Num (k+m+2) (Lib.itoa (X * Y)) (X * Y):=by
 refine⟨j6.M7 _,iP _ (k:=k+m+1) J ?_⟩;rw[Int.natAbs_mul,ZaM,Nat.pow_add];have h1:=h.abs;have h2:=h'.abs;have:X.natAbs * Y.natAbs≤10 ^ k * 10 ^ m:=Nat.mul_le_mul J J;have:0 < 10 ^ k * 10 ^ m:=Nat.mul_pos (Nat.pow_pos J) (Nat.pow_pos J);omega
theorem Yq{k m:Nat}{l r:lw}{X Y:Int}(h:Num k l X)(h':Num m r Y)(hk:k≤100000)(hm:m≤100000)(w:World)(ht:R9 w) :
  Calls prog 225 #[.string ⟨l.toArray⟩,.string ⟨r.toArray⟩] w (bD (Lib.itoa (X * Y)) w):=by
 have:=Ri l r w (by have:=h.len;omega) (by have:=h'.len;omega) ht
 rwa [h.val,h'.val]at this
theorem Rl{k m:Nat}{l r:lw}{X Y V:Int}(h:Num k l X)(h':Num m r Y)(hk:k≤100000)(hm:m≤100000)(hv:fF X Y=V)(w:World) :
  Calls prog 262 #[.string ⟨l.toArray⟩,.string ⟨r.toArray⟩] w (lV V w):=by
 have:=a1o l r w (by have:=h.len;omega) (by have:=h'.len;omega)
 rwa [h.val,h'.val,hv]at this
theorem Pn:∀(l:lw) (a:Nat),j6.Q4 l=true→Lib.decFrom a l=some (l.foldl (fun a c=>a * 10+(c.toNat - 48)) a)
 |[],_,_=>rfl
 |c::r,a,h=>by
  simp only[j6.Q4,List.all_cons,Ce,j6.aU,rE]at h;have hd:Lib.digitVal c=some (c.toNat - 48):=by simp[Lib.digitVal,h.1]
  simp only[Lib.decFrom,hd,List.foldl_cons];exact Pn r _ (by simp only[j6.Q4];exact h.2)
theorem a1M{l:lw}(h:j6.Q4 l=true)(h0:l≠[]):Lib.decNat l=some (j6.O6 l):=by
 have:l.isEmpty=false:=by cases l with
  |nil=>exact absurd rfl h0
  |cons=>rfl
 simp only[Lib.decNat,this,ZaL,Zav];exact Pn l 0 h
theorem a2R(l:lw):Lib.atoi (norm l)=some (j6.x9 l):=by
 have h1:=(yw l).1;have h2:=(yw l).2.1;have hd:=IX l;rw[←IA l];generalize norm l=s at h1 h2 hd;have hn:=a1M h1 h2;simp only[j6.x9,hd,ZaG];cases eU:j6.neg s with
 |true =>
  have he:=j6.Ct eU;generalize j6.mag s=m at he hn;subst he;simp[Lib.atoi,hn]
 |false =>
  have he:=j6.uY eU;rw[he]at hn h1 h2 ⊢
  cases s with
  |nil=>exact absurd rfl h2
  |cons c r =>
   have h45:c≠45:=j6.xZ h1;have h43:c≠43:=by
    rintro rfl;simp[j6.Q4,j6.aU]at h1
   simp[Lib.atoi,hn,h45,h43]
theorem Po(l:lw):(norm l).length≤(j6.mag (norm l)).length+1:=by
 cases h:j6.neg (norm l) with
 |true=>have:=congrArg List.length (j6.Ct h);simp only[yM]at this;omega
 |false=>rw[j6.uY h];omega
def CX(n:Int)(b:Bool)(w:World)(e:Ending)(w':World):Prop:=e=.returned (.tuple #[.int .i64 n,.bool b])∧Below w.heap.size w w'
theorem a3T(l:lw)(w:World)(hl:l.length≤2500000)(h9:9 < (j6.mag (norm l)).length) :
  Calls prog 228 #[.string ⟨l.toArray⟩] w (CX 0 false w):=by
 have HD:=WP (xU l w hl);have hnl:=lF l;have iF:=j6.jA (norm l);generalize (j6.mag (norm l)).length=k at HD h9 iF
 go_enter func228,ntmps228
 go_wp2_with fail
 refine HD.out.mono ?_;rintro e w' ⟨rfl,rfl⟩;go_wp2;go_ret2;exact⟨rfl,Below.refl _ _⟩
theorem a2S(l:lw)(w:World)(hl:l.length≤2500000)(h9:(j6.mag (norm l)).length≤9) :
  Calls prog 228 #[.string ⟨l.toArray⟩] w (CX (j6.x9 l) true w):=by
 have HD:=WP (xU l w hl);have HE:=WP (rG l w J);have hln:=Po l;have HA:=WP (Tryz.strconv_Atoi ⟨(norm l).toArray⟩ (j6.x9 l) (by rw[Zad];show (norm l).length≤_;omega) (a2R l) w);generalize (j6.mag (norm l)).length=k at HD h9
 go_enter func228,ntmps228
 go_wp2_with fail
 refine HD.out.mono ?_;rintro e w' ⟨rfl,rfl⟩
 go_wp2_with fail
 refine HE.out.mono ?_;rintro e w' ⟨rfl,rfl⟩
 go_wp2_with fail
 refine HA.out.mono ?_;rintro e w' ⟨rfl,t,rfl⟩;go_wp2;go_ret2;exact⟨rfl,Lib.bytesWorld_below _ _ _⟩
end Go.Proofs.YtbpmpdadppamgaaGreatDoor
