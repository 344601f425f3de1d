/- The clauses of a formula are all true exactly if the formula is: the plain law. -/
import Derived.Test.YtbpmpdadppamgaaGreatDoorGIr
import Derived.Test.YtbpmpdadppamgaaGreatDoorGO
namespace Go.Proofs.YtbpmpdadppamgaaGreatDoor
open Go.RowKit
open Te
theorem sH{env:D7}{t:Te}{n:lw}{k:Nat}(h:is t n k):den env t=iJ n (t.args.map (den env)):=by rw[De h.1,h.2.2.1]
theorem sI{t:Te}{a:Te}{r:List Te}(h:t.args=a::r):t.arg 0=a:=by show t.args.getD 0 F4=a;rw[h];rfl
theorem Dw{t:Te}{a b:Te}{r:List Te}(h:t.args=a::b::r):t.arg 1=b:=by show t.args.getD 1 F4=b;rw[h];rfl
def U6(env:D7)(t:Te):Prop:=den env t≠l6
def CT(env:D7)(c:List Te):Prop:=∃x∈c,U6 env x
theorem Xr(env:D7)(t:Te):U6 env (neg t)↔¬U6 env t:=by
 unfold U6 neg;split
 ·rename_i hi;obtain⟨a,ha⟩:=ES hi.2.2.2;rw[sI ha,sH hi,ha];show _↔¬iJ D9 [den env a]≠l6;rw[zf];by_cases h:den env a=l6
  ·rw[Ch h];simp[h]
  ·rw[EQ h];simp[h]
 ·rw[Ev];by_cases h:den env t=l6
  ·rw[Ch h];simp[h]
  ·rw[EQ h];simp[h]
theorem RB{env:D7}{t t':Te}(h:opened t=some t'):den env t'=den env t:=by
 unfold opened at h;split at h
 ·rename_i hi;cases h;obtain⟨a,ha⟩:=ES hi.2.2.2;rw[sI ha,sH hi,ha,dZ,wX,wI];exact (zf _).symm
 ·split at h
  ·rename_i hi;cases h;obtain⟨a,b,ha⟩:=ET hi.2.2.2;rw[sI ha,Dw ha,sH hi,ha,dZ,dZ,wX,wI];exact (Vt _ _).symm
  ·split at h
   ·rename_i hi;cases h;obtain⟨a,b,ha⟩:=ET hi.2.2.2;rw[sI ha,Dw ha,sH hi,ha,dZ,dZ,dZ,wX,wI];exact (Vu _ _).symm
   ·cases h
theorem M4.kids{t x:Te}(h:M4 t)(hx:x∈t.args):M4 x:=by
 cases h with
 |var p n=>cases hx
 |H9 t hv=>cases hx
 |ap n l hn h=>exact h x hx
theorem M4.arg{t:Te}(h:M4 t){n:lw}{k i:Nat}(hi:is t n k)(hk:i < k):M4 (t.arg i):=h.kids (q8 (aA hi hk))
theorem CG{t t':Te}(h:M4 t)(ho:opened t=some t'):M4 t':=by
 unfold opened at ho;split at ho
 ·rename_i hi;cases ho;exact bU (h.arg hi J) qf lS
 ·split at ho
  ·rename_i hi;cases ho;exact bU (h.arg hi J) (bU (h.arg hi J) lS qf) lS
  ·split at ho
   ·rename_i hi;cases ho;exact bU (h.arg hi J) (bU (h.arg hi J) lS qf) (bU (h.arg hi J) qf lS)
   ·cases ho
theorem a7e{t:Te}(h:M4 t)(hk:t.kind=2):∃o:Tr,t=Te.H9 o.ob:=by
 cases h with
 |var p n=>exact absurd (show (1:Int)=2 from hk) O
 |H9 t hv=>exact⟨t,rfl⟩
 |ap n l hn h=>exact absurd (show (3:Int)=2 from hk) O
theorem KC{env:D7}{t:Te}(h:M4 t)(hk:t.kind=2):U6 env t↔t.val≠K8:=by
 obtain⟨o,rfl⟩:=a7e h hk;unfold U6;rw[Dv];show o≠l6↔o.ob≠l6.ob;rw[Ne,Ne,Tr.vX]
theorem JA(env:D7)(qs:List Te):CT env (qs.map neg)↔¬∀q∈qs,U6 env q:=by
 unfold CT;constructor
 ·rintro⟨x,hx,h⟩ hall;obtain⟨q,hq,rfl⟩:=Zaw.1 hx;exact (Xr env q).1 h (hall q hq)
 ·intro h;simp only[Classical.not_forall]at h;obtain⟨q,hq,h⟩:=h;exact⟨neg q,Zaw.2 ⟨q,hq,rfl⟩,(Xr env q).2 h⟩
theorem a4x{env:D7}{out:List (List Te)}{c:List Te}:(∀d∈out++[c],CT env d)↔(∀d∈out,CT env d)∧CT env c:=by
 constructor
 ·intro h;exact⟨fun d hd=>h d (Zan _ hd),h c (ZaE _ (Cf.2 rfl))⟩
 ·rintro⟨h1,h2⟩ d hd;rcases ZaA.1 hd with hd | hd
  ·exact h1 d hd
  ·rw[Cf]at hd;rw[hd];exact h2
theorem a7f{s:NS}{c:List Te}(h:(s.fail id c).er=0)(_hs:s.er=0∨True):(s.fail id c).out=s.out++[c]∧(s.fail id c).ex=s.ex:=by
 unfold NS.fail at h ⊢;split
 ·rename_i hc;rw[Ch hc]at h;exact absurd (show (2:Int)=0 from h) O
 ·exact⟨rfl,rfl⟩
theorem JB(env:D7):∀(f:Nat) (t:Te) (qs:List Te) (s:NS),M4 t→s.ex≤20000→20002≤s.ex+f→(O0 id f t qs s).er=0 →
  s.ex≤(O0 id f t qs s).ex∧(O0 id f t qs s).ex≤20000∧((∀c∈(O0 id f t qs s).out,CT env c)↔(∀c∈s.out,CT env c)∧((∀q∈qs,U6 env q)→U6 env t))
 |0,t,qs,s,_,h1,h2,_=>J
 |f+1,t,qs,s,ht,h1,h2,her=>by
  rw[O0]at her ⊢
  by_cases h0:s.tick.er≠0
  ·rw[Ch h0]at her;exact absurd her h0
  rw[EQ h0]at her ⊢
  have ho:s.tick.out=s.out:=rfl;have hex:s.tick.ex=s.ex+1:=rfl;have hle:s.tick.ex≤20000:=by
   rw[hex];have h3:¬(s.tick.er≠0):=h0;have h4:s.tick.er=if 20000 < s.ex+1 then 2 else s.er:=rfl
   by_cases h5:20000 < s.ex+1
   ·rw[h4,Ch h5]at h3;exact absurd (by decide:(2:Int)≠0) h3
   ·omega
  have YG:∀(t1:Te) (mH:List Te),M4 t1→(O0 id f t1 mH s.tick).er=0→s.ex+1≤(O0 id f t1 mH s.tick).ex∧(O0 id f t1 mH s.tick).ex≤20000∧((∀c∈(O0 id f t1 mH s.tick).out,CT env c)↔(∀c∈s.out,CT env c)∧((∀q∈mH,U6 env q)→U6 env t1)):=by
   intro t1 mH hf1 he1;obtain⟨k1,k2,k3⟩:=JB env f t1 mH s.tick hf1 hle J he1;exact⟨J,k2,k3⟩
  have same:∀(t1:Te),M4 t1→((∀q∈qs,U6 env q)→(U6 env t1↔U6 env t))→(O0 id f t1 qs s.tick).er=0→s.ex≤(O0 id f t1 qs s.tick).ex∧(O0 id f t1 qs s.tick).ex≤20000∧((∀c∈(O0 id f t1 qs s.tick).out,CT env c)↔(∀c∈s.out,CT env c)∧((∀q∈qs,U6 env q)→U6 env t)):=by
   intro t1 hf1 hd he1;obtain⟨k1,k2,k3⟩:=YG t1 qs hf1 he1;refine⟨J,k2,k3.trans (and_congr_right fun _=>?_)⟩;exact⟨fun h hq=>(hd hq).1 (h hq),fun h hq=>(hd hq).2 (h hq)⟩
  have stop:((∀q∈qs,U6 env q)→U6 env t)→s.ex≤s.tick.ex∧s.tick.ex≤20000∧((∀c∈s.tick.out,CT env c)↔(∀c∈s.out,CT env c)∧((∀q∈qs,U6 env q)→U6 env t)):=fun h=>⟨J,hle,by rw[ho];exact⟨fun k=>⟨k,h⟩,fun k=>k.1⟩⟩
  have fl:∀c:List Te,(s.tick.fail id c).er=0→(CT env c↔((∀q∈qs,U6 env q)→U6 env t))→s.ex≤(s.tick.fail id c).ex∧(s.tick.fail id c).ex≤20000∧((∀d∈(s.tick.fail id c).out,CT env d)↔(∀c∈s.out,CT env c)∧((∀q∈qs,U6 env q)→U6 env t)):=by
   intro c he hc;obtain⟨k1,k2⟩:=a7f he (.inr trivial);rw[k1,k2,a4x,ho,hc];exact⟨J,hle,Iff.rfl⟩
  by_cases hk:t.kind=2
  ·rw[Ch hk]at her ⊢
   have hc:=KC (env:=env) ht hk;by_cases hv:t.val=K8
   ·rw[Ch hv]at her ⊢
    refine fl _ her ?_;rw[JA];have hn:¬U6 env t:=fun h=>hc.1 h hv
    exact⟨fun h k=>absurd k h,fun h k=>hn (h k)⟩
   ·rw[EQ hv]at her ⊢
    exact stop fun _=>hc.2 hv
  rw[EQ hk]at her ⊢
  cases hop:opened t with
  |some t' =>
   rw[hop]at her;exact same t' (CG ht hop) (fun _=>by unfold U6;rw[RB hop]) her
  |none =>
   rw[hop]at her;dsimp only at her ⊢;by_cases hi:is t x8 3
   ·rw[Ch hi]at her ⊢
    obtain⟨a,b,c,EU⟩:=MM hi.2.2.2;have e0:t.arg 0=a:=sI EU;have e1:t.arg 1=b:=Dw EU;have e2:t.arg 2=c:=by show t.args.getD 2 F4=c;rw[EU];rfl
    have fa:M4 a:=by rw[←e0];exact ht.arg hi J
    have fb:M4 b:=by rw[←e1];exact ht.arg hi J
    have fc:M4 c:=by rw[←e2];exact ht.arg hi J
    have hd:den env t=if den env a=l6 then den env c else den env b:=by rw[sH hi,EU];exact LV _ _ _
    rw[e0,e1,e2]at her ⊢
    by_cases q1:a.kind=2∧a.val=K8
    ·rw[Ch q1]at her ⊢
     refine same c fc (fun _=>?_) her;have:¬U6 env a:=fun h=>(KC fa q1.1).1 h q1.2
     unfold U6 at this ⊢;rw[hd,Ch (Classical.not_not.1 this)]
    rw[EQ q1]at her ⊢
    by_cases q2:a.kind=2
    ·rw[Ch q2]at her ⊢
     refine same b fb (fun _=>?_) her;have:U6 env a:=(KC fa q2).2 fun h=>q1 ⟨q2,h⟩
     unfold U6 at this ⊢;rw[hd,EQ this]
    rw[EQ q2]at her ⊢
    by_cases q3:is a D9 1
    ·rw[Ch q3]at her ⊢
     obtain⟨a',ha'⟩:=ES q3.2.2.2;have f1:M4 (a.arg 0):=fa.arg q3 J;have oC:den env a=if den env (a.arg 0)=l6 then cB else l6:=by rw[sH q3,sI ha',ha'];exact zf _
     refine same _ (bU f1 fc fb) (fun _=>?_) her;unfold U6;rw[hd,dZ,oC];by_cases hq:den env (a.arg 0)=l6
     ·rw[Ch hq,Ch hq,EQ Ew]
     ·rw[EQ hq,EQ hq,Ch rfl]
    rw[EQ q3]at her ⊢
    by_cases q4:is a x8 3
    ·rw[Ch q4]at her ⊢
     obtain⟨x,y,z,EW⟩:=MM q4.2.2.2;have f1:M4 (a.arg 0):=fa.arg q4 J;have f2:M4 (a.arg 1):=fa.arg q4 J;have f3:M4 (a.arg 2):=fa.arg q4 J;have x0:a.arg 0=x:=sI EW;have x1:a.arg 1=y:=Dw EW;have x2:a.arg 2=z:=by show a.args.getD 2 F4=z;rw[EW];rfl
     have oC:den env a=if den env x=l6 then den env z else den env y:=by rw[sH q4,EW];exact LV _ _ _
     refine same _ (bU f1 (bU f2 fb fc) (bU f3 fb fc)) (fun _=>?_) her;unfold U6;rw[hd,dZ,dZ,dZ,oC,x0,x1,x2];by_cases hq:den env x=l6
     ·rw[Ch hq,Ch hq]
     ·rw[EQ hq,EQ hq]
    rw[EQ q4]at her ⊢
    cases hoa:opened a with
    |some a' =>
     rw[hoa]at her;refine same _ (bU (CG fa hoa) fb fc) (fun _=>?_) her;unfold U6;rw[hd,dZ,RB hoa]
    |none =>
     rw[hoa]at her;dsimp only at her ⊢;by_cases q5:a∈qs
     ·rw[Ch q5]at her ⊢
      refine same b fb (fun hq=>?_) her;have:=hq a q5;unfold U6 at this ⊢;rw[hd,EQ this]
     rw[EQ q5]at her ⊢
     by_cases q6:ap D9 [a]∈qs
     ·rw[Ch q6]at her ⊢
      refine same c fc (fun hq=>?_) her;have:=hq _ q6;unfold U6 at this ⊢;rw[Ev]at this;by_cases hz:den env a=l6
      ·rw[hd,Ch hz]
      ·rw[EQ hz]at this;exact absurd rfl this
     rw[EQ q6]at her ⊢
     -- both ways
     have hst:∀(f:Nat) (t:Te) (qs:List Te) (s:NS),(O0 id f t qs s).er=0→s.er=0:=by
      intro f t qs s h;cases f with
      |zero=>rw[O0]at h;exact h
      |succ f =>
       rw[O0]at h;by_cases h0:s.tick.er≠0
       ·rw[Ch h0]at h;exact absurd h h0
       ·have h4:s.tick.er=if 20000 < s.ex+1 then 2 else s.er:=rfl
        rw[h4]at h0;by_cases h5:20000 < s.ex+1
        ·rw[Ch h5]at h0;exact absurd (by decide:(2:Int)≠0) h0
        ·rw[EQ h5]at h0;exact Classical.not_not.1 h0
     have he1:=hst _ _ _ _ her;obtain⟨k1,k2,k3⟩:=YG b (qs++[a]) fb he1;obtain⟨j1,j2,j3⟩:=JB env f c (qs++[ap D9 [a]]) (O0 id f b (qs++[a]) s.tick) fc k2 J her;refine⟨J,j2,?_⟩;rw[j3,k3];have sn:∀u:Te,(∀q∈qs++[u],U6 env q)↔(∀q∈qs,U6 env q)∧U6 env u:=fun u=>by
      constructor
      ·intro h;exact⟨fun q hq=>h q (Zan _ hq),h u (ZaE _ (Cf.2 rfl))⟩
      ·rintro⟨g1,g2⟩ q hq;rcases ZaA.1 hq with hq | hq
       ·exact g1 q hq
       ·rw[Cf]at hq;rw[hq];exact g2
     rw[sn,sn];unfold U6;rw[hd,Ev];by_cases hz:den env a=l6
     ·rw[Ch hz,Ch hz];simp only[hz,ne_eq,not_true_eq_false,and_false,false_implies,and_true,Ew,not_false_eq_true]
     ·rw[EQ hz,EQ hz];simp only[hz,ne_eq,not_false_eq_true,and_true,not_true_eq_false,and_false,false_implies]
   ·rw[EQ hi]at her ⊢
    by_cases q1:t∈qs
    ·rw[Ch q1]at her ⊢
     exact stop fun h=>h t q1
    rw[EQ q1]at her ⊢
    by_cases q2:ap D9 [t]∈qs
    ·rw[Ch q2]at her ⊢
     refine fl _ her ?_;rw[JA];have hn:(∀q∈qs,U6 env q)→¬U6 env t:=fun h=>by
      have:=h _ q2;unfold U6 at this ⊢;rw[Ev]at this;intro hz;rw[EQ hz]at this;exact this rfl
     exact⟨fun h k=>absurd k h,fun h k=>hn k (h k)⟩
    ·rw[EQ q2]at her ⊢
     refine fl _ her ?_;have:CT env (qs.map neg++[t])↔CT env (qs.map neg)∨U6 env t:=by
      unfold CT;constructor
      ·rintro⟨x,hx,h⟩;rcases ZaA.1 hx with hx | hx
       ·exact .inl ⟨x,hx,h⟩
       ·rw[Cf]at hx;exact .inr (by rw[←hx];exact h)
      ·rintro (⟨x,hx,h⟩ | h)
       ·exact⟨x,Zan _ hx,h⟩
       ·exact⟨t,ZaE _ (Cf.2 rfl),h⟩
     rw[this,JA];exact⟨fun h k=>h.elim (fun h=>absurd k h) id,fun h=>Classical.byCases (fun k=>.inr (h k)) .inl⟩
end Go.Proofs.YtbpmpdadppamgaaGreatDoor
