/- Matching in the code: match, MatchAll, Match. -/
import Derived.Test.YtbpmpdadppamgaaGreatDoorGHb
namespace Go.Proofs.YtbpmpdadppamgaaGreatDoor
open Go.Proofs.Tryz
open Go.RowKit
open Te
theorem CZ{x y:Operand}{p s p' s':lw}{r:Bool}(h:(decide (p=p') && decide (s=s'))=!r):bg prog .neq 42 x y (.agg #[str p,str s]) (.agg #[str p',str s']) (.bool r):=by
 intro w;simp only[lc,run_eqGuard_agg w .neq _ x y _ _ syG,Result.andThen_ok,run_neq_struct,Da,h,Bool.not_not]
theorem LJ{n:Nat}(h:n≤1000000):P7 208 n:=⟨by show n≤2 ^ 63 - 1;omega,by
 have:=Zas 208 h;omega⟩
abbrev Bh(s:As):List (Option Bx):=[some (.buf 92 13 (N9 s))]
theorem lN(s:As):(N9 s).length=s.length:=by unfold N9;rw[Cc]
theorem b1Q{p t:Te}{n:Nat}{es:aa0}(h:p.kind=1)(hn:es.length=n)(hl:D6 189 [.own 0 n,p8 p.np p.nn] [some (.buf 92 13 es)] (.l7 [o6 F4,l5 false]) [some (.buf 92 13 es)])(he:es.length≤1000):D6 150 [o6 p,o6 t,.own 0 n] [some (.buf 92 13 es)] (.l7 [.own 0 (es++[di p t]).length,l5 true]) [some (.buf 92 13 (es++[di p t]))] :=
 sW 1 [0] [yT,.av (.un)] [.J5 2 3 [0] (.l7 [o6 F4,l5 false]) [some (.buf 92 13 es)]] [Bk .eql 3 15 1 p.kind bT,_,_,P7 208 ((es++[[Dt.val (str p.np),Dt.val (str p.nn),Dt.val (vi t.kind),Dt.val (str t.np),Dt.val (str t.nn),Dt.val (vi t.val.kind),Dt.val (str t.val.num),Dt.val (str t.val.den),Dt.val (str t.val.sp),Dt.val (str t.val.sn),Dt.val (str t.val.text),Dt.row (List.map Ob.enc t.val.pair),Dt.row (List.map Te.enc t.args)]]).length),L8 13 [[(.val (str p.np)),(.val (str p.nn)),(.val (vi t.kind)),(.val (str t.np)),(.val (str t.nn)),(.val (vi t.val.kind)),(.val (str t.val.num)),(.val (str t.val.den)),(.val (str t.val.sp)),(.val (str t.val.sn)),(.val (str t.val.text)),(.row (List.map Ob.enc t.val.pair)),(.row (List.map Te.enc t.args))]]] func150 ⟨C9 (U5 h),hl,hn,LJ (by simp;omega),Dl p t,Z⟩
theorem Xl{p t x:Te}{n:Nat}{es:aa0}{b:Bool}(h:p.kind=1)(hl:D6 189 [.own 0 n,p8 p.np p.nn] [some (.buf 92 13 es)] (.l7 [o6 x,l5 true]) [some (.buf 92 13 es)])(he:j5 62 [o6 x,o6 t] (l5 b)):D6 150 [o6 p,o6 t,.own 0 n] [some (.buf 92 13 es)] (.l7 [.own 0 n,l5 b]) [some (.buf 92 13 es)] :=
 sW 1 [0] [yT,.av (l5 b)] [.J5 2 3 [0] (.l7 [o6 x,l5 true]) [some (.buf 92 13 es)]] [Bk .eql 3 15 1 p.kind bT,_,_] func150 ⟨C9 (U5 h),hl,he,Z⟩
theorem Xm{p t:Te}{n:Nat}{es:aa0}{b:Bool}(h:p.kind≠1)(h3:p.kind≠3)(he:j5 62 [o6 p,o6 t] (l5 b)):D6 150 [o6 p,o6 t,.own 0 n] [some (.buf 92 13 es)] (.l7 [.own 0 n,l5 b]) [some (.buf 92 13 es)] :=
 sW 1 [0] [yF,yT,.av (l5 b)] [] [Bk .eql 3 15 1 p.kind bF,Bk .neq 3 38 3 p.kind bT,_] func150 ⟨C9 (M8 h),E5 (by simp[h3]),he,Z⟩
theorem b1R{p t:Te}{n:Nat}{es:aa0}{b:Bool}(h3:p.kind=3)(ht:t.kind≠3)(he:j5 62 [o6 p,o6 t] (l5 b)):D6 150 [o6 p,o6 t,.own 0 n] [some (.buf 92 13 es)] (.l7 [.own 0 n,l5 b]) [some (.buf 92 13 es)] :=
 sW 1 [0] [yF,yF,yT,.av (l5 b)] [] [Bk .eql 3 15 1 p.kind bF,Bk .neq 3 38 3 p.kind bF,Bk .neq 3 42 3 t.kind bT,_] func150 ⟨C9 (by simp[h3]),E5 (by simp[h3]),E5 (by simp[ht]),he,Z⟩
theorem b1S{p t:Te}{n:Nat}{es:aa0}(h3:p.kind=3)(ht:t.kind=3)(hne:¬(p.np=t.np∧p.nn=t.nn)):D6 150 [o6 p,o6 t,.own 0 n] [some (.buf 92 13 es)] (.l7 [.own 0 n,l5 false]) [some (.buf 92 13 es)] :=
 sW 1 [0] [yF,yF,yF,yT] [] [Bk .eql 3 15 1 p.kind bF,Bk .neq 3 38 3 p.kind bF,Bk .neq 3 42 3 t.kind bF,Bn .neq 42 (.tmp 50) (.tmp 52) (Value.agg #[str p.np,str p.nn]) (Value.agg #[str t.np,str t.nn]) bT] func150 ⟨C9 (by simp[h3]),E5 (by simp[h3]),E5 (by simp[ht]),CZ (by rw[zy hne];rfl),Z⟩
theorem b1T{p t:Te}{n:Nat}{es:aa0}(h3:p.kind=3)(ht:t.kind=3)(hne:p.np=t.np∧p.nn=t.nn)(hl:p.args.length≠t.args.length):D6 150 [o6 p,o6 t,.own 0 n] [some (.buf 92 13 es)] (.l7 [.own 0 n,l5 false]) [some (.buf 92 13 es)] :=
 sW 1 [0] [yF,yF,yF,yF,.av (j4 p.args.length),.av (j4 t.args.length),yT] [] [Bk .eql 3 15 1 p.kind bF,Bk .neq 3 38 3 p.kind bF,Bk .neq 3 42 3 t.kind bF,Bn .neq 42 (.tmp 50) (.tmp 52) (Value.agg #[str p.np,str p.nn]) (Value.agg #[str t.np,str t.nn]) bF,(vi ↑p.args.length)=(vi (↑(List.map Te.enc p.args).length)),(vi ↑t.args.length)=(vi (↑(List.map Te.enc t.args).length)),Bt .neq 3 57 60 ↑p.args.length ↑t.args.length bT] func150 ⟨C9 (by simp[h3]),E5 (by simp[h3]),E5 (by simp[ht]),CZ (by rw[sD hne];rfl),F9 _,F9 _,E5 (by simp;omega),Z⟩
abbrev jQ(p t:Te)(n:Nat)(es:aa0)(i:Int):AS:=⟨stt 89 [(2,.own 0 n),(3,.ptr 1 0),(4,.ptr 2 0),(65,C8 p.args),(66,j4 p.args.length),(67,j4 i)],[some (.buf 92 13 es),some (.cells ((o8 p).map .dt)),some (.cells ((o8 t).map .dt))]⟩
abbrev FT(n:Nat)(es:aa0):AS:=⟨stt 89 [(6,.own 0 n),(7,l5 false)],[some (.buf 92 13 es)]⟩
noncomputable abbrev uj:Code:=M6 (O4 f150) [1,1,1,1,0,1,0,0]
theorem YB{p t x y:Te}{n n':Nat}{es es':aa0}{i:Nat}(hx:p.args[i]?=some x)(hy:t.args[i]?=some y)(hl:p.args.length≤1000)(h:D6 150 [o6 x,o6 y,.own 0 n] [some (.buf 92 13 es)] (.l7 [.own 0 n',l5 true]) [some (.buf 92 13 es')]):y7 (J3 1) uj (jQ p t n es i) .F6 (jQ p t n' es' ((i+1:Nat):Int)) :=
 have hi:=(UV.1 hx).1
 tW [yT,.av (.pin ((o8 x).map .dt)),.av (.pin ((o8 y).map .dt)),.av (j4 ((i+1:Nat):Int))] [.J5 13 7 [0] (.l7 [.own 0 n',l5 true]) [some (.buf 92 13 es')]] [2,3,4,65,66,67] 3 [Bt .lss 3 67 66 ↑i ↑p.args.length bT,z8 (List.map Te.enc p.args) ↑i 11 (o8 x),z8 (List.map Te.enc t.args) ↑i 11 (o8 y),_,Bk .add 3 67 1 ↑i (vi (↑(i+1)))] ⟨D8 (Pi J),M5 hx,M5 hy,h,H6 J J J,Z⟩
theorem b40{p t x y:Te}{n k:Nat}{es es':aa0}{i:Nat}(hx:p.args[i]?=some x)(hy:t.args[i]?=some y)(h:D6 150 [o6 x,o6 y,.own 0 n] [some (.buf 92 13 es)] (.l7 [.own 0 k,l5 false]) [some (.buf 92 13 es')]):y7 (J3 1) uj (jQ p t n es i) .ret (FT n es') :=
 have hi:=(UV.1 hx).1
 tW [yT,.av (.pin ((o8 x).map .dt)),.av (.pin ((o8 y).map .dt))] [.J5 13 7 [0] (.l7 [.own 0 k,l5 false]) [some (.buf 92 13 es')]] [6,7] 1 [Bt .lss 3 67 66 ↑i ↑p.args.length bT,z8 (List.map Te.enc p.args) ↑i 11 (o8 x),z8 (List.map Te.enc t.args) ↑i 11 (o8 y),_] ⟨D8 (Pi J),M5 hx,M5 hy,h,Z⟩
theorem b41{p t:Te}{n:Nat}{es:aa0}{i:Nat}(hi:i=p.args.length):y7 (J3 1) uj (jQ p t n es i) (.out 0) (jQ p t n es i) :=
 tW [yF] [] [2,3,4,65,66,67] 3 [Bt .lss 3 67 66 ↑i ↑p.args.length bF] ⟨D8 (WF J),Z⟩
theorem a9L{p t:Te}{n n':Nat}{es es':aa0}(h3:p.kind=3)(ht:t.kind=3)(hne:p.np=t.np∧p.nn=t.nn)(hl:p.args.length=t.args.length)(h:y7 (J3 1) (.loop uj) (jQ p t n es 0) (.out 0) (jQ p t n' es' p.args.length)):D6 150 [o6 p,o6 t,.own 0 n] [some (.buf 92 13 es)] (.l7 [.own 0 n',l5 true]) [some (.buf 92 13 es')] :=
 sW 1 [0] [yF,yF,yF,yF,.av (j4 p.args.length),.av (j4 t.args.length),yF,.av (j4 p.args.length)] [.inv [2,3,4,65,66,67] 3 (.out 0) (jQ p t n' es' p.args.length)] [Bk .eql 3 15 1 p.kind bF,Bk .neq 3 38 3 p.kind bF,Bk .neq 3 42 3 t.kind bF,Bn .neq 42 (.tmp 50) (.tmp 52) (Value.agg #[str p.np,str p.nn]) (Value.agg #[str t.np,str t.nn]) bF,(vi ↑p.args.length)=(vi (↑(List.map Te.enc p.args).length)),(vi ↑t.args.length)=(vi (↑(List.map Te.enc t.args).length)),Bt .neq 3 57 60 ↑p.args.length ↑t.args.length bF,(vi ↑p.args.length)=(vi (↑(List.map Te.enc p.args).length)),_] func150 ⟨C9 (by simp[h3]),E5 (by simp[h3]),E5 (by simp[ht]),CZ (by rw[sD hne];rfl),F9 _,F9 _,E5 (by simp;omega),F9 _,h,Z⟩
theorem a9M{p t:Te}{n k:Nat}{es es':aa0}(h3:p.kind=3)(ht:t.kind=3)(hne:p.np=t.np∧p.nn=t.nn)(hl:p.args.length=t.args.length)(h:y7 (J3 1) (.loop uj) (jQ p t n es 0) .ret (FT k es')):D6 150 [o6 p,o6 t,.own 0 n] [some (.buf 92 13 es)] (.l7 [.own 0 k,l5 false]) [some (.buf 92 13 es')] :=
 sW 1 [0] [yF,yF,yF,yF,.av (j4 p.args.length),.av (j4 t.args.length),yF,.av (j4 p.args.length)] [.inv [2,3,4,65,66,67] 3 (.ret) (FT k es')] [Bk .eql 3 15 1 p.kind bF,Bk .neq 3 38 3 p.kind bF,Bk .neq 3 42 3 t.kind bF,Bn .neq 42 (.tmp 50) (.tmp 52) (Value.agg #[str p.np,str p.nn]) (Value.agg #[str t.np,str t.nn]) bF,(vi ↑p.args.length)=(vi (↑(List.map Te.enc p.args).length)),(vi ↑t.args.length)=(vi (↑(List.map Te.enc t.args).length)),Bt .neq 3 57 60 ↑p.args.length ↑t.args.length bF,(vi ↑p.args.length)=(vi (↑(List.map Te.enc p.args).length)),_] func150 ⟨C9 (by simp[h3]),E5 (by simp[h3]),E5 (by simp[ht]),CZ (by rw[sD hne];rfl),F9 _,F9 _,E5 (by simp;omega),F9 _,h,Z⟩
def YC(p:Te):Prop:=∀(t:Te) (s:As),t.L9→aX s→((mt p t s).1=true→D6 150 [o6 p,o6 t,.own 0 s.length] (Bh s) (.l7 [.own 0 (mt p t s).2.length,l5 true]) (Bh (mt p t s).2))∧((mt p t s).1=false→∃k,D6 150 [o6 p,o6 t,.own 0 s.length] (Bh s) (.l7 [.own 0 k,l5 false]) (Bh (mt p t s).2))
theorem a6O{p t:Te}(hp:p.L9)(ht:t.L9)(hl:p.args.length=t.args.length)(hl1:p.args.length≤1000)(ih:∀x∈p.args,YC x):∀(l m:List Te) (i:Nat) (s:As),p.args.drop i=l→t.args.drop i=m→i≤p.args.length→aX s →
  ((dQ l m s).1=true→I7 (J3 1) uj (jQ p t s.length (N9 s) i) (.out 0) (jQ p t (dQ l m s).2.length (N9 (dQ l m s).2) p.args.length))∧((dQ l m s).1=false→∃k,I7 (J3 1) uj (jQ p t s.length (N9 s) i) .ret (FT k (N9 (dQ l m s).2))):=by
 intro l
 induction l with
 |nil =>
  intro m i s hd hm hi hs;have e1:=congrArg List.length hd;rw[ut,List.length_nil]at e1;obtain rfl:i=p.args.length:=J;have e:dQ [] m s=(true,s):=by cases m <;> (rw[dQ];all_goals simp)
  rw[e];exact⟨fun _=>.stop (b41 rfl) (fun h=>by cases h),fun h=>by cases h⟩
 |cons x l ihl =>
  intro m i s hd hm hi hs;have hx:p.args[i]?=some x:=by rw[←Za1,hd];rfl
  have hlt:=(UV.1 hx).1;cases m with
  |nil =>
   have e1:=congrArg List.length hm;rw[ut,List.length_nil]at e1;omega
  |cons y m =>
   have hy:t.args[i]?=some y:=by rw[←Za1,hm];rfl
   have hxm:=q8 hx;have hyk:=ht.kids (q8 hy);have hok:=Xn (hp.kids hxm) y s hyk hs;obtain⟨k1,k2⟩:=ih x hxm y s hyk hs;rw[dQ];cases hb:(mt x y s).1 with
   |true =>
    have e:mt x y s=(true,(mt x y s).2):=by rw[←hb]
    rw[e];obtain⟨j1,j2⟩:=ihl m (i+1) (mt x y s).2 (by rw[←Za0,hd];rfl) (by rw[←Za0,hm];rfl) hlt hok;refine⟨fun h=>.more (YB hx hy hl1 (k1 hb)) (j1 h),fun h=>?_⟩;obtain⟨k,hk⟩:=j2 h;exact⟨k,.more (YB hx hy hl1 (k1 hb)) hk⟩
   |false =>
    have e:mt x y s=(false,(mt x y s).2):=by rw[←hb]
    rw[e];obtain⟨k,hk⟩:=k2 hb;exact⟨fun h=>(by cases h),fun _=>⟨_,.stop (b40 hx hy hk) (fun h=>by cases h)⟩⟩
theorem L9.len{t:Te}(h:t.L9):t.args.length≤8:=by
 cases h with
 |var n h=>exact Ci _
 |H9 t h hv=>exact Ci _
 |ap n l hn hl ha h=>exact hl
theorem b42{p:Te}(hp:p.L9):YC p:=by
 induction hp with
 |var n hn =>
  intro t s ht hs;have hlen:=hs.len;rw[Ku];cases hl:aF s I4 n with
  |none =>
   refine⟨fun _=>?_,fun h=>by cases h⟩;have:=b1Q (p:=X8 n) (t:=t) (n:=s.length) rfl (lN s) (a6M J hl _) (by rw[lN];omega);rw[Rv,lN]at this;exact this
  |some x =>
   have he:j5 62 [o6 x,o6 t] (l5 (decide (x=t))):=zz (hs.aF hl).wf t;have hk:=a6N J hl 92;refine⟨fun h=>?_,fun h=>⟨s.length,?_⟩⟩
   ·have h:decide (x=t)=true:=h;rw[h]at he;exact Xl (p:=X8 n) rfl hk he
   ·have h:decide (x=t)=false:=h;rw[h]at he;exact Xl (p:=X8 n) rfl hk he
 |H9 o ho hv =>
  intro t s ht hs;rw[Kv];have he:j5 62 [o6 (Te.H9 o.ob),o6 t] (l5 (decide (Te.H9 o.ob=t))):=zz (L9.H9 o ho hv).wf t;refine⟨fun h=>?_,fun h=>⟨s.length,?_⟩⟩
  ·have h:decide (Te.H9 o.ob=t)=true:=h;rw[h]at he;exact Xm (p:=Te.H9 o.ob) (show (2:Int)≠1 by decide) (show (2:Int)≠3 by decide) he
  ·have h:decide (Te.H9 o.ob=t)=false:=h;rw[h]at he;exact Xm (p:=Te.H9 o.ob) (show (2:Int)≠1 by decide) (show (2:Int)≠3 by decide) he
 |ap n l hn hl ha hx ih =>
  intro t s ht hs;have hp:(Te.ap n l).L9:=.ap n l hn hl ha hx;have htl:=L9.len ht;rw[LK];by_cases hk:t.kind=3
  ·rw[Ch hk];by_cases hc:o9=t.np∧n=t.nn
   ·by_cases hll:l.length=t.args.length
    ·rw[Ch ⟨hc.1,hc.2,hll⟩];obtain⟨k1,k2⟩:=a6O hp ht hll (by show l.length≤1000;omega) ih l t.args 0 s rfl rfl (Ci _) hs;refine⟨fun h=>a9L (p:=Te.ap n l) rfl hk hc hll (k1 h).I8,fun h=>?_⟩;obtain⟨k,hk2⟩:=k2 h;exact⟨k,a9M (p:=Te.ap n l) rfl hk hc hll hk2.I8⟩
    ·rw[EQ (fun h=>hll h.2.2)];exact⟨fun h=>(by cases h),fun _=>⟨s.length,b1T (p:=Te.ap n l) rfl hk hc hll⟩⟩
   ·rw[EQ (fun h=>hc ⟨h.1,h.2.1⟩)];exact⟨fun h=>(by cases h),fun _=>⟨s.length,b1S (p:=Te.ap n l) rfl hk hc⟩⟩
  ·rw[EQ hk];have he:j5 62 [o6 (Te.ap n l),o6 t] (l5 (decide (Te.ap n l=t))):=zz hp.wf t;rw[WF (fun e=>hk (by rw[←e];rfl))]at he;exact⟨fun h=>(by cases h),fun _=>⟨s.length,b1R (p:=Te.ap n l) rfl hk he⟩⟩
theorem a4o{es:aa0}(h0:es≠[])(hl:es.length≤1000)(hs:L8 13 es):D6 149 [.dt (.row es)] [] (.own 0 es.length) [some (.buf 92 13 es)] :=
 sW 0 [0] [.no,.av (.un)] [] [_,_,0=0,P7 208 (([]++es).length),_] func149 ⟨h0,Eu,rfl,LJ (by rw[List.nil_append];omega),hs,Z⟩
theorem a6P(s:As):L8 13 (N9 s):=fun x hx=>by
 obtain⟨y,_,rfl⟩:=Zaw.1 hx;exact Dl y.1 y.2 _ (Cf.2 rfl)
theorem a4p(s:As)(hl:s.length≤1000):D6 149 [.dt (.row (N9 s))] [] (.own 0 s.length) (Bh s):=by
 cases s with
 |nil=>exact QF
 |cons x r =>
  have:=a4o (es:=N9 (x::r)) (by unfold N9;simp) (by rw[lN];exact hl) (a6P _);rw[lN]at this;exact this
theorem b1U{p t:Te}{n n':Nat}{es es':aa0}(hc:D6 149 [.dt (.row es)] [] (.own 0 n) [some (.buf 92 13 es)])(hm:D6 150 [o6 p,o6 t,.own 0 n] [some (.buf 92 13 es)] (.l7 [.own 0 n',l5 true]) [some (.buf 92 13 es')])(hn:es'.length=n'):j5 119 [.dt (.row [o8 p]),.dt (.row [o8 t]),.dt (.row es)] (.l7 [.dt (.row es'),l5 true]) :=
 pW (nK 9 []) [.J5 3 1 [] (.own 0 n) [some (.buf 92 13 es)],.run 2,.J5 7 6 [0] (.l7 [.own 0 n',l5 true]) [some (.buf 92 13 es')]] [_,_,_] func119 ⟨hc,hm,hn,Z⟩
theorem b1V{p t:Te}{n k:Nat}{es es':aa0}(hc:D6 149 [.dt (.row es)] [] (.own 0 n) [some (.buf 92 13 es)])(hm:D6 150 [o6 p,o6 t,.own 0 n] [some (.buf 92 13 es)] (.l7 [.own 0 k,l5 false]) [some (.buf 92 13 es')]):j5 119 [.dt (.row [o8 p]),.dt (.row [o8 t]),.dt (.row es)] (.l7 [.dt (.row []),l5 false]) :=
 pW (nK 7 []) [.J5 3 1 [] (.own 0 n) [some (.buf 92 13 es)],.run 1,.J5 7 6 [0] (.l7 [.own 0 k,l5 false]) [some (.buf 92 13 es')]] [_,_] func119 ⟨hc,hm,Z⟩
theorem YD{p t:Te}{es:aa0}{rs:aa0}{b:Bool}(h:j5 119 [.dt (.row [o8 p]),.dt (.row [o8 t]),.dt (.row es)] (.l7 [.dt (.row rs),l5 b])):j5 86 [o6 p,o6 t,.dt (.row es)] (.l7 [.dt (.row rs),l5 b]) :=
 pV [.av (.l7 [.dt (.row rs),l5 b])] [_] func86 ⟨h,Z⟩
theorem a6Q{p t:Te}(hp:p.L9)(ht:t.L9){s:As}(hs:aX s):((mt p t s).1=true→j5 86 [o6 p,o6 t,.dt (.row (N9 s))] (.l7 [.dt (.row (N9 (mt p t s).2)),l5 true]))∧((mt p t s).1=false→j5 86 [o6 p,o6 t,.dt (.row (N9 s))] (.l7 [.dt (.row []),l5 false])):=by
 have hlen:=hs.len;have hc:=a4p s J;obtain⟨k1,k2⟩:=b42 hp t s ht hs;refine⟨fun h=>YD (b1U hc (k1 h) (lN _)),fun h=>?_⟩;obtain⟨k,hk⟩:=k2 h;exact YD (b1V hc hk)
end Go.Proofs.YtbpmpdadppamgaaGreatDoor
