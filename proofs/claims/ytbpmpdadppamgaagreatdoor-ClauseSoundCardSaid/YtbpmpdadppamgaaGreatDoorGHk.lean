/- Substitute and instances of the reference; the maker's substitutions. -/
import Derived.Test.YtbpmpdadppamgaaGreatDoorGHe
namespace Go.Proofs.YtbpmpdadppamgaaGreatDoor
open Go.Proofs.Tryz
open Go.RowKit
open Te
abbrev qI:FuncId:=73
abbrev qJ(l:List Te)(ss es:aa0)(i:Int):AS:=⟨stt 23 [(0,C8 l),(1,.dt (.row ss)),(5,.own 0 es.length),(6,j4 i)],[some (.buf 47 11 es)]⟩
abbrev sa0(l:List Te)(ss:aa0):AS:=⟨stt 23 [(0,C8 l),(1,.dt (.row ss)),(5,.nil),(6,j4 0)],[]⟩
noncomputable abbrev FW:Code:=M6 (O4 f37) [1,1,0,1,0,0]
theorem b45{l:List Te}{ss es:aa0}{x y:Te}{i:Nat}(hx:l[i]?=some x)(hl:l.length≤1000)(he:es.length≤1000)(h:j5 qI [o6 x,.dt (.row ss)] (o6 y)):y7 EX FW (qJ l ss es i) .F6 (qJ l ss (es++[o8 y]) ((i+1:Nat):Int)) :=
 have hi:=(UV.1 hx).1
 tW [.av (j4 l.length),yT,.av (.pin ((o8 x).map .dt)),.av (o6 y),.av (.un),.av (j4 ((i+1:Nat):Int))] [] [0,1,5,6] 1 [(vi ↑l.length)=(vi (↑(List.map Te.enc l).length)),Bt .lss 3 7 9 ↑i ↑l.length bT,z8 (List.map Te.enc l) ↑i 11 (o8 x),_,(es.length)=(es.length),P7 176 ((es++[o8 y]).length),L8 11 [o8 y],Bk .add 3 11 1 ↑i (vi (↑(i+1)))] ⟨F9 _,D8 (Pi J),M5 hx,h,rfl,bE J (by simp;omega),nC y,H6 J J J,Z⟩
theorem b46{l:List Te}{ss es:aa0}{i:Nat}(hi:i=l.length):y7 EX FW (qJ l ss es i) (.out 0) (qJ l ss es i) :=
 tW [.av (j4 l.length),yF] [] [0,1,5,6] 1 [(vi ↑l.length)=(vi (↑(List.map Te.enc l).length)),Bt .lss 3 7 9 ↑i ↑l.length bF] ⟨F9 _,D8 (WF J),Z⟩
theorem b47{l:List Te}{ss rs:aa0}(h:y7 EX (.loop FW) (sa0 l ss) (.out 0) (qJ l ss rs l.length)):j5 37 [C8 l,.dt (.row ss)] (.dt (.row rs)) :=
 pW [] [.inv [0,1,5,6] 0 (.out 0) (qJ l ss rs l.length)] [_,(rs.length)=(rs.length)] func37 ⟨h,rfl,Z⟩
theorem a6T{L:List Te}{ss:aa0}{g:Te→Te}(hl:L.length≤500)(h:∀x∈L,j5 qI [o6 x,.dt (.row ss)] (o6 (g x))):∀(s:List Te) (i:Nat) (out:List Te),L.drop i=s→i≤L.length→out.length≤i→I7 EX FW (qJ L ss (K3 out) i) (.out 0) (qJ L ss (K3 (out++s.map g)) L.length):=by
 intro s
 induction s with
 |nil =>
  intro i out hd hi ho;have e1:=congrArg List.length hd;rw[ut,List.length_nil]at e1;obtain rfl:i=L.length:=J;rw[List.map_nil,ZaB];exact .stop (b46 rfl) (fun h=>by cases h)
 |cons x s ih =>
  intro i out hd hi ho;have hx:L[i]?=some x:=by rw[←Za1,hd];rfl
  have hlt:=(UV.1 hx).1;have hel:(K3 out).length=out.length:=by unfold K3;rw[Cc]
  have hs:=b45 (es:=K3 out) hx J J (h x (q8 hx));have e:K3 out++[o8 (g x)]=K3 (out++[g x]):=by unfold K3;rw[Zam,gp]
  rw[e]at hs;have k:=ih (i+1) (out++[g x]) (by rw[←Za0,hd];rfl) hlt (by simp;omega);rw[show out++[g x]++s.map g=out++(x::s).map g by rw[Zaf];rfl]at k
  exact .more hs k
theorem YF{L:List Te}{ss:aa0}{g:Te→Te}(hl:L.length≤500)(h:∀x∈L,j5 qI [o6 x,.dt (.row ss)] (o6 (g x))):j5 37 [C8 L,.dt (.row ss)] (C8 (L.map g)) :=
 b47 (y7.Z9 5 47 11 (by show 5 < 23;omega) rfl (a6T hl h L 0 [] rfl (Ci _) (PP _)).I8)
theorem b2d{t x:Te}{ss:aa0}(h:t.kind=1)(hg:j5 116 [.dt (.row ss),p8 t.np t.nn] (.l7 [o6 x,l5 true])):j5 qI [o6 t,.dt (.row ss)] (o6 x) :=
 pV [yT,.av (.l7 [o6 x,l5 true])] [Bk .eql 3 8 1 t.kind bT,_] func73 ⟨C9 (U5 h),hg,Z⟩
theorem b2e{t:Te}{ss:aa0}(h:t.kind=1)(hg:j5 116 [.dt (.row ss),p8 t.np t.nn] (.l7 [o6 F4,l5 false])):j5 qI [o6 t,.dt (.row ss)] (o6 t) :=
 pV [yT,.av (.l7 [o6 F4,l5 false])] [Bk .eql 3 8 1 t.kind bT,_] func73 ⟨C9 (U5 h),hg,Z⟩
theorem b2f{t:Te}{ss:aa0}(h:t.kind=2):j5 qI [o6 t,.dt (.row ss)] (o6 t) :=
 pV [yF,yF] [Bk .eql 3 8 1 t.kind bF,Bk .eql 3 8 3 t.kind bF] func73 ⟨C9 (by simp[h]),C9 (by simp[h]),Z⟩
theorem b2g{t:Te}{ss rs:aa0}(h:t.kind=3)(ha:j5 37 [C8 t.args,.dt (.row ss)] (.dt (.row rs))):j5 qI [o6 t,.dt (.row ss)] (qK t.np t.nn rs) :=
 pV [yF,yT,.av (.dt (.row rs)),.av (qK t.np t.nn rs)] [Bk .eql 3 8 1 t.kind bF,Bk .eql 3 8 3 t.kind bT,_,j5 58 [(p8 t.np t.nn),(.dt (.row rs))] (.agg [(j4 3),(stA t.np),(stA t.nn),(j4 0),(stA []),(stA []),(stA []),(stA []),(stA []),(.dt (.row [])),(.dt (.row rs))])] func73 ⟨C9 (by simp[h]),C9 (by simp[h]),ha,DV _ _ _,Z⟩
theorem a9O{σ:As}(hσ:σ.length≤1000){t:Te}(ht:t.L9):j5 qI [o6 t,.dt (.row (N9 σ))] (o6 (sub σ t)):=by
 induction ht with
 |var n hn =>
  obtain⟨k1,k2⟩:=a6S (s:=σ) (a:=I4) (b:=n) hσ;rw[TB];cases hl:aF σ I4 n with
  |none=>exact b2e (t:=X8 n) rfl (k1 hl)
  |some x=>exact b2d (t:=X8 n) rfl (k2 x hl)
 |H9 o ho hv =>
  rw[Jy];exact b2f (t:=Te.H9 o.ob) rfl
 |ap n l hn hl ha hx ih =>
  rw[Kw];exact b2g (t:=Te.ap n l) rfl (YF (g:=sub σ) (by show l.length≤500;omega) ih)
theorem b2h{c d out:List Te}{ss:aa0}(h:j5 37 [C8 c,.dt (.row ss)] (C8 d))(ha:j5 12 [.dt (.row []),C8 d] (C8 out)):j5 10 [C8 c,.dt (.row ss)] (C8 out) :=
 pV [.av (C8 d),.av (C8 out)] [_,_] func10 ⟨h,ha,Z⟩
theorem a6U{c:List Te}{σ:As}(hσ:aX σ)(hl:c.length≤400)(hm:∀x∈c,x.L9):j5 10 [C8 c,.dt (.row (N9 σ))] (C8 (addN [] (c.map (sub σ)))):=by
 have hlen:=hσ.len;have hmm:∀y∈c.map (sub σ),y.L9:=fun y hy=>by
  obtain⟨x,hx,rfl⟩:=Zaw.1 hy;exact TC hσ (hm x hx)
 refine b2h (YF (g:=sub σ) J fun x hx=>a9O J (hm x hx)) ?_;exact Ky (c:=[]) (l:=c.map (sub σ)) (by show 0≤100000;omega) (by rw[Cc];omega) (fun x hx=>by cases hx) (fun y hy=>(hmm y hy).wf)
theorem a6V{wr:aa0}{vl nl:List (lw)}{r:Raw}{t:Te}(hn:j5 75 [.dt (.row wr)] (bY nl))(hb:j5 74 [.dt (.row wr),bY nl,Z5 vl,F5 r] (o6 t)):j5 38 [.dt (.row wr),Z5 vl,F5 r] (o6 t) :=
 pV [.av (bY nl),.av (o6 t)] [_,_] func38 ⟨hn,hb,Z⟩
theorem a6W{wr:aa0}{nl:List (lw)}(hm:Mk wr nl aH)(hn:j5 75 [.dt (.row wr)] (bY nl)){r:Raw}(hf:eP r):∃t:Te,t.L9∧j5 38 [.dt (.row wr),Z5 aH,F5 r] (o6 t):=by
 obtain⟨t,h1,h2⟩:=TD hm _ r (PP _) hf;exact⟨t,h1,a6V hn h2⟩
abbrev kS(wr:aa0)(l:List Raw)(vl:List (lw))(s:As)(i:Int):AS:=⟨stt 35 [(0,.dt (.row wr)),(1,dX l),(5,Z5 vl),(6,.own 0 s.length),(7,j4 i)],[some (.buf 92 13 (N9 s))]⟩
abbrev b48(wr:aa0)(l:List Raw)(vl:List (lw)):AS:=⟨stt 35 [(0,.dt (.row wr)),(1,dX l),(5,Z5 vl),(6,.nil),(7,j4 0)],[]⟩
noncomputable abbrev wT:Code:=M6 (O4 f11) [1,1,1,0,1,0,0]
theorem b2i{vl:List (lw)}{i:Nat}{n:lw}(h:vl[i]?=some n):z8 (vl.map aO) (i:Int) 2 (aO n):=⟨Int.natCast_nonneg _,by
 rw[Int.toNat_natCast,bi,h];rfl,rfl⟩
theorem b2j{wr:aa0}{l:List Raw}{vl:List (lw)}{s:As}{i:Nat}{nm:lw}{x:Raw}{t:Te}(hx:l[i]?=some x)(hi4:i < 4)(hn:vl[i]?=some nm)(hs:(N9 s).length=s.length)(hsl:s.length≤4)(h:j5 38 [.dt (.row wr),Z5 vl,F5 x] (o6 t)):y7 EX wT (kS wr l vl s i) .F6 (kS wr l vl (s++[(X8 nm,t)]) ((i+1:Nat):Int)):=by
 have hi:=(UV.1 hx).1;have key:y7 EX wT (kS wr l vl s i) .F6 ⟨stt 35 [(0,.dt (.row wr)),(1,dX l),(5,Z5 vl),(6,.own 0 (N9 s++[di (X8 nm) t]).length),(7,j4 ((i+1:Nat):Int))],[some (.buf 92 13 (N9 s++[di (X8 nm) t]))]⟩ :=
  tW [.av (j4 l.length),yT,yT,.av (.pin [stA I4,stA nm]),.av (.pin ((encR x).map .dt)),.av (o6 t),.av (.un),.av (j4 ((i+1:Nat):Int))] [] [0,1,5,6,7] 1 [(vi ↑l.length)=(vi (↑(List.map Raw.enc l).length)),Bt .lss 3 9 11 ↑i ↑l.length bT,Bk .lss 3 14 4 ↑i bT,z8 (List.map aO vl) ↑i 2 ([(.val (str I4)),(.val (str nm))]),z8 (List.map Raw.enc l) ↑i 4 (encR x),_,_,P7 208 ((N9 s++[[Dt.val (str I4),Dt.val (str nm),Dt.val (vi t.kind),Dt.val (str t.np),Dt.val (str t.nn),Dt.val (vi t.val.kind),Dt.val (str t.val.num),Dt.val (str t.val.den),Dt.val (str t.val.sp),Dt.val (str t.val.sn),Dt.val (str t.val.text),Dt.row (List.map Ob.enc t.val.pair),Dt.row (List.map Te.enc t.args)]]).length),L8 13 [[(.val (str I4)),(.val (str nm)),(.val (vi t.kind)),(.val (str t.np)),(.val (str t.nn)),(.val (vi t.val.kind)),(.val (str t.val.num)),(.val (str t.val.den)),(.val (str t.val.sp)),(.val (str t.val.sn)),(.val (str t.val.text)),(.row (List.map Ob.enc t.val.pair)),(.row (List.map Te.enc t.args))]],Bk .add 3 17 1 ↑i (vi (↑(i+1)))] ⟨O1 _,D8 (Pi J),D8 (Pi J),b2i hn,kI hx,h,hs,LJ (by simp;omega),Dl (X8 nm) t,H6 J J J,Z⟩
 rw[Rv,lN]at key;exact key
theorem b2k{wr:aa0}{l:List Raw}{vl:List (lw)}{s:As}{i:Nat}(hi:l.length≤i):y7 EX wT (kS wr l vl s i) (.out 0) (kS wr l vl s i) :=
 tW [.av (j4 l.length),yF] [] [0,1,5,6,7] 1 [(vi ↑l.length)=(vi (↑(List.map Raw.enc l).length)),Bt .lss 3 9 11 ↑i ↑l.length bF] ⟨O1 _,D8 (WF J),Z⟩
theorem b2l{wr:aa0}{l:List Raw}{vl:List (lw)}{s:As}{i:Nat}(hi:i < l.length)(hi4:i=4):y7 EX wT (kS wr l vl s i) (.out 0) (kS wr l vl s i) :=
 tW [.av (j4 l.length),yT,yF] [] [0,1,5,6,7] 1 [(vi ↑l.length)=(vi (↑(List.map Raw.enc l).length)),Bt .lss 3 9 11 ↑i ↑l.length bT,Bk .lss 3 14 4 ↑i bF] ⟨O1 _,D8 (Pi J),D8 (WF J),Z⟩
theorem b2m{wr:aa0}{l:List Raw}{vl:List (lw)}{s:As}{k:Int}(hv:j5 25 [j4 4] (Z5 vl))(hs:(N9 s).length=s.length)(h:y7 EX (.loop wT) (b48 wr l vl) (.out 0) (kS wr l vl s k)):j5 11 [.dt (.row wr),dX l] (.dt (.row (N9 s))) :=
 pW [.av (Z5 vl)] [.inv [0,1,5,6,7] 0 (.out 0) (kS wr l vl s k)] [_,_,_] func11 ⟨hv,h,hs,Z⟩
theorem TE:∀{s:As} {p n:lw},(∀x∈s,x.1.nn≠n)→aF s p n=none
 |[],_,_,_=>rfl
 |x::r,p,n,h=>by
  rw[aF,EQ (fun e=>h x (NE ..) e.2)];exact TE fun y hy=>h y (Cg _ hy)
theorem a9P{i:Nat}(h:i < 4):∃nm,aH[i]?=some nm∧nm∈qL∧nm ∉ aH.take i∧aH.take (i+1)=aH.take i++[nm]:=by
 match i,h with
 |0,_=>exact⟨_,rfl,O,O,rfl⟩
 |1,_=>exact⟨_,rfl,O,O,rfl⟩
 |2,_=>exact⟨_,rfl,O,O,rfl⟩
 |3,_=>exact⟨_,rfl,O,O,rfl⟩
theorem a4r{wr:aa0}{nl:List (lw)}(hm:Mk wr nl aH)(hn:j5 75 [.dt (.row wr)] (bY nl)){l:List Raw}(hf:∀x∈l,eP x):∀(j i:Nat) (s:As),i+j=min l.length 4→aX s→(s.map fun x=>x.1.nn)=aH.take i→∃s':As,aX s'∧I7 EX wT (kS wr l aH s i) (.out 0) (kS wr l aH s' (min l.length 4:Nat)):=by
 intro j
 induction j with
 |zero =>
  intro i s hi hs _;obtain rfl:i=min l.length 4:=J;refine⟨s,hs,?_⟩;by_cases h:l.length≤4
  ·exact .stop (b2k J) (fun h=>by cases h)
  ·exact .stop (b2l J J) (fun h=>by cases h)
 |succ j ih =>
  intro i s hi hs hk;have hlt:i < l.length:=J;obtain⟨nm,n1,n2,n3,n4⟩:=a9P (i:=i) J;have hx:l[i]?=some l[i]:=ww hlt;obtain⟨t,t1,t2⟩:=a6W hm hn (hf _ (q8 hx));have hno:aF s I4 nm=none:=TE fun x hx e=>n3 (by rw[←hk,←e];exact Zaw.2 ⟨x,hx,rfl⟩)
  obtain⟨s',k1,k2⟩:=ih (i+1) (s++[(X8 nm,t)]) J (hs.snoc n2 hno t1) (by rw[Zam,hk,n4];rfl);exact⟨s',k1,.more (b2j hx J n1 (lN s) hs.len t2) k2⟩
theorem a4s{wr:aa0}{nl:List (lw)}(hm:Mk wr nl aH)(hn:j5 75 [.dt (.row wr)] (bY nl)){l:List Raw}(hf:∀x∈l,eP x):∃σ:As,aX σ∧j5 11 [.dt (.row wr),dX l] (.dt (.row (N9 σ))):=by
 obtain⟨σ,h1,h2⟩:=a4r hm hn hf (min l.length 4) 0 [] J aX.nil rfl;exact⟨σ,h1,b2m (vl:=aH) Dm (lN σ) (y7.Z9 6 92 13 (by show 6 < 35;omega) rfl h2.I8)⟩
theorem a4t{l:List Raw}(hf:∀x∈l,eP x):∃σ:As,aX σ∧j5 11 [.dt (.row P6),dX l] (.dt (.row (N9 σ))):=a4s (mkB aH O O Vq) Rw hf
end Go.Proofs.YtbpmpdadppamgaaGreatDoor
