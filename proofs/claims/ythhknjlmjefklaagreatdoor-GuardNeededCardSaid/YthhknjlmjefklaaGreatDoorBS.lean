/- The functions of the built-in world: their bodies are well formed. -/
import Derived.Test.YthhknjlmjefklaaGreatDoorBR
import Derived.Test.YthhknjlmjefklaaGreatDoorBN
import Derived.Test.YthhknjlmjefklaaGreatDoorBO
import Derived.Test.YthhknjlmjefklaaGreatDoorBP
namespace Go.Proofs.YthhknjlmjefklaaGreatDoor
open Go.Proofs.Tryz
open Go.RowKit
open Te
def Td(o:Ob):Bool:=decide (o=U6) || decide (o=tO) || decide (o=(Tr.num 0).ob) || decide (o=(Tr.num 1).ob) || decide (o=(Tr.num (-1)).ob)
theorem b1M{o:Ob}(h:Td o=true):∃t:Tr,t.ob=o∧t.valid=true:=by
 unfold Td at h;simp only[Bool.or_eq_true,Za3]at h;rcases h with (((rfl | rfl) | rfl) | rfl) | rfl
 ·exact⟨Tr.sym x8 aQ,rfl,by decide +kernel⟩
 ·exact⟨Tr.sym x8 [116],rfl,by decide +kernel⟩
 ·exact⟨_,rfl,uB (n:=0) O⟩
 ·exact⟨_,rfl,uB (n:=1) O⟩
 ·exact⟨_,rfl,uB (n:=-1) O⟩
mutual
def Ku:Te→Bool
 |⟨k,p,n,o,l⟩=>if k=1 then decide (o=V9) && l.isEmpty
  else if k=2 then p.isEmpty && (n.isEmpty && (l.isEmpty && Td o))
  else decide (k=3) && (decide (p=x8) && (decide (o=V9) && (decide (bH F9 n=some l.length) && (decide (l.length≤8) && Kv l))))
def Kv:List Te→Bool
 |[]=>true
 |x::r=>Ku x && Kv r
end
mutual
theorem Zy:∀t:Te,Ku t=true→Wd t
 |⟨k,p,n,o,l⟩,h=>by
  rw[Ku]at h;split at h
  ·rename_i hk;subst hk;simp only[AC,Za3,List.isEmpty_iff]at h;obtain⟨rfl,rfl⟩:=h;exact .var p n
  ·split at h
   ·rename_i hk;subst hk;simp only[AC,List.isEmpty_iff]at h;obtain⟨rfl,rfl,rfl,h⟩:=h;obtain⟨t,rfl,hv⟩:=b1M h;exact .G9 t hv
   ·simp only[AC,Za3]at h;obtain⟨rfl,rfl,rfl,h1,h2,h3⟩:=h;exact .ap n l h1 h2 (Zz l h3)
theorem Zz:∀l:List Te,Kv l=true→∀x∈l,Wd x
 |[],_=>fun x hx=>by cases hx
 |y::r,h=>by
  rw[Kv,AC]at h;have h1:=Zy y h.1;have h2:=Zz r h.2;intro x hx;rcases Zao.1 hx with e | hx
  ·rw[e];exact h1
  ·exact h2 x hx
end
theorem a7n:(F9.all fun f=>Ku f.body && decide (f.ps.length≤8))=true:=by decide +kernel
theorem PX{f:y8.H8}(h:f∈F9):Wd f.body∧f.ps.length≤8:=by
 have:=Zav.1 a7n f h;rw[AC]at this;exact⟨Zy _ this.1,Zad this.2⟩
theorem a9I:(I7.all fun x=>(F9.find? fun f=>f.nm == x.1).isNone)=true:=by decide +kernel
theorem PY{x:aa0×Nat}(h:x∈I7):(F9.find? fun f=>f.nm == x.1)=none:=by
 have:=Zav.1 a9I x h;simpa using this
theorem VU{n:aa0}{k:Nat}(h:bH F9 n=some k):(∃i,I7[i]?=some (n,k)∧bZ I7 0 n=some (i,k)∧(F9.find? fun f=>f.nm == n)=none)∨(∃f,f∈F9∧(F9.find? fun f=>f.nm == n)=some f∧f.ps.length=k∧bZ I7 0 n=none∧∀x∈I7,n≠x.1):=by
 cases hp:bZ I7 0 n with
 |some q =>
  obtain⟨i,a⟩:=q;obtain⟨_,h2⟩:=OC hp;rw[Nat.sub_zero]at h2;have hm:=Za5 h2;have hno:=PY hm;have ha:bH F9 n=some a:=by
   have hall:(I7.all fun x=>decide (bH F9 x.1=some x.2))=true:=by decide +kernel
   exact Zad (Zav.1 hall _ hm)
  rw[ha]at h;cases h;exact .inl ⟨i,h2,rfl,hno⟩
 |none =>
  have hne:=Yf hp;have hpr:y8.xG I7 n=none:=by
   cases hq:y8.xG I7 n with
   |none=>rfl
   |some k' =>
    exfalso
    unfold y8.xG at hq;rw[ZaG]at hq;obtain⟨x,hx,_⟩:=hq;have h1:=List.find?_some hx;have h2:=List.mem_of_find?_eq_some hx;exact hne x h2 (by simpa using h1:x.1=n).symm
  unfold bH at h;rw[hpr]at h;dsimp only at h;rw[ZaG]at h;obtain⟨f,hf,hk⟩:=h;exact .inr ⟨f,List.mem_of_find?_eq_some hf,hf,hk,rfl,hne⟩
abbrev jJ(nl:List (aa0)):AV:=.dt (.row (nl.map L9))
abbrev fA(vl:List (aa0)):AV:=.dt (.row (vl.map dD))
theorem lenV(l:List (aa0)):Value.int .i64 (l.length:Int)=Value.int .i64 ((l.map dD).length:Int):=by rw[EQ]
abbrev vlM:List (aa0):=[[120],[121],[122],[117]]
structure Mk (wr:aa1) (nl vl:List (aa0)):Prop where
 hn:0 < nl.length
 hn1:nl.length≤1000
 hv:0 < vl.length
 hv1:vl.length≤4
 ar:∀n∈nl,n.length≤1000∧∃a:Nat,a≤8∧l7 84 [.dt (.row wr),y7 x8 n] (.o7 [inA (a:Int),o6 true])∧bH F9 n=some a
 c2a:∀v∈vl,v∈vlM
theorem ixA{l:List (aa0)}(f:aa0→List Dt)(hf:∀x,(f x).length=2)(n:Int)(h:0 < l.length):∃x∈l,E5 (l.map f) (n % l.length) 2 (f x):=by
 have h0:0≤n % (l.length:Int):=Int.emod_nonneg _ J;have h1:n % (l.length:Int) < l.length:=Int.emod_lt_of_pos _ J;have hk:(n % (l.length:Int)).toNat < l.length:=J;exact⟨l[(n % (l.length:Int)).toNat],Zay hk,h0,by rw[Zag,Za2 hk];rfl,hf _⟩
abbrev FX(r:Raw):Option Bx:=some (.cells [inA r.kind,inA r.n,stA r.s,.dt (.row (r.l.map Raw.enc))])
abbrev zTc:Option Bx:=some (.cells [inA 0,stA [],stA [],inA 0,stA [],stA [],stA [],stA [],stA [],.nil,.nil])
theorem b8D{wr:aa1}{nl vl:List (aa0)}{r:Raw}{k j:Int}{nm:aa0}{t:Te}(h1:l7 9 [inA r.kind,inA 6] (inA k))(hk:k < 2)(hv:0 < vl.length)(h2:l7 9 [inA r.n,inA vl.length] (inA j))(hx:E5 (vl.map dD) j 2 (dD nm))(ht:l7 92 [y7 G6 nm] (y9 t)):l7 54 [.dt (.row wr),jJ nl,fA vl,J3 r] (y9 t) :=
 pV [.av (inA k),yT,.av (inA vl.length),yT,.av (inA vl.length),.av (inA j),.av (.pin [stA G6,stA nm]),.av (y9 t)] [_,Bk .lss 3 18 2 k bT,(vi ↑vl.length)=(vi (↑(List.map dD vl).length)),Bk .gtr 3 22 0 ↑vl.length bT,(vi ↑vl.length)=(vi (↑(List.map dD vl).length)),_,_,_] func54 ⟨h1,F8 (UV hk),lenV _,dA (UV J),lenV _,h2,hx,ht,Z⟩
theorem b8E{wr:aa1}{nl vl:List (aa0)}{r:Raw}{o:Ob}{t:Te}(h1:l7 9 [inA r.kind,inA 6] (inA 2))(hl:r.l.length=0)(h2:l7 9 [inA r.n,inA 7] (inA (r.n % 7)))(ho:l7 12 [inA (r.n % 7 - 2)] (x9 o))(hc:l7 13 [x9 o] (y9 t)):l7 54 [.dt (.row wr),jJ nl,fA vl,J3 r] (y9 t) :=
 pV [.av (inA 2),.no,.no,.av (inA r.l.length),yT,.av (inA (r.n % 7)),.av (inA (r.n % 7 - 2)),.av (x9 o),.av (y9 t)] [_,(vi ↑r.l.length)=(vi (↑(List.map Raw.enc r.l).length)),Bk .eql 3 38 0 ↑r.l.length bT,_,Bk .sub 3 42 2 (r.n % 7) (vi (r.n % 7 - 2)),_,_] func54 ⟨h1,fG _,F6 (UV J),h2,dO rfl J J,ho,hc,Z⟩
theorem b8F{wr:aa1}{nl vl:List (aa0)}{r x:Raw}{o:Ob}{t:Te}(h1:l7 9 [inA r.kind,inA 6] (inA 2))(hx:r.l[0]?=some x)(ho:l7 34 [J3 x] (x9 o))(hc:l7 13 [x9 o] (y9 t)):l7 54 [.dt (.row wr),jJ nl,fA vl,J3 r] (y9 t) :=
 pV [.av (inA 2),.no,.no,.av (inA r.l.length),yF,.av (.pin ((encR x).map .dt)),.av (x9 o),.av (y9 t)] [_,(vi ↑r.l.length)=(vi (↑(List.map Raw.enc r.l).length)),Bk .eql 3 38 0 ↑r.l.length bF,E5 (List.map Raw.enc r.l) 0 4 (encR x),_,_] func54 ⟨h1,fG _,F6 (WF (by have:=(Pi.1 hx).1;omega)),uG hx,ho,hc,Z⟩
abbrev bdX(r:Raw)(nm:aa0):List (Option Bx):=[FX r,zTc,some (.cells [stA x8,stA nm])]
abbrev tJ(wr:aa1)(nl vl:List (aa0))(r:Raw)(nm:aa0)(n:Int)(es:aa1)(i:Int):AS:=⟨stt 84 [(0,.dt (.row wr)),(1,jJ nl),(2,fA vl),(7,.ptr 0 0),(8,.ptr 1 0),(10,.ptr 2 0),(11,inA n),(13,.own 3 es.length),(14,inA i)],bdX r nm++[some (.buf 41 11 es)]⟩
abbrev bd0(wr:aa1)(nl vl:List (aa0))(r:Raw)(nm:aa0)(n:Int):AS:=⟨stt 84 [(0,.dt (.row wr)),(1,jJ nl),(2,fA vl),(7,.ptr 0 0),(8,.ptr 1 0),(10,.ptr 2 0),(11,inA n),(13,.nil),(14,inA 0)],bdX r nm⟩
noncomputable abbrev FY:Code:=V5 (ai f54) [1,1,1,1,1,1,1,0,1,0,0]
theorem b8G{wr:aa1}{nl vl:List (aa0)}{r x:Raw}{nm:aa0}{n:Int}{es:aa1}{i:Nat}{t:Te}(hi:(i:Int) < n)(hn:n≤8)(he:es.length≤8)(h1:l7 70 [J3 r,inA (i:Int)] (J3 x))(h2:l7 54 [.dt (.row wr),jJ nl,fA vl,J3 x] (y9 t)):D7 EX FY (tJ wr nl vl r nm n es i) .I4 (tJ wr nl vl r nm n (es++[C9 t]) ((i+1:Nat):Int)) :=
 tW [yT,.av (J3 x),.av (y9 t),.av (.un),.av (inA ((i+1:Nat):Int))] [] [0,1,2,7,8,10,11,13,14] 4 [Bt .lss 3 66 67 ↑i n bT,l7 70 [(J3 r),(inA ↑i)] (J3 x),l7 54 [(.dt (.row wr)),(.dt (.row (List.map L9 nl))),(.dt (.row (List.map dD vl))),(J3 x)] (y9 t),(es.length)=(es.length),X8 176 ((es++[C9 t]).length),S9 11 [C9 t],Bk .add 3 69 1 ↑i (vi (↑(i+1)))]     ⟨F8 (UV hi),h1,h2,rfl,ig J (by simp;omega),Dj t,N8 J J J,Z⟩
theorem b8H{wr:aa1}{nl vl:List (aa0)}{r:Raw}{nm:aa0}{n:Int}{es:aa1}{i:Nat}(hi:¬(i:Int) < n):D7 EX FY (tJ wr nl vl r nm n es i) (.out 0) (tJ wr nl vl r nm n es i) :=
 tW [yF] [] [0,1,2,7,8,10,11,13,14] 4 [Bt .lss 3 66 67 ↑i n bF]     ⟨F8 (WF hi),Z⟩
theorem b8I{wr:aa1}{nl vl:List (aa0)}{r:Raw}{k a j:Int}{nm:aa0}{es:aa1}{t:Te}(h1:l7 9 [inA r.kind,inA 6] (inA k))(hk:3≤k)(h2:l7 9 [inA r.n,inA nl.length] (inA j))(hx:E5 (nl.map L9) j 2 (L9 nm))(ha:l7 84 [.dt (.row wr),y7 x8 nm] (.o7 [inA a,o6 true]))
  (ht:D7 EX (.loop FY) (bd0 wr nl vl r nm a) (.out 0) (tJ wr nl vl r nm a es a)) (hp:l7 23 [y7 x8 nm,.dt (.row es)] (y9 t)):l7 54 [.dt (.row wr),jJ nl,fA vl,J3 r] (y9 t) :=
 pW [.av (inA k),yF,yF,.av (inA nl.length),.av (inA j),.av (.pin [stA x8,stA nm]),.av (.o7 [inA a,o6 true]),.av (y9 t)] [.inv [0,1,2,7,8,10,11,13,14] 3 (.out 0) (tJ wr nl vl r nm a es a)] [_,Bk .lss 3 18 2 k bF,Bk .lss 3 34 3 k bF,(vi ↑nl.length)=(vi (↑(List.map L9 nl).length)),_,_,_,_,_,(es.length)=(es.length)] func54 ⟨h1,F8 (WF J),F8 (WF J),Ko _,h2,hx,ha,ht,hp,rfl,Z⟩
theorem b34{wr:aa1}{nl vl:List (aa0)}{r:Raw}{t:Te}(hn:l7 55 [.dt (.row wr)] (jJ nl))(h:l7 54 [.dt (.row wr),jJ nl,fA vl,J3 r] (y9 t)):l7 21 [.dt (.row wr),fA vl,J3 r] (y9 t) :=
 pV [.av (jJ nl),.av (y9 t)] [_,_] func21 ⟨hn,h,Z⟩
theorem Ai{p a n b:aa0}(h:¬(p=a∧n=b)):(decide (p=a) && decide (n=b))=false:=by
 rw[←Bool.decide_and];exact WF h
theorem QJ{p a n b:aa0}(h:p=a∧n=b):(decide (p=a) && decide (n=b))=true:=by
 rw[←Bool.decide_and];exact UV h
namespace Te
end Te
abbrev Q8(x:(aa0×aa0)×Tr):List Dt:=[.val (str x.1.1),.val (str x.1.2),.val (.int .i64 x.2.ob.kind),.val (str x.2.ob.num),.val (str x.2.ob.den),.val (str x.2.ob.sp),.val (str x.2.ob.sn),.val (str x.2.ob.text),.row (x.2.ob.pair.map Ob.enc)]
abbrev bC(env:E8):aa1:=env.map Q8
abbrev H5(env:E8):AV:=.dt (.row (bC env))
theorem PZ(env:E8):(bC env).length=env.length:=by unfold bC;rw[EQ]
theorem xm{env:E8}{i:Nat}{x:(aa0×aa0)×Tr}(h:env[i]?=some x):E5 (bC env) (i:Int) 9 (Q8 x):=⟨Int.natCast_nonneg _,by
 rw[Int.toNat_natCast,Zag,h];rfl,rfl⟩
theorem xq(env:E8):Value.int .i64 (env.length:Int)=Value.int .i64 ((bC env).length:Int):=by rw[PZ]
abbrev nz(e:E8)(a b:aa0)(i:Int):AS:=⟨stt 26 [(0,H5 e),(3,.ptr 0 0),(4,.ptr 1 0),(6,inA i)],[some (.cells [stA a,stA b]),qJ]⟩
abbrev LG(x:Tr)(a b:aa0):AS:=⟨stt 26 [(4,.ptr 1 0),(5,o6 true)],[some (.cells [stA a,stA b]),some (.cells ((D9 x.ob).map .dt))]⟩
noncomputable abbrev yz:Code:=V5 (ai f83) [1,0,1,0,0]
theorem a2Q{e:E8}{a b:aa0}{x:(aa0×aa0)×Tr}{i:Nat}(hx:e[i]?=some x)(hl:e.length≤1000)(h:¬(x.1.1=a∧x.1.2=b)):D7 EX yz (nz e a b i) .I4 (nz e a b ((i+1:Nat):Int)) :=
 have hi:=(Pi.1 hx).1
 tW [.av (inA e.length),yT,.av (.pin ((Q8 x).map .dt)),yF,.av (inA ((i+1:Nat):Int))] [] [0,3,4,6] 2 [(vi (↑(List.length e)))=(vi (↑(bC e).length)),Bt .lss 3 7 9 ↑i (↑(List.length e)) bT,E5 (bC e) ↑i 9 ([(.val (str x.fst.fst)),(.val (str x.fst.snd)),(.val (vi x.snd.ob.kind)),(.val (str x.snd.ob.num)),(.val (str x.snd.ob.den)),(.val (str x.snd.ob.sp)),(.val (str x.snd.ob.sn)),(.val (str x.snd.ob.text)),(.row (List.map Ob.enc x.snd.ob.pair))]),Bn .eql 28 (.tmp 17) (.tmp 18) (Value.agg #[str x.fst.fst,str x.fst.snd]) (Value.agg #[str a,str b]) bF,Bk .add 3 11 1 ↑i (vi (↑(i+1)))] ⟨xq _,F8 (UV J),xm hx,aO (Ai h),N8 J J J,Z⟩
theorem b8J{e:E8}{a b:aa0}{x:(aa0×aa0)×Tr}{i:Nat}(hx:e[i]?=some x)(h:x.1.1=a∧x.1.2=b):D7 EX yz (nz e a b i) .ret (LG x.2 a b) :=
 have hi:=(Pi.1 hx).1
 tW [.av (inA e.length),yT,.av (.pin ((Q8 x).map .dt)),yT,.av (.pin ((Q8 x).map .dt))] [] [4,5] 2 [(vi (↑(List.length e)))=(vi (↑(bC e).length)),Bt .lss 3 7 9 ↑i (↑(List.length e)) bT,E5 (bC e) ↑i 9 ([(.val (str x.fst.fst)),(.val (str x.fst.snd)),(.val (vi x.snd.ob.kind)),(.val (str x.snd.ob.num)),(.val (str x.snd.ob.den)),(.val (str x.snd.ob.sp)),(.val (str x.snd.ob.sn)),(.val (str x.snd.ob.text)),(.row (List.map Ob.enc x.snd.ob.pair))]),Bn .eql 28 (.tmp 17) (.tmp 18) (Value.agg #[str x.fst.fst,str x.fst.snd]) (Value.agg #[str a,str b]) bT,E5 (bC e) ↑i 9 ([(.val (str x.fst.fst)),(.val (str x.fst.snd)),(.val (vi x.snd.ob.kind)),(.val (str x.snd.ob.num)),(.val (str x.snd.ob.den)),(.val (str x.snd.ob.sp)),(.val (str x.snd.ob.sn)),(.val (str x.snd.ob.text)),(.row (List.map Ob.enc x.snd.ob.pair))])] ⟨xq _,F8 (UV J),xm hx,aO (QJ h),xm hx,Z⟩
theorem b8K{e:E8}{a b:aa0}{i:Nat}(hi:i=e.length):D7 EX yz (nz e a b i) (.out 0) (nz e a b i) :=
 tW [.av (inA e.length),yF] [] [0,3,4,6] 2 [(vi (↑(List.length e)))=(vi (↑(bC e).length)),Bt .lss 3 7 9 ↑i (↑(List.length e)) bF] ⟨xq _,F8 (WF J),Z⟩
theorem b5W{e:E8}{a b:aa0}{x:Tr}(h:D7 EX (.loop yz) (nz e a b 0) .ret (LG x a b)):l7 83 [H5 e,y7 a b] (.o7 [o9 x,o6 true]) :=
 pW [] [.inv [0,3,4,6] 2 (.ret) (LG x a b)] [_] func83 ⟨h,Z⟩
theorem b5X{e:E8}{a b:aa0}{k:Int}(h:D7 EX (.loop yz) (nz e a b 0) (.out 0) (nz e a b k)):l7 83 [H5 e,y7 a b] (.o7 [x9 zO,o6 false]) :=
 pW [] [.inv [0,3,4,6] 2 (.out 0) (nz e a b k)] [_] func83 ⟨h,Z⟩
theorem b1N{L:E8}{a b:aa0}(hl:L.length≤1000):∀(s:E8) (i:Nat),L.drop i=s→i≤L.length →
  (dn s a b=none→Lps EX yz (nz L a b i) (.out 0) (nz L a b L.length))∧(∀t,dn s a b=some t→Lps EX yz (nz L a b i) .ret (LG t a b)):=by
 intro s
 induction s with
 |nil =>
  intro i hd hi;have e1:=congrArg List.length hd;rw[Za7,List.length_nil]at e1;obtain rfl:i=L.length:=J;exact⟨fun _=>.stop (b8K rfl) (fun h=>by cases h),fun t h=>by cases h⟩
 |cons x s ih =>
  intro i hd hi;have hx:L[i]?=some x:=by rw[←Zak,hd];rfl
  have hlt:=(Pi.1 hx).1;obtain⟨h1,h2⟩:=ih (i+1) (by rw[←Zaj,hd];rfl) hlt;rw[dn];by_cases hc:x.1.1=a∧x.1.2=b
  ·rw[Za0 hc];exact⟨fun h=>(by cases h),fun t h=>by cases h;exact .stop (b8J hx hc) (fun h=>by cases h)⟩
  ·rw[lw hc];exact⟨fun h=>.more (a2Q hx hl hc) (h1 h),fun t h=>.more (a2Q hx hl hc) (h2 t h)⟩
theorem a0D{e:E8}{a b:aa0}(hl:e.length≤1000):(dn e a b=none→l7 83 [H5 e,y7 a b] (.o7 [x9 zO,o6 false]))∧(∀t,dn e a b=some t→l7 83 [H5 e,y7 a b] (.o7 [o9 t,o6 true])):=by
 obtain⟨h1,h2⟩:=b1N (a:=a) (b:=b) hl e 0 rfl (ww _);exact⟨fun h=>b5X (h1 h).tri,fun t h=>b5W (h2 t h).tri⟩
theorem Jc(x:(aa0×aa0)×Tr):S9 9 [Q8 x]:=by
 intro y hy;rw[ut]at hy;subst hy;refine⟨rfl,fun d hd=>?_⟩;simp only[Zao,ZaO,or_false]at hd;rcases hd with rfl | rfl | rfl | rfl | rfl | rfl | rfl | rfl | rfl <;> rfl
abbrev vO(ps:List (aa0))(vs:List Tr)(es:aa1)(i:Int):AS:=⟨stt 32 [(0,.dt (.row (ps.map L9))),(1,rowA vs),(5,.own 0 es.length),(6,inA i)],[some (.buf 75 9 es)]⟩
abbrev bi0(ps:List (aa0))(vs:List Tr):AS:=⟨stt 32 [(0,.dt (.row (ps.map L9))),(1,rowA vs),(5,.nil),(6,inA 0)],[]⟩
noncomputable abbrev LH:Code:=V5 (ai f89) [1,1,0,1,0,0]
theorem a1N{ps:List (aa0)}{i:Nat}{n:aa0}(h:ps[i]?=some n):E5 (ps.map L9) (i:Int) 2 (L9 n):=⟨Int.natCast_nonneg _,by
 rw[Int.toNat_natCast,Zag,h];rfl,rfl⟩
theorem a1O{vs:List Tr}{i:Nat}{x:Tr}(h:vs[i]?=some x):E5 (vs.map fun t=>D9 t.ob) (i:Int) 7 (D9 x.ob):=⟨Int.natCast_nonneg _,by
 rw[Int.toNat_natCast,Zag,h];rfl,rfl⟩
theorem Eh(ps:List (aa0)):Value.int .i64 (ps.length:Int)=Value.int .i64 ((ps.map L9).length:Int):=by rw[EQ]
theorem b5Y(vs:List Tr):Value.int .i64 (vs.length:Int)=Value.int .i64 ((vs.map fun t=>D9 t.ob).length:Int):=by rw[EQ]
theorem jA{b n:Nat}(hb:b≤1000)(h:n≤1000000):X8 b n:=⟨by show n≤2 ^ 63 - 1;omega,by
 have:=Nat.mul_le_mul h hb;omega⟩
theorem b8L{ps:List (aa0)}{vs:List Tr}{es:aa1}{n:aa0}{x:Tr}{i:Nat}(hn:ps[i]?=some n)(hx:vs[i]?=some x)(hp:ps.length≤1000)(he:es.length≤1000):D7 EX LH (vO ps vs es i) .I4 (vO ps vs (es++[Q8 ((x8,n),x)]) ((i+1:Nat):Int)) :=
 have hi:=(Pi.1 hn).1;have hj:=(Pi.1 hx).1
 tW [.av (inA ps.length),yT,.av (inA vs.length),yT,.av (.pin ((L9 n).map .dt)),.av (.pin ((D9 x.ob).map .dt)),.av (.un),.av (inA ((i+1:Nat):Int))] [] [0,1,5,6] 1 [(vi ↑ps.length)=(vi (↑(List.map L9 ps).length)),Bt .lss 3 7 9 ↑i ↑ps.length bT,(vi ↑vs.length)=(vi (↑(List.map (fun t=>D9 t.ob) vs).length)),Bt .lss 3 12 14 ↑i ↑vs.length bT,E5 (List.map L9 ps) ↑i 2 ([(.val (str x8)),(.val (str n))]),E5 (List.map (fun t=>D9 t.ob) vs) ↑i 7 (D9 x.ob),(es.length)=(es.length),X8 144 ((es++[[Dt.val (str x8),Dt.val (str n),Dt.val (vi x.ob.kind),Dt.val (str x.ob.num),Dt.val (str x.ob.den),Dt.val (str x.ob.sp),Dt.val (str x.ob.sn),Dt.val (str x.ob.text),Dt.row (List.map Ob.enc x.ob.pair)]]).length),S9 9 [[(.val (str x8)),(.val (str n)),(.val (vi x.ob.kind)),(.val (str x.ob.num)),(.val (str x.ob.den)),(.val (str x.ob.sp)),(.val (str x.ob.sn)),(.val (str x.ob.text)),(.row (List.map Ob.enc x.ob.pair))]],Bk .add 3 17 1 ↑i (vi (↑(i+1)))] ⟨Eh _,F8 (UV J),b5Y _,F8 (UV J),a1N hn,a1O hx,rfl,jA J (by simp;omega),Jc ((x8,n),x),N8 J J J,Z⟩
theorem b8M{ps:List (aa0)}{vs:List Tr}{es:aa1}{i:Nat}(hi:i=ps.length):D7 EX LH (vO ps vs es i) (.out 0) (vO ps vs es i) :=
 tW [.av (inA ps.length),yF] [] [0,1,5,6] 1 [(vi ↑ps.length)=(vi (↑(List.map L9 ps).length)),Bt .lss 3 7 9 ↑i ↑ps.length bF] ⟨Eh _,F8 (WF J),Z⟩
theorem b8N{ps:List (aa0)}{vs:List Tr}{rs:aa1}{k:Int}(h:D7 EX (.loop LH) (bi0 ps vs) (.out 0) (vO ps vs rs k)):l7 89 [.dt (.row (ps.map L9)),rowA vs] (.dt (.row rs)) :=
 pW [] [.inv [0,1,5,6] 0 (.out 0) (vO ps vs rs k)] [_,(rs.length)=(rs.length)] func89 ⟨h,rfl,Z⟩
theorem b1O{P:List (aa0)}{V:List Tr}(hl:P.length≤500)(hv:V.length=P.length):∀(p:List (aa0)) (v:List Tr) (i:Nat) (pre:E8),P.drop i=p→V.drop i=v→i≤P.length→pre.length=i→Lps EX LH (vO P V (bC pre) i) (.out 0) (vO P V (bC (pre++fV p v)) P.length):=by
 intro p
 induction p with
 |nil =>
  intro v i pre hd hm hi hp;have e1:=congrArg List.length hd;rw[Za7,List.length_nil]at e1;obtain rfl:i=P.length:=J;have e:fV [] v=[]:=by cases v <;> rfl
  rw[e,ZaI];exact .stop (b8M rfl) (fun h=>by cases h)
 |cons n p ih =>
  intro v i pre hd hm hi hp;have hn:P[i]?=some n:=by rw[←Zak,hd];rfl
  have hlt:=(Pi.1 hn).1;cases v with
  |nil =>
   have e1:=congrArg List.length hm;rw[Za7,List.length_nil]at e1;omega
  |cons x v =>
   have hx:V[i]?=some x:=by rw[←Zak,hm];rfl
   have hs:=b8L (es:=bC pre) hn hx J (by rw[PZ];omega);have e:bC pre++[Q8 ((x8,n),x)]=bC (pre++[((x8,n),x)]):=by unfold bC;rw[ZaL];rfl
   rw[e]at hs;have k:=ih v (i+1) (pre++[((x8,n),x)]) (by rw[←Zaj,hd];rfl) (by rw[←Zaj,hm];rfl) hlt (by simp[hp]);rw[Zah]at k;exact .more hs k
theorem b1P{ps:List (aa0)}{vs:List Tr}(hl:ps.length≤500)(hv:vs.length=ps.length):l7 89 [.dt (.row (ps.map L9)),rowA vs] (H5 (fV ps vs)) :=
 b8N (D7.aS 5 75 9 (by show 5 < 32;omega) rfl (b1O hl hv ps vs 0 [] rfl rfl (ww _) rfl).tri)
theorem QK{o:Ob}(h:o.kind≠2):l7 87 [x9 o] (o6 false) :=
 pV [yF] [Bk .eql 3 4 2 o.kind bF] func87 ⟨F6 (bI h),Z⟩
theorem b35{o:Ob}(h:o.kind=2)(h2:o.sp≠x8):l7 87 [x9 o] (o6 false) :=
 pV [yT,yF] [Bk .eql 3 4 2 o.kind bT,Bl .eql 9 9 [108,105,115,112] o.sp bF] func87 ⟨F6 (dh h),L6 (bI h2),Z⟩
theorem b36{o:Ob}{b:Bool}(h:o.kind=2)(h2:o.sp=x8)(h3:decide (o.sn=aQ)=b):l7 87 [x9 o] (o6 b) :=
 pV [yT,yT,.av (o6 b)] [Bk .eql 3 4 2 o.kind bT,Bl .eql 9 9 [108,105,115,112] o.sp bT,Bl .eql 9 15 [110,105,108] o.sn (Value.bool b)] func87 ⟨F6 (dh h),L6 (dh h2),L6 h3,Z⟩
theorem b1Q(x:Tr):l7 87 [o9 x] (o6 (decide (x=o8))):=by
 cases x with
 |num q=>rw[WF (by intro h;cases h)];exact QK (o:=(Tr.num q).ob) (by show (1:Int)≠2;decide)
 |txt s=>rw[WF (by intro h;cases h)];exact QK (o:=(Tr.txt s).ob) (by show (3:Int)≠2;decide)
 |cons a d=>rw[WF (by intro h;cases h)];exact QK (o:=(Tr.cons a d).ob) (by show (4:Int)≠2;decide)
 |sym p n =>
  by_cases hp:p=x8
  ·subst hp;exact b36 (o:=(Tr.sym x8 n).ob) rfl rfl (by
    by_cases hn:n=aQ
    ·subst hn;rw[UV (show (Tr.sym x8 aQ).ob.sn=aQ from rfl),UV (show Tr.sym x8 aQ=o8 from rfl)]
    ·rw[WF (show ¬(Tr.sym x8 n).ob.sn=aQ from hn),WF (by intro h;cases h;exact hn rfl)])
  ·rw[WF (by intro h;cases h;exact hp rfl)];exact b35 (o:=(Tr.sym p n).ob) rfl hp
abbrev dX:FuncId:=49
abbrev Z5(ws:aa1)(l:Int):List (Option Bx):=[some (.cells [.dt (.row ws),inA l])]
abbrev dL:List AV:=encZ.map .dt
abbrev gp:AV:=.agg dL
theorem zW(x:Tr):S9 7 [D9 x.ob]:=by
 intro y hy;rw[ut]at hy;subst hy;refine⟨rfl,fun d hd=>?_⟩;simp only[Zao,ZaO,or_false]at hd;rcases hd with rfl | rfl | rfl | rfl | rfl | rfl | rfl <;> rfl
abbrev uY:Except Int Tr→AV
 |.ok x=>.o7 [o9 x,inA 0]
 |.error e=>.o7 [x9 zO,inA e]
theorem a9J{es:aa1}{n:aa0}(h:l7 114 [.dt (.row es),y7 x8 n] (.o7 [inA 0,inA 0,o6 false])):l7 85 [.dt (.row es),y7 x8 n] (.o7 [gp,o6 false]) :=
 pV [.av (.o7 [inA 0,inA 0,o6 false])] [_] func85 ⟨h,Z⟩
theorem bP.rv{P:Program}{G:World→Prop}{f:FuncId}{args:List AV}{xs xs':List (Option Bx)}{r r':AV}(h:bP P G f args xs r xs')(hr:∀M w v,RV M w r v→RV M w r' v):bP P G f args xs r' xs' :=
 ⟨h.1,fun X M w vs hG hS ha=>(h.2 X M w vs hG hS ha).mono fun _ _ ⟨v,M',h1,h2,h3,h4,h5⟩=>⟨v,M',h1,h2,h3,h4,hr _ _ _ h5⟩⟩
abbrev zOn:AV:=.agg [inA 0,stA [],stA [],stA [],stA [],stA [],.nil]
theorem jr{M:Mm}{w:World}{v:Value}{e:Int}(h:RV M w (.o7 [zOn,inA e]) v):RV M w (.o7 [x9 zO,inA e]) v:=by
 obtain⟨_,rfl,u,_,rfl,⟨_,rfl,u0,_,rfl,h0,u1,_,rfl,h1,u2,_,rfl,h2,u3,_,rfl,h3,u4,_,rfl,h4,u5,_,rfl,h5,u6,_,rfl,h6,rfl⟩,ub,_,rfl,hb,rfl⟩:=h;exact⟨_,rfl,_,_,rfl,⟨_,rfl,_,_,rfl,h0,_,_,rfl,h1,_,_,rfl,h2,_,_,rfl,h3,_,_,rfl,h4,_,_,rfl,h5,_,_,rfl,RV.nilRow h6,rfl⟩,_,_,rfl,hb,rfl⟩
theorem a1P{ws:aa1}{l:Int}{t:Te}{env:E8}{x:Tr}(h:t.kind=1)(hv:l7 83 [H5 env,y7 t.np t.nn] (.o7 [o9 x,o6 true])):F7 dX [.ptr 0 0,y9 t,H5 env] (Z5 ws l) (.o7 [o9 x,inA 0]) (Z5 ws l) :=
 sW 1 [0] [yT,.av (.o7 [o9 x,o6 true])] [] [Bk .eql 3 23 1 t.kind bT,_] func49 ⟨F6 (dh h),hv,Z⟩
theorem a1Q{ws:aa1}{l:Int}{t:Te}{env:E8}(h:t.kind=1)(hv:l7 83 [H5 env,y7 t.np t.nn] (.o7 [x9 zO,o6 false])):F7 dX [.ptr 0 0,y9 t,H5 env] (Z5 ws l) (.o7 [x9 zO,inA 6]) (Z5 ws l) :=
 .rv (sW 1 [0] [yT,.av (.o7 [x9 zO,o6 false])] [] [Bk .eql 3 23 1 t.kind bT,_] func49 ⟨F6 (dh h),hv,Z⟩) fun _ _ _ h=>jr h
theorem a1R{ws:aa1}{l:Int}{t:Te}{env:E8}(h:t.kind=2):F7 dX [.ptr 0 0,y9 t,H5 env] (Z5 ws l) (.o7 [x9 t.val,inA 0]) (Z5 ws l) :=
 sW 1 [0] [yF,yT] [] [Bk .eql 3 23 1 t.kind bF,Bk .eql 3 23 2 t.kind bT] func49 ⟨F6 (by simp[h]),F6 (by simp[h]),Z⟩
theorem a1S{ws:aa1}{l:Int}{t:Te}{env:E8}(h:t.kind=3)(hl:l < 1):F7 dX [.ptr 0 0,y9 t,H5 env] (Z5 ws l) (.o7 [x9 zO,inA 9]) (Z5 ws l) :=
 .rv (sW 1 [0] [yF,yF,yT] [] [Bk .eql 3 23 1 t.kind bF,Bk .eql 3 23 2 t.kind bF,Bk .lss 3 44 1 l bT] func49 ⟨F6 (by simp[h]),F6 (by simp[h]),F8 (UV hl),Z⟩) fun _ _ _ h=>jr h
structure xK (ws:aa1) (t:Te) (l:Int) (b:Bool):Prop where
 k:t.kind=3
 l0:1≤l
 l1:l≤100000
 ar:l7 84 [.dt (.row ws),y7 t.np t.nn] (.o7 [inA t.args.length,o6 true])
 pr:l7 10 [y7 t.np t.nn] (.o7 [inA t.args.length,o6 true])
 fn:l7 85 [.dt (.row ws),y7 t.np t.nn] (.o7 [gp,o6 false])
 is:l7 86 [y9 t,stA Q7,inA 3] (o6 b)
theorem b5Z{ws:aa1}{l m e:Int}{t a:Te}{env:E8}(hp:xK ws t l true)(ha:t.args[0]?=some a)(he:e≠0)(h:F7 dX [.ptr 0 0,y9 a,H5 env] (Z5 ws (l - 1)) (.o7 [x9 zO,inA e]) (Z5 ws m)):F7 dX [.ptr 0 0,y9 t,H5 env] (Z5 ws l) (.o7 [x9 zO,inA e]) (Z5 ws m) :=
 have h0:=hp.l0;have h1:=hp.l1
 sW 1 [0] [yF,yF,yF,.av (inA (l - 1)),.av (.o7 [inA t.args.length,o6 true]),.av (inA t.args.length),yF,.av (.o7 [inA t.args.length,o6 true]),.av (.o7 [gp,o6 false]),yT,.av (.pin ((C9 a).map .dt)),yT] [.P5 22 6 [0] (.o7 [x9 zO,inA e]) [some (.cells [.dt (.row ws),inA m])]] [Bk .eql 3 23 1 t.kind bF,Bk .eql 3 23 2 t.kind bF,Bk .lss 3 44 1 l bF,Bk .sub 3 50 1 l (vi (l - 1)),_,(vi ↑t.args.length)=(vi (↑(List.map Te.enc t.args).length)),Bt .neq 3 67 70 ↑t.args.length ↑t.args.length bF,_,_,_,E5 (List.map Te.enc t.args) 0 11 (C9 a),_,Bk .neq 44 109 0 e bT] func49 ⟨F6 (by simp[hp.k]),F6 (by simp[hp.k]),F8 (WF J),dO rfl J J,hp.ar,O6 _,H7 I,hp.pr,hp.fn,hp.is,Y9 ha,h,H7 (by simp[he]),Z⟩
theorem b50{ws:aa1}{l m k e:Int}{t a b:Te}{env:E8}{x:Tr}{o:Ob}(hp:xK ws t l true)(ha:t.args[0]?=some a)(hb:t.args[2]?=some b)(h:F7 dX [.ptr 0 0,y9 a,H5 env] (Z5 ws (l - 1)) (.o7 [o9 x,inA 0]) (Z5 ws m))(hn:l7 87 [o9 x] (o6 true))(h2:F7 dX [.ptr 0 0,y9 b,H5 env] (Z5 ws m) (.o7 [x9 o,inA e]) (Z5 ws k)):F7 dX [.ptr 0 0,y9 t,H5 env] (Z5 ws l) (.o7 [x9 o,inA e]) (Z5 ws k) :=
 have h0:=hp.l0;have h1:=hp.l1
 sW 1 [0] [yF,yF,yF,.av (inA (l - 1)),.av (.o7 [inA t.args.length,o6 true]),.av (inA t.args.length),yF,.av (.o7 [inA t.args.length,o6 true]),.av (.o7 [gp,o6 false]),yT,.av (.pin ((C9 a).map .dt)),yF,yT,.av (.pin ((C9 b).map .dt))] [.P5 22 6 [0] (.o7 [o9 x,inA 0]) [some (.cells [.dt (.row ws),inA m])],.P5 26 6 [0] (.o7 [x9 o,inA e]) [some (.cells [.dt (.row ws),inA k])]] [Bk .eql 3 23 1 t.kind bF,Bk .eql 3 23 2 t.kind bF,Bk .lss 3 44 1 l bF,Bk .sub 3 50 1 l (vi (l - 1)),_,(vi ↑t.args.length)=(vi (↑(List.map Te.enc t.args).length)),Bt .neq 3 67 70 ↑t.args.length ↑t.args.length bF,_,_,_,E5 (List.map Te.enc t.args) 0 11 (C9 a),_,Bk .neq 44 109 0 0 bF,_,E5 (List.map Te.enc t.args) 2 11 (C9 b),_] func49 ⟨F6 (by simp[hp.k]),F6 (by simp[hp.k]),F8 (WF J),dO rfl J J,hp.ar,O6 _,H7 I,hp.pr,hp.fn,hp.is,Y9 ha,h,H7 I,hn,Y9 hb,h2,Z⟩
theorem b51{ws:aa1}{l m k e:Int}{t a b:Te}{env:E8}{x:Tr}{o:Ob}(hp:xK ws t l true)(ha:t.args[0]?=some a)(hb:t.args[1]?=some b)(h:F7 dX [.ptr 0 0,y9 a,H5 env] (Z5 ws (l - 1)) (.o7 [o9 x,inA 0]) (Z5 ws m))(hn:l7 87 [o9 x] (o6 false))(h2:F7 dX [.ptr 0 0,y9 b,H5 env] (Z5 ws m) (.o7 [x9 o,inA e]) (Z5 ws k)):F7 dX [.ptr 0 0,y9 t,H5 env] (Z5 ws l) (.o7 [x9 o,inA e]) (Z5 ws k) :=
 have h0:=hp.l0;have h1:=hp.l1
 sW 1 [0] [yF,yF,yF,.av (inA (l - 1)),.av (.o7 [inA t.args.length,o6 true]),.av (inA t.args.length),yF,.av (.o7 [inA t.args.length,o6 true]),.av (.o7 [gp,o6 false]),yT,.av (.pin ((C9 a).map .dt)),yF,yF,.av (.pin ((C9 b).map .dt))] [.P5 22 6 [0] (.o7 [o9 x,inA 0]) [some (.cells [.dt (.row ws),inA m])],.P5 27 6 [0] (.o7 [x9 o,inA e]) [some (.cells [.dt (.row ws),inA k])]] [Bk .eql 3 23 1 t.kind bF,Bk .eql 3 23 2 t.kind bF,Bk .lss 3 44 1 l bF,Bk .sub 3 50 1 l (vi (l - 1)),_,(vi ↑t.args.length)=(vi (↑(List.map Te.enc t.args).length)),Bt .neq 3 67 70 ↑t.args.length ↑t.args.length bF,_,_,_,E5 (List.map Te.enc t.args) 0 11 (C9 a),_,Bk .neq 44 109 0 0 bF,_,E5 (List.map Te.enc t.args) 1 11 (C9 b),_] func49 ⟨F6 (by simp[hp.k]),F6 (by simp[hp.k]),F8 (WF J),dO rfl J J,hp.ar,O6 _,H7 I,hp.pr,hp.fn,hp.is,Y9 ha,h,H7 I,hn,Y9 hb,h2,Z⟩
abbrev raX(ws:aa1)(t:Te)(fc:List AV)(l:Int)(es:aa1):List (Option Bx):=[some (.cells [.dt (.row ws),inA l]),some (.cells ((C9 t).map .dt)),qJ,some (.cells fc),some (.buf 37 7 es)]
abbrev gq(ws:aa1)(t:Te)(env:E8)(fc:List AV)(p:Bool)(l:Int)(es:aa1)(i:Int):AS:=⟨stt 176 [(0,.ptr 0 0),(2,H5 env),(4,.ptr 1 0),(6,.ptr 2 0),(13,o6 p),(14,.ptr 3 0),(18,.own 4 es.length),(19,inA i)],raX ws t fc l es⟩
abbrev LJ(ws:aa1)(t:Te)(env:E8)(fc:List AV)(p:Bool)(l:Int):AS:=⟨stt 176 [(0,.ptr 0 0),(2,H5 env),(4,.ptr 1 0),(6,.ptr 2 0),(13,o6 p),(14,.ptr 3 0),(18,.nil),(19,inA 0)],[some (.cells [.dt (.row ws),inA l]),some (.cells ((C9 t).map .dt)),qJ,some (.cells fc)]⟩
abbrev BD(ws:aa1)(t:Te)(e l:Int):AS:=⟨stt 176 [(6,.ptr 2 0),(7,inA e)],[some (.cells [.dt (.row ws),inA l]),some (.cells ((C9 t).map .dt)),some (.cells [inA 0,stA [],stA [],stA [],stA [],stA [],.nil])]⟩
noncomputable abbrev lN:Code:=V5 (ai f49) [1,1,1,1,1,1,1,1,1,1,1,1,0,1,0,0]
theorem b8O{ws es:aa1}{t x:Te}{env:E8}{fc:List AV}{p:Bool}{l m e:Int}{i:Nat}(hx:t.args[i]?=some x)(he:e≠0)(h:F7 dX [.ptr 0 0,y9 x,H5 env] (Z5 ws l) (.o7 [x9 zO,inA e]) (Z5 ws m)):D7 (H9 1) lN (gq ws t env fc p l es i) .ret (BD ws t e m) :=
 have hi:=(Pi.1 hx).1
 tW [.av (inA t.args.length),yT,.av (.pin ((C9 x).map .dt)),yT] [.P5 32 7 [0] (.o7 [x9 zO,inA e]) [some (.cells [.dt (.row ws),inA m])]] [6,7] 3 [(vi ↑t.args.length)=(vi (↑(List.map Te.enc t.args).length)),Bt .lss 3 133 136 ↑i ↑t.args.length bT,E5 (List.map Te.enc t.args) ↑i 11 (C9 x),_,Bk .neq 44 151 0 e bT] ⟨O6 _,F8 (UV J),Y9 hx,h,H7 (by simp[he]),Z⟩
theorem b52{ws es:aa1}{t x:Te}{env:E8}{p:Bool}{l m:Int}{y:Tr}{i:Nat}(hx:t.args[i]?=some x)(hl:t.args.length≤1000)(he:es.length≤1000)(h:F7 dX [.ptr 0 0,y9 x,H5 env] (Z5 ws l) (.o7 [o9 y,inA 0]) (Z5 ws m)):D7 (H9 1) lN (gq ws t env dL p l es i) .I4 (gq ws t env dL p m (es++[D9 y.ob]) ((i+1:Nat):Int)) :=
 have hi:=(Pi.1 hx).1
 tW [.av (inA t.args.length),yT,.av (.pin ((C9 x).map .dt)),yF,.av (.un),.av (inA ((i+1:Nat):Int))] [.P5 32 7 [0] (.o7 [o9 y,inA 0]) [some (.cells [.dt (.row ws),inA m])]] [0,2,4,6,13,14,18,19] 5 [(vi ↑t.args.length)=(vi (↑(List.map Te.enc t.args).length)),Bt .lss 3 133 136 ↑i ↑t.args.length bT,E5 (List.map Te.enc t.args) ↑i 11 (C9 x),_,Bk .neq 44 151 0 0 bF,(es.length)=(es.length),X8 112 ((es++[[Dt.val (vi y.ob.kind),Dt.val (str y.ob.num),Dt.val (str y.ob.den),Dt.val (str y.ob.sp),Dt.val (str y.ob.sn),Dt.val (str y.ob.text),Dt.row (List.map Ob.enc y.ob.pair)]]).length),S9 7 [D9 y.ob],Bk .add 3 138 1 ↑i (vi (↑(i+1)))] ⟨O6 _,F8 (UV J),Y9 hx,h,H7 I,rfl,jA J (by simp;omega),zW y,N8 J J J,Z⟩
theorem b53{ws es:aa1}{t:Te}{env:E8}{p:Bool}{l:Int}{i:Nat}(hi:i=t.args.length):D7 (H9 1) lN (gq ws t env dL p l es i) (.out 1) (gq ws t env dL p l es i) :=
 tW [.av (inA t.args.length),yF] [] [0,2,4,6,13,14,18,19] 5 [(vi ↑t.args.length)=(vi (↑(List.map Te.enc t.args).length)),Bt .lss 3 133 136 ↑i ↑t.args.length bF] ⟨O6 _,F8 (WF J),Z⟩
theorem b54{ws es:aa1}{t x:Te}{env:E8}{f:y8.H8}{p:Bool}{l m:Int}{y:Tr}{i:Nat}(hx:t.args[i]?=some x)(hl:t.args.length≤1000)(he:es.length≤1000)(h:F7 dX [.ptr 0 0,y9 x,H5 env] (Z5 ws l) (.o7 [o9 y,inA 0]) (Z5 ws m)):D7 (H9 1) lN (gq ws t env ((I8 f).map .dt) p l es i) .I4 (gq ws t env ((I8 f).map .dt) p m (es++[D9 y.ob]) ((i+1:Nat):Int)) :=
 have hi:=(Pi.1 hx).1
 tW [.av (inA t.args.length),yT,.av (.pin ((C9 x).map .dt)),yF,.av (.un),.av (inA ((i+1:Nat):Int))] [.P5 32 7 [0] (.o7 [o9 y,inA 0]) [some (.cells [.dt (.row ws),inA m])]] [0,2,4,6,13,14,18,19] 5 [(vi ↑t.args.length)=(vi (↑(List.map Te.enc t.args).length)),Bt .lss 3 133 136 ↑i ↑t.args.length bT,E5 (List.map Te.enc t.args) ↑i 11 (C9 x),_,Bk .neq 44 151 0 0 bF,(es.length)=(es.length),X8 112 ((es++[[Dt.val (vi y.ob.kind),Dt.val (str y.ob.num),Dt.val (str y.ob.den),Dt.val (str y.ob.sp),Dt.val (str y.ob.sn),Dt.val (str y.ob.text),Dt.row (List.map Ob.enc y.ob.pair)]]).length),S9 7 [D9 y.ob],Bk .add 3 138 1 ↑i (vi (↑(i+1)))] ⟨O6 _,F8 (UV J),Y9 hx,h,H7 I,rfl,jA J (by simp;omega),zW y,N8 J J J,Z⟩
theorem b55{ws es:aa1}{t:Te}{env:E8}{f:y8.H8}{p:Bool}{l:Int}{i:Nat}(hi:i=t.args.length):D7 (H9 1) lN (gq ws t env ((I8 f).map .dt) p l es i) (.out 1) (gq ws t env ((I8 f).map .dt) p l es i) :=
 tW [.av (inA t.args.length),yF] [] [0,2,4,6,13,14,18,19] 5 [(vi ↑t.args.length)=(vi (↑(List.map Te.enc t.args).length)),Bt .lss 3 133 136 ↑i ↑t.args.length bF] ⟨O6 _,F8 (WF J),Z⟩
def LK(fc:List AV):Prop:=(∀(ws es:aa1) (t x:Te) (env:E8) (p:Bool) (l m:Int) (y:Tr) (i:Nat),t.args[i]?=some x→t.args.length≤1000→es.length≤1000→F7 dX [.ptr 0 0,y9 x,H5 env] (Z5 ws l) (.o7 [o9 y,inA 0]) (Z5 ws m)→D7 (H9 1) lN (gq ws t env fc p l es i) .I4 (gq ws t env fc p m (es++[D9 y.ob]) ((i+1:Nat):Int)))∧(∀(ws es:aa1) (t:Te) (env:E8) (p:Bool) (l:Int) (i:Nat),i=t.args.length→D7 (H9 1) lN (gq ws t env fc p l es i) (.out 1) (gq ws t env fc p l es i))
theorem b56:LK dL:=⟨fun _ _ _ _ _ _ _ _ _ _ hx hl he h=>b52 hx hl he h,fun _ _ _ _ _ _ _ hi=>b53 hi⟩
theorem b57(f:y8.H8):LK ((I8 f).map .dt):=⟨fun _ _ _ _ _ _ _ _ _ _ hx hl he h=>b54 hx hl he h,fun _ _ _ _ _ _ _ hi=>b55 hi⟩
theorem b58{ws es:aa1}{l m e:Int}{t:Te}{env:E8}{k:Int}{o:Ob}(hp:xK ws t l false)(h:D7 (H9 1) (.loop lN) (LJ ws t env dL true (l - 1)) (.out 1) (gq ws t env dL true m es k))(ha:l7 88 [y7 t.np t.nn,.dt (.row es)] (.o7 [x9 o,inA e])):F7 dX [.ptr 0 0,y9 t,H5 env] (Z5 ws l) (.o7 [x9 o,inA e]) (Z5 ws m) :=
 have h0:=hp.l0;have h1:=hp.l1
 sW 1 [0] [yF,yF,yF,.av (inA (l - 1)),.av (.o7 [inA t.args.length,o6 true]),.av (inA t.args.length),yF,.av (.o7 [inA t.args.length,o6 true]),.av (.o7 [gp,o6 false]),yF,.av (.o7 [x9 o,inA e])] [.inv [0,2,4,6,13,14,18,19] 4 (.out 1) (gq ws t env dL true m es k)] [Bk .eql 3 23 1 t.kind bF,Bk .eql 3 23 2 t.kind bF,Bk .lss 3 44 1 l bF,Bk .sub 3 50 1 l (vi (l - 1)),_,(vi ↑t.args.length)=(vi (↑(List.map Te.enc t.args).length)),Bt .neq 3 67 70 ↑t.args.length ↑t.args.length bF,_,_,_,_,_,(es.length)=(es.length)] func49 ⟨F6 (by simp[hp.k]),F6 (by simp[hp.k]),F8 (WF J),dO rfl J J,hp.ar,O6 _,H7 I,hp.pr,hp.fn,hp.is,h,ha,rfl,Z⟩
theorem b37{ws:aa1}{l m e:Int}{t:Te}{env:E8}(hp:xK ws t l false)(h:D7 (H9 1) (.loop lN) (LJ ws t env dL true (l - 1)) .ret (BD ws t e m)):F7 dX [.ptr 0 0,y9 t,H5 env] (Z5 ws l) (.o7 [x9 zO,inA e]) (Z5 ws m) :=
 have h0:=hp.l0;have h1:=hp.l1
 .rv (sW 1 [0] [yF,yF,yF,.av (inA (l - 1)),.av (.o7 [inA t.args.length,o6 true]),.av (inA t.args.length),yF,.av (.o7 [inA t.args.length,o6 true]),.av (.o7 [gp,o6 false]),yF] [.inv [0,2,4,6,13,14,18,19] 4 (.ret) (BD ws t e m)] [Bk .eql 3 23 1 t.kind bF,Bk .eql 3 23 2 t.kind bF,Bk .lss 3 44 1 l bF,Bk .sub 3 50 1 l (vi (l - 1)),_,(vi ↑t.args.length)=(vi (↑(List.map Te.enc t.args).length)),Bt .neq 3 67 70 ↑t.args.length ↑t.args.length bF,_,_,_,_] func49 ⟨F6 (by simp[hp.k]),F6 (by simp[hp.k]),F8 (WF J),dO rfl J J,hp.ar,O6 _,H7 I,hp.pr,hp.fn,hp.is,h,Z⟩) fun _ _ _ h=>jr h
structure RJ (ws:aa1) (t:Te) (l:Int) (f:y8.H8):Prop where
 k:t.kind=3
 l0:1≤l
 l1:l≤100000
 ar:l7 84 [.dt (.row ws),y7 t.np t.nn] (.o7 [inA t.args.length,o6 true])
 pr:l7 10 [y7 t.np t.nn] (.o7 [inA 0,o6 false])
 fn:l7 85 [.dt (.row ws),y7 t.np t.nn] (.o7 [.agg ((I8 f).map .dt),o6 true])
 is:l7 86 [y9 t,stA Q7,inA 3] (o6 false)
theorem b59{ws es bs:aa1}{l m n e:Int}{t:Te}{f:y8.H8}{env:E8}{k:Int}{o:Ob}(hp:RJ ws t l f)(h:D7 (H9 1) (.loop lN) (LJ ws t env ((I8 f).map .dt) false (l - 1)) (.out 1) (gq ws t env ((I8 f).map .dt) false m es k))(hb:l7 89 [.dt (.row (f.ps.map L9)),.dt (.row es)] (.dt (.row bs)))(ha:F7 dX [.ptr 0 0,y9 f.body,.dt (.row bs)] (Z5 ws m) (.o7 [x9 o,inA e]) (Z5 ws n)):F7 dX [.ptr 0 0,y9 t,H5 env] (Z5 ws l) (.o7 [x9 o,inA e]) (Z5 ws n) :=
 have h0:=hp.l0;have h1:=hp.l1
 sW 1 [0] [yF,yF,yF,.av (inA (l - 1)),.av (.o7 [inA t.args.length,o6 true]),.av (inA t.args.length),yF,.av (.o7 [inA 0,o6 false]),.av (.o7 [.agg ((I8 f).map .dt),o6 true]),.no,yF,.av (.dt (.row bs))] [.inv [0,2,4,6,13,14,18,19] 4 (.out 1) (gq ws t env ((I8 f).map .dt) false m es k),.P5 38 7 [0] (.o7 [x9 o,inA e]) [some (.cells [.dt (.row ws),inA n])]] [Bk .eql 3 23 1 t.kind bF,Bk .eql 3 23 2 t.kind bF,Bk .lss 3 44 1 l bF,Bk .sub 3 50 1 l (vi (l - 1)),_,(vi ↑t.args.length)=(vi (↑(List.map Te.enc t.args).length)),Bt .neq 3 67 70 ↑t.args.length ↑t.args.length bF,_,_,_,_,_,(es.length)=(es.length),_] func49 ⟨F6 (by simp[hp.k]),F6 (by simp[hp.k]),F8 (WF J),dO rfl J J,hp.ar,O6 _,H7 I,hp.pr,hp.fn,hp.is,h,hb,rfl,ha,Z⟩
theorem b38{ws:aa1}{l m e:Int}{t:Te}{f:y8.H8}{env:E8}(hp:RJ ws t l f)(h:D7 (H9 1) (.loop lN) (LJ ws t env ((I8 f).map .dt) false (l - 1)) .ret (BD ws t e m)):F7 dX [.ptr 0 0,y9 t,H5 env] (Z5 ws l) (.o7 [x9 zO,inA e]) (Z5 ws m) :=
 have h0:=hp.l0;have h1:=hp.l1
 .rv (sW 1 [0] [yF,yF,yF,.av (inA (l - 1)),.av (.o7 [inA t.args.length,o6 true]),.av (inA t.args.length),yF,.av (.o7 [inA 0,o6 false]),.av (.o7 [.agg ((I8 f).map .dt),o6 true]),.no,yF] [.inv [0,2,4,6,13,14,18,19] 4 (.ret) (BD ws t e m)] [Bk .eql 3 23 1 t.kind bF,Bk .eql 3 23 2 t.kind bF,Bk .lss 3 44 1 l bF,Bk .sub 3 50 1 l (vi (l - 1)),_,(vi ↑t.args.length)=(vi (↑(List.map Te.enc t.args).length)),Bt .neq 3 67 70 ↑t.args.length ↑t.args.length bF,_,_,_,_] func49 ⟨F6 (by simp[hp.k]),F6 (by simp[hp.k]),F8 (WF J),dO rfl J J,hp.ar,O6 _,H7 I,hp.pr,hp.fn,hp.is,h,Z⟩) fun _ _ _ h=>jr h
theorem pY(W:List y8.H8)(f:Nat)(env:E8)(p n:aa0)(l:Nat):ev W f env ⟨1,p,n,V9,[]⟩ l=(match dn env p n with | some x=>.ok x | none=>.error 6,l):=by
 cases f <;> (rw[ev];unfold iR;exact Za0 rfl)
theorem rF(W:List y8.H8)(f:Nat)(env:E8)(t:Tr)(l:Nat):ev W f env (Te.G9 t.ob) l=(.ok t,l):=by
 have key:∀r,iR env (Te.G9 t.ob) l r=(.ok t,l):=fun r=>by
  unfold iR;rw[lw (show ¬(Te.G9 t.ob).kind=1 from fun h=>absurd (show (2:Int)=1 from h) O),Za0 (show (Te.G9 t.ob).kind=2 from rfl)]
  show (Except.ok (ER t.ob),l)=_;rw[Zw]
 cases f <;> (rw[ev];exact key _)
theorem rG(env:E8)(n:aa0)(a:List Te)(l:Nat)(r:gm):iR env (Te.ap n a) l r=r:=by
 unfold iR;rw[lw (show ¬(Te.ap n a).kind=1 from fun h=>absurd (show (3:Int)=1 from h) O),lw (show ¬(Te.ap n a).kind=2 from fun h=>absurd (show (3:Int)=2 from h) O)]
theorem zX(W:List y8.H8)(f:Nat)(env:E8)(n:aa0)(a:List Te):ev W f env (Te.ap n a) 0=(.error 9,0):=by
 cases f with
 |zero=>rw[ev,rG]
 |succ f=>rw[ev,rG,Za0 rfl]
theorem qj(W:List y8.H8)(f:Nat)(env:E8)(n:aa0)(a:List Te)(l:Nat):ev W (f+1) env (Te.ap n a) (l+1)=iQ W (ev W f) env (Te.ap n a) l:=by
 rw[ev,rG,lw J,Zb7]
theorem a0E:bH F9 Q7=some 3:=by decide +kernel
theorem b6a{n:aa0}{a:List Te}(h:bH F9 n=some a.length):is (Te.ap n a) Q7 3↔n=Q7:=by
 constructor
 ·exact fun hi=>hi.2.2.1
 ·intro hn;subst hn;rw[a0E]at h;exact⟨rfl,rfl,rfl,(Option.some.inj h).symm⟩
theorem uJ{g:Te→Nat→gm}:∀(s:List Te) (l:Nat) (xs:List Tr) (l':Nat),(∀t∈s,∀l x l',g t l=(.ok x,l')→x.valid=true)→U2 g s l=(.ok xs,l')→xs.length=s.length∧∀x∈xs,x.valid=true
 |[],l,xs,l',_,h=>by rw[U2]at h;cases h;exact⟨rfl,fun x hx=>by cases hx⟩
 |t::r,l,xs,l',hg,h=>by
  rw[U2]at h;split at h
  ·cases h
  ·rename_i x l1 hh;split at h
   ·cases h
   ·rename_i ys l2 hk;cases h;obtain⟨h1,h2⟩:=uJ r l1 ys l' (fun t ht=>hg t (lm _ ht)) hk;refine⟨by rw[Za1,Za1,h1],fun y hy=>?_⟩;rcases Zao.1 hy with rfl | hy
    ·exact hg t (PP ..) _ _ _ hh
    ·exact h2 y hy
theorem mF:∀(f:Nat) (env:E8) (t:Te) (l:Nat),Wd t→ku env→(∀x l',ev F9 f env t l=(.ok x,l')→x.valid=true)∧(∀e l',ev F9 f env t l=(.error e,l')→e≠0):=by
 intro f
 induction f with
 |zero =>
  intro env t l ht he;cases ht with
  |var p n =>
   rw[pY];cases hv:dn env p n with
   |none=>exact⟨fun x l' h=>(by cases h),fun e l' h=>by cases h;decide⟩
   |some y =>
    obtain⟨z,h1,rfl⟩:=PW hv;exact⟨fun x l' h=>(by cases h;exact he z h1),fun e l' h=>by cases h⟩
  |G9 t h=>rw[rF];exact⟨fun x l' e=>(by cases e;exact h),fun e l' h=>by cases h⟩
  |ap n a ha hl h=>rw[ev,rG];exact⟨fun x l' h=>(by cases h),fun e l' h=>by cases h;decide⟩
 |succ f ih =>
  intro env t l ht he;cases ht with
  |var p n =>
   rw[pY];cases hv:dn env p n with
   |none=>exact⟨fun x l' h=>(by cases h),fun e l' h=>by cases h;decide⟩
   |some y =>
    obtain⟨z,h1,rfl⟩:=PW hv;exact⟨fun x l' h=>(by cases h;exact he z h1),fun e l' h=>by cases h⟩
  |G9 t h=>rw[rF];exact⟨fun x l' e=>(by cases e;exact h),fun e l' h=>by cases h⟩
  |ap n a ha hl h =>
   cases l with
   |zero=>rw[zX];exact⟨fun x l' h=>(by cases h),fun e l' h=>by cases h;decide⟩
   |succ l =>
    rw[qj];unfold iQ;by_cases hi:is (Te.ap n a) Q7 3
    ·rw[Za0 hi];have hk:∀i,i < 3→Wd ((Te.ap n a).arg i):=fun i hi3=>h _ (Za5 (dQ hi hi3))
     obtain⟨k1,k2⟩:=ih env ((Te.ap n a).arg 0) l (hk 0 J) he;split
     ·rename_i c l' hc;exact⟨fun x l' h=>(by cases h),fun e l' h=>by cases h;exact k2 _ _ hc⟩
     ·rename_i x l' hc;split
      ·exact ih env _ l' (hk 2 J) he
      ·exact ih env _ l' (hk 1 J) he
    ·rw[lw hi];have hA:∀(s:List Te) (l:Nat),(∀x∈s,Wd x)→∀e l',U2 (ev F9 f env) s l=(.error e,l')→e≠0:=by
      intro s
      induction s with
      |nil=>intro l _ e l' h;rw[U2]at h;cases h
      |cons t r yA =>
       intro l hs e l' h;rw[U2]at h;split at h
       ·rename_i c l1 hc;cases h;exact (ih env t l (hs t (PP ..)) he).2 _ _ hc
       ·split at h
        ·rename_i c l2 hc;cases h;exact yA _ (fun x hx=>hs x (lm _ hx)) _ _ hc
        ·cases h
     split
     ·rename_i c l' hc;exact⟨fun x l' h=>(by cases h),fun e l' h'=>by cases h';exact hA _ _ h _ _ hc⟩
     ·rename_i vs l' hc;obtain⟨v1,v2⟩:=uJ _ _ _ _ (fun t ht l x l' hh=>(ih env t l (h t ht) he).1 x l' hh) hc;split
      ·rename_i i k hp;refine⟨fun x l2 h=>?_,fun e l2 h=>?_⟩
       ·simp only[Prod.mk.injEq]at h;exact b33 h.1
       ·simp only[Prod.mk.injEq]at h;unfold iP at h;split at h
        ·cases h.1
        ·have:=h.1;cases this;decide
      ·split
       ·rename_i fn hf;exact ih _ fn.body l' (PX (List.mem_of_find?_eq_some hf)).1 (Iz _ _ v2)
       ·exact⟨fun x l' h=>(by cases h),fun e l' h=>by cases h;decide⟩
theorem nP(r:Except Int Tr):∃(o:Ob) (e:Int),uY r=.o7 [x9 o,inA e]:=by
 cases r with
 |ok x=>exact⟨x.ob,0,rfl⟩
 |error e=>exact⟨zO,e,rfl⟩
abbrev gG(vs:List Tr):aa1:=vs.map fun t=>D9 t.ob
theorem Ny(vs:List Tr)(x:Tr):gG vs++[D9 x.ob]=gG (vs++[x]):=by unfold gG;rw[ZaL];rfl
theorem NT(vs:List Tr):(gG vs).length=vs.length:=by unfold gG;rw[EQ]
theorem NU:(F9.map I9++[bG kZ]).length≤1000:=by rw[Za4,EQ,lW];decide
structure vS (wr:aa1):Prop where
 fn:∀{n:aa0} {f:y8.H8},(F9.find? fun f=>f.nm == n)=some f→l7 85 [.dt (.row wr),y7 x8 n] (.o7 [.agg ((I8 f).map .dt),o6 true])
 no:∀{n:aa0},(F9.find? fun f=>f.nm == n)=none→l7 85 [.dt (.row wr),y7 x8 n] (.o7 [gp,o6 false])
 ari:∀{n:aa0} {k:Nat},bH F9 n=some k→l7 84 [.dt (.row wr),y7 x8 n] (.o7 [inA (k:Int),o6 true])
 cfn:∀{n:aa0} {f:y8.H8},(F9.find? fun f=>f.nm == n)=some f→l7 39 [.dt (.row wr),y7 x8 n] (.o7 [.agg ((I8 f).map .dt),o6 true])
def REv(wr:aa1)(f:Nat)(env:E8)(t:Te):Prop:=∀l:Nat,l≤f→l≤99999→F7 dX [.ptr 0 0,y9 t,H5 env] (Z5 wr l) (uY (ev F9 f env t l).1) (Z5 wr (ev F9 f env t l).2)
theorem b1R{wr:aa1}{f:Nat}{env:E8}{t:Te}{fc:List AV}{p:Bool}(hR:LK fc)(hl:t.args.length≤8)(hw:∀x∈t.args,Wd x)(he:ku env)(ih:∀x∈t.args,REv wr f env x):∀(s:List Te) (i:Nat) (out:List Tr) (l:Nat),t.args.drop i=s→i≤t.args.length→out.length=i→l≤f→l≤99999 →
  (∀xs l',U2 (ev F9 f env) s l=(.ok xs,l')→Lps (H9 1) lN (gq wr t env fc p l (gG out) i) (.out 1) (gq wr t env fc p l' (gG (out++xs)) t.args.length))∧(∀e l',U2 (ev F9 f env) s l=(.error e,l')→Lps (H9 1) lN (gq wr t env fc p l (gG out) i) .ret (BD wr t e l')):=by
 intro s
 induction s with
 |nil =>
  intro i out l hd hi ho hf _;have e1:=congrArg List.length hd;rw[Za7,List.length_nil]at e1;obtain rfl:i=t.args.length:=J;refine⟨fun xs l' h=>?_,fun e l' h=>by rw[U2]at h;cases h⟩;rw[U2]at h;cases h;rw[ZaI];exact .stop (hR.2 _ _ _ _ _ _ _ rfl) (fun h=>by cases h)
 |cons x s yA =>
  intro i out l hd hi ho hf hf2;have hx:t.args[i]?=some x:=by rw[←Zak,hd];rfl
  have hlt:=(Pi.1 hx).1;have hxm:=Za5 hx;have hs:=ih x hxm l hf hf2;have hle:=jy F9 f env x l;rw[U2];cases hv:ev F9 f env x l with
  |mk r l1 =>
   rw[hv]at hs hle;have hle:l1≤l:=hle;cases r with
   |error c =>
    have hc:=(mF f env x l (hw x hxm) he).2 c l1 hv;exact⟨fun xs l' h=>(by cases h),fun e l' h=>by cases h;exact .stop (b8O hx hc hs) (fun h=>by cases h)⟩
   |ok y =>
    have hst:=hR.1 _ (gG out) _ _ _ p _ _ _ _ hx J (by rw[NT];omega) hs;rw[Ny]at hst;obtain⟨k1,k2⟩:=yA (i+1) (out++[y]) l1 (by rw[←Zaj,hd];rfl) hlt (by simp[ho]) J J;refine⟨fun xs l' h=>?_,fun e l' h=>?_⟩
    ·dsimp only at h;split at h
     ·cases h
     ·rename_i ys l2 hh;cases h;have:=k1 ys l' hh;rw[Zah]at this;exact .more hst this
    ·dsimp only at h;split at h
     ·rename_i c l2 hh;cases h;exact .more hst (k2 _ _ hh)
     ·cases h
theorem OD(i:Nat)(vs:List Tr):U7 (Tr.kept' (Tr.jP i vs))=uY (iP i vs):=by
 unfold iP;cases Tr.kept' (Tr.jP i vs) <;> rfl
theorem a1T{wr:aa1}(hW:vS wr):∀(f:Nat) (env:E8) (t:Te),Wd t→ku env→env.length≤1000→REv wr f env t:=by
 intro f
 induction f with
 |zero =>
  intro env t ht he hle l hl hl2;cases ht with
  |var p n =>
   rw[pY];obtain⟨k1,k2⟩:=a0D (e:=env) (a:=p) (b:=n) hle;cases hv:dn env p n with
   |none=>exact a1Q (t:=⟨1,p,n,V9,[]⟩) rfl (k1 hv)
   |some x=>exact a1P (t:=⟨1,p,n,V9,[]⟩) rfl (k2 x hv)
  |G9 t h=>rw[rF];exact a1R (t:=Te.G9 t.ob) rfl
  |ap n a ha hn h =>
   obtain rfl:l=0:=J;rw[zX];exact a1S (t:=Te.ap n a) rfl O
 |succ f ih =>
  intro env t ht he hle l hl hl2;cases ht with
  |var p n =>
   rw[pY];obtain⟨k1,k2⟩:=a0D (e:=env) (a:=p) (b:=n) hle;cases hv:dn env p n with
   |none=>exact a1Q (t:=⟨1,p,n,V9,[]⟩) rfl (k1 hv)
   |some x=>exact a1P (t:=⟨1,p,n,V9,[]⟩) rfl (k2 x hv)
  |G9 t h=>rw[rF];exact a1R (t:=Te.G9 t.ob) rfl
  |ap n a ha hn h =>
   cases l with
   |zero=>rw[zX];exact a1S (t:=Te.ap n a) rfl O
   |succ l =>
    rw[qj];have e1:((l+1:Nat):Int) - 1=(l:Int):=J;have har:l7 84 [.dt (.row wr),y7 x8 n] (.o7 [inA (a.length:Int),o6 true]):=hW.ari ha;have his:=b48 (Te.ap n a) Q7 3;have hloop:=fun (fc:List AV) (p:Bool) (hR:LK fc)=>b1R (f:=f) (env:=env) (t:=Te.ap n a) (fc:=fc) (p:=p) hR hn h he (fun x hx=>ih env x (h x hx) he hle) a 0 [] l rfl (ww _) rfl J J
    rcases VU ha with⟨i,hi,hp,hno⟩ | ⟨fn,hm,hf,hps,hp,hne⟩
    ·have hpr:l7 10 [y7 x8 n] (.o7 [inA (a.length:Int),o6 true]):=a0n hi;have hfn:=hW.no hno;unfold iQ;by_cases hif:is (Te.ap n a) Q7 3
     ·rw[Za0 hif];rw[UV hif]at his;have pre:xK wr (Te.ap n a) ((l+1:Nat):Int) true:=⟨rfl,J,J,har,hpr,hfn,his⟩;have w0:=h _ (Za5 (dQ hif (show 0 < 3 by omega)));have w1:=h _ (Za5 (dQ hif (show 1 < 3 by omega)));have w2:=h _ (Za5 (dQ hif (show 2 < 3 by omega)));have h0:=ih env _ w0 he hle l J J;have hle0:=jy F9 f env ((Te.ap n a).arg 0) l;have hok0:=mF f env ((Te.ap n a).arg 0) l w0 he;cases hv:ev F9 f env ((Te.ap n a).arg 0) l with
      |mk r l1 =>
       rw[hv]at h0 hle0;have hle0:l1≤l:=hle0;cases r with
       |error c=>exact b5Z pre (dQ hif (show 0 < 3 by omega)) (hok0.2 c l1 hv) (by rw[e1];exact h0)
       |ok x =>
        have hn:=b1Q x;dsimp only;by_cases hx:x=o8
        ·rw[Za0 hx];rw[UV hx]at hn;have h2:=ih env _ w2 he hle l1 J J;obtain⟨o,e,hr⟩:=nP (ev F9 f env ((Te.ap n a).arg 2) l1).1;rw[hr]at h2 ⊢
         exact b50 pre (dQ hif (show 0 < 3 by omega)) (dQ hif (show 2 < 3 by omega)) (by rw[e1];exact h0) hn h2
        ·rw[lw hx];rw[WF hx]at hn;have h2:=ih env _ w1 he hle l1 J J;obtain⟨o,e,hr⟩:=nP (ev F9 f env ((Te.ap n a).arg 1) l1).1;rw[hr]at h2 ⊢
         exact b51 pre (dQ hif (show 0 < 3 by omega)) (dQ hif (show 1 < 3 by omega)) (by rw[e1];exact h0) hn h2
     ·rw[lw hif];rw[WF hif]at his;have pre:xK wr (Te.ap n a) ((l+1:Nat):Int) false:=⟨rfl,J,J,har,hpr,hfn,his⟩;obtain⟨k1,k2⟩:=hloop dL true b56;rw[show (Te.ap n a).args=a from rfl]
      cases hv:U2 (ev F9 f env) a l with
      |mk r l1 =>
       cases r with
       |error c=>exact b37 pre (by rw[e1];exact D7.aS 18 37 7 (by show 18 < 176;omega) rfl (k2 c l1 hv).tri)
       |ok vs =>
        obtain⟨v1,v2⟩:=uJ _ _ _ _ (fun t ht l x l' hh=>(mF f env t l (h t ht) he).1 x l' hh) hv;dsimp only;rw[show (Te.ap n a).nn=n from rfl,hp]
        dsimp only;have hap:l7 88 [y7 x8 n,rowA vs] (uY (iP i vs)):=by rw[←OD];exact b5V hi v2 v1
        obtain⟨o,e,hr⟩:=nP (iP i vs);rw[hr]at hap ⊢
        exact b58 pre (by rw[e1];exact D7.aS 18 37 7 (by show 18 < 176;omega) rfl (k1 vs l1 hv).tri) hap
    ·have hpr:l7 10 [y7 x8 n] (.o7 [inA 0,o6 false]):=a0p hne;have hfn:l7 85 [.dt (.row wr),y7 x8 n] (.o7 [.agg ((I8 fn).map .dt),o6 true]):=hW.fn hf;have hif:¬is (Te.ap n a) Q7 3:=fun e=>by
      have e2:n=Q7:=e.2.2.1;exact hne (Q7,3) O e2
     rw[WF hif]at his;have pre:RJ wr (Te.ap n a) ((l+1:Nat):Int) fn:=⟨rfl,J,J,har,hpr,hfn,his⟩;unfold iQ;rw[lw hif];obtain⟨k1,k2⟩:=hloop ((I8 fn).map .dt) false (b57 fn);rw[show (Te.ap n a).args=a from rfl]
     cases hv:U2 (ev F9 f env) a l with
     |mk r l1 =>
      have hle1:=zV (g:=ev F9 f env) (fun t l=>jy F9 f env t l) a l;rw[hv]at hle1;have hle1:l1≤l:=hle1;cases r with
      |error c=>exact b38 pre (by rw[e1];exact D7.aS 18 37 7 (by show 18 < 176;omega) rfl (k2 c l1 hv).tri)
      |ok vs =>
       obtain⟨v1,v2⟩:=uJ _ _ _ _ (fun t ht l x l' hh=>(mF f env t l (h t ht) he).1 x l' hh) hv;dsimp only;rw[show (Te.ap n a).nn=n from rfl,hp]
       dsimp only;rw[hf];dsimp only;obtain⟨hwd,hpl⟩:=PX hm;have hbl:(fV fn.ps vs).length≤1000:=by
        have key:∀(p:List (aa0)) (v:List Tr),(fV p v).length≤p.length:=by
         intro p
         induction p with
         |nil=>intro v;cases v <;> exact ww _
         |cons n p ihp=>intro v;cases v with
          |nil=>exact ww _
          |cons x v=>exact Nat.succ_le_succ (ihp v)
        have:=key fn.ps vs;omega
       have hb:=ih (fV fn.ps vs) fn.body hwd (Iz _ _ v2) hbl l1 J J;obtain⟨o,e,hr⟩:=nP (ev F9 f (fV fn.ps vs) fn.body l1).1;rw[hr]at hb ⊢
       exact b59 pre (by rw[e1];exact D7.aS 18 37 7 (by show 18 < 176;omega) rfl (k1 vs l1 hv).tri) (b1P J J) hb
abbrev vT:Tr:=Tr.sym x8 [116]
abbrev vP:Te:=⟨1,x8,[112],V9,[]⟩
theorem b6b:(F9.find? fun f=>f.nm == O8).map (fun f=>(f.ps,f.body))=some ([[112]],Te.ap Q7 [vP,noT,G8]):=by decide +kernel
theorem b6c(v:Tr)(r:E8):dn (((x8,[112]),v)::r) x8 [112]=some v:=by rw[dn,Za0 ⟨rfl,rfl⟩]
theorem len1{α:Type}{l:List α}(h:l.length=1):∃a,l=[a]:=by
 match l,h with
 |[a],_=>exact⟨a,rfl⟩
theorem uZ{α:Type}{l:List α}(h:l.length=2):∃a b,l=[a,b]:=by
 match l,h with
 |[a,b],_=>exact⟨a,b,rfl⟩
theorem Kw{α:Type}{l:List α}(h:l.length=3):∃a b c,l=[a,b,c]:=by
 match l,h with
 |[a,b,c],_=>exact⟨a,b,c,rfl⟩
end Go.Proofs.YthhknjlmjefklaaGreatDoor
