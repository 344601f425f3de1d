/- Term and Value of both texts; environments. -/
import Derived.Test.YthhknjlmjefklaaGreatDoorBV
import Derived.Test.YthhknjlmjefklaaGreatDoorBL
import Derived.Test.YthhknjlmjefklaaGreatDoorBU
namespace Go.Proofs.YthhknjlmjefklaaGreatDoor
open Go.Proofs.Tryz
open Go.RowKit
open Te
theorem a0N{ws:aa1}{t:Te}{env:E8}{s l:Nat}{x:Tr}(hl:l≤s)(hs:s≤99999)(h:F7 dX [.ptr 0 0,y9 t,H5 env] (Z5 ws s) (.o7 [o9 x,inA 0]) (Z5 ws l)):l7 15 [.dt (.row ws),y9 t,H5 env,inA s] (.o7 [o9 x,inA (s - l:Int),inA 0]) :=
 pW [.av (inA s),yF,.av (inA (s - l:Int))] [.P5 3 3 [2] (.o7 [o9 x,inA 0]) [some (.cells [.dt (.row ws),inA l])]] [(vi ↑s)=(vi (if 0 > ↑s then 0 else ↑s)),_,Bk .neq 44 31 0 0 bF,Bt .sub 3 36 40 ↑s ↑l (vi (↑s - ↑l))] func15 ⟨by rw[lw J],h,H7 I,dO rfl J J,Z⟩
theorem a0O{ws:aa1}{t:Te}{env:E8}{s l:Nat}{e:Int}(he:e≠0)(hs:s≤99999)(h:F7 dX [.ptr 0 0,y9 t,H5 env] (Z5 ws s) (.o7 [x9 zO,inA e]) (Z5 ws l)):l7 15 [.dt (.row ws),y9 t,H5 env,inA s] (.o7 [x9 zO,inA 0,inA e]) :=
 pW [.av (inA s),yT] [.P5 3 3 [2] (.o7 [x9 zO,inA e]) [some (.cells [.dt (.row ws),inA l])]] [(vi ↑s)=(vi (if 0 > ↑s then 0 else ↑s)),_,Bk .neq 44 31 0 e bT] func15 ⟨by rw[lw J],h,H7 (by simp[he]),Z⟩
theorem b4J{ws:aa1}{t:Te}{env:E8}{s:Nat}{u:Int}{D8:List (Value×List Dt)}{x:Tr}(h:F7 iU [.ptr 0 0,y9 t,H5 env] (Q3 ws s 0 []) (.o7 [o9 x,inA 0]) (Q3 ws s u D8)):l7 176 [.dt (.row ws),y9 t,H5 env,inA s] (.o7 [o9 x,inA u,inA 0]) :=
 pW [.av (.V4 0),yF] [.P5 2 3 [3,2] (.o7 [o9 x,inA 0]) [some (.cells [.dt (.row ws),.V4 1,inA s,inA u]),some (.aA D8)]] [_,Bk .neq 44 26 0 0 bF] func176 ⟨h,H7 I,Z⟩
theorem b4K{ws:aa1}{t:Te}{env:E8}{s:Nat}{u e:Int}{D8:List (Value×List Dt)}(he:e≠0)(h:F7 iU [.ptr 0 0,y9 t,H5 env] (Q3 ws s 0 []) (.o7 [x9 zO,inA e]) (Q3 ws s u D8)):l7 176 [.dt (.row ws),y9 t,H5 env,inA s] (.o7 [x9 zO,inA 0,inA e]) :=
 pW [.av (.V4 0),yT] [.P5 2 3 [3,2] (.o7 [x9 zO,inA e]) [some (.cells [.dt (.row ws),.V4 1,inA s,inA u]),some (.aA D8)]] [_,Bk .neq 44 26 0 e bT] func176 ⟨h,H7 (by simp[he]),Z⟩
noncomputable abbrev UH(env:E8)(t:Te)(s:Nat):Except Int Tr:=(ev F9 s env t s).1
noncomputable def oW(env:E8)(s:Nat):List Te→Bool×Int
 |[]=>(false,0)
 |t::r=>match UH env t s with
  |.error e=>(false,e)
  |.ok x=>if x=o8 then oW env s r else (true,0)
abbrev lU(ws:aa1)(c:List Te)(env:E8)(s:Nat)(i:Int):AS:=⟨stt 38 [(0,.dt (.row ws)),(1,O3 c),(2,H5 env),(3,inA s),(10,inA i)],[]⟩
abbrev Gl(b:Bool)(e:Int):AS:=⟨stt 38 [(8,o6 b),(9,inA e)],[]⟩
noncomputable abbrev vW:Code:=V5 (ai f26) [1,0,1,0,0]
theorem a2Z{ws:aa1}{c:List Te}{env:E8}{s:Nat}{x:Te}{i:Nat}{y:Tr}{m:Int}(hx:c[i]?=some x)(hl:c.length≤1000)(h:l7 15 [.dt (.row ws),y9 x,H5 env,inA s] (.o7 [o9 y,inA m,inA 0]))(hn:l7 16 [o9 y] (o6 true)):D7 EX vW (lU ws c env s i) .I4 (lU ws c env s ((i+1:Nat):Int)) :=
 have hi:=(Pi.1 hx).1
 tW [.av (inA c.length),yT,.av (.pin ((C9 x).map .dt)),.av (.o7 [o9 y,inA m,inA 0]),yF,yT,.av (inA ((i+1:Nat):Int))] [] [0,1,2,3,10] 0 [(vi ↑c.length)=(vi (↑(List.map Te.enc c).length)),Bt .lss 3 14 16 ↑i ↑c.length bT,E5 (List.map Te.enc c) ↑i 11 (C9 x),_,Bk .neq 44 32 0 0 bF,_,Bk .add 3 18 1 ↑i (vi (↑(i+1)))] ⟨O6 _,F8 (UV J),Y9 hx,h,H7 I,hn,N8 J J J,Z⟩
theorem b9f{ws:aa1}{c:List Te}{env:E8}{s:Nat}{x:Te}{i:Nat}{y:Tr}{m:Int}(hx:c[i]?=some x)(h:l7 15 [.dt (.row ws),y9 x,H5 env,inA s] (.o7 [o9 y,inA m,inA 0]))(hn:l7 16 [o9 y] (o6 false)):D7 EX vW (lU ws c env s i) .ret (Gl true 0) :=
 have hi:=(Pi.1 hx).1
 tW [.av (inA c.length),yT,.av (.pin ((C9 x).map .dt)),.av (.o7 [o9 y,inA m,inA 0]),yF,yF] [] [8,9] 0 [(vi ↑c.length)=(vi (↑(List.map Te.enc c).length)),Bt .lss 3 14 16 ↑i ↑c.length bT,E5 (List.map Te.enc c) ↑i 11 (C9 x),_,Bk .neq 44 32 0 0 bF,_] ⟨O6 _,F8 (UV J),Y9 hx,h,H7 I,hn,Z⟩
theorem b9g{ws:aa1}{c:List Te}{env:E8}{s:Nat}{x:Te}{i:Nat}{e:Int}(hx:c[i]?=some x)(he:e≠0)(h:l7 15 [.dt (.row ws),y9 x,H5 env,inA s] (.o7 [x9 zO,inA 0,inA e])):D7 EX vW (lU ws c env s i) .ret (Gl false e) :=
 have hi:=(Pi.1 hx).1
 tW [.av (inA c.length),yT,.av (.pin ((C9 x).map .dt)),.av (.o7 [x9 zO,inA 0,inA e]),yT] [] [8,9] 0 [(vi ↑c.length)=(vi (↑(List.map Te.enc c).length)),Bt .lss 3 14 16 ↑i ↑c.length bT,E5 (List.map Te.enc c) ↑i 11 (C9 x),_,Bk .neq 44 32 0 e bT] ⟨O6 _,F8 (UV J),Y9 hx,h,H7 (by simp[he]),Z⟩
theorem b9h{ws:aa1}{c:List Te}{env:E8}{s:Nat}{i:Nat}(hi:i=c.length):D7 EX vW (lU ws c env s i) (.out 0) (lU ws c env s i) :=
 tW [.av (inA c.length),yF] [] [0,1,2,3,10] 0 [(vi ↑c.length)=(vi (↑(List.map Te.enc c).length)),Bt .lss 3 14 16 ↑i ↑c.length bF] ⟨O6 _,F8 (WF J),Z⟩
theorem b6T{ws:aa1}{c:List Te}{env:E8}{s:Nat}{b:Bool}{e:Int}(h:D7 EX (.loop vW) (lU ws c env s 0) .ret (Gl b e)):l7 26 [.dt (.row ws),O3 c,H5 env,inA s] (.o7 [o6 b,inA e]) :=
 pW [] [.inv [0,1,2,3,10] 0 (.ret) (Gl b e)] [_] func26 ⟨h,Z⟩
theorem b6U{ws:aa1}{c:List Te}{env:E8}{s:Nat}{k:Int}(h:D7 EX (.loop vW) (lU ws c env s 0) (.out 0) (lU ws c env s k)):l7 26 [.dt (.row ws),O3 c,H5 env,inA s] (.o7 [o6 false,inA 0]) :=
 pW [] [.inv [0,1,2,3,10] 0 (.out 0) (lU ws c env s k)] [_] func26 ⟨h,Z⟩
theorem a0P{ws:aa1}{t:Te}{env:E8}{s:Nat}{u:Int}{x:Tr}(h:F7 gX [.ptr 0 0,y9 t,H5 env] (O5 ws s 0) (.o7 [o9 x,inA 0]) (O5 ws s u)):l7 24 [.dt (.row ws),y9 t,H5 env,inA s] (.o7 [o9 x,inA u,inA 0]) :=
 pW [yF] [.P5 2 3 [2] (.o7 [o9 x,inA 0]) [some (.cells [.dt (.row ws),inA s,inA u])]] [_,Bk .neq 44 25 0 0 bF] func24 ⟨h,H7 I,Z⟩
theorem Je{ws:aa1}{t:Te}{env:E8}{s:Nat}{u e:Int}(he:e≠0)(h:F7 gX [.ptr 0 0,y9 t,H5 env] (O5 ws s 0) (.o7 [x9 zO,inA e]) (O5 ws s u)):l7 24 [.dt (.row ws),y9 t,H5 env,inA s] (.o7 [x9 zO,inA 0,inA e]) :=
 pW [yT] [.P5 2 3 [2] (.o7 [x9 zO,inA e]) [some (.cells [.dt (.row ws),inA s,inA u])]] [_,Bk .neq 44 25 0 e bT] func24 ⟨h,H7 (by simp[he]),Z⟩
abbrev mW(p n:aa0)(ps:aa1)(g b m:Te):List Dt:=([.val (str p),.val (str n),.row ps,.val (.int .i64 1)]:List Dt)++(C9 g++(C9 b++C9 m))
theorem b6V{ws ps cs:aa1}{p n p' n':aa0}{g b m:Te}(hf:l7 39 [.dt (.row ws),y7 p n] (.o7 [.agg ((mW p' n' ps g b m).map .dt),o6 true]))(hu:l7 40 [y9 g] (o6 true))(hv:F7 oL [.ptr 0 0,y9 b,.dt (.row [])] [some (.cells [.dt (.row ws),.nil,.nil])] (.o7 []) [some (.cells [.dt (.row ws),.dt (.row []),.own 1 cs.length]),some (.buf 81 1 cs)]):l7 25 [.dt (.row ws),y7 p n] (.o7 [.dt (.row cs),inA 0]) :=
 pW [.av (.o7 [.agg ((mW p' n' ps g b m).map .dt),o6 true]),.no,yT] [.P5 9 3 [2] (.o7 []) [some (.cells [.dt (.row ws),.dt (.row []),.own 1 cs.length]),some (.buf 81 1 cs)]] [_,_,_,(cs.length)=(cs.length)] func25 ⟨hf,hu,hv,rfl,Z⟩
theorem b6W{ws ps cs:aa1}{p n p' n':aa0}{g b m:Te}(hf:l7 39 [.dt (.row ws),y7 p n] (.o7 [.agg ((mW p' n' ps g b m).map .dt),o6 true]))(hu:l7 40 [y9 g] (o6 false))(hv:F7 oL [.ptr 0 0,y9 b,.dt (.row [])] [some (.cells [.dt (.row ws),.dt (.row [C9 (neg g)]),.nil])] (.o7 []) [some (.cells [.dt (.row ws),.dt (.row [C9 (neg g)]),.own 1 cs.length]),some (.buf 81 1 cs)]):l7 25 [.dt (.row ws),y7 p n] (.o7 [.dt (.row cs),inA 0]) :=
 pW [.av (.o7 [.agg ((mW p' n' ps g b m).map .dt),o6 true]),.no,yF,.av (y9 (neg g))] [.P5 9 3 [2] (.o7 []) [some (.cells [.dt (.row ws),.dt (.row [C9 (neg g)]),.own 1 cs.length]),some (.buf 81 1 cs)]] [_,_,l7 57 [(y9 g)] (y9 g.neg),_,(cs.length)=(cs.length)] func25 ⟨hf,hu,a0G g,hv,rfl,Z⟩
theorem xu{n:aa0}{l:List Te}(hl:l.length≤8)(h:∀x∈l,x.Wf):(Te.ap n l).Wf:=.mk _ DJ (by show l.length≤_;omega) h
theorem QP(t:Te)(h:t.Wf):(neg t).Wf:=by
 unfold neg;by_cases hi:is t O8 1
 ·rw[Za0 hi];cases h with
  |mk _ hv hl hk=>exact hk _ (uC hi J)
 ·rw[lw hi];exact xu (by show 1≤8;omega) fun x hx=>by rw[ut]at hx;subst hx;exact h
theorem DW(t:Te)(h:t.Wf):(Te.ap O8 [t]).Wf:=xu (by show 1≤8;omega) fun x hx=>by rw[ut]at hx;subst hx;exact h
theorem Wd.wf{t:Te}(h:Wd t):t.Wf:=by
 induction h with
 |var p n=>exact .mk _ DJ (ww _) (fun x hx=>by cases hx)
 |G9 t h=>exact .mk _ ((Tr.H6 h).ok.wf O) (ww _) (fun x hx=>by cases hx)
 |ap n l ha hl h ih=>exact xu hl ih
abbrev oZ(g:Te):List Te:=if g=G8 then [] else [neg g]
theorem a14{ws ps:aa1}{p n p' n':aa0}{g b m:Te}(hf:l7 39 [.dt (.row ws),y7 p n] (.o7 [.agg ((mW p' n' ps g b m).map .dt),o6 true]))(hg:g.Wf)(hb:Vt ws b)(hbw:b.Wf)(hsz:b.size≤500):l7 25 [.dt (.row ws),y7 p n] (.o7 [xE (vis (oZ g) b.size b []),inA 0]):=by
 have hu:=RX hg;by_cases hy:g=G8
 ·rw[show sameD g G8=true from UV hy]at hu
  rw[show oZ g=[] from Za0 hy]
  have h:=ZF (ws:=ws) (hd:=[]) (fun x hx=>by cases hx) O QP DW b.size b [] [] (NE _) hb hbw (fun x hx=>by cases hx) (by show 0+_≤_;omega) (by show 0+_≤_;omega);rw[List.nil_append]at h;exact b6V hf hu (bP.a2U (fun _ _ _ h=>RV.nilRow h) h)
 ·rw[show sameD g G8=false from WF hy]at hu
  rw[show oZ g=[neg g] from lw hy]
  have h:=ZF (ws:=ws) (hd:=[neg g]) (fun x hx=>by rw[ut]at hx;subst hx;exact QP g hg) (by show 1≤100;omega) QP DW b.size b [] [] (NE _) hb hbw (fun x hx=>by cases hx) (by show 0+_≤_;omega) (by show 0+_≤_;omega);rw[List.nil_append]at h;have e:O3 [neg g]=.dt (.row [C9 (neg g)]):=by rw[V7];rfl
  unfold dM at h;rw[e]at h;exact b6W hf hu (bP.a2U (fun _ _ _ h=>h) h)
theorem b2r:∀(i:Nat) (l:List Te),l.length≤3→(cnd i l).length≤4
 |0,_,_=>ww _
 |1,_,_=>ww _
 |2,_,_=>ww _
 |3,_,_=>by show 1≤4;omega
 |4,_,_=>by show 1≤4;omega
 |5,_,_=>ww _
 |6,_,_=>ww _
 |7,_,_=>ww _
 |8,_,_=>ww _
 |9,_,_=>ww _
 |10,l,h=>by show (l.map _).length≤4;rw[EQ];omega
 |11,l,h=>by show (l.map _).length≤4;rw[EQ];omega
 |12,l,h=>by show (l.map _).length≤4;rw[EQ];omega
 |13,l,h=>by show (l.map _++[_]).length≤4;rw[Za4,EQ];show _+1≤4;omega
 |14,l,h=>by show (l.map _).length≤4;rw[EQ];omega
 |15,l,h=>by show (l.map _).length≤4;rw[EQ];omega
 |16,l,h=>by show (l.map _).length≤4;rw[EQ];omega
 |17,l,h=>by show (l.map _).length≤4;rw[EQ];omega
 |18,l,h=>by show (l.map _).length≤4;rw[EQ];omega
 |19,l,h=>by show (l.map _).length≤4;rw[EQ];omega
 |20,l,h=>by show (l.map _).length≤4;rw[EQ];omega
 |21,l,h=>by show (l.map _).length≤4;rw[EQ];omega
 |22,l,h=>by show (l.map _).length≤4;rw[EQ];omega
 |23,_,_=>by show 4≤4;omega
 |24,_,_=>by show 3≤4;omega
 |n+25,_,_=>ww _
theorem qw(n:aa0){x:Te}(h:x.Wf):(Te.ap n [x]).Wf:=xu (by show 1≤8;omega) fun y hy=>by rw[ut]at hy;subst hy;exact h
theorem AZ(n:aa0){x y:Te}(h:x.Wf)(k:y.Wf):(Te.ap n [x,y]).Wf:=xu (by show 2≤8;omega) fun z hz=>by
 simp only[Zao,ZaO,or_false]at hz;rcases hz with rfl | rfl
 ·exact h
 ·exact k
theorem a3a(n:aa0){x y z:Te}(h:x.Wf)(k:y.Wf)(m:z.Wf):(Te.ap n [x,y,z]).Wf:=xu (by show 3≤8;omega) fun u hu=>by
 simp only[Zao,ZaO,or_false]at hu;rcases hu with rfl | rfl | rfl
 ·exact h
 ·exact k
 ·exact m
theorem JI{k:Int}(h:k.natAbs < 10 ^ 4):(kT k).Wf:=(Wd.G9 _ (uB h)).wf
theorem Jf:G8.Wf:=(Wd.G9 vT Tr.Dp).wf
theorem b6X:noT.Wf:=(Wd.G9 o8 Tr.gu).wf
theorem nR{l:List Te}(h:∀x∈l,x.Wf)(i:Nat):(l.getD i N9).Wf:=by
 rw[bi];cases e:l[i]? with
 |none=>exact .mk _ DJ (ww _) (fun x hx=>by cases hx)
 |some x=>exact h x (Za5 e)
theorem a0Q{x:Te}(h:x.Wf):(oK x).Wf:=a3a _ (qw _ h) Jf (AZ _ h b6X)
theorem lg(n:aa0){l:List Te}(h:∀x∈l,x.Wf):∀c∈l.map fun x=>Te.ap n [x],c.Wf:=fun c hc=>by
 obtain⟨x,hx,rfl⟩:=List.mem_map.1 hc;exact qw n (h x hx)
theorem DX{a:Te}(h:a.Wf):∀c∈[a],c.Wf:=fun c hc=>by rw[ut]at hc;subst hc;exact h
theorem Du{a:Te}{l:List Te}(h:a.Wf)(k:∀c∈l,c.Wf):∀c∈a::l,c.Wf:=fun c hc=>by
 rcases Zao.1 hc with rfl | hc
 ·exact h
 ·exact k c hc
theorem b4L{l:List Te}(h:∀x∈l,x.Wf):∀i,∀c∈cnd i l,c.Wf:=fun i=>match i with
 |0=>fun c hc=>by cases hc
 |1=>fun c hc=>by cases hc
 |2=>fun c hc=>by cases hc
 |3=>DX (a0Q (nR h 0))
 |4=>DX (a0Q (nR h 0))
 |5=>fun c hc=>by cases hc
 |6=>fun c hc=>by cases hc
 |7=>fun c hc=>by cases hc
 |8=>fun c hc=>by cases hc
 |9=>fun c hc=>by cases hc
 |10=>lg _ h
 |11=>lg _ h
 |12=>lg _ h
 |13=>fun c hc=>(ZaA.1 hc).elim (lg _ h c) (DX (qw _ (AZ _ (nR h 0) (JI (k:=0) O))) c)
 |14=>lg _ h
 |15=>lg _ h
 |16=>lg _ h
 |17=>lg _ h
 |18=>lg _ h
 |19=>lg _ h
 |20=>lg _ h
 |21=>lg _ h
 |22=>lg _ h
 |23=>Du (qw _ (nR h 0)) (Du (qw _ (nR h 1)) (Du (qw _ (AZ _ (nR h 1) (JI (k:=0) O))) (DX (AZ _ (nR h 1) (qw _ (nR h 0))))))
 |24=>Du (qw _ (nR h 0)) (Du (qw _ (AZ _ (nR h 0) (JI (k:=0) O))) (DX (AZ _ (nR h 0) (JI (k:=256) O))))
 |n+25=>fun c hc=>by cases hc
theorem ZH{ws:aa1}{n:aa0}{l:List Te}{i:Nat}(hp:bZ I7 0 n=some (i,l.length))(hw:∀x∈l,x.Wf)(h:∀x∈l,Vt ws x):Vt ws (Te.ap n l):=by
 have hl:l.length≤3:=IB _ (Za5 (jU hp));have e:mV (Te.ap n l)=cnd i l:=by
  unfold mV;rw[show (Te.ap n l).nn=n from rfl,hp]
  rfl
 refine .ap n l (xu J hw) J ?_ ?_ ?_ h
 ·rw[e];exact b2h (jU hp) (Gj.gc hp) rfl
 ·rw[e];exact b4L hw i
 ·rw[e];exact b2r i l hl
theorem Pd.vt{ws:aa1}{t:Te}(h:Pd t):Vt ws t:=by
 induction h with
 |var p n=>exact .leaf _ (by show (1:Int)≠3;decide)
 |G9 t h=>exact .leaf _ (by show (2:Int)≠3;decide)
 |ap n l i hp h ih=>exact ZH hp (fun x hx=>(h x hx).wd.wf) ih
abbrev jQ:List (aa0):=[[120],[121]]
abbrev vars2:aa1:=[[.val (str G6),.val (str [120])],[.val (str G6),.val (str [121])]]
theorem a9O:l7 19 [inA 2] (.dt (.row vars2)):=pV [.av (y7 G6 [120]),.av (y7 G6 [121]),.av (y7 G6 [122]),.av (y7 G6 [117]),.no,.no,.no] [l7 20 [(stA [120])] (y7 G6 [120]),l7 20 [(stA [121])] (y7 G6 [121]),l7 20 [(stA [122])] (y7 G6 [122]),l7 20 [(stA [117])] (y7 G6 [117]),fU JA 2 0 2 vars2,(none:Option Int)=none∨(none:Option Int)=some (if (if 4 < 2 then 4 else 2) > 0 then if 4 < 2 then 4 else 2 else 0)] func19 ⟨DN _,DN _,DN _,DN _,⟨O,O,O,rfl,.inl rfl⟩,.inl rfl,Z⟩
theorem b2s:l7 19 [inA 2] (fA jQ):=a9O
theorem Vu:∀(l:List Te) (t:Te),Te.fH (l++[t])=Te.fH l+t.calls
 |[],t=>by show Te.calls t+0=0+_;omega
 |x::l,t=>by rw[List.cons_append,Te.fH,Te.fH,Vu l t];omega
theorem size_drop(l:List Raw)(i:Nat):((l[i]?).map Raw.size).getD 0+Raw.eQ (l.drop (i+1))≤Raw.eQ (l.drop i):=by
 rcases Zai i l.length with h | h
 ·rw[ZaT h,Za2 h,Raw.eQ];exact NE _
 ·rw[Zaf h,List.drop_eq_nil_of_le (by omega:l.length≤i+1)];exact ww _
theorem a9P{wr:aa1}{nl vl:List (aa0)}{r:Raw}{nm:aa0}{n:Nat}(hn:n≤8)(h:∀i:Nat,∃x t,Pd t∧t.calls≤((r.l[i]?).map Raw.size).getD 0∧l7 70 [J3 r,inA (i:Int)] (J3 x)∧l7 54 [.dt (.row wr),jJ nl,fA vl,J3 x] (y9 t)):∀(j i:Nat) (ts:List Te),i+j=n→ts.length=i→(∀t∈ts,Pd t) →
  ∃ts',ts'.length=n∧(∀t∈ts',Pd t)∧Te.fH ts'≤Te.fH ts+Raw.eQ (r.l.drop i)∧Lps EX FY (tJ wr nl vl r nm n (aT ts) i) (.out 0) (tJ wr nl vl r nm n (aT ts') n):=by
 intro j
 induction j with
 |zero =>
  intro i ts hi hl hb;obtain rfl:i=n:=J;exact⟨ts,hl,hb,Nat.le_add_right _ _,.stop (b8H J) (fun h=>by cases h)⟩
 |succ j ih =>
  intro i ts hi hl hb;obtain⟨x,t,ht,hc,h1,h2⟩:=h i;obtain⟨ts',k1,k2,k4,k3⟩:=ih (i+1) (ts++[t]) J (by simp[hl]) (fun y hy=>by
   rcases ZaA.1 hy with hy | hy
   ·exact hb y hy
   ·rw[ut]at hy;subst hy;exact ht)
  have hs:=b8G (wr:=wr) (nl:=nl) (vl:=vl) (nm:=nm) (n:=(n:Int)) (es:=aT ts) (i:=i) J J (by rw[EQ];omega) h1 h2;have e:aT ts++[C9 t]=aT (ts++[t]):=by unfold aT;rw[ZaL,oH]
  rw[e]at hs;have hd:=size_drop r.l i;rw[Vu]at k4;exact⟨ts',k1,k2,J,.more hs k3⟩
theorem b2t:∀n∈lT,(bZ I7 0 n).isSome=true:=by decide +kernel
theorem ZI{vl:List (aa0)}(hm:Mk [] lT vl){r:Raw}(hk:r.kind % 6 < 2):∃t:Te,Pd t∧t.calls=0∧l7 54 [.dt (.row []),jJ lT,fA vl,J3 r] (y9 t):=by
 obtain⟨nm,h1,h2⟩:=ixA (l:=vl) dD (fun _=>rfl) r.n hm.hv;have hv:=hm.hv;have hv1:=hm.hv1;exact⟨_,.var G6 nm,rfl,b8D (dU _ _ J J) hk hm.hv (dU _ _ J J) h2 (b24 _)⟩
theorem b4M{vl:List (aa0)}(hm:Mk [] lT vl):∀(N:Nat) (r:Raw),r.size≤N→rX r→∃t:Te,Pd t∧t.calls≤r.size∧l7 54 [.dt (.row []),jJ lT,fA vl,J3 r] (y9 t):=by
 intro N
 induction N with
 |zero=>intro r h;have:=r.size_pos;omega
 |succ N ih =>
  intro r hN hf;by_cases h0:r.kind % 6 < 2
  ·obtain⟨t,k1,k2,k3⟩:=ZI hm h0;exact⟨t,k1,J,k3⟩
  by_cases h2:r.kind % 6=2
  ·have hd:=dU r.kind 6 J J;rw[h2]at hd;cases hl:r.l with
   |nil=>exact⟨_,.G9 (Tr.num ((r.n % 7 - 2:Int):Rat)) (uB J),ww _,b8E hd (by rw[hl];rfl) (dU _ _ J J) (zQ _ J J) (lZ _)⟩
   |cons x s =>
    have hx:r.l[0]?=some x:=by rw[hl];rfl
    have hfx:=hf.kids (Za5 hx);exact⟨_,.G9 _ (Zx hfx),ww _,b8F hd hx (a0m _ x (NE _) hfx.1) (lZ _)⟩
  ·have hkids:∀i:Nat,∃x t,Pd t∧t.calls≤((r.l[i]?).map Raw.size).getD 0∧l7 70 [J3 r,inA (i:Int)] (J3 x)∧l7 54 [.dt (.row []),jJ lT,fA vl,J3 x] (y9 t):=fun i=>by
    cases hx:r.l[i]? with
    |some x =>
     obtain⟨t,k1,k3,k2⟩:=ih x (by have:=Raw.zI (Za5 hx);omega) (hf.kids (Za5 hx));exact⟨x,t,k1,k3,a0k hx,k2⟩
    |none =>
     obtain⟨t,k1,k3,k2⟩:=ZI hm (r:=⟨0,0,[],[]⟩) O;exact⟨_,t,k1,by rw[k3];exact ww _,YY (List.getElem?_eq_none_iff.1 hx),k2⟩
   obtain⟨nm,m1,m2⟩:=ixA (l:=lT) L9 (fun _=>rfl) r.n hm.hn;obtain⟨g1,a,g2,g3,g4⟩:=hm.ar nm m1;obtain⟨⟨i,a'⟩,hp⟩:=Option.isSome_iff_exists.1 (b2t nm m1);have hn:=hm.hn;have hn1:=hm.hn1;obtain⟨ts,l1,l2,l4,l3⟩:=a9P (nm:=nm) (n:=a) g2 hkids a 0 [] J rfl (fun t ht=>by cases ht);have ht:D7 EX (.loop FY) (bd0 [] lT vl r nm a) (.out 0) (tJ [] lT vl r nm a (aT ts) a):=D7.aS 13 41 11 (by show 13 < 84;omega) rfl l3.tri;have e:a'=ts.length:=by
    have:=ZE hp F9;rw[g4]at this;rw[l1];exact (Option.some.inj this).symm
   refine⟨Te.ap nm ts,.ap nm ts i (by rw[hp,e]) l2,?_,b8I (dU _ _ J J) J (dU _ _ J J) m2 g3 ht (IQ _ _ _)⟩;rw[Ib];have hs:r.size=Raw.eQ r.l+1:=by obtain⟨k,n,s,l⟩:=r;rfl
   rw[Zb5]at l4;have:Te.fH []=0:=rfl;omega
theorem ZJ{r:Raw}(hf:rX r):∃t:Te,Pd t∧t.calls≤r.size∧l7 21 [.dt (.row []),fA jQ,J3 r] (y9 t):=by
 obtain⟨t,h1,h2,h3⟩:=b4M (mk0 jQ O O O) _ r (NE _) hf;exact⟨t,h1,h2,b34 a9N h3⟩
theorem a7o{l:List Te}(h:∀x∈l,x.size≤3 * x.calls+1):Te.iF l≤3 * Te.fH l+l.length:=by
 induction l with
 |nil=>exact ww _
 |cons x r ih =>
  rw[Te.iF,Te.fH,Za1];have h1:=h x (PP ..);have h2:=ih fun y hy=>h y (lm _ hy)
  omega
theorem Pd.size{t:Te}(h:Pd t):t.size≤3 * t.calls+1:=by
 induction h with
 |var p n=>exact NE _
 |G9 t h=>exact NE _
 |ap n l i hp h ih =>
  have hl:l.length≤3:=IB _ (Za5 (jU hp));have hs:(Te.ap n l).size=Te.iF l+1:=by unfold Te.ap;rw[Te.size]
  have:=a7o ih;rw[hs,Ib];omega
abbrev fB:aa0:=[102]
abbrev P7(g b:Te):List Dt:=mW G6 fB (jQ.map dD) g b N9
abbrev Z4(F:List Dt):List Dt:=[.val (.int .i64 3),.val (str G6),.val (str fB),.val (str []),.row [],.val (str []),.val (str []),.row [],.val (.bool false),.val (.int .i64 0),.val (str []),.val (str []),.val (.int .i64 0),.val (str []),.val (str []),.val (str []),.val (str []),.val (str []),.row [],.row [],.row [F],.row [],.row [],.row [],.val (str []),.val (str []),.row [],.row [],.row [],.row [],.val (str []),.val (.int .u64 0)]
abbrev aU(g b:Te):aa1:=fJ++[Z4 (P7 g b)]
theorem b2u(F:List Dt):l7 115 [.agg ((Z4 F).map .dt)] (.dt (.row [F])) :=
 pV [.no] [] func115 trivial
theorem b9i{es:aa1}{n:aa0}{g b:Te}{i:Nat}(h:E5 es (i:Int) 32 (Z4 (P7 g b)))(hi:i < es.length)(hl:es.length≤1000):D7 EX sV (iM es n i) .I4 (iM es n ((i+1:Nat):Int)) :=
 tW [.av (inA es.length),yT,.av (.pin ((Z4 (P7 g b)).map .dt)),.av (.dt (.row [P7 g b])),.no,.no,.no,yF,.no,.no,.no,.av (inA ((i+1:Nat):Int))] [.run 2] [0,3,7] 1 [(vi ↑es.length)=(vi ↑es.length),Bt .lss 3 10 12 ↑i ↑es.length bT,_,l7 115 [(.agg [(inA 3),(stA G6),(stA fB),(stA []),(.dt (.row [])),(stA []),(stA []),(.dt (.row [])),(o6 false),(inA 0),(stA []),(stA []),(inA 0),(stA []),(stA []),(stA []),(stA []),(stA []),(.dt (.row [])),(.dt (.row [])),(.dt (.row [((.val (str G6))::(.val (str fB))::(.row (List.map dD jQ))::(.val (vi 1))::(.val (vi g.kind))::(.val (str g.np))::(.val (str g.nn))::(.val (vi g.val.kind))::(.val (str g.val.num))::(.val (str g.val.den))::(.val (str g.val.sp))::(.val (str g.val.sn))::(.val (str g.val.text))::(.row (List.map Ob.enc g.val.pair))::(.row (List.map Te.enc g.args))::(.val (vi b.kind))::(.val (str b.np))::(.val (str b.nn))::(.val (vi b.val.kind))::(.val (str b.val.num))::(.val (str b.val.den))::(.val (str b.val.sp))::(.val (str b.val.sn))::(.val (str b.val.text))::(.row (List.map Ob.enc b.val.pair))::(.row (List.map Te.enc b.args))::(.val (vi 0))::(.val (str N9.np))::(.val (str N9.nn))::(.val (vi 0))::(.val (str N9.val.num))::(.val (str N9.val.den))::(.val (str N9.val.sp))::(.val (str N9.val.sn))::(.val (str N9.val.text))::(.row (List.map Ob.enc N9.val.pair))::(.row (List.map Te.enc N9.args))::[])])),(.dt (.row [])),(.dt (.row [])),(.dt (.row [])),(stA []),(stA []),(.dt (.row [])),(.dt (.row [])),(.dt (.row [])),(.dt (.row [])),(stA []),(.dt (.val (Value.int .u64 0)))])] (.dt (.row [((.val (str G6))::(.val (str fB))::(.row (List.map dD jQ))::(.val (vi 1))::(.val (vi g.kind))::(.val (str g.np))::(.val (str g.nn))::(.val (vi g.val.kind))::(.val (str g.val.num))::(.val (str g.val.den))::(.val (str g.val.sp))::(.val (str g.val.sn))::(.val (str g.val.text))::(.row (List.map Ob.enc g.val.pair))::(.row (List.map Te.enc g.args))::(.val (vi b.kind))::(.val (str b.np))::(.val (str b.nn))::(.val (vi b.val.kind))::(.val (str b.val.num))::(.val (str b.val.den))::(.val (str b.val.sp))::(.val (str b.val.sn))::(.val (str b.val.text))::(.row (List.map Ob.enc b.val.pair))::(.row (List.map Te.enc b.args))::(.val (vi 0))::(.val (str N9.np))::(.val (str N9.nn))::(.val (vi 0))::(.val (str N9.val.num))::(.val (str N9.val.den))::(.val (str N9.val.sp))::(.val (str N9.val.sn))::(.val (str N9.val.text))::(.row (List.map Ob.enc N9.val.pair))::(.row (List.map Te.enc N9.args))::[])])),Bn .eql 28 (.tmp 31) (.tmp 32) (Value.agg #[str G6,str fB]) (Value.agg #[str x8,str n]) bF,Bk .add 3 14 1 ↑i (vi (↑(i+1)))] ⟨rfl,F8 (UV J),h,b2u _,aO (Ai fun e=>absurd e.1 O),N8 J J J,Z⟩
theorem b2v{es:aa1}{n:aa0}(h:∀i,i < es.length→D7 EX sV (iM es n i) .I4 (iM es n ((i+1:Nat):Int))):∀(d i:Nat),i+d=es.length→Lps EX sV (iM es n i) (.out 0) (iM es n es.length):=by
 intro d
 induction d with
 |zero=>intro i hi;obtain rfl:i=es.length:=J;exact .stop (b8B rfl) (fun h=>by cases h)
 |succ d ih=>intro i hi;exact .more (h i J) (ih (i+1) J)
abbrev yE(p n:aa0):AV:=.ak 111 [.pin [stA p,stA n]]
theorem QQ(F:List Dt):l7 75 [.agg ((Z4 F).map .dt)] (.dt (.row [F])) :=
 pV [.no] [] func75 trivial
theorem Si{p n p' n':aa0}{ps:aa1}{g b m:Te}{r:Bool}(h:(decide (p'=p) && decide (n'=n))=r):l7 111 [.agg ((mW p' n' ps g b m).map .dt),.pin [stA p,stA n]] (o6 r) :=
 pV [.av (o6 r)] [Bn .eql 28 (.tmp 5) (.tmp 6) (Value.agg #[str p',str n']) (Value.agg #[str p,str n]) (Value.bool r)] func111 ⟨aO h,Z⟩
theorem b6Y{p n:aa0}:l7 110 [.dt (.row []),yE p n] (.o7 [inA 0,o6 false]) :=
 pW [.no,.no] [.run 1] [] func110 trivial
theorem b6Z{p n p' n':aa0}{ps:aa1}{g b m:Te}(h:l7 111 [.agg ((mW p' n' ps g b m).map .dt),.pin [stA p,stA n]] (o6 true)):l7 110 [.dt (.row [mW p' n' ps g b m]),yE p n] (.o7 [inA 0,o6 true]) :=
 pW [.no,.no,.no,yT] [.run 1] [_] func110 ⟨h,Z⟩
theorem a15{p n p' n':aa0}{ps:aa1}{g b m:Te}(h:l7 111 [.agg ((mW p' n' ps g b m).map .dt),.pin [stA p,stA n]] (o6 false)):l7 110 [.dt (.row [mW p' n' ps g b m]),yE p n] (.o7 [inA 0,o6 false]) :=
 pW [.no,.no,.no,yF,.no,.no] [.run 2] [_] func110 ⟨h,Z⟩
abbrev gY(es:aa1)(p n:aa0)(i:Int):AS:=⟨stt 29 [(3,.ptr 0 0),(11,.dt (.row es)),(12,inA es.length),(13,inA i)],[some (.cells [stA p,stA n])]⟩
abbrev UI(p n:aa0)(i:Int):AS:=⟨stt 29 [(4,inA i),(5,inA 0),(6,o6 true)],[some (.cells [stA p,stA n])]⟩
theorem b9j{es:aa1}{f:y8.H8}{p n:aa0}{i:Nat}(h:E5 es (i:Int) 32 (I9 f))(hi:i < es.length)(hl:es.length≤1000)(h2:l7 110 [.dt (.row [I8 f]),yE p n] (.o7 [inA 0,o6 false])):D7 EX gW (gY es p n i) .I4 (gY es p n ((i+1:Nat):Int)) :=
 tW [yT,.av (.pin ((I9 f).map .dt)),.av (.dt (.row [I8 f])),.av (.o7 [inA 0,o6 false]),.av (inA ((i+1:Nat):Int))] [] [3,11,12,13] 1 [Bt .lss 3 13 12 ↑i ↑es.length bT,_,l7 75 [(.agg ((I9 f).map .dt))] (.dt (.row [I8 f])),_,Bk .add 3 13 1 ↑i (vi (↑(i+1)))] ⟨F8 (UV J),h,JD f,h2,N8 J J J,Z⟩
theorem b9k{es:aa1}{is:aa1}{p n:aa0}{i:Nat}(h:E5 es (i:Int) 32 (bG is))(hi:i < es.length)(hl:es.length≤1000)(h2:l7 110 [.dt (.row []),yE p n] (.o7 [inA 0,o6 false])):D7 EX gW (gY es p n i) .I4 (gY es p n ((i+1:Nat):Int)) :=
 tW [yT,.av (.pin ((bG is).map .dt)),.av (.dt (.row [])),.av (.o7 [inA 0,o6 false]),.av (inA ((i+1:Nat):Int))] [] [3,11,12,13] 1 [Bt .lss 3 13 12 ↑i ↑es.length bT,_,l7 75 [(.agg [(inA 1),(stA x8),(stA [117,115,101,114,45,112,97,99,107,97,103,101]),(stA [117,115,101,114]),(.dt (.row is)),(stA []),(stA []),(.dt (.row [])),(o6 false),(inA 0),(stA []),(stA []),(inA 0),(stA []),(stA []),(stA []),(stA []),(stA []),(.dt (.row [])),(.dt (.row [])),(.dt (.row [])),(.dt (.row [])),(.dt (.row [])),(.dt (.row [])),(stA []),(stA []),(.dt (.row [])),(.dt (.row [])),(.dt (.row [])),(.dt (.row [])),(stA []),(.dt (.val (Value.int .u64 0)))])] (.dt (.row [])),_,Bk .add 3 13 1 ↑i (vi (↑(i+1)))] ⟨F8 (UV J),h,a0s is,h2,N8 J J J,Z⟩
theorem b9l{es:aa1}{F:List Dt}{p n:aa0}{i:Nat}(h:E5 es (i:Int) 32 (Z4 F))(hi:i < es.length)(hl:es.length≤1000)(h2:l7 110 [.dt (.row [F]),yE p n] (.o7 [inA 0,o6 false])):D7 EX gW (gY es p n i) .I4 (gY es p n ((i+1:Nat):Int)) :=
 tW [yT,.av (.pin ((Z4 F).map .dt)),.av (.dt (.row [F])),.av (.o7 [inA 0,o6 false]),.av (inA ((i+1:Nat):Int))] [] [3,11,12,13] 1 [Bt .lss 3 13 12 ↑i ↑es.length bT,_,l7 75 [(.agg [(inA 3),(stA G6),(stA fB),(stA []),(.dt (.row [])),(stA []),(stA []),(.dt (.row [])),(o6 false),(inA 0),(stA []),(stA []),(inA 0),(stA []),(stA []),(stA []),(stA []),(stA []),(.dt (.row [])),(.dt (.row [])),(.dt (.row [F])),(.dt (.row [])),(.dt (.row [])),(.dt (.row [])),(stA []),(stA []),(.dt (.row [])),(.dt (.row [])),(.dt (.row [])),(.dt (.row [])),(stA []),(.dt (.val (Value.int .u64 0)))])] (.dt (.row [F])),_,Bk .add 3 13 1 ↑i (vi (↑(i+1)))] ⟨F8 (UV J),h,QQ F,h2,N8 J J J,Z⟩
theorem b9m{es:aa1}{F:List Dt}{i:Nat}(h:E5 es (i:Int) 32 (Z4 F))(hi:i < es.length)(h2:l7 110 [.dt (.row [F]),yE G6 fB] (.o7 [inA 0,o6 true])):D7 EX gW (gY es G6 fB i) .ret (UI G6 fB i) :=
 tW [yT,.av (.pin ((Z4 F).map .dt)),.av (.dt (.row [F])),.av (.o7 [inA 0,o6 true])] [] [4,5,6] 1 [Bt .lss 3 13 12 ↑i ↑es.length bT,_,l7 75 [(.agg [(inA 3),(stA G6),(stA fB),(stA []),(.dt (.row [])),(stA []),(stA []),(.dt (.row [])),(o6 false),(inA 0),(stA []),(stA []),(inA 0),(stA []),(stA []),(stA []),(stA []),(stA []),(.dt (.row [])),(.dt (.row [])),(.dt (.row [F])),(.dt (.row [])),(.dt (.row [])),(.dt (.row [])),(stA []),(stA []),(.dt (.row [])),(.dt (.row [])),(.dt (.row [])),(.dt (.row [])),(stA []),(.dt (.val (Value.int .u64 0)))])] (.dt (.row [F])),_] ⟨F8 (UV J),h,QQ F,h2,Z⟩
theorem b9n{es:aa1}{p n:aa0}{i:Nat}(hi:i=es.length):D7 EX gW (gY es p n i) (.out 0) (gY es p n i) :=
 tW [yF] [] [3,11,12,13] 1 [Bt .lss 3 13 12 ↑i ↑es.length bF] ⟨F8 (WF J),Z⟩
theorem b60{es:aa1}{p n:aa0}{k:Int}(h:D7 EX (.loop gW) (gY es p n 0) (.out 0) (gY es p n k)):l7 74 [.dt (.row es),y7 p n] (.o7 [inA 0,inA 0,o6 false]) :=
 pW [.av (inA es.length)] [.inv [3,11,12,13] 1 (.out 0) (gY es p n k)] [(vi ↑es.length)=(vi ↑es.length),_] func74 ⟨rfl,h,Z⟩
theorem b61{es:aa1}{p n:aa0}{j:Nat}(h:D7 EX (.loop gW) (gY es p n 0) .ret (UI p n j)):l7 74 [.dt (.row es),y7 p n] (.o7 [inA j,inA 0,o6 true]) :=
 pW [.av (inA es.length)] [.inv [3,11,12,13] 1 (.ret) (UI p n j)] [(vi ↑es.length)=(vi ↑es.length),_] func74 ⟨rfl,h,Z⟩
theorem b62{es:aa1}{p n:aa0}{j:Nat}{g b:Te}(ht:l7 74 [.dt (.row es),y7 p n] (.o7 [inA j,inA 0,o6 true]))(h:E5 es (j:Int) 32 (Z4 (P7 g b))):l7 39 [.dt (.row es),y7 p n] (.o7 [.agg ((P7 g b).map .dt),o6 true]) :=
 pV [.av (.o7 [inA j,inA 0,o6 true]),.av (.pin ((Z4 (P7 g b)).map .dt)),.av (.dt (.row [P7 g b])),.no] [_,_,l7 75 [(.agg [(inA 3),(stA G6),(stA fB),(stA []),(.dt (.row [])),(stA []),(stA []),(.dt (.row [])),(o6 false),(inA 0),(stA []),(stA []),(inA 0),(stA []),(stA []),(stA []),(stA []),(stA []),(.dt (.row [])),(.dt (.row [])),(.dt (.row [((.val (str G6))::(.val (str fB))::(.row (List.map dD jQ))::(.val (vi 1))::(.val (vi g.kind))::(.val (str g.np))::(.val (str g.nn))::(.val (vi g.val.kind))::(.val (str g.val.num))::(.val (str g.val.den))::(.val (str g.val.sp))::(.val (str g.val.sn))::(.val (str g.val.text))::(.row (List.map Ob.enc g.val.pair))::(.row (List.map Te.enc g.args))::(.val (vi b.kind))::(.val (str b.np))::(.val (str b.nn))::(.val (vi b.val.kind))::(.val (str b.val.num))::(.val (str b.val.den))::(.val (str b.val.sp))::(.val (str b.val.sn))::(.val (str b.val.text))::(.row (List.map Ob.enc b.val.pair))::(.row (List.map Te.enc b.args))::(.val (vi 0))::(.val (str N9.np))::(.val (str N9.nn))::(.val (vi 0))::(.val (str N9.val.num))::(.val (str N9.val.den))::(.val (str N9.val.sp))::(.val (str N9.val.sn))::(.val (str N9.val.text))::(.row (List.map Ob.enc N9.val.pair))::(.row (List.map Te.enc N9.args))::[])])),(.dt (.row [])),(.dt (.row [])),(.dt (.row [])),(stA []),(stA []),(.dt (.row [])),(.dt (.row [])),(.dt (.row [])),(.dt (.row [])),(stA []),(.dt (.val (Value.int .u64 0)))])] (.dt (.row [((.val (str G6))::(.val (str fB))::(.row (List.map dD jQ))::(.val (vi 1))::(.val (vi g.kind))::(.val (str g.np))::(.val (str g.nn))::(.val (vi g.val.kind))::(.val (str g.val.num))::(.val (str g.val.den))::(.val (str g.val.sp))::(.val (str g.val.sn))::(.val (str g.val.text))::(.row (List.map Ob.enc g.val.pair))::(.row (List.map Te.enc g.args))::(.val (vi b.kind))::(.val (str b.np))::(.val (str b.nn))::(.val (vi b.val.kind))::(.val (str b.val.num))::(.val (str b.val.den))::(.val (str b.val.sp))::(.val (str b.val.sn))::(.val (str b.val.text))::(.row (List.map Ob.enc b.val.pair))::(.row (List.map Te.enc b.args))::(.val (vi 0))::(.val (str N9.np))::(.val (str N9.nn))::(.val (vi 0))::(.val (str N9.val.num))::(.val (str N9.val.den))::(.val (str N9.val.sp))::(.val (str N9.val.sn))::(.val (str N9.val.text))::(.row (List.map Ob.enc N9.val.pair))::(.row (List.map Te.enc N9.args))::[])]))] func39 ⟨ht,h,QQ _,Z⟩
theorem ZK{es:aa1}{p n:aa0}{m:Nat}(h:∀i,i < m→D7 EX gW (gY es p n i) .I4 (gY es p n ((i+1:Nat):Int))){e:AE}{s':AS}(h2:Lps EX gW (gY es p n m) e s'):∀(d i:Nat),i+d=m→Lps EX gW (gY es p n i) e s':=by
 intro d
 induction d with
 |zero=>intro i hi;obtain rfl:i=m:=J;exact h2
 |succ d ih=>intro i hi;exact .more (h i J) (ih (i+1) J)
theorem Cm(g b:Te):(aU g b).length=30:=by
 show (F9.map I9++[bG kZ]++[Z4 (P7 g b)]).length=30;rw[Za4,Za4,EQ,lW];rfl
theorem a18{g b:Te}{i:Nat}{f:y8.H8}(h:F9[i]?=some f):E5 (aU g b) (i:Int) 32 (I9 f):=by
 have e:aU g b=F9.map I9++([bG kZ]++[Z4 (P7 g b)]):=Zah ..;rw[e];exact rW h
theorem a19(g b:Te):E5 (aU g b) ((28:Nat):Int) 32 (bG kZ):=⟨O,by
 have e:aU g b=F9.map I9++([bG kZ]++[Z4 (P7 g b)]):=Zah ..;rw[e,Int.toNat_natCast,ZaK (by rw[EQ,lW];exact NE _),EQ,lW];rfl,rfl⟩
theorem JJ(g b:Te):E5 (aU g b) ((29:Nat):Int) 32 (Z4 (P7 g b)):=⟨O,by
 have e:aU g b=F9.map I9++([bG kZ]++[Z4 (P7 g b)]):=Zah ..;rw[e,Int.toNat_natCast,ZaK (by rw[EQ,lW];decide),EQ,lW];rfl,rfl⟩
theorem b63{g b:Te}{n:aa0}(hn:(F9.find? fun f=>f.nm == n)=none):l7 85 [.dt (.row (aU g b)),y7 x8 n] (.o7 [gp,o6 false]):=by
 have hlen:=Cm g b;have hno:∀(i:Nat) (f:y8.H8),F9[i]?=some f→f.nm≠n:=fun i f h=>by
  have:=List.find?_eq_none.1 hn f (Za5 h);simpa using this
 have h:=b2v (es:=aU g b) (n:=n) (fun i hi=>by
  rw[hlen]at hi;rcases Zai i 28 with h | h
  ·obtain⟨f,hx⟩:∃f,F9[i]?=some f:=⟨_,Za2 (by rw[lW];exact h)⟩;exact a2K (a18 hx) J J (WF (hno i f hx))
  ·rcases (show i=28∨i=29 by omega) with rfl | rfl
   ·exact b8A (a19 g b) J J
   ·exact b9i (JJ g b) J J) 30 0 J
 exact a9J (b3L (by rw[hlen]at h;exact h.tri))
theorem ZL{g b:Te}{p n:aa0}(h1:∀(i:Nat) (f:y8.H8),F9[i]?=some f→(decide (x8=p) && decide (f.nm=n))=false){i:Nat}(hi:i < 29):D7 EX gW (gY (aU g b) p n i) .I4 (gY (aU g b) p n ((i+1:Nat):Int)):=by
 have hlen:=Cm g b;rcases Zai i 28 with h | h
 ·obtain⟨f,hx⟩:∃f,F9[i]?=some f:=⟨_,Za2 (by rw[lW];exact h)⟩;exact b9j (a18 hx) J J (a15 (p':=x8) (n':=f.nm) (ps:=f.ps.map L9) (g:=f.guard) (b:=f.body) (m:=f.measure) (Si (h1 i f hx)))
 ·obtain rfl:i=28:=J;exact b9k (a19 g b) J J b6Y
theorem b2w{g b:Te}{n:aa0}(hn:(F9.find? fun f=>f.nm == n)=none):l7 39 [.dt (.row (aU g b)),y7 x8 n] (.o7 [gp,o6 false]):=by
 have hlen:=Cm g b;have hno:∀(i:Nat) (f:y8.H8),F9[i]?=some f→(decide (x8=x8) && decide (f.nm=n))=false:=fun i f h=>by
  have:=List.find?_eq_none.1 hn f (Za5 h);rw[WF (show ¬f.nm=n by simpa using this),Bool.and_false]
 have st:=b9l (p:=x8) (n:=n) (i:=29) (JJ g b) J J (a15 (Si (by rw[show decide (G6=x8)=false by decide];rfl)));have h:=ZK (m:=29) (fun i hi=>ZL hno hi) (.more st (.stop (b9n (es:=aU g b) (i:=30) J) (fun h=>by cases h))) 29 0 J;exact Yk (b60 h.tri)
theorem a0R{g b:Te}:l7 39 [.dt (.row (aU g b)),y7 G6 fB] (.o7 [.agg ((P7 g b).map .dt),o6 true]):=by
 have hlen:=Cm g b;have hno:∀(i:Nat) (f:y8.H8),F9[i]?=some f→(decide (x8=G6) && decide (f.nm=fB))=false:=fun i f h=>by rw[show decide (x8=G6)=false by decide];rfl
 have st:=b9m (i:=29) (JJ g b) J (b6Z (Si O));have h:=ZK (m:=29) (fun i hi=>ZL (g:=g) (b:=b) hno hi) (.stop st (fun h=>by cases h)) 29 0 J;exact b62 (b61 (j:=29) h.tri) (JJ g b)
theorem Sj(g b:Te):vS (aU g b):=by
 have e:aU g b=F9.map I9++([bG kZ]++[Z4 (P7 g b)]):=Zah ..;have hl:(F9.map I9++([bG kZ]++[Z4 (P7 g b)])).length≤1000:=by rw[←e,Cm];decide
 refine⟨fun h=>?_,fun h=>b63 h,fun h=>?_,fun h=>?_⟩
 ·rw[e];exact a0q hl h
 ·rw[e];exact Qz hl h
 ·rw[e];exact OB hl h
theorem b65(g b:Te):Gj (aU g b):=fun n i a hp=>by
 have h:(F9.find? fun f=>f.nm == n)=none:=PY (x:=(n,a)) (Za5 (jU hp));exact b2w h
theorem b4N{p n:aa0}(h:p≠x8):l7 38 [y7 p n] (.o7 [inA 0,o6 false]) :=
 pV [yT] [Bl .neq 9 5 [108,105,115,112] p bT] func38 ⟨OT (WF h),Z⟩
theorem b4O{ws:aa1}{g b:Te}(hp:l7 38 [y7 G6 fB] (.o7 [inA 0,o6 false]))(hf:l7 39 [.dt (.row ws),y7 G6 fB] (.o7 [.agg ((P7 g b).map .dt),o6 true])):l7 37 [.dt (.row ws),y7 G6 fB] (.o7 [inA 2,o6 true]) :=
 pV [.av (.o7 [inA 0,o6 false]),.av (.o7 [.agg ((P7 g b).map .dt),o6 true]),.no] [_,_] func37 ⟨hp,hf,Z⟩
abbrev yG:FuncId:=122
theorem b66{ws:aa1}{s u:Int}{g b:Te}{env:E8}(h:l7 40 [y9 g] (o6 true)):F7 yG [.ptr 0 0,.agg ((P7 g b).map .dt),H5 env] (O5 ws s u) (inA 0) (O5 ws s u) :=
 sW 1 [0] [yT] [] [_] func122 ⟨h,Z⟩
theorem b67{ws:aa1}{s u d k e:Int}{g b:Te}{env:E8}(hd:d=s - u)(hs:0≤u∧u≤s∧s≤100000)(hk:k=u)(he:e≠0)(h:l7 40 [y9 g] (o6 false))(hE:l7 176 [.dt (.row ws),y9 g,H5 env,inA d] (.o7 [x9 zO,inA 0,inA e])):F7 yG [.ptr 0 0,.agg ((P7 g b).map .dt),H5 env] (O5 ws s u) (inA e) (O5 ws s k) :=
 sW 1 [0] [yF,.av (inA d),.av (.o7 [x9 zO,inA 0,inA e]),.av (inA k),yT] [] [_,Bt .sub 3 24 28 s u (vi d),_,Bt .add 3 37 38 u 0 (vi k),Bk .neq 44 43 0 e bT] func122 ⟨h,dO hd.symm J J,hE,N8 J J J,H7 (by simp[he]),Z⟩
theorem b68{ws:aa1}{s u d n k:Int}{g b:Te}{env:E8}{y:Tr}(hd:d=s - u)(hs:0≤u∧u≤s∧s≤100000)(hn:0≤n∧n≤100000)(hk:k=u+n)(h:l7 40 [y9 g] (o6 false))(hE:l7 176 [.dt (.row ws),y9 g,H5 env,inA d] (.o7 [o9 y,inA n,inA 0]))(hN:l7 119 [o9 y] (o6 true)):F7 yG [.ptr 0 0,.agg ((P7 g b).map .dt),H5 env] (O5 ws s u) (inA 10) (O5 ws s k) :=
 sW 1 [0] [yF,.av (inA d),.av (.o7 [o9 y,inA n,inA 0]),.av (inA k),yF,yT] [] [_,Bt .sub 3 24 28 s u (vi d),_,Bt .add 3 37 38 u n (vi k),Bk .neq 44 43 0 0 bF,_] func122 ⟨h,dO hd.symm J J,hE,N8 J J J,H7 I,hN,Z⟩
theorem b69{ws:aa1}{s u d n k:Int}{g b:Te}{env:E8}{y:Tr}(hd:d=s - u)(hs:0≤u∧u≤s∧s≤100000)(hn:0≤n∧n≤100000)(hk:k=u+n)(h:l7 40 [y9 g] (o6 false))(hE:l7 176 [.dt (.row ws),y9 g,H5 env,inA d] (.o7 [o9 y,inA n,inA 0]))(hN:l7 119 [o9 y] (o6 false)):F7 yG [.ptr 0 0,.agg ((P7 g b).map .dt),H5 env] (O5 ws s u) (inA 0) (O5 ws s k) :=
 sW 1 [0] [yF,.av (inA d),.av (.o7 [o9 y,inA n,inA 0]),.av (inA k),yF,yF] [] [_,Bt .sub 3 24 28 s u (vi d),_,Bt .add 3 37 38 u n (vi k),Bk .neq 44 43 0 0 bF,_] func122 ⟨h,dO hd.symm J J,hE,N8 J J J,H7 I,hN,Z⟩
abbrev cU(x y:Tr):Te:=⟨3,G6,fB,V9,[G9 x.ob,G9 y.ob]⟩
abbrev eU(x y:Tr):E8:=[((G6,[120]),x),((G6,[121]),y)]
theorem a3b{ws es:aa1}{s u v:Int}{t x:Te}{g c:Te}{env:E8}{b:Bool}{y:Tr}{i:Nat}(hx:t.args[i]?=some x)(hl:t.args.length≤1000)(he:es.length≤1000)(h:F7 gX [.ptr 0 0,y9 x,H5 env] (O5 ws s u) (.o7 [o9 y,inA 0]) (O5 ws s v)):D7 (H9 1) kP (iw ws s u t env ((P7 g c).map .dt) b es i) .I4 (iw ws s v t env ((P7 g c).map .dt) b (es++[D9 y.ob]) ((i+1:Nat):Int)) :=
 have hi:=(Pi.1 hx).1
 tW [yT,.av (.pin ((C9 x).map .dt)),yF,.av (.un),.av (inA ((i+1:Nat):Int))] [.P5 24 3 [0] (.o7 [o9 y,inA 0]) [some (.cells [.dt (.row ws),inA s,inA v])]] [0,2,4,6,9,10,16,136,137,138] 5 [Bt .lss 3 138 137 ↑i ↑t.args.length bT,E5 (List.map Te.enc t.args) ↑i 11 (C9 x),_,Bk .neq 44 149 0 0 bF,(es.length)=(es.length),X8 112 ((es++[[Dt.val (vi y.ob.kind),Dt.val (str y.ob.num),Dt.val (str y.ob.den),Dt.val (str y.ob.sp),Dt.val (str y.ob.sn),Dt.val (str y.ob.text),Dt.row (List.map Ob.enc y.ob.pair)]]).length),S9 7 [D9 y.ob],Bk .add 3 138 1 ↑i (vi (↑(i+1)))] ⟨F8 (UV J),Y9 hx,h,H7 I,rfl,jA J (by simp;omega),zW y,N8 J J J,Z⟩
theorem b9o{ws es:aa1}{s u:Int}{t g c:Te}{env:E8}{b:Bool}{i:Nat}(hi:i=t.args.length):D7 (H9 1) kP (iw ws s u t env ((P7 g c).map .dt) b es i) (.out 2) (iw ws s u t env ((P7 g c).map .dt) b es i) :=
 tW [yF] [] [0,2,4,6,9,10,16,136,137,138] 5 [Bt .lss 3 138 137 ↑i ↑t.args.length bF] ⟨F8 (WF J),Z⟩
abbrev gu0(ws:aa1)(s u:Int)(x y:Tr)(g c:Te):AS:=⟨stt 204 [(0,.ptr 0 0),(2,.dt (.row [])),(4,.ptr 1 0),(6,.ptr 2 0),(9,o6 false),(10,.ptr 3 0),(16,.nil),(136,O3 [G9 x.ob,G9 y.ob]),(137,inA 2),(138,inA 0)],LY ws s u (cU x y) ((P7 g c).map .dt)⟩
abbrev UJ(ws:aa1)(s u:Int)(x y:Tr)(g c:Te):AS:=⟨stt 204 [(0,.ptr 0 0),(2,.dt (.row [])),(4,.ptr 1 0),(6,.ptr 2 0),(9,o6 false),(10,.ptr 3 0),(16,.own 4 2),(136,O3 [G9 x.ob,G9 y.ob]),(137,inA 2),(138,inA 2)],LY ws s u (cU x y) ((P7 g c).map .dt)++[some (.buf 37 7 [D9 x.ob,D9 y.ob])]⟩
structure GU (ws:aa1) (x y:Tr) (g b:Te):Prop where
 p:l7 38 [y7 G6 fB] (.o7 [inA 0,o6 false])
 f:l7 39 [.dt (.row ws),y7 G6 fB] (.o7 [.agg ((P7 g b).map .dt),o6 true])
 a:l7 37 [.dt (.row ws),y7 G6 fB] (.o7 [inA 2,o6 true])
 l:D7 (H9 1) (.loop kP) (gu0 ws 500 1 x y g b) (.out 2) (UJ ws 500 1 x y g b)
theorem a2a{ws:aa1}{u e:Int}{x y:Tr}{g b:Te}(h:GU ws x y g b)(he:e≠0)(hg:F7 yG [.ptr 0 0,.agg ((P7 g b).map .dt),.dt (.row [Q8 ((G6,[120]),x),Q8 ((G6,[121]),y)])] (O5 ws 500 1) (inA e) (O5 ws 500 u)):F7 qO [.ptr 0 0,y9 (cU x y),.dt (.row [])] (O5 ws 500 0) (.o7 [x9 zO,inA e]) (O5 ws 500 u) :=
 .rv (sW 1 [0] ([.no,.no,.av (.o7 [inA 0,o6 false]),.av (.o7 [.agg ((P7 g b).map .dt),o6 true]),.av (.o7 [inA 2,o6 true])]++nK 16 [yT]) [.inv [0,2,4,6,9,10,16,136,137,138] 4 (.out 2) (UJ ws 500 1 x y g b),.run 3,.P5 39 3 [0] (inA e) [some (.cells [.dt (.row ws),inA 500,inA u])]] [_,_,_,_,2=2,2=2,_,2=2,Bk .neq 44 193 0 e bT] func93 ⟨h.p,h.f,h.a,h.l,rfl,rfl,hg,rfl,H7 (by simp[he]),Z⟩) fun _ _ _ h=>jr h
theorem a2b{ws:aa1}{u v e:Int}{x y:Tr}{g b:Te}{o:Ob}(h:GU ws x y g b)(hg:F7 yG [.ptr 0 0,.agg ((P7 g b).map .dt),.dt (.row [Q8 ((G6,[120]),x),Q8 ((G6,[121]),y)])] (O5 ws 500 1) (inA 0) (O5 ws 500 u))(hb:F7 gX [.ptr 0 0,y9 b,.dt (.row [Q8 ((G6,[120]),x),Q8 ((G6,[121]),y)])] (O5 ws 500 u) (.o7 [x9 o,inA e]) (O5 ws 500 v)):F7 qO [.ptr 0 0,y9 (cU x y),.dt (.row [])] (O5 ws 500 0) (.o7 [x9 o,inA e]) (O5 ws 500 v) :=
 sW 1 [0] ([.no,.no,.av (.o7 [inA 0,o6 false]),.av (.o7 [.agg ((P7 g b).map .dt),o6 true]),.av (.o7 [inA 2,o6 true])]++nK 16 [yF]) [.inv [0,2,4,6,9,10,16,136,137,138] 4 (.out 2) (UJ ws 500 1 x y g b),.run 3,.P5 39 3 [0] (inA 0) [some (.cells [.dt (.row ws),inA 500,inA u])],.P5 42 4 [0] (.o7 [x9 o,inA e]) [some (.cells [.dt (.row ws),inA 500,inA v])]] [_,_,_,_,2=2,2=2,_,2=2,Bk .neq 44 193 0 0 bF,_,2=2] func93 ⟨h.p,h.f,h.a,h.l,rfl,rfl,hg,rfl,H7 I,hb,rfl,Z⟩
theorem JK(x y:Tr)(g b:Te):GU (aU g b) x y g b:=by
 have hp:=b4N (p:=G6) (n:=fB) O;have hf:=a0R (g:=g) (b:=b);refine⟨hp,hf,b4O hp hf,?_⟩;have s1:F7 gX [.ptr 0 0,y9 (G9 x.ob),H5 []] (O5 (aU g b) 500 1) (.o7 [o9 x,inA 0]) (O5 (aU g b) 500 1):=JH (t:=G9 x.ob) rfl;have s2:F7 gX [.ptr 0 0,y9 (G9 y.ob),H5 []] (O5 (aU g b) 500 1) (.o7 [o9 y,inA 0]) (O5 (aU g b) 500 1):=JH (t:=G9 y.ob) rfl;have h1:=a3b (ws:=aU g b) (es:=[]) (t:=cU x y) (g:=g) (c:=b) (env:=[]) (b:=false) (i:=0) rfl (by show 2≤1000;omega) (by show 0≤1000;omega) s1;have h2:=a3b (ws:=aU g b) (es:=[D9 x.ob]) (t:=cU x y) (g:=g) (c:=b) (env:=[]) (b:=false) (i:=1) rfl (by show 2≤1000;omega) (by show 1≤1000;omega) s2;have h3:=b9o (ws:=aU g b) (es:=[D9 x.ob,D9 y.ob]) (s:=500) (u:=1) (t:=cU x y) (g:=g) (c:=b) (env:=[]) (b:=false) (i:=2) rfl;exact D7.aS 16 37 7 (by show 16 < 204;omega) rfl (Lps.more h1 (.more h2 (.stop h3 (fun h=>by cases h)))).tri
theorem b7a{wr:aa1}(hW:vS wr){env:E8}{t:Te}(ht:Wd t)(he:ku env)(hle:env.length≤1000){s:Nat}(hs:s≤99999) :
  (∀x l,ev F9 s env t s=(.ok x,l)→l7 176 [.dt (.row wr),y9 t,H5 env,inA s] (.o7 [o9 x,inA (s - l:Int),inA 0]))∧(∀e l,ev F9 s env t s=(.error e,l)→e≠0∧l7 176 [.dt (.row wr),y9 t,H5 env,inA s] (.o7 [x9 zO,inA 0,inA e])):=by
 obtain⟨fs',_,h2⟩:=b6K hW s env t ht he hle s s [] (NE _) (NE _) hs (fun f hf=>by cases hf);have hok:=mF s env t s ht he;rw[show (s:Int) - (s:Int)=0 by omega]at h2
 refine⟨fun x l hv=>?_,fun e l hv=>?_⟩
 ·rw[hv]at h2;exact b4J h2
 ·rw[hv]at h2;exact⟨hok.2 e l hv,b4K (hok.2 e l hv) h2⟩
theorem Sr{x y:Tr}(hx:x.valid=true)(hy:y.valid=true):ku (eU x y):=fun z hz=>by
 simp only[Zao,ZaO,or_false]at hz;rcases hz with rfl | rfl
 ·exact hx
 ·exact hy
section
variable {x y:Tr} {g b:Te} (hx:x.valid=true) (hy:y.valid=true) (hg:Pd g) (hb:Pd b)
include hx hy hb
theorem a0S{l:Nat}(hl:l≤499)(h:F7 yG [.ptr 0 0,.agg ((P7 g b).map .dt),H5 (eU x y)] (O5 (aU g b) 500 1) (inA 0) (O5 (aU g b) 500 (500 - (l:Int)))) :
  ∃(o:Ob) (n e:Int),l7 24 [.dt (.row (aU g b)),y9 (cU x y),.dt (.row []),inA 500] (.o7 [x9 o,inA n,inA e])∧(e=10→∃l l',gv 499 (eU x y) b l=(.error 10,l')):=by
 have k:=b6S (b65 g b) 499 (eU x y) b hb (Sr hx hy) (by show 2≤1000;omega) 500 l J J O;cases hv:gv 499 (eU x y) b l with
 |mk r l' =>
  rw[hv]at k;cases r with
  |ok z=>exact⟨_,_,0,a0P (env:=[]) (s:=500) (kz (t:=cU x y) rfl (a2b (JK x y g b) h k)),fun e=>absurd e O⟩
  |error c=>exact⟨_,_,c,Je (env:=[]) (s:=500) (QO _ _ _ _ _ _ hb hv) (kz (t:=cU x y) rfl (a2b (JK x y g b) h k)),fun e=>⟨l,l',by rw[hv,e]⟩⟩
include hg
theorem b9p:∃(o:Ob) (n e:Int),l7 24 [.dt (.row (aU g b)),y9 (cU x y),.dt (.row []),inA 500] (.o7 [x9 o,inA n,inA e]) ∧
  (e=10→(∃l l',gv 499 (eU x y) b l=(.error 10,l'))∨(g≠G8∧∀z l,ev F9 499 (eU x y) g 499=(.ok z,l)→z=o8)):=by
 have hu:=RX hg.wd.wf;by_cases hy':g=G8
 ·rw[show sameD g G8=true from UV hy']at hu
  obtain⟨o,n,e,h1,h2⟩:=a0S hx hy hb (l:=499) (NE _) (b66 (ws:=aU g b) (s:=500) (u:=1) hu);exact⟨o,n,e,h1,fun h=>.inl (h2 h)⟩
 ·rw[show sameD g G8=false from WF hy']at hu
  obtain⟨k1,k2⟩:=b7a (Sj g b) hg.wd (Sr hx hy) (by show 2≤1000;omega) (s:=499) O;have hle:=jy F9 499 (eU x y) g 499;cases hv:ev F9 499 (eU x y) g 499 with
  |mk r l =>
   rw[hv]at hle;have hle:l≤499:=hle;cases r with
   |error c =>
    obtain⟨hc,hE⟩:=k2 c l hv;exact⟨_,_,c,Je (env:=[]) (s:=500) hc (kz (t:=cU x y) rfl (a2a (JK x y g b) hc (b67 (s:=500) (u:=1) (d:=499) (k:=1) rfl J rfl hc hu hE))),fun _=>.inr ⟨hy',fun z l h=>by cases h⟩⟩
   |ok z =>
    have hE:=k1 z l hv;have hN:=yX z;by_cases hz:z=o8
    ·rw[UV hz]at hN;exact⟨_,_,10,Je (env:=[]) (s:=500) O (kz (t:=cU x y) rfl (a2a (JK x y g b) O (b68 (s:=500) (u:=1) (d:=499) rfl J J rfl hu hE hN))),fun _=>.inr ⟨hy',fun z' l' h=>by cases h;exact hz⟩⟩
    ·rw[WF hz]at hN;have hd:=b69 (b:=b) (s:=500) (u:=1) (d:=499) (k:=500 - (l:Int)) rfl J J J hu hE hN;obtain⟨o,n,e,h1,h2⟩:=a0S hx hy hb hle hd;exact⟨o,n,e,h1,fun h=>.inl (h2 h)⟩
end
abbrev qP(l:List Raw)(es:aa1)(i:Int):AS:=⟨stt 33 [(0,KA l),(3,.dt (.row (vV.map dD))),(4,.own 0 es.length),(5,inA i)],[some (.buf 75 9 es)]⟩
abbrev ee0(l:List Raw):AS:=⟨stt 33 [(0,KA l),(3,.dt (.row (vV.map dD))),(4,.nil),(5,inA 0)],[]⟩
noncomputable abbrev Ba:Code:=V5 (ai f22) [1,1,1,0,1,0,0]
theorem a2c{vl:List (aa0)}{i:Nat}{n:aa0}(h:vl[i]?=some n):E5 (vl.map dD) (i:Int) 2 (dD n):=⟨Int.natCast_nonneg _,by
 rw[Int.toNat_natCast,Zag,h];rfl,rfl⟩
theorem b9q{l:List Raw}{es:aa1}{i:Nat}{nm:aa0}{x:Raw}{y:Tr}(hi:i < 4)(hn:vV[i]?=some nm)(hx:l[i]?=some x)(he:es.length≤4)(_:l.length≤1000)(h:l7 34 [J3 x] (o9 y)):D7 EX Ba (qP l es i) .I4 (qP l (es++[Q8 ((G6,nm),y)]) ((i+1:Nat):Int)) :=
 have hj:=(Pi.1 hx).1
 tW [yT,.av (.pin ((dD nm).map .dt)),.av (x9 U6),.av (inA l.length),yT,.av (.pin ((encR x).map .dt)),.av (o9 y),.av (.un),.av (inA ((i+1:Nat):Int))] [] [0,3,4,5] 1 [Bk .lss 3 8 4 ↑i bT,E5 (List.map dD vV) ↑i 2 ([(.val (str G6)),(.val (str nm))]),_,(vi ↑l.length)=(vi (↑(List.map Raw.enc l).length)),Bt .lss 3 18 20 ↑i ↑l.length bT,E5 (List.map Raw.enc l) ↑i 4 (encR x),_,(es.length)=(es.length),X8 144 ((es++[[Dt.val (str G6),Dt.val (str nm),Dt.val (vi y.ob.kind),Dt.val (str y.ob.num),Dt.val (str y.ob.den),Dt.val (str y.ob.sp),Dt.val (str y.ob.sn),Dt.val (str y.ob.text),Dt.row (List.map Ob.enc y.ob.pair)]]).length),S9 9 [[(.val (str G6)),(.val (str nm)),(.val (vi y.ob.kind)),(.val (str y.ob.num)),(.val (str y.ob.den)),(.val (str y.ob.sp)),(.val (str y.ob.sn)),(.val (str y.ob.text)),(.row (List.map Ob.enc y.ob.pair))]],Bk .add 3 10 1 ↑i (vi (↑(i+1)))] ⟨F8 (UV J),a2c hn,ry,fG _,F8 (UV J),uG hx,h,rfl,jA J (by simp;omega),Jc ((G6,nm),y),N8 J J J,Z⟩
theorem b9r{l:List Raw}{es:aa1}{i:Nat}{nm:aa0}(hi:i < 4)(hn:vV[i]?=some nm)(hx:l.length≤i)(he:es.length≤4):D7 EX Ba (qP l es i) .I4 (qP l (es++[Q8 ((G6,nm),o8)]) ((i+1:Nat):Int)) :=
 tW [yT,.av (.pin ((dD nm).map .dt)),.av (o9 o8),.av (inA l.length),yF,.av (.un),.av (inA ((i+1:Nat):Int))] [] [0,3,4,5] 1 [Bk .lss 3 8 4 ↑i bT,E5 (List.map dD vV) ↑i 2 ([(.val (str G6)),(.val (str nm))]),_,(vi ↑l.length)=(vi (↑(List.map Raw.enc l).length)),Bt .lss 3 18 20 ↑i ↑l.length bF,(es.length)=(es.length),X8 144 ((es++[[Dt.val (str G6),Dt.val (str nm),Dt.val (vi o8.ob.kind),Dt.val (str o8.ob.num),Dt.val (str o8.ob.den),Dt.val (str o8.ob.sp),Dt.val (str o8.ob.sn),Dt.val (str o8.ob.text),Dt.row (List.map Ob.enc o8.ob.pair)]]).length),S9 9 [[(.val (str G6)),(.val (str nm)),(.val (vi 2)),(.val (str o8.ob.num)),(.val (str o8.ob.den)),(.val (str o8.ob.sp)),(.val (str o8.ob.sn)),(.val (str o8.ob.text)),(.row (List.map Ob.enc o8.ob.pair))]],Bk .add 3 10 1 ↑i (vi (↑(i+1)))] ⟨F8 (UV J),a2c hn,ry,fG _,F8 (WF J),rfl,jA J (by simp;omega),Jc ((G6,nm),o8),N8 J J J,Z⟩
theorem b9s{l:List Raw}{es:aa1}{i:Nat}(hi:i=4):D7 EX Ba (qP l es i) (.out 0) (qP l es i) :=
 tW [yF] [] [0,3,4,5] 1 [Bk .lss 3 8 4 ↑i bF] ⟨F8 (WF J),Z⟩
theorem b7b{l:List Raw}{es:aa1}{k:Int}(h:D7 EX (.loop Ba) (ee0 l) (.out 0) (qP l es k)):l7 22 [KA l] (.dt (.row es)) :=
 pW [.av (.dt (.row (vV.map dD)))] [.inv [0,3,4,5] 0 (.out 0) (qP l es k)] [_,_,(es.length)=(es.length)] func22 ⟨b0v,h,rfl,Z⟩
theorem a9Q{fs es ns:aa1}{k:Int}(hd:l7 30 [] (.dt (.row fs)))(hlp:D7 EX (.loop yx) (LC fs) (.out 0) (ny fs es k))(hn:l7 32 [] (.dt (.row ns)))(hl:es.length≤1000):F7 7 [] [] (.own 0 (es++[bG ns]).length) [some (.buf 70 32 (es++[bG ns]))] :=
 sW 0 [0] [.av (.dt (.row fs)),.av (y7 x8 [117,115,101,114,45,112,97,99,107,97,103,101]),.av (.dt (.row ns)),.av (.un)] [.inv [1,2,3] 0 (.out 0) (ny fs es k)] [_,_,l7 29 [(stA [117,115,101,114,45,112,97,99,107,97,103,101])] (y7 x8 [117,115,101,114,45,112,97,99,107,97,103,101]),_,(es.length)=(es.length),X8 568 ((es++[[Dt.val (vi 1),Dt.val (str x8),Dt.val (str [117,115,101,114,45,112,97,99,107,97,103,101]),Dt.val (Value.string { data:=#[117,115,101,114]:ByteArray }),Dt.row ns,Dt.val (Value.string { data:=#[]:ByteArray }),Dt.val (Value.string { data:=#[]:ByteArray }),Dt.row [],Dt.val bF,Dt.val (vi 0),Dt.val (Value.string { data:=#[]:ByteArray }),Dt.val (Value.string { data:=#[]:ByteArray }),Dt.val (vi 0),Dt.val (Value.string { data:=#[]:ByteArray }),Dt.val (Value.string { data:=#[]:ByteArray }),Dt.val (Value.string { data:=#[]:ByteArray }),Dt.val (Value.string { data:=#[]:ByteArray }),Dt.val (Value.string { data:=#[]:ByteArray }),Dt.row [],Dt.row [],Dt.row [],Dt.row [],Dt.row [],Dt.row [],Dt.val (Value.string { data:=#[]:ByteArray }),Dt.val (Value.string { data:=#[]:ByteArray }),Dt.row [],Dt.row [],Dt.row [],Dt.row [],Dt.val (Value.string { data:=#[]:ByteArray }),Dt.val (Value.int .u64 0)]]).length),S9 32 [[(.val (vi 1)),(.val (str x8)),(.val (str [117,115,101,114,45,112,97,99,107,97,103,101])),(.val (str [117,115,101,114])),(.row ns),(.val (str [])),(.val (str [])),(.row []),(.val bF),(.val (vi 0)),(.val (str [])),(.val (str [])),(.val (vi 0)),(.val (str [])),(.val (str [])),(.val (str [])),(.val (str [])),(.val (str [])),(.row []),(.row []),(.row []),(.row []),(.row []),(.row []),(.val (str [])),(.val (str [])),(.row []),(.row []),(.row []),(.row []),(.val (str [])),(.val (Value.int .u64 0))]]] func7 ⟨hd,hlp,O1 _,hn,rfl,jA J (by simp;omega),XH ns,Z⟩
theorem a9R:zy prog Gx 7 [] 70 32 fJ:=by
 have h:=(Zf OA forms 0 [] rfl (ww _) rfl NQ).tri;have ht:D7 EX (.loop yx) (LC (G7 forms)) (.out 0) (ny (G7 forms) (F9.map I9) forms.length):=D7.aS 1 70 32 (by show 1 < 27;omega) rfl h;exact bP.YA (fun _ _ h hb=>h.below hb) (a9Q MQ ht WT (by rw[EQ,lW];decide)) rfl
theorem b2x{wr:aa1}(hW:vS wr){C:List Te}{env:E8}{s:Nat}(he:ku env)(hle:env.length≤1000)(hs:s≤99999)(hl:C.length≤1000)(hw:∀x∈C,Wd x):∀(q:List Te) (i:Nat),C.drop i=q→i≤C.length →
  Lps EX vW (lU wr C env s i) .ret (Gl (oW env s q).1 (oW env s q).2)∨(oW env s q=(false,0)∧Lps EX vW (lU wr C env s i) (.out 0) (lU wr C env s C.length)):=by
 intro q
 induction q with
 |nil =>
  intro i hd hi;have e1:=congrArg List.length hd;rw[Za7,List.length_nil]at e1;obtain rfl:i=C.length:=J;exact .inr ⟨rfl,.stop (b9h rfl) (fun h=>by cases h)⟩
 |cons x q ih =>
  intro i hd hi;have hx:C[i]?=some x:=by rw[←Zak,hd];rfl
  have hlt:=(Pi.1 hx).1;have hwx:=hw x (Za5 hx);have k:=a1T hW s env x hwx he hle s (NE _) hs;have AA:=jy F9 s env x s;have hok:=mF s env x s hwx he;rw[oW];unfold UH;cases hv:ev F9 s env x s with
  |mk r l =>
   rw[hv]at k AA;have AA:l≤s:=AA;cases r with
   |error e=>exact .inl (.stop (b9g hx (hok.2 e l hv) (a0O (hok.2 e l hv) hs k)) (fun h=>by cases h))
   |ok y =>
    have h1:=a0N AA hs k;have n2:=wK (Tr.H6 (hok.1 y l hv)).ok O;dsimp only;by_cases hy:y=o8
    ·rw[Za0 hy];rw[UV hy]at n2;rcases ih (i+1) (by rw[←Zaj,hd];rfl) hlt with j2 | ⟨j0,j2⟩
     ·exact .inl (.more (a2Z hx hl h1 n2) j2)
     ·exact .inr ⟨j0,.more (a2Z hx hl h1 n2) j2⟩
    ·rw[lw hy];rw[WF hy]at n2;exact .inl (.stop (b9f hx h1 n2) (fun h=>by cases h))
theorem a9S{wr:aa1}(hW:vS wr){c:List Te}{env:E8}{s:Nat}(he:ku env)(hle:env.length≤1000)(hs:s≤99999)(hl:c.length≤1000)(hw:∀x∈c,Wd x):l7 26 [.dt (.row wr),O3 c,H5 env,inA s] (.o7 [o6 (oW env s c).1,inA (oW env s c).2]):=by
 rcases b2x hW he hle hs hl hw c 0 rfl (ww _) with h2 | ⟨h0,h2⟩
 ·exact b6T h2.tri
 ·rw[h0];exact b6U h2.tri
theorem Ic{l:List Raw}(hl:l.length≤1000)(hf:∀x∈l,rX x){nm:aa0}{i:Nat}{es:aa1}(hi:i < 4)(hn:vV[i]?=some nm)(he:es.length≤4):∃y:Tr,y.valid=true∧D7 EX Ba (qP l es i) .I4 (qP l (es++[Q8 ((G6,nm),y)]) ((i+1:Nat):Int)):=by
 cases hx:l[i]? with
 |some x =>
  have hfx:=hf x (Za5 hx);exact⟨aK x,Zx hfx,b9q hi hn hx he hl (a0m _ x (NE _) hfx.1)⟩
 |none=>exact⟨o8,Tr.gu,b9r hi hn (List.getElem?_eq_none_iff.1 hx) he⟩
theorem b4P{l:List Raw}(hl:l.length≤1000)(hf:∀x∈l,rX x):∃x y:Tr,∃r:aa1,x.valid=true∧y.valid=true∧l7 22 [KA l] (.dt (.row (Q8 ((G6,[120]),x)::Q8 ((G6,[121]),y)::r))):=by
 obtain⟨x,hx,s0⟩:=Ic hl hf (i:=0) (es:=[]) J rfl O;obtain⟨y,hy,s1⟩:=Ic hl hf (i:=1) (es:=[]++[Q8 ((G6,[120]),x)]) J rfl (by show 1≤4;omega);obtain⟨z,_,s2⟩:=Ic hl hf (i:=2) (es:=[]++[Q8 ((G6,[120]),x)]++[Q8 ((G6,[121]),y)]) J rfl (by show 2≤4;omega);obtain⟨u,_,s3⟩:=Ic hl hf (i:=3) (es:=[]++[Q8 ((G6,[120]),x)]++[Q8 ((G6,[121]),y)]++[Q8 ((G6,[122]),z)]) J rfl (by show 3≤4;omega);have h:D7 EX (.loop Ba) (ee0 l) (.out 0) _:=D7.aS 4 75 9 (by show 4 < 33;omega) rfl (Lps.more s0 (.more s1 (.more s2 (.more s3 (.stop (b9s (i:=4) rfl) (fun h=>by cases h)))))).tri;exact⟨x,y,_,hx,hy,b7b h⟩
abbrev yH(ws:aa1)(m:Int)(n:Nat)(e:aa1)(r g:Raw)(L:List (List Te))(i:Int):AS:=⟨stt 131 [(7,.own 2 n),(10,.dt (.row e)),(18,xE L),(19,inA m),(20,inA i)],[FX r,FX g,some (.ay ws)]⟩
abbrev Me(r g:Raw):AS:=⟨stt 131 [(6,o6 true)],[FX r,FX g]⟩
noncomputable abbrev Gm:Code:=V5 (ai f4) [1,1,1,1,1,1,1,1,1,1,1,1,1,0,1,0,0]
theorem Su{L:List (List Te)}{i:Nat}{c:List Te}(h:L[i]?=some c):E5 (L.map df) (i:Int) 1 (df c):=⟨Int.natCast_nonneg _,by
 rw[Int.toNat_natCast,Zag,h];rfl,rfl⟩
theorem b9t{ws e:aa1}{n:Nat}{r g:Raw}{L:List (List Te)}{c:List Te}{i:Nat}{b:Bool}(hx:L[i]?=some c)(hl:L.length≤100000)(hn:ws.length=n)(h:l7 26 [.dt (.row ws),O3 c,.dt (.row e),inA 400] (.o7 [o6 b,inA 0]))(hb:b=true):D7 EX Gm (yH ws 0 n e r g L i) .I4 (yH ws 0 n e r g L ((i+1:Nat):Int)):=by
 subst hb;have hi:=(Pi.1 hx).1;exact tW [.av (inA L.length),yT,.av (.pin [O3 c]),.av (.o7 [o6 true,inA 0]),yT,.av (inA ((i+1:Nat):Int))] [] [7,10,18,19,20] 3 [(vi ↑L.length)=(vi (↑(List.map df L).length)),Bt .lss 3 107 109 ↑i ↑L.length bT,E5 (List.map df L) ↑i 1 ([(.row (List.map Te.enc c))]),_,_,Bk .eql 44 123 0 0 bT,Bk .add 3 111 1 ↑i (vi (↑(i+1)))] ⟨congrArg vi (by rw[EQ]),F8 (UV J),Su hx,h,hn,F6 (UV rfl),N8 J J J,Z⟩
theorem b9u{ws e:aa1}{n:Nat}{r g:Raw}{L:List (List Te)}{c:List Te}{i:Nat}{b:Bool}{k:Int}(hx:L[i]?=some c)(hl:L.length≤100000)(hn:ws.length=n)(hk:k≠0)(h:l7 26 [.dt (.row ws),O3 c,.dt (.row e),inA 400] (.o7 [o6 b,inA k])):D7 EX Gm (yH ws 0 n e r g L i) .I4 (yH ws 0 n e r g L ((i+1:Nat):Int)) :=
 have hi:=(Pi.1 hx).1
 tW [.av (inA L.length),yT,.av (.pin [O3 c]),.av (.o7 [o6 b,inA k]),yF,.av (inA ((i+1:Nat):Int))] [] [7,10,18,19,20] 3 [(vi ↑L.length)=(vi (↑(List.map df L).length)),Bt .lss 3 107 109 ↑i ↑L.length bT,E5 (List.map df L) ↑i 1 ([(.row (List.map Te.enc c))]),_,_,Bk .eql 44 123 0 k bF,Bk .add 3 111 1 ↑i (vi (↑(i+1)))] ⟨congrArg vi (by rw[EQ]),F8 (UV J),Su hx,h,hn,F6 (by simp[hk]),N8 J J J,Z⟩
theorem b9v{ws e:aa1}{n:Nat}{r g:Raw}{L:List (List Te)}{c:List Te}{i:Nat}(hx:L[i]?=some c)(hn:ws.length=n)(h:l7 26 [.dt (.row ws),O3 c,.dt (.row e),inA 400] (.o7 [o6 false,inA 0])):D7 EX Gm (yH ws 0 n e r g L i) .ret (Me r g) :=
 have hi:=(Pi.1 hx).1
 tW [.av (inA L.length),yT,.av (.pin [O3 c]),.av (.o7 [o6 false,inA 0]),yT,yT] [] [6] 2 [(vi ↑L.length)=(vi (↑(List.map df L).length)),Bt .lss 3 107 109 ↑i ↑L.length bT,E5 (List.map df L) ↑i 1 ([(.row (List.map Te.enc c))]),_,_,Bk .eql 44 123 0 0 bT,Bk .eql 44 129 0 0 bT] ⟨congrArg vi (by rw[EQ]),F8 (UV J),Su hx,h,hn,F6 (UV rfl),F6 (UV rfl),Z⟩
end Go.Proofs.YthhknjlmjefklaaGreatDoor
