/- Add, Union, Tautology and Subsumes of the code on small clauses. -/
import Derived.Test.YtbpmpdadppamgaaGreatDoorGO
import Derived.Test.YtbpmpdadppamgaaGreatDoorGM
import Derived.Test.YtbpmpdadppamgaaGreatDoorGH
namespace Go.Proofs.YtbpmpdadppamgaaGreatDoor
open Go.Proofs.Tryz
open Go.RowKit
open Te
theorem b5Q{p:Te}(hp:p.Gd):∀x∈[p],x.Wf:=fun x hx=>by rw[Cf]at hx;subst hx;exact hp.wf
theorem b5R{p q:Te}(hp:p.Gd)(hq:q.Gd):∀x∈[p,q],x.Wf:=fun x hx=>by
 simp only[Za3,Zat,Zb4]at hx;rcases hx with rfl | rfl
 ·exact hp.wf
 ·exact hq.wf
abbrev wN:FuncId:=63
theorem b3b(t:Te):j5 wN [.dt (.row []),o6 t] (l5 false):=(iX (c:=[]) O (fun x hx=>by cases hx) t).b (M8 I)
theorem XF{p t:Te}(hp:p.Gd){b:Bool}(h:decide (t∈[p])=b):j5 wN [.dt (.row [o8 p]),o6 t] (l5 b):=by
 rw[gp];exact (iX (c:=[p]) (by show 1≤_;omega) (b5Q hp) t).b h
theorem XG{p q t:Te}(hp:p.Gd)(hq:q.Gd){b:Bool}(h:decide (t∈[p,q])=b):j5 wN [.dt (.row [o8 p,o8 q]),o6 t] (l5 b):=by
 rw[Aw];exact (iX (c:=[p,q]) (by show 2≤_;omega) (b5R hp hq) t).b h
theorem b0l(p:Te):j5 64 [.dt (.row []),.dt (.row [o8 p])] (.dt (.row [o8 p])) :=
 pW [.no,.no,.no,yF,.no,.no,.no] [.J5 1 1 [] (.own 0 0) [some (.buf 47 11 [])],.run 2] [_,j5 63 [(.dt (.row [])),(o6 p)] (l5 false),0=0,1=1] func64 ⟨a4Y,b3b p,rfl,rfl,Z⟩
theorem b0m{p q:Te}(hp:p.Gd)(hq:q.Gd)(hne:q≠p):j5 64 [.dt (.row [o8 p]),.dt (.row [o8 q,o8 p])] (.dt (.row [o8 p,o8 q])) :=
 pW ([.no,.no,.no,yF]++nK 4 [yT,.no,.no]) [.J5 1 1 [] (.own 0 1) [some (.buf 47 11 [o8 p])],.run 3] [D6 107 [AV.dt (Dt.row [o8 p])] [] (AV.own 0 1) [some (Bx.buf 47 11 [o8 p])],j5 63 [(.dt (.row [o8 p])),(o6 q)] (l5 false),1=1,j5 63 [(.dt (.row [o8 p,o8 q])),(o6 p)] (l5 true),2=2,2=2] func64 ⟨a7M I I (nC p),XF hp (M8 (by simp[hne])),rfl,XG hp hq (U5 I),rfl,rfl,Z⟩
theorem a7N{p q:Te}(hp:p.Gd)(hq:q.Gd)(hne:q≠p):j5 30 [.dt (.row [[.row [o8 p]],[.row [o8 q,o8 p]]])] (.dt (.row [o8 p,o8 q])) :=
 pW [.no,.no,.no,.av (.dt (.row [o8 p])),.no,.no,.no,.av (.dt (.row [o8 p,o8 q])),.no,.no] [.run 3] [j5 64 [(.dt (.row [])),(.dt (.row [o8 p]))] (.dt (.row [o8 p])),j5 64 [(.dt (.row [o8 p])),(.dt (.row [o8 q,o8 p]))] (.dt (.row [o8 p,o8 q]))] func30 ⟨b0l p,b0m hp hq hne,Z⟩
theorem VL{c:List Te}{l m:Te}{b:Bool}(h0:l.kind≠2)(h1:j5 61 [o6 l,stA iV,j4 2] (l5 false))(h2:j5 61 [o6 l,stA D9,j4 1] (l5 false))(h3:j5 29 [o6 l] (o6 m))(h4:j5 wN [C8 c,o6 m] (l5 b)):j5 60 [o6 l,.pin [C8 c]] (l5 b) :=
 pV [yF,yF,yF,.av (o6 m),.av (l5 b)] [Bk .eql 3 5 2 l.kind bF,_,_,_,_] func60 ⟨C9 (M8 h0),h1,h2,h3,h4,Z⟩
theorem b0n{c:List Te}{l m y:Te}{b:Bool}(h0:l.kind≠2)(hx:l.args[0]?=some y)(h1:j5 61 [o6 l,stA iV,j4 2] (l5 false))(h2:j5 61 [o6 l,stA D9,j4 1] (l5 true))(h5:j5 46 [l5 false] (o6 noT))(h6:j5 62 [o6 y,o6 noT] (l5 false))(h3:j5 29 [o6 l] (o6 m))(h4:j5 wN [C8 c,o6 m] (l5 b)):j5 60 [o6 l,.pin [C8 c]] (l5 b) :=
 pV [yF,yF,yT,.av (.pin ((o8 y).map .dt)),.av (o6 noT),yF,.av (o6 m),.av (l5 b)] [Bk .eql 3 5 2 l.kind bF,_,_,z8 (List.map Te.enc l.args) 0 11 (o8 y),_,_,_,_] func60 ⟨C9 (M8 h0),h1,h2,M5 hx,h5,h6,h3,h4,Z⟩
theorem b0o{c:List Te}{b:Bool}(h:j5 59 [C8 c,.au 60 [.pin [C8 c]]] (l5 b)):j5 28 [C8 c] (l5 b) :=
 pV [.av (l5 b)] [_] func28 ⟨h,Z⟩
theorem VM{c:List Te}(hl:c.length≤1000){p:Te→Bool}(h:∀x∈c,j5 60 [o6 x,.pin [C8 c]] (l5 (p x))):j5 28 [C8 c] (l5 (c.any p)) :=
 b0o (Db (cs:=[.pin [C8 c]]) J h)
abbrev di(p y:Te):List Dt:=[.val (str p.np),.val (str p.nn)]++o8 y
abbrev Ow:AV:=.agg [j4 0,stA [],stA [],j4 0,stA [],stA [],stA [],stA [],stA [],.nil,.nil]
theorem Dl(p y:Te):L8 13 [di p y]:=by
 intro x hx;rw[Cf]at hx;subst hx;refine⟨rfl,fun d hd=>?_⟩;rcases ZaA.1 hd with hd | hd
 ·simp only[Za3,Zat,Zb4]at hd;rcases hd with rfl | rfl <;> rfl
 ·exact (nC y _ (Cf.2 rfl)).2 d hd
theorem a3r(a b:lw):D6 189 [.own 0 0,p8 a b] [some (.buf 92 13 [])] (.l7 [Ow,l5 false]) [some (.buf 92 13 [])] :=
 sW 1 [0] [.no,.no] [.run 1] [] func189 trivial
theorem a4Z{p y:Te}(h:p.kind=1):D6 150 [o6 p,o6 y,.own 0 0] [some (.buf 92 13 [])] (.l7 [.own 0 1,l5 true]) [some (.buf 92 13 [di p y])] :=
 sW 1 [0] [yT,.av (.un)] [.J5 2 3 [0] (.l7 [Ow,l5 false]) [some (.buf 92 13 [])]] [Bk .eql 3 15 1 p.kind bT,D6 189 [AV.own 0 0,AV.agg [AV.dt (Dt.val (str p.np)),AV.dt (Dt.val (str p.nn))]] [some (Bx.buf 92 13 [])] (AV.l7 [Ow,l5 false]) [some (Bx.buf 92 13 [])],0=0,P7 208 1,L8 13 [di p y]] func150 ⟨C9 (U5 h),a3r p.np p.nn,rfl,⟨O,O⟩,Dl p y,Z⟩
theorem a2D{p y:Te}(h:p.kind=1):j5 119 [.dt (.row [o8 p]),.dt (.row [o8 y]),.dt (.row [])] (.l7 [.dt (.row [di p y]),l5 true]) :=
 pW (nK 9 []) [.J5 3 1 [] (.own 0 0) [some (.buf 92 13 [])],.run 2,.J5 7 6 [0] (.l7 [.own 0 1,l5 true]) [some (.buf 92 13 [di p y])]] [_,D6 150 [o6 p,o6 y,AV.own 0 0] [some (Bx.buf 92 13 [])] (AV.l7 [AV.own 0 1,l5 true]) [some (Bx.buf 92 13 [di p y])],1=1] func119 ⟨QF,a4Z h,rfl,Z⟩
theorem a5a{p y:Te}(h:p.kind=1):j5 86 [o6 p,o6 y,.dt (.row [])] (.l7 [.dt (.row [di p y]),l5 true]) :=
 pV [.av (.l7 [.dt (.row [di p y]),l5 true])] [j5 119 [(.dt (.row [o8 p])),(.dt (.row [o8 y])),(.dt (.row []))] (.l7 [(.dt (.row [[(.val (str p.np)),(.val (str p.nn)),(.val (vi y.kind)),(.val (str y.np)),(.val (str y.nn)),(.val (vi y.val.kind)),(.val (str y.val.num)),(.val (str y.val.den)),(.val (str y.val.sp)),(.val (str y.val.sn)),(.val (str y.val.text)),(.row (List.map Ob.enc y.val.pair)),(.row (List.map Te.enc y.args))]])),(l5 true)])] func86 ⟨a2D h,Z⟩
theorem Vp(b:List Te)(s:aa0):j5 43 [.dt (.row []),C8 b,.dt (.row s)] (l5 true) :=
 pV [.no,.no] [] func43 trivial
theorem b0p{p y:Te}{b:List Te}(h:p.kind=1):j5 85 [o6 y,.pin [.dt (.row [o8 p])],.pin [.dt (.row [])],.pin [C8 b]] (l5 true) :=
 pV [.no,.av (.l7 [.dt (.row [di p y]),l5 true]),.no,yT] [j5 86 [(o6 p),(o6 y),(.dt (.row []))] (.l7 [(.dt (.row [[(.val (str p.np)),(.val (str p.nn)),(.val (vi y.kind)),(.val (str y.np)),(.val (str y.nn)),(.val (vi y.val.kind)),(.val (str y.val.num)),(.val (str y.val.den)),(.val (str y.val.sp)),(.val (str y.val.sn)),(.val (str y.val.text)),(.row (List.map Ob.enc y.val.pair)),(.row (List.map Te.enc y.args))]])),(l5 true)]),bV [o8 p] 11 ((some 1).getD 0) (none.getD ↑[o8 p].length) [],(none:Option Int)=none∨(none:Option Int)=none,j5 43 [(.dt (.row [])),(.dt (.row (List.map Te.enc b))),(.dt (.row [[(.val (str p.np)),(.val (str p.nn)),(.val (vi y.kind)),(.val (str y.np)),(.val (str y.nn)),(.val (vi y.val.kind)),(.val (str y.val.num)),(.val (str y.val.den)),(.val (str y.val.sp)),(.val (str y.val.sn)),(.val (str y.val.text)),(.row (List.map Ob.enc y.val.pair)),(.row (List.map Te.enc y.args))]]))] (l5 true)] func85 ⟨a5a h,⟨by show (0:Int)≤1;omega,by show (1:Int)≤((1:Nat):Int);omega,Int.le_refl _,rfl,.inr fun x hx=>by rw[Cf]at hx;subst hx;rfl⟩,.inl rfl,Vp b _,Z⟩
theorem b0q{p:Te}{b:List Te}(hb:b.length≤1000)(h:p.kind=1):j5 43 [.dt (.row [o8 p]),C8 b,.dt (.row [])] (l5 (b.any fun _=>true)) :=
 pV [.no,.no,.av (l5 (b.any fun _=>true))] [j5 59 [(.dt (.row (List.map Te.enc b))),(.au 85 [(.pin [(.dt (.row [o8 p]))]),(.pin [(.dt (.row []))]),(.pin [(.dt (.row (List.map Te.enc b)))])])] (l5 (b.any fun x=>true))] func43 ⟨Db (p:=fun _=>true) J fun x _=>b0p h,Z⟩
theorem b0r{p q r:Te}(h:p.kind=1):j5 14 [.dt (.row [o8 p]),.dt (.row [o8 q,o8 r])] (l5 true):=by
 rw[Aw];exact pV [.no,.no,yT] [j5 43 [(.dt (.row [o8 p])),(.dt (.row (List.map Te.enc [q,r]))),(.dt (.row []))] (l5 true)] func14 ⟨(b0q (b:=[q,r]) (by show 2≤1000;omega) h).b rfl,Z⟩
abbrev MZ(c d:aa0):AV:=.dt (.row [[.row c],[.row d]])
theorem a7O{p q r s x f m:Te}{c d:aa0}(h1:j5 26 [p8 I4 [120]] (o6 p))(h2:j5 26 [p8 I4 [121]] (o6 q))(h3:j5 26 [p8 I4 [122]] (o6 r))(h4:j5 26 [p8 I4 [117]] (o6 s))
  (h5:j5 27 [stA x8,.dt (.row [o8 p,o8 q,o8 r])] (o6 x)) (h6:j5 27 [stA dN,.dt (.row [o8 x,o8 s])] (o6 f))
  (h7:j5 24 [o6 f] (.l7 [MZ c d,j4 0])) (hc:c.length=3) (hd:d.length=3)
  (h8:j5 29 [o6 p] (o6 m)) (h9:j5 28 [.dt (.row [o8 p,o8 m])] (l5 true)) (h10:j5 28 [.dt (.row [o8 p])] (l5 false))
  (h11:j5 14 [.dt (.row [o8 p]),.dt (.row [o8 q,o8 r])] (l5 true)) (h12:j5 30 [.dt (.row [[.row [o8 p]],[.row [o8 q,o8 p]]])] (.dt (.row [o8 p,o8 q]))):j5 6 [] (l5 true) :=
 pV ([.av (.dt (.row zL)),.no,.av (o6 p),.no,.av (o6 q),.no,.av (o6 r),.no,.av (o6 s),.av (o6 x),.av (o6 f),.av (.l7 [MZ c d,j4 0])]++nK 4 [.av (j4 3),.no,.no,.av (j4 3),.no,.av (o6 m),yT,yF,yT,.av (.dt (.row [o8 p,o8 q])),.no,.no]) [j5 25 [(j4 4)] (.dt (.row [[(.val (str I4)),(.val (str [120]))],[(.val (str I4)),(.val (str [121]))],[(.val (str I4)),(.val (str [122]))],[(.val (str I4)),(.val (str [117]))]])),j5 26 [(p8 I4 [120])] (o6 p),j5 26 [(p8 I4 [121])] (o6 q),j5 26 [(p8 I4 [122])] (o6 r),j5 26 [(p8 I4 [117])] (o6 s),j5 27 [(stA [105,102]),(.dt (.row [o8 p,o8 q,o8 r]))] (o6 x),j5 27 [(stA [105,109,112,108,105,101,115]),(.dt (.row [o8 x,o8 s]))] (o6 f),j5 24 [(o6 f)] (.l7 [(.dt (.row [[(.row c)],[(.row d)]])),(j4 0)]),(vi 3)=(vi ↑c.length),(vi 3)=(vi ↑d.length),j5 29 [(o6 p)] (o6 m),j5 28 [(.dt (.row [o8 p,o8 m]))] (l5 true),j5 28 [(.dt (.row [o8 p]))] (l5 false),j5 14 [(.dt (.row [o8 p])),(.dt (.row [o8 q,o8 r]))] (l5 true),j5 30 [(.dt (.row [[(.row [o8 p])],[(.row [o8 q,o8 p])]]))] (.dt (.row [o8 p,o8 q]))] func6     ⟨Dm,h1,h2,h3,h4,h5,h6,h7,by rw[hc];rfl,by rw[hd];rfl,h8,h9,h10,h11,h12,Z⟩
abbrev pT:Te:=X8 [120]
abbrev qT:Te:=X8 [121]
abbrev rT:Te:=X8 [122]
abbrev sT:Te:=X8 [117]
abbrev Fg:Te:=ap dN [ap x8 [pT,qT,rT],sT]
abbrev YP:List Te:=[ap D9 [pT],ap D9 [qT],sT]
abbrev YQ:List Te:=[pT,ap D9 [rT],sT]
theorem Um:(O0 id 20002 Fg [] ⟨[],0,0⟩).er=0∧(O0 id 20002 Fg [] ⟨[],0,0⟩).out=[YP,YQ]:=by decide +kernel
theorem gd2{a b:Te}(ha:a.Gd)(hb:b.Gd):∀x∈[a,b],x.Gd:=fun x hx=>by
 simp only[Za3,Zat,Zb4]at hx;rcases hx with rfl | rfl
 ·exact ha
 ·exact hb
theorem b0s:Fg.Gd:=.ap (by show 2≤1000;omega) (gd2 ((iY _).eY (iY _) (iY _)) (iY _))
theorem b0t:j5 24 [o6 Fg] (.l7 [MZ (K3 YP) (K3 YQ),j4 0]):=by
 have h:=PE b0s;unfold MP at h;rw[Um.1,Um.2]at h;exact h
theorem KM:neg pT=ap D9 [pT]:=by decide +kernel
theorem VN{n:lw}:(X8 n).kind≠2:=by show (1:Int)≠2;decide
theorem Ec{n m:lw}{k:Nat}:j5 61 [o6 (X8 n),stA m,j4 k] (l5 false):=(aQ (X8 n) m k).b (M8 fun h=>by cases h.1)
theorem b0u:j5 28 [.dt (.row [o8 pT,o8 (ap D9 [pT])])] (l5 true):=by
 rw[Aw];refine (VM (c:=[pT,ap D9 [pT]]) (by show 2≤1000;omega) (p:=fun _=>true) fun x hx=>?_).b rfl
 simp only[Za3,Zat,Zb4]at hx;have hc:∀t:Te,t∈[pT,ap D9 [pT]]→j5 wN [C8 [pT,ap D9 [pT]],o6 t] (l5 true):=fun t ht=>by
  have:=XG (p:=pT) (q:=ap D9 [pT]) (iY _) (iY _).not (t:=t) (U5 ht)
  rwa [Aw]at this
 rcases hx with rfl | rfl
 ·exact VL VN Ec Ec (zK pT) (by rw[KM];exact hc _ I)
 ·exact b0n (y:=pT) O rfl ((aQ (ap D9 [pT]) iV 2).b (by decide +kernel)) ((aQ (ap D9 [pT]) D9 1).b (by decide +kernel)) (ko false) ((zz (iY _).wf noT).b (by decide +kernel)) (zK (ap D9 [pT])) (by rw[a7A];exact hc _ I)
theorem b0v:j5 28 [.dt (.row [o8 pT])] (l5 false):=by
 rw[gp];refine (VM (c:=[pT]) (by show 1≤1000;omega) (p:=fun _=>false) fun x hx=>?_).b rfl
 rw[Cf]at hx;subst hx;have:=XF (p:=pT) (iY _) (t:=ap D9 [pT]) (b:=false) (by decide +kernel);rw[gp]at this;exact VL VN Ec Ec (zK pT) (by rw[KM];exact this)
theorem fu:j5 6 [] (l5 true) :=
 a7O (sK _) (sK _) (sK _) (sK _) (Di _ _ _ _) (Dj _ _ _) b0t rfl rfl (by have:=zK pT;rwa [KM]at this) b0u b0v (b0r rfl) (a7N (iY _) (iY _) (by decide +kernel))
theorem fT{P:Program}{t:TypeId}{x y:Operand}{k:IntKind}{a b:Int}{r:Bool}(h:decide (a≤b)=r):bg P .leq t x y (.int k a) (.int k b) (.bool r):=by
 subst h;exact iT (by simp[je])
theorem b5S:prog.eqGuardType prog.depth 42=false:=by kernel_rfl
theorem yJ{x y:Operand}{p s p' s':lw}{r:Bool}(h:(decide (p=p') && decide (s=s'))=!r):bg prog .neq 42 x y (.agg #[str p,str s]) (.agg #[str p',str s']) (.bool r):=by
 intro w;rw[show r=!(decide (p=p') && decide (s=s')) by rw[h,Bool.not_not]]
 simp only[lc,run_eqGuard_agg w .neq _ x y _ _ b5S,Result.andThen_ok,run_neq_struct,Da]
theorem QQ{o:Ob}(h:o.Wf):j5 111 [o7 o] (j4 (U8 o)) :=
 nR (Q3 func111 rfl (by kernel_rfl)) fun ok A n c w _ hr=>PX ok o h A n c w hr
theorem a3s{o:Ob}(h:o.Wf)(hs:o.Sm):j5 126 [o7 o] (l5 o.lW) :=
 nR (Q3 func126 rfl (by kernel_rfl)) fun ok A n c w _ hr=>PY ok o h hs A n c w hr
theorem RL.b0w{M:Mm}{w:World}{p n:lw}{vs:List Value}(h:RL M w [p8 p n] vs):vs=[vY ⟨p,n⟩]:=by
 obtain⟨u,us,rfl,⟨ws,rfl,u0,us0,rfl,h0,u1,us1,rfl,h1,h2⟩,h3⟩:=h;obtain rfl:us=[]:=h3;obtain rfl:us1=[]:=h2;rw[Rd.Q7 h0,Rd.Q7 h1]
theorem Un(p n:lw)(hp:p.length≤9223372036854775807)(hn:n.length≤9223372036854775807):j5 165 [p8 p n] (l5 (R6 ⟨p,n⟩)) :=
 ⟨Q3 func165 rfl (by kernel_rfl),fun ok w vs _ hv=>by
  obtain rfl:=hv.b0w;exact (Pe ⟨p,n⟩ w hp hn).mono fun _ _ h=>h.pure⟩
end Go.Proofs.YtbpmpdadppamgaaGreatDoor
namespace Go.Proofs.YtbpmpdadppamgaaGreatDoor
open Go.Proofs.Tryz
open Go.RowKit
abbrev eZ(c:UInt8):AV:=.dt (.val (.int .u8 (c.toNat:Int)))
theorem u8d{c k:UInt8}{n:Int}(h:(k.toNat:Int)=n):decide ((c.toNat:Int)=n)=(c == k):=by
 rw[Bool.eq_iff_iff,decide_eq_true_iff,beq_iff_eq,←h];exact⟨fun e=>UInt8.toNat_inj.1 J,fun e=>by rw[e]⟩
theorem R4{c k:UInt8}{n:Int}(h:(k.toNat:Int)=n){b:Bool}(e:(c == k)=b):decide ((c.toNat:Int)=n)=b:=(u8d h).trans e
theorem a2E(s:ByteArray)(i:Nat):s[i]?=s.data.toList[i]?:=by
 rw[Array.getElem?_toList];by_cases h:i < s.size
 ·have h':i < s.data.size:=h;rw[getElem?_pos s i h,Array.getElem?_eq_getElem h'];rfl
 ·have h':¬i < s.data.size:=h;rw[getElem?_neg s i h,Zax J]
theorem kY{s:lw}{i:Nat}{c:UInt8}(h:s[i]?=some c):gP ⟨s.toArray⟩ (i:Int) (.int .u8 (c.toNat:Int)):=⟨c,Int.natCast_nonneg _,by
 rw[a2E,Int.toNat_natCast];exact h,rfl⟩
theorem dP(s:lw):Value.int .i64 (s.length:Int)=Value.int .i64 (s.length:Int):=rfl
theorem Uo(c:UInt8):j5 168 [eZ c] (l5 (p9.blk c)):=by
 unfold p9.blk;cases h1:c == 32 with
 |true=>exact pV [yT] [Bu .eql 5 3 32 ↑c.toNat bT] func168 ⟨C9 (R4 rfl h1),Z⟩
 |false =>
  cases h2:c == 9 with
  |true=>exact pV [yF,yT] [Bu .eql 5 3 32 ↑c.toNat bF,Bu .eql 5 6 9 ↑c.toNat bT] func168 ⟨C9 (R4 rfl h1),C9 (R4 rfl h2),Z⟩
  |false =>
   cases h3:c == 10 with
   |true=>exact pV [yF,yF,yT] [Bu .eql 5 3 32 ↑c.toNat bF,Bu .eql 5 6 9 ↑c.toNat bF,Bu .eql 5 10 10 ↑c.toNat bT] func168 ⟨C9 (R4 rfl h1),C9 (R4 rfl h2),C9 (R4 rfl h3),Z⟩
   |false=>exact pV [yF,yF,yF,.av (l5 (c == 13))] [Bu .eql 5 3 32 ↑c.toNat bF,Bu .eql 5 6 9 ↑c.toNat bF,Bu .eql 5 10 10 ↑c.toNat bF,Bu .eql 5 14 13 ↑c.toNat (Value.bool (c == 13))] func168 ⟨C9 (R4 rfl h1),C9 (R4 rfl h2),C9 (R4 rfl h3),C9 (u8d (k:=13) rfl),Z⟩
theorem EG(c:UInt8):j5 172 [eZ c] (l5 (p9.cst c)):=by
 unfold p9.cst;cases h0:decide (33≤c.toNat) with
 |false=>exact pV [yF] [Bu .geq 5 3 33 ↑c.toNat bF] func172 ⟨U0 (by rw[←h0];rw[Zab];omega),Z⟩
 |true =>
  cases h1:decide (c.toNat≤126) with
  |false=>exact pV [yT,yF] [Bu .geq 5 3 33 ↑c.toNat bT,Bu .leq 5 6 126 ↑c.toNat bF] func172 ⟨U0 (by rw[←h0];rw[Zab];omega),fT (by rw[←h1];rw[Zab];omega),Z⟩
  |true =>
   cases h2:c == 40 with
   |true=>exact pV [yT,yT,yF] [Bu .geq 5 3 33 ↑c.toNat bT,Bu .leq 5 6 126 ↑c.toNat bT,Bu .neq 5 10 40 ↑c.toNat bF] func172 ⟨U0 (by rw[←h0];rw[Zab];omega),fT (by rw[←h1];rw[Zab];omega),E5 (R4 rfl h2),Z⟩
   |false =>
    cases h3:c == 41 with
    |true=>exact pV [yT,yT,yT,yF] [Bu .geq 5 3 33 ↑c.toNat bT,Bu .leq 5 6 126 ↑c.toNat bT,Bu .neq 5 10 40 ↑c.toNat bT,Bu .neq 5 14 41 ↑c.toNat bF] func172 ⟨U0 (by rw[←h0];rw[Zab];omega),fT (by rw[←h1];rw[Zab];omega),E5 (R4 rfl h2),E5 (R4 rfl h3),Z⟩
    |false =>
     cases h4:c == 39 with
     |true=>exact pV [yT,yT,yT,yT,yF] [Bu .geq 5 3 33 ↑c.toNat bT,Bu .leq 5 6 126 ↑c.toNat bT,Bu .neq 5 10 40 ↑c.toNat bT,Bu .neq 5 14 41 ↑c.toNat bT,Bu .neq 5 18 39 ↑c.toNat bF] func172 ⟨U0 (by rw[←h0];rw[Zab];omega),fT (by rw[←h1];rw[Zab];omega),E5 (R4 rfl h2),E5 (R4 rfl h3),E5 (R4 rfl h4),Z⟩
     |false =>
      cases h5:c == 34 with
      |true=>exact pV [yT,yT,yT,yT,yT,yF] [Bu .geq 5 3 33 ↑c.toNat bT,Bu .leq 5 6 126 ↑c.toNat bT,Bu .neq 5 10 40 ↑c.toNat bT,Bu .neq 5 14 41 ↑c.toNat bT,Bu .neq 5 18 39 ↑c.toNat bT,Bu .neq 5 22 34 ↑c.toNat bF] func172 ⟨U0 (by rw[←h0];rw[Zab];omega),fT (by rw[←h1];rw[Zab];omega),E5 (R4 rfl h2),E5 (R4 rfl h3),E5 (R4 rfl h4),E5 (R4 rfl h5),Z⟩
      |false =>
       cases h6:c == 59 with
       |true=>exact pV [yT,yT,yT,yT,yT,yT,yF] [Bu .geq 5 3 33 ↑c.toNat bT,Bu .leq 5 6 126 ↑c.toNat bT,Bu .neq 5 10 40 ↑c.toNat bT,Bu .neq 5 14 41 ↑c.toNat bT,Bu .neq 5 18 39 ↑c.toNat bT,Bu .neq 5 22 34 ↑c.toNat bT,Bu .neq 5 26 59 ↑c.toNat bF] func172 ⟨U0 (by rw[←h0];rw[Zab];omega),fT (by rw[←h1];rw[Zab];omega),E5 (R4 rfl h2),E5 (R4 rfl h3),E5 (R4 rfl h4),E5 (R4 rfl h5),E5 (R4 rfl h6),Z⟩
       |false =>
        cases h7:c == 124 with
        |true=>exact pV [yT,yT,yT,yT,yT,yT,yT,yF] [Bu .geq 5 3 33 ↑c.toNat bT,Bu .leq 5 6 126 ↑c.toNat bT,Bu .neq 5 10 40 ↑c.toNat bT,Bu .neq 5 14 41 ↑c.toNat bT,Bu .neq 5 18 39 ↑c.toNat bT,Bu .neq 5 22 34 ↑c.toNat bT,Bu .neq 5 26 59 ↑c.toNat bT,Bu .neq 5 30 124 ↑c.toNat bF] func172 ⟨U0 (by rw[←h0];rw[Zab];omega),fT (by rw[←h1];rw[Zab];omega),E5 (R4 rfl h2),E5 (R4 rfl h3),E5 (R4 rfl h4),E5 (R4 rfl h5),E5 (R4 rfl h6),E5 (R4 rfl h7),Z⟩
        |false =>
         cases h8:c == 58 with
         |true=>exact pV [yT,yT,yT,yT,yT,yT,yT,yT,yF] [Bu .geq 5 3 33 ↑c.toNat bT,Bu .leq 5 6 126 ↑c.toNat bT,Bu .neq 5 10 40 ↑c.toNat bT,Bu .neq 5 14 41 ↑c.toNat bT,Bu .neq 5 18 39 ↑c.toNat bT,Bu .neq 5 22 34 ↑c.toNat bT,Bu .neq 5 26 59 ↑c.toNat bT,Bu .neq 5 30 124 ↑c.toNat bT,Bu .neq 5 34 58 ↑c.toNat bF] func172 ⟨U0 (by rw[←h0];rw[Zab];omega),fT (by rw[←h1];rw[Zab];omega),E5 (R4 rfl h2),E5 (R4 rfl h3),E5 (R4 rfl h4),E5 (R4 rfl h5),E5 (R4 rfl h6),E5 (R4 rfl h7),E5 (R4 rfl h8),Z⟩
         |false=>exact pV [yT,yT,yT,yT,yT,yT,yT,yT,yT] [Bu .geq 5 3 33 ↑c.toNat bT,Bu .leq 5 6 126 ↑c.toNat bT,Bu .neq 5 10 40 ↑c.toNat bT,Bu .neq 5 14 41 ↑c.toNat bT,Bu .neq 5 18 39 ↑c.toNat bT,Bu .neq 5 22 34 ↑c.toNat bT,Bu .neq 5 26 59 ↑c.toNat bT,Bu .neq 5 30 124 ↑c.toNat bT,Bu .neq 5 34 58 ↑c.toNat bT] func172 ⟨U0 (by rw[←h0];rw[Zab];omega),fT (by rw[←h1];rw[Zab];omega),E5 (R4 rfl h2),E5 (R4 rfl h3),E5 (R4 rfl h4),E5 (R4 rfl h5),E5 (R4 rfl h6),E5 (R4 rfl h7),E5 (R4 rfl h8),Z⟩
theorem KN{s:lw}{i:Nat}{a b:UInt8}(_hl:s.length≤6000)(hi:i≤6000)(h:∀c∈s,(c == a)=false):j5 169 [stA s,j4 i,eZ a,eZ b] (l5 false):=by
 by_cases hlt:i+1 < s.length
 ·obtain⟨c,hc⟩:∃c,s[i]?=some c:=⟨s[i],ww J⟩;exact pV [yT,.av (j4 ((i+1:Nat):Int)),.av (j4 s.length),yT,.av (eZ c),yF] [Bk .geq 3 9 0 ↑i bT,Bk .add 3 12 1 ↑i (vi (↑(i+1))),(vi ↑s.length)=(vi (↑s.length)),Bt .lss 3 13 15 (↑(i+1)) ↑s.length bT,gP ({ data:=s.toArray:ByteArray }) ↑i (Value.int .u8 ↑c.toNat),Bn .eql 5 (.tmp 21) (.tmp 22) (Value.int .u8 ↑c.toNat) (Value.int .u8 ↑a.toNat) bF] func169 ⟨U0 (Pi J),H6 J J J,dP _,D8 (Pi J),kY hc,C9 (R4 rfl (h c (q8 hc))),Z⟩
 ·exact pV [yT,.av (j4 ((i+1:Nat):Int)),.av (j4 s.length),yF] [Bk .geq 3 9 0 ↑i bT,Bk .add 3 12 1 ↑i (vi (↑(i+1))),(vi ↑s.length)=(vi (↑s.length)),Bt .lss 3 13 15 (↑(i+1)) ↑s.length bF] func169 ⟨U0 (Pi J),H6 J J J,dP _,D8 (WF J),Z⟩
abbrev oL(s:lw)(i:Int):AS:=⟨stt 18 [(0,stA s),(1,j4 i)],[]⟩
noncomputable abbrev Gw:Code:=M6 (O4 f173) [1,0,0,0]
theorem b5T{s:lw}{i:Nat}{c:UInt8}(hc:s[i]?=some c)(hl:s.length≤6000)(h:p9.cst c=true):y7 EX Gw (oL s i) .F6 (oL s ((i+1:Nat):Int)) :=
 tW [.av (j4 s.length),yT,.av (eZ c),yT,.av (j4 ((i+1:Nat):Int))] [] [0,1] 0 [(vi ↑s.length)=(vi (↑s.length)),Bt .lss 3 5 7 ↑i ↑s.length bT,gP ({ data:=s.toArray:ByteArray }) ↑i (Value.int .u8 ↑c.toNat),j5 172 [(.dt (.val (Value.int .u8 ↑c.toNat)))] (l5 true),Bk .add 3 15 1 ↑i (vi (↑(i+1)))]     ⟨dP _,D8 (Pi (by have:=(UV.1 hc).1;omega)),kY hc,h ▸ EG c,H6 J J (by have:=(UV.1 hc).1;omega),Z⟩
theorem b5U{s:lw}{i:Nat}(hi:i=s.length):y7 EX Gw (oL s i) (.out 0) (oL s i) :=
 tW [.av (j4 s.length),yF] [] [0,1] 0 [(vi ↑s.length)=(vi (↑s.length)),Bt .lss 3 5 7 ↑i ↑s.length bF]     ⟨dP _,D8 (WF J),Z⟩
theorem b5V{s:lw}{i:Nat}{c:UInt8}(hc:s[i]?=some c)(h:p9.cst c=false):y7 EX Gw (oL s i) (.out 0) (oL s i) :=
 tW [.av (j4 s.length),yT,.av (eZ c),yF] [] [0,1] 0 [(vi ↑s.length)=(vi (↑s.length)),Bt .lss 3 5 7 ↑i ↑s.length bT,gP ({ data:=s.toArray:ByteArray }) ↑i (Value.int .u8 ↑c.toNat),j5 172 [(.dt (.val (Value.int .u8 ↑c.toNat)))] (l5 false)]     ⟨dP _,D8 (Pi (by have:=(UV.1 hc).1;omega)),kY hc,h ▸ EG c,Z⟩
theorem a7P{s:lw}(hl:s.length≤6000):∀(r:lw) (i:Nat),s.drop i=r→i≤s.length→I7 EX Gw (oL s i) (.out 0) (oL s ((i+(r.takeWhile p9.cst).length:Nat):Int)):=by
 intro r
 induction r with
 |nil =>
  intro i hd hi;have e1:=congrArg List.length hd;rw[ut,List.length_nil]at e1;exact .stop (b5U J) (fun h=>by cases h)
 |cons c r ih =>
  intro i hd hi;have hc:s[i]?=some c:=by rw[←Za1,hd];rfl
  have hlt:=(UV.1 hc).1;cases h:p9.cst c with
  |false =>
   rw[List.takeWhile_cons,EQ (by rw[h];decide)];exact .stop (b5V hc h) (fun h=>by cases h)
  |true =>
   rw[List.takeWhile_cons,Ch h,yM,show i+((r.takeWhile p9.cst).length+1)=i+1+(r.takeWhile p9.cst).length by omega]
   exact .more (b5T hc hl h) (ih (i+1) (by rw[←Za0,hd];rfl) J)
theorem VO{s:lw}{i:Nat}(hl:s.length≤6000)(hi:i≤s.length):j5 173 [stA s,j4 i] (j4 ((i+((s.drop i).takeWhile p9.cst).length:Nat):Int)):=by
 have ht:=(a7P hl _ i rfl hi).I8;generalize ((i+((s.drop i).takeWhile p9.cst).length:Nat):Int)=k at *;exact pW [] [.inv [0,1] 0 (.out 0) (oL s k)] [_] func173 ⟨ht,Z⟩
abbrev oM(s:lw)(i:Int):AS:=⟨stt 69 [(0,stA s),(1,j4 i)],[]⟩
abbrev Ox(i:Int):AS:=⟨stt 69 [(4,j4 i),(5,l5 true)],[]⟩
noncomputable abbrev BF:Code:=M6 (O4 f128) [1,0,0,0]
theorem YR{s:lw}{i:Nat}{c:UInt8}(hc:s[i]?=some c)(hl:s.length≤6000)(h:p9.blk c=true):y7 EX BF (oM s i) .F6 (oM s ((i+1:Nat):Int)) :=
 tW [.av (j4 s.length),yT,.av (eZ c),yT,.av (j4 ((i+1:Nat):Int))] [] [0,1] 0 [(vi ↑s.length)=(vi (↑s.length)),Bt .lss 3 7 9 ↑i ↑s.length bT,gP ({ data:=s.toArray:ByteArray }) ↑i (Value.int .u8 ↑c.toNat),j5 168 [(.dt (.val (Value.int .u8 ↑c.toNat)))] (l5 true),Bk .add 3 17 1 ↑i (vi (↑(i+1)))]     ⟨dP _,D8 (Pi (by have:=(UV.1 hc).1;omega)),kY hc,h ▸ Uo c,H6 J J (by have:=(UV.1 hc).1;omega),Z⟩
theorem b5W{s:lw}{i:Nat}(hi:i=s.length):y7 EX BF (oM s i) (.out 0) (oM s i) :=
 tW [.av (j4 s.length),yF] [] [0,1] 0 [(vi ↑s.length)=(vi (↑s.length)),Bt .lss 3 7 9 ↑i ↑s.length bF]     ⟨dP _,D8 (WF J),Z⟩
theorem b5X{s:lw}{i:Nat}{c:UInt8}(hc:s[i]?=some c)(hl:s.length≤6000)(h:p9.blk c=false)(h1:(c == 59)=false)(h2:∀c∈s,(c == 35)=false):y7 EX BF (oM s i) .ret (Ox i) :=
 tW [.av (j4 s.length),yT,.av (eZ c),yF,.av (eZ c),yF,yF] [] [4,5] 0 [(vi ↑s.length)=(vi (↑s.length)),Bt .lss 3 7 9 ↑i ↑s.length bT,gP ({ data:=s.toArray:ByteArray }) ↑i (Value.int .u8 ↑c.toNat),j5 168 [(.dt (.val (Value.int .u8 ↑c.toNat)))] (l5 false),gP ({ data:=s.toArray:ByteArray }) ↑i (Value.int .u8 ↑c.toNat),Bu .eql 5 22 59 ↑c.toNat bF,j5 169 [(stA s),(j4 ↑i),(.dt (.val (Value.int .u8 35))),(.dt (.val (Value.int .u8 124)))] (l5 false)]     ⟨dP _,D8 (Pi (by have:=(UV.1 hc).1;omega)),kY hc,h ▸ Uo c,kY hc,C9 (R4 rfl h1),KN (a:=35) (b:=124) hl (by have:=(UV.1 hc).1;omega) h2,Z⟩
theorem a7Q{s:lw}(hl:s.length≤6000)(h1:∀c∈s,(c == 59)=false)(h2:∀c∈s,(c == 35)=false):∀(r:lw) (i:Nat),s.drop i=r→i≤s.length→I7 EX BF (oM s i) (.out 0) (oM s ((i+(r.takeWhile p9.blk).length:Nat):Int))∨I7 EX BF (oM s i) .ret (Ox ((i+(r.takeWhile p9.blk).length:Nat):Int)):=by
 intro r
 induction r with
 |nil =>
  intro i hd hi;have e1:=congrArg List.length hd;rw[ut,List.length_nil]at e1;exact .inl (.stop (b5W J) (fun h=>by cases h))
 |cons c r ih =>
  intro i hd hi;have hc:s[i]?=some c:=by rw[←Za1,hd];rfl
  have hlt:=(UV.1 hc).1;cases h:p9.blk c with
  |false =>
   rw[List.takeWhile_cons,EQ (by rw[h];decide)];exact .inr (.stop (b5X hc hl h (h1 c (q8 hc)) h2) (fun h=>by cases h))
  |true =>
   rw[List.takeWhile_cons,Ch h,yM,show i+((r.takeWhile p9.blk).length+1)=i+1+(r.takeWhile p9.blk).length by omega]
   rcases ih (i+1) (by rw[←Za0,hd];rfl) J with k | k
   ·exact .inl (.more (YR hc hl h) k)
   ·exact .inr (.more (YR hc hl h) k)
theorem VP{s:lw}{i:Nat}(hl:s.length≤6000)(h1:∀c∈s,(c == 59)=false)(h2:∀c∈s,(c == 35)=false)(hi:i≤s.length):j5 128 [stA s,j4 i] (.l7 [j4 ((i+((s.drop i).takeWhile p9.blk).length:Nat):Int),l5 true]):=by
 rcases a7Q hl h1 h2 _ i rfl hi with h | h
 ·have ht:=h.I8;generalize ((i+((s.drop i).takeWhile p9.blk).length:Nat):Int)=k at *;exact pW [] [.inv [0,1] 0 (.out 0) (oM s k)] [_] func128 ⟨ht,Z⟩
 ·have ht:=h.I8;generalize ((i+((s.drop i).takeWhile p9.blk).length:Nat):Int)=k at *;exact pW [] [.inv [0,1] 0 (.ret) (Ox k)] [_] func128 ⟨ht,Z⟩
theorem b0x:j5 175 [stA [48]] (.l7 [stA [48],stA [49],l5 true]) :=
 pW (nK 17 []) [.run 2] [] func175 trivial
theorem b0y:j5 175 [stA [49]] (.l7 [stA [49],stA [49],l5 true]) :=
 pW (nK 17 []) [.run 2] [] func175 trivial
theorem b0z:j5 175 [stA [45,49]] (.l7 [stA [45,49],stA [49],l5 true]) :=
 pW (nK 17 []) [.run 2] [] func175 trivial
theorem b0A{w:lw}{c:UInt8}(hc:w[0]?=some c)(h45:(c == 45)=false)(hd:p9.aU c=false)(hl:w.length≤6000):j5 175 [stA w] (.l7 [stA [],stA [],l5 false]):=by
 have hlt:=(UV.1 hc).1;have hix:gP ⟨w.toArray⟩ 0 (.int .u8 (c.toNat:Int)):=kY hc;unfold p9.aU at hd;cases h1:decide (48≤c.toNat) with
 |false=>exact pW [.av (j4 w.length),yT,.av (eZ c),yF,.av (j4 w.length),yT,.av (eZ c),yF,.no] [.run 1] [(vi ↑w.length)=(vi (↑w.length)),Bk .gtr 3 9 0 ↑w.length bT,_,Bu .eql 5 13 45 ↑c.toNat bF,(vi ↑w.length)=(vi (↑w.length)),Bt .lss 3 17 19 0 ↑w.length bT,_,Bu .geq 5 24 48 ↑c.toNat bF] func175 ⟨dP _,K4 (Pi J),hix,C9 (R4 rfl h45),dP _,D8 (Pi J),hix,U0 (by rw[←h1,Zab];omega),Z⟩
 |true =>
  rw[h1,Bool.true_and]at hd;exact pW [.av (j4 w.length),yT,.av (eZ c),yF,.av (j4 w.length),yT,.av (eZ c),yT,.av (eZ c),yF,.no] [.run 1] [(vi ↑w.length)=(vi (↑w.length)),Bk .gtr 3 9 0 ↑w.length bT,_,Bu .eql 5 13 45 ↑c.toNat bF,(vi ↑w.length)=(vi (↑w.length)),Bt .lss 3 17 19 0 ↑w.length bT,_,Bu .geq 5 24 48 ↑c.toNat bT,_,Bu .leq 5 30 57 ↑c.toNat bF] func175 ⟨dP _,K4 (Pi J),hix,C9 (R4 rfl h45),dP _,D8 (Pi J),hix,U0 (by rw[←h1,Zab];omega),hix,fT (by rw[←hd,Zab];omega),Z⟩
theorem a5b:j5 176 [stA [48]] (stA [48]):=pW (nK 13 []) [.run 2] [] func176 trivial
theorem Js:j5 176 [stA [49]] (stA [49]):=pW (nK 13 []) [.run 2] [] func176 trivial
theorem a5c:j5 176 [stA [45,49]] (stA [45,49]):=pW (nK 10 [.av (stA [49]),.av (stA [45,49])]) [.run 2] [wV ⟨#[45,49]⟩ (1:Int) (2:Int) (str [49]),Bn .add 9 (.const (str [45])) (.tmp 33) (str [45]) (str [49]) (str [45,49])] func176 ⟨⟨O,O,O,by rw[Lib.extract_eq];rfl⟩,Dh (a:=[45]) (b:=[49]) O,Z⟩
abbrev tJ(t:p9.Tok):AV:=.agg [j4 t.kind,j4 t.pos,stA [],stA t.text,stA t.den]
abbrev bI(t:p9.Tok):List Dt:=[.val (.int .i64 t.kind),.val (.int .i64 (t.pos:Int)),.val (str []),.val (str t.text),.val (str t.den)]
abbrev aR:AV:=.agg [j4 0,j4 0]
theorem a7R{k:Int}{i:Nat}{w:lw}(h:w.length≤40):j5 171 [.agg [j4 k,j4 i,stA [],stA w,stA []],l5 false] aR :=
 pV [.av (j4 w.length),yF,yF] [(vi ↑w.length)=(vi (↑w.length)),Bk .gtr 3 8 40 ↑w.length bF,Bl .neq 9 22 [] [] bF] func171 ⟨dP _,K4 (WF J),a7z rfl,Z⟩
theorem b0B{s:lw}{i:Nat}(hc:s[i]?=some 40)(hl:s.length≤6000):j5 129 [stA s,j4 i] (.l7 [tJ ⟨1,i,[],[]⟩,j4 ((i+1:Nat):Int),aR]) :=
 pV [.av (.dt (.val (.int .u8 40))),yT,.av (j4 ((i+1:Nat):Int))] [gP ({ data:=s.toArray:ByteArray }) ↑i (Value.int .u8 40),Bu .eql 5 21 40 40 bT,Bk .add 3 25 1 ↑i (vi (↑(i+1)))] func129 ⟨kY (c:=40) hc,C9 rfl,H6 J J (by have:=(UV.1 hc).1;omega),Z⟩
theorem b0C{s:lw}{i:Nat}(hc:s[i]?=some 41)(hl:s.length≤6000):j5 129 [stA s,j4 i] (.l7 [tJ ⟨2,i,[],[]⟩,j4 ((i+1:Nat):Int),aR]) :=
 pV [.av (.dt (.val (.int .u8 41))),yF,yT,.av (j4 ((i+1:Nat):Int))] [gP ({ data:=s.toArray:ByteArray }) ↑i (Value.int .u8 41),Bu .eql 5 21 40 41 bF,Bu .eql 5 29 41 41 bT,Bk .add 3 33 1 ↑i (vi (↑(i+1)))] func129 ⟨kY (c:=41) hc,C9 rfl,C9 rfl,H6 J J (by have:=(UV.1 hc).1;omega),Z⟩
theorem Ml{a b x y:lw}(ha:a.length≤1000)(hb:b.length≤1000)(hx:Lib.itoa (aj (j6.x9 a) (j6.x9 b))=x)(hy:Lib.itoa (ak (j6.x9 a) (j6.x9 b))=y):j5 117 [stA a,stA b] (.l7 [stA x,stA y]) :=
 ⟨Q3 func117 rfl (by kernel_rfl),fun ok w vs _ hv=>by
  obtain⟨u,us,rfl,h1,h2⟩:=hv;obtain rfl:=RL.eB h2;rw[Rd.Q7 h1];refine (Ht a b w J J).mono ?_;rintro e w' ⟨rfl,h⟩;rw[hx,hy];exact⟨_,rfl,h,_,rfl,_,_,rfl,.val _,_,_,rfl,.val _,rfl⟩⟩
theorem Ed{l:lw}{k:Nat}(hl:l.length≤1000)(hk:(j6.mag (norm l)).length=k):j5 177 [stA l] (j4 (k:Int)) :=
 ⟨Q3 func177 rfl (by kernel_rfl),fun ok w vs _ hv=>by
  obtain rfl:=RL.eB hv;refine (Hq l w J).mono ?_;rintro e w' ⟨rfl,h⟩;rw[hk];exact⟨_,rfl,h,.val _⟩⟩
theorem mi{c k:UInt8}(h:(c == k)=false):decide ((c.toNat:Int)=(k.toNat:Int))=false:=R4 rfl h
theorem VQ{c:UInt8}(h:p9.cst c=true):(c == 40)=false∧(c == 41)=false∧(c == 39)=false∧(c == 34)=false∧(c == 124)=false:=by
 unfold p9.cst at h;simp only[Ce,rE,Bool.not_eq_true']at h;obtain⟨⟨⟨⟨⟨⟨⟨⟨_,_⟩,h3⟩,h4⟩,h5⟩,h6⟩,_⟩,h8⟩,_⟩:=h;exact⟨h3,h4,h5,h6,h8⟩
theorem XH{s w:lw}{i e:Nat}(hw:(s.drop i).takeWhile p9.cst=w)(he:i+w.length=e)(hl:e≤s.length):wV ⟨s.toArray⟩ (i:Int) (e:Int) (str w):=by
 have hp:(s.drop i).takeWhile p9.cst <+: s.drop i:=List.takeWhile_prefix _;rw[hw]at hp;have e2:w=(s.drop i).take w.length:=(List.prefix_iff_eq_take.1 hp);refine⟨J,J,?_,?_⟩
 ·show (e:Int)≤((s.toArray.size:Nat):Int);simpa using hl
 ·rw[Lib.extract_eq,Int.toNat_natCast,Int.toNat_natCast];congr 3;rw[e2,←he,Nat.add_sub_cancel_left]
theorem b0D{s w:lw}{i e:Nat}{c:UInt8}(hc:s[i]?=some c)(hl:s.length≤6000)(iB:p9.cst c=true)(hw:(s.drop i).takeWhile p9.cst=w)(he:i+w.length=e)(qZ:∀c∈s,(c == 58)=false)(hn:j5 175 [stA w] (.l7 [stA [],stA [],l5 false]))(h46:w≠[46])(jl:w.length≤40):j5 129 [stA s,j4 i] (.l7 [tJ ⟨6,i,w,[]⟩,j4 e,aR]):=by
 obtain⟨n1,n2,n3,n4,n5⟩:=VQ iB;have hi:=(UV.1 hc).1;have hwd:=VO hl (i:=i) J;rw[hw,he]at hwd;have Oy:e≤s.length:=by
  have:=p9.uU p9.cst (s.drop i);rw[hw,ut]at this;omega
 exact pV [.av (eZ c),yF,yF,yF,yF,yF,yT,.av (j4 e),.av (stA w),yF,.av (.l7 [stA [],stA [],l5 false]),yF,.av (aR)] [gP ({ data:=s.toArray:ByteArray }) ↑i (Value.int .u8 ↑c.toNat),Bu .eql 5 21 40 ↑c.toNat bF,Bu .eql 5 29 41 ↑c.toNat bF,Bu .eql 5 37 39 ↑c.toNat bF,Bu .eql 5 45 34 ↑c.toNat bF,Bu .eql 5 73 124 ↑c.toNat bF,j5 172 [(.dt (.val (Value.int .u8 ↑c.toNat)))] (l5 true),_,wV ({ data:=s.toArray:ByteArray }) ((some ↑i).getD 0) ((some ↑e).getD ↑{ data:=s.toArray:ByteArray }.size) (str w),j5 169 [(stA s),(j4 ↑e),(.dt (.val (Value.int .u8 58))),(.dt (.val (Value.int .u8 58)))] (l5 false),_,Bl .eql 9 131 [46] w bF,j5 171 [(.agg [(j4 6),(j4 ↑i),(stA []),(stA w),(stA [])]),(l5 false)] (.agg [(j4 0),(j4 0)])] func129 ⟨kY hc,C9 (mi n1),C9 (mi n2),C9 (mi n3),C9 (mi n4),C9 (mi n5),iB ▸ EG c,hwd,XH hw he Oy,KN (a:=58) (b:=58) hl J qZ,hn,I6 (WF h46),a7R jl,Z⟩
theorem KO{s w:lw}{i e:Nat}{c:UInt8}(hc:s[i]?=some c)(hl:s.length≤6000)(iB:p9.cst c=true)(hw:(s.drop i).takeWhile p9.cst=w)(he:i+w.length=e)(qZ:∀c∈s,(c == 58)=false)(hn:j5 175 [stA w] (.l7 [stA w,stA [49],l5 true]))(hp:j5 176 [stA w] (stA w))(hr:j5 117 [stA w,stA [49]] (.l7 [stA w,stA [49]]))(hd:j5 177 [stA w] (j4 1))(hd1:j5 177 [stA [49]] (j4 1))(h46:w≠[46]):j5 129 [stA s,j4 i] (.l7 [tJ ⟨5,i,w,[49]⟩,j4 e,aR]):=by
 obtain⟨n1,n2,n3,n4,n5⟩:=VQ iB;have hi:=(UV.1 hc).1;have hwd:=VO hl (i:=i) J;rw[hw,he]at hwd;have Oy:e≤s.length:=by
  have:=p9.uU p9.cst (s.drop i);rw[hw,ut]at this;omega
 exact pV [.av (eZ c),yF,yF,yF,yF,yF,yT,.av (j4 e),.av (stA w),yF,.av (.l7 [stA w,stA [49],l5 true]),yF,.av (stA [49]),yF,.av (stA w),.av (stA [49]),.av (.l7 [stA w,stA [49]]),.av (j4 1),yF,.av (j4 1),yF] [gP ({ data:=s.toArray:ByteArray }) ↑i (Value.int .u8 ↑c.toNat),Bu .eql 5 21 40 ↑c.toNat bF,Bu .eql 5 29 41 ↑c.toNat bF,Bu .eql 5 37 39 ↑c.toNat bF,Bu .eql 5 45 34 ↑c.toNat bF,Bu .eql 5 73 124 ↑c.toNat bF,j5 172 [(.dt (.val (Value.int .u8 ↑c.toNat)))] (l5 true),_,wV ({ data:=s.toArray:ByteArray }) ((some ↑i).getD 0) ((some ↑e).getD ↑{ data:=s.toArray:ByteArray }.size) (str w),j5 169 [(stA s),(j4 ↑e),(.dt (.val (Value.int .u8 58))),(.dt (.val (Value.int .u8 58)))] (l5 false),_,Bl .eql 9 131 [46] w bF,_,Bl .eql 9 137 [48] [49] bF,_,_,_,_,Bk .gtr 3 156 100 1 bF,_,Bk .gtr 3 161 100 1 bF] func129 ⟨kY hc,C9 (mi n1),C9 (mi n2),C9 (mi n3),C9 (mi n4),C9 (mi n5),iB ▸ EG c,hwd,XH hw he Oy,KN (a:=58) (b:=58) hl J qZ,hn,I6 (WF h46),Js,I6 O,hp,Js,hr,hd,K4 O,hd1,K4 O,Z⟩
structure BG (s:lw):Prop where
 len:s.length≤6000
 few:∀c∈s,p9.few c=true
theorem zt{c:UInt8}(h:p9.few c=true):(c == 59)=false∧(c == 35)=false∧(c == 58)=false:=by
 have ne:∀k:UInt8,p9.few k=false→(c == k)=false:=fun k hk=>by
  rw[IR];intro e;rw[e,hk]at h;cases h
 exact⟨ne 59 O,ne 35 O,ne 58 O⟩
theorem a7S{c:UInt8}(h:p9.few c=true)(hb:p9.blk c=false)(jl:c≠40)(oJ:c≠41):p9.cst c=true:=by
 unfold p9.few at h;rw[hb,IR.2 jl,IR.2 oJ]at h;simp only[Bool.false_or,Ce]at h;exact h.1.1.1
theorem a3t{s:lw}(hs:BG s){i:Nat}{c:UInt8}(hc:s[i]?=some c)(iB:p9.cst c=true)(hok:p9.qV ((s.drop i).takeWhile p9.cst)=true):j5 129 [stA s,j4 i] (.l7 [tJ (p9.Av i ((s.drop i).takeWhile p9.cst)),j4 ((i+((s.drop i).takeWhile p9.cst).length:Nat):Int),aR]):=by
 have qZ:∀c∈s,(c == 58)=false:=fun c hc=>(zt (hs.few c hc)).2.2
 generalize hw:(s.drop i).takeWhile p9.cst=w at *;unfold p9.qV at hok;unfold p9.Av;cases hn:p9.isNum w with
 |true =>
  rw[Ch rfl];rw[hn,Ch rfl]at hok;simp only[Bool.or_eq_true,beq_iff_eq]at hok;have d1:j5 177 [stA [49]] (j4 1):=Ed (k:=1) O (by decide +kernel);rcases hok with (rfl | rfl) | rfl
  ·exact KO hc hs.len iB hw rfl qZ b0x a5b (Ml O O (by decide +kernel) (by decide +kernel)) (Ed (k:=1) O (by decide +kernel)) d1 O
  ·exact KO hc hs.len iB hw rfl qZ b0y Js (Ml O O (by decide +kernel) (by decide +kernel)) (Ed (k:=1) O (by decide +kernel)) d1 O
  ·exact KO hc hs.len iB hw rfl qZ b0z a5c (Ml O O (by decide +kernel) (by decide +kernel)) (Ed (k:=1) O (by decide +kernel)) d1 O
 |false =>
  rw[EQ O];rw[hn,EQ O]at hok;simp only[Ce,rE,Bool.not_eq_true',IR]at hok;obtain⟨⟨jl,hh⟩,h46⟩:=hok;cases w with
  |nil=>cases hh
  |cons d r =>
   simp only[Ce,Bool.not_eq_true']at hh;exact b0D hc hs.len iB hw rfl qZ (b0A (c:=d) rfl hh.1 hh.2 J) h46 jl
abbrev EH(l:List p9.Tok):AV:=.dt (.row (l.map bI))
abbrev Gy(s:lw)(es:aa0)(i:Int):AS:=⟨stt 53 [(0,stA s),(3,.ptr 0 0),(4,.own 1 es.length),(5,j4 i)],[some (.cells [j4 0,j4 0]),some (.buf 174 5 es)]⟩
abbrev Gz(es:aa0):AS:=⟨stt 53 [(2,.own 1 es.length),(3,.ptr 0 0)],[some (.cells [j4 0,j4 0]),some (.buf 174 5 es)]⟩
noncomputable abbrev GA:Code:=M6 (O4 f108) [1,1,1,1,0,0]
theorem Uq(t:p9.Tok):L8 5 [bI t]:=by
 intro x hx;rw[Cf]at hx;subst hx;refine⟨rfl,fun d hd=>?_⟩;simp only[Za3,Zat,Zb4]at hd;rcases hd with rfl | rfl | rfl | rfl | rfl <;> rfl
theorem Na{s:lw}{es:aa0}{i n e:Nat}{t:p9.Tok}(h1:j5 128 [stA s,j4 i] (.l7 [j4 n,l5 true]))(hn:n < s.length)(h2:j5 129 [stA s,j4 n] (.l7 [tJ t,j4 e,aR]))(he:es.length≤10000):y7 EX GA (Gy s es i) .F6 (Gy s (es++[bI t]) e) :=
 tW [.av (.l7 [j4 n,l5 true]),.av (j4 s.length),yF,.av (.l7 [tJ t,j4 e,aR]),.no,.av (.un)] [] [0,3,4,5] 2 [j5 128 [(stA s),(j4 ↑i)] (.l7 [(j4 ↑n),(l5 true)]),(vi ↑s.length)=(vi (↑s.length)),Bt .geq 3 26 28 ↑n ↑s.length bF,j5 129 [(stA s),(j4 ↑n)] (.l7 [(.agg [(j4 t.kind),(j4 ↑t.pos),(stA []),(stA t.text),(stA t.den)]),(j4 ↑e),(.agg [(j4 0),(j4 0)])]),(es.length)=(es.length),P7 64 ((es++[[Dt.val (vi t.kind),Dt.val (vi ↑t.pos),Dt.val (str []),Dt.val (str t.text),Dt.val (str t.den)]]).length),L8 5 [[(.val (vi t.kind)),(.val (vi ↑t.pos)),(.val (str [])),(.val (str t.text)),(.val (str t.den))]]]     ⟨h1,dP _,U0 (WF J),h2,rfl,bE J (by simp;omega),Uq t,Z⟩
theorem YS{s:lw}{es:aa0}{i n:Nat}(h1:j5 128 [stA s,j4 i] (.l7 [j4 n,l5 true]))(hn:s.length≤n)(he:es.length≤10000):y7 EX GA (Gy s es i) .ret (Gz (es++[bI ⟨0,s.length,[],[]⟩])) :=
 tW [.av (.l7 [j4 n,l5 true]),.av (j4 s.length),yT,.av (j4 s.length),.av (.un)] [] [2,3] 2 [j5 128 [(stA s),(j4 ↑i)] (.l7 [(j4 ↑n),(l5 true)]),(vi ↑s.length)=(vi (↑s.length)),Bt .geq 3 26 28 ↑n ↑s.length bT,(vi ↑s.length)=(vi (↑s.length)),(es.length)=(es.length),P7 64 ((es++[[Dt.val (vi 0),Dt.val (vi ↑s.length),Dt.val (Value.string { data:=#[]:ByteArray }),Dt.val (Value.string { data:=#[]:ByteArray }),Dt.val (Value.string { data:=#[]:ByteArray })]]).length),L8 5 [[(.val (vi 0)),(.val (vi ↑s.length)),(.val (str [])),(.val (str [])),(.val (str []))]]]     ⟨h1,dP _,U0 (Pi J),dP _,rfl,bE J (by simp;omega),Uq ⟨0,s.length,[],[]⟩,Z⟩
theorem a7T{s:lw}(hs:BG s):∀(N:Nat) (r:lw) (i:Nat) (es:aa0),r.length≤N→s.drop i=r→i≤s.length→(∀t∈p9.tk i r,t.kind=5∨t.kind=6→p9.qV t.text=true)→es.length+r.length≤9000→I7 EX GA (Gy s es i) .ret (Gz (es++(p9.tk i r).map bI)):=by
 intro N
 induction N with
 |zero =>
  intro r i es hN hd hi hok hl;obtain rfl:r=[]:=q9 J;have e1:=congrArg List.length hd;rw[ut,List.length_nil]at e1;have h1:=VP hs.len (fun c hc=>(zt (hs.few c hc)).1) (fun c hc=>(zt (hs.few c hc)).2.1) hi;rw[hd]at h1;rw[p9.VF,show i=s.length by omega]
  rw[show i=s.length by omega]at h1
  exact .stop (YS h1 (PP _) J) (fun h=>by cases h)
 |succ N ih =>
  intro r i es hN hd hi hok hl;have h1:=VP hs.len (fun c hc=>(zt (hs.few c hc)).1) (fun c hc=>(zt (hs.few c hc)).2.1) hi;rw[hd]at h1;rw[p9.Uf]at hok ⊢
  have hlen:=p9.uU p9.blk r;have hrl:r.length=s.length - i:=by rw[←hd,ut]
  generalize hn:(r.takeWhile p9.blk).length=n at *;have hd2:s.drop (i+n)=r.drop n:=by rw[←Za0,hd]
  have hb0:∀c r2,r.drop n=c::r2→p9.blk c=false:=fun c r2 e=>by
   rw[←hn,p9.drop_tw]at e;have:=List.head?_dropWhile_not p9.blk r;rw[e]at this;simpa using this
  cases hr:r.drop n with
  |nil =>
   have e1:=congrArg List.length hr;rw[ut,List.length_nil]at e1;have e2:i+n=s.length:=J;rw[p9.VF,e2];rw[e2]at h1;exact .stop (YS h1 (PP _) J) (fun h=>by cases h)
  |cons c r2 =>
   have hrn:(r.drop n).length=r2.length+1:=by rw[hr,yM]
   rw[ut]at hrn;have hcs:s[i+n]?=some c:=by rw[←Za1,hd2,hr];rfl
   have hlt:=(UV.1 hcs).1;have hfc:=hs.few c (q8 hcs);have hnb:=hb0 c r2 hr;have hd3:s.drop (i+n+1)=r2:=by rw[←Za0,hd2,hr];rfl
   rw[hr]at hok;by_cases jl:c=40
   ·subst jl;rw[p9.a7C]at hok ⊢
    have:=ih r2 (i+n+1) (es++[bI ⟨1,i+n,[],[]⟩]) J hd3 J (fun t ht=>hok t (Cg _ ht)) (by rw[lm,Zak];omega);rw[Zaf]at this;exact .more (Na h1 hlt (b0B hcs hs.len) J) this
   by_cases oJ:c=41
   ·subst oJ;rw[p9.a4O]at hok ⊢
    have:=ih r2 (i+n+1) (es++[bI ⟨2,i+n,[],[]⟩]) J hd3 J (fun t ht=>hok t (Cg _ ht)) (by rw[lm,Zak];omega);rw[Zaf]at this;exact .more (Na h1 hlt (b0C hcs hs.len) J) this
   have iB:=a7S hfc hnb jl oJ;rw[p9.a7E iB]at hok ⊢
   have hw:(s.drop (i+n)).takeWhile p9.cst=(c::r2).takeWhile p9.cst:=by rw[hd2,hr]
   have hpos:1≤((c::r2).takeWhile p9.cst).length:=by rw[List.takeWhile_cons,Ch iB,yM];omega
   have hwl:=p9.uU p9.cst (c::r2);rw[yM]at hwl;have hk:=hok _ (NE ..);have b5Y:p9.qV ((c::r2).takeWhile p9.cst)=true:=by
    unfold p9.Av at hk;split at hk
    ·exact hk (.inl rfl)
    ·exact hk (.inr rfl)
   have h2:=a3t hs hcs iB (by rw[hw];exact b5Y);rw[hw]at h2;have:=ih ((c::r2).drop ((c::r2).takeWhile p9.cst).length) (i+n+((c::r2).takeWhile p9.cst).length) (es++[bI (p9.Av (i+n) ((c::r2).takeWhile p9.cst))]) (by rw[ut,yM];omega) (by rw[←Za0,hd2,hr]) J (fun t ht=>hok t (Cg _ ht)) (by rw[lm,Zak,ut,yM];omega);rw[Zaf]at this;exact .more (Na h1 hlt h2 J) this
theorem a5d{s:lw}(hs:BG s)(hok:∀t∈p9.tk 0 s,t.kind=5∨t.kind=6→p9.qV t.text=true):j5 108 [stA s] (.l7 [EH (p9.tk 0 s),aR]):=by
 have hl:=hs.len;have h:=(a7T hs s.length s 0 [] (PP _) rfl (Ci _) hok (by rw[List.length_nil];omega)).I8;have ht:y7 EX (.loop GA) ⟨stt 53 [(0,stA s),(3,.ptr 0 0),(4,.nil),(5,j4 0)],[some (.cells [j4 0,j4 0])]⟩ .ret (Gz ((p9.tk 0 s).map bI)):=y7.Z9 4 174 5 (by show 4 < 53;omega) rfl h;generalize (p9.tk 0 s).map bI=es at *;exact pW [.av (j4 s.length),yF] [.inv [0,3,4,5] 1 (.ret) (Gz es)] [(vi ↑s.length)=(vi (↑s.length)),Bk .gtr 3 12 6000 ↑s.length bF,_,(es.length)=(es.length)] func108 ⟨dP _,K4 (WF J),ht,rfl,Z⟩
end Go.Proofs.YtbpmpdadppamgaaGreatDoor
namespace Go.Proofs.YtbpmpdadppamgaaGreatDoor
open Go.Proofs.Tryz
open Go.RowKit
open Te
theorem b0E(t:Te):qU t=(if t.kind=1 then xe t.np t.nn && decide (t.val=Q9) && decide (t.args.length=0)
  else if t.kind=2 then (decide (t.np=[]) && decide (t.nn=[])) && t.val.lW && decide (t.args.length=0)
  else if t.kind=3 then R6 ⟨t.np,t.nn⟩ && decide (t.val=Q9) && decide (t.args.length≤8) && qC t.args
  else false):=by obtain⟨k,p,n,o,l⟩:=t;rw[qU]
theorem VR(t:Te):j5 214 [o6 t] (if t.kind=3 then C8 t.args else .dt (.row [])):=by
 by_cases h:t.kind=3
 ·rw[Ch h];exact pV [yF] [Bk .neq 3 4 3 t.kind bF] func214 ⟨E5 (by simp[h]),Z⟩
 ·rw[EQ h];exact pV [yT] [Bk .neq 3 4 3 t.kind bT] func214 ⟨E5 (by simp[h]),Z⟩
abbrev BH(l:List Te)(m n i:Int):AS:=⟨stt 40 [(1,j4 m),(5,j4 n),(6,C8 l),(7,j4 i)],[]⟩
abbrev BI(n:Int):AS:=⟨stt 40 [(5,j4 n)],[]⟩
noncomputable abbrev GD:Code:=M6 (O4 f182) [1,1,1,1,0,1,0,0]
theorem b5Z{l:List Te}{x:Te}{m n k:Int}{i:Nat}(hx:l[i]?=some x)(hl:l.length≤9223372036854775807)(hm:m≤3001)(hn:1≤n)(h0:n < m)(hk0:0≤k)(hk1:k≤3001)(h:j5 182 [o6 x,j4 (m - n)] (j4 k)):y7 EX GD (BH l m n i) .F6 (BH l m (n+k) ((i+1:Nat):Int)) :=
 tW [.av (j4 l.length),yT,yT,.av (.pin ((o8 x).map .dt)),.av (j4 (m - n)),.av (j4 k),.av (j4 (n+k)),.av (j4 ((i+1:Nat):Int))] [] [1,5,6,7] 0 [(vi ↑l.length)=(vi (↑(List.map Te.enc l).length)),Bt .lss 3 18 20 ↑i ↑l.length bT,Bt .lss 3 23 24 n m bT,z8 (List.map Te.enc l) ↑i 11 (o8 x),Bt .sub 3 34 35 m n (vi (m - n)),j5 182 [(o6 x),(j4 (m - n))] (j4 k),Bt .add 3 29 37 n k (vi (n+k)),Bk .add 3 27 1 ↑i (vi (↑(i+1)))]     ⟨F9 _,D8 (Pi (by have:=(UV.1 hx).1;omega)),D8 (Pi h0),M5 hx,bL rfl J J,h,H6 rfl J J,H6 J J (by have:=(UV.1 hx).1;omega),Z⟩
theorem b50{l:List Te}{m n:Int}{i:Nat}(hi:i=l.length):y7 EX GD (BH l m n i) (.out 0) (BI n) :=
 tW [.av (j4 l.length),yF] [] [5] 0 [(vi ↑l.length)=(vi (↑(List.map Te.enc l).length)),Bt .lss 3 18 20 ↑i ↑l.length bF]     ⟨F9 _,D8 (WF J),Z⟩
theorem b51{l:List Te}{m n:Int}{i:Nat}(hi:i < l.length)(h0:¬n < m):y7 EX GD (BH l m n i) (.out 0) (BI n) :=
 tW [.av (j4 l.length),yT,yF] [] [5] 0 [(vi ↑l.length)=(vi (↑(List.map Te.enc l).length)),Bt .lss 3 18 20 ↑i ↑l.length bT,Bt .lss 3 23 24 n m bF]     ⟨F9 _,D8 (Pi J),D8 (WF h0),Z⟩
theorem Ur{l:List Te}{m:Int}(hl:l.length≤9223372036854775807)(hm:m≤3001)(h:∀x∈l,∀m:Int,1≤m→m≤3001→j5 182 [o6 x,j4 m] (j4 (cnt x m))):∀(s:List Te) (i:Nat) (n:Int),l.drop i=s→i≤l.length→1≤n→n≤m→I7 EX GD (BH l m n i) (.out 0) (BI (jM s m n)):=by
 intro s
 induction s with
 |nil =>
  intro i n hd hi hn hn2;have e1:=congrArg List.length hd;rw[ut,List.length_nil]at e1;rw[jM];exact .stop (b50 J) (fun h=>by cases h)
 |cons x s ih =>
  intro i n hd hi hn hn2;have hx:l[i]?=some x:=by rw[←Za1,hd];rfl
  have hlt:=(UV.1 hx).1;have hd2:l.drop (i+1)=s:=by rw[←Za0,hd];rfl
  rw[jM];by_cases h0:n < m
  ·rw[Ch h0];have hr:=JG x (m - n) J J;exact .more (b5Z hx hl hm hn h0 J J (h x (q8 hx) (m - n) J J)) (ih (i+1) _ hd2 J J J)
  ·rw[EQ h0];exact .stop (b51 hlt h0) (fun h=>by cases h)
theorem b0F(t:Te)(m:Int):cnt t m=if t.kind=2 then min m (U8 t.val) else jM (if t.kind=3 then t.args else []) m 1:=by
 obtain⟨k,p,n,o,l⟩:=t;rw[cnt];split
 ·rfl
 ·split
  ·rfl
  ·rw[jM]
theorem b3c:∀(N:Nat) (t:Te) (m:Int),t.size≤N→t.Bd→1≤m→m≤3001→j5 182 [o6 t,j4 m] (j4 (cnt t m)):=by
 intro N
 induction N with
 |zero=>intro t m h;have:=t.size_pos;omega
 |succ N ih =>
  intro t m hN hb h1 h2;obtain⟨hv,hs,hp,hn,hl⟩:=hb.parts;have Mo:∀x∈t.args,∀m:Int,1≤m→m≤3001→j5 182 [o6 x,j4 m] (j4 (cnt x m)):=fun x hx m h1 h2=>ih x m (by have:=Te.ym hx;omega) (hb.kids hx) h1 h2
  have hP:=Iy t.val;rw[b0F];by_cases k2:t.kind=2
  ·rw[Ch k2];exact pV [yT,.av (j4 (U8 t.val)),.av (j4 (min m (U8 t.val)))] [Bk .eql 3 9 2 t.kind bT,j5 111 [(o7 t.val)] (j4 (U8 t.val)),(vi (min m (U8 t.val)))=(vi (if U8 t.val < m then U8 t.val else m))] func182 ⟨C9 (U5 k2),QQ hv,by rw[show min m (U8 t.val)=if U8 t.val < m then U8 t.val else m by split <;> omega],Z⟩
  rw[EQ k2];have ha:=VR t;by_cases k3:t.kind=3
  ·rw[Ch k3]at ha ⊢
   have ht:=(Ur hl h2 Mo t.args 0 1 rfl (Ci _) J h1).I8;generalize jM t.args m 1=r at *;exact pW [yF,.av (C8 t.args)] [.inv [1,5,6,7] 0 (.out 0) (BI r)] [Bk .eql 3 9 2 t.kind bF,_,_] func182 ⟨C9 (M8 k2),ha,ht,Z⟩
  ·rw[EQ k3]at ha ⊢
   have ht:=(Ur (l:=[]) O h2 (fun x hx=>by cases hx) [] 0 1 rfl (Ci _) J h1).I8;generalize jM [] m 1=r at *;exact pW [yF,.av (.dt (.row []))] [.inv [1,5,6,7] 0 (.out 0) (BI r)] [Bk .eql 3 9 2 t.kind bF,_,_] func182 ⟨C9 (M8 k2),ha,ht,Z⟩
theorem a5e{t:Te}(hb:t.Bd):j5 141 [o6 t] (j4 ((min t.gz 3001:Nat):Int)):=by
 have h:=b3c _ t 3001 (PP _) hb J J;rw[JG t 3001 J J,show min (3001:Int) (t.gz:Int)=((min t.gz 3001:Nat):Int) by omega]at h
 generalize ((min t.gz 3001:Nat):Int)=r at *;exact pV [.av (j4 r)] [_] func141 ⟨h,Z⟩
abbrev BJ(l:List Te)(m d i:Int):AS:=⟨stt 31 [(1,j4 m),(5,j4 d),(6,C8 l),(7,j4 i)],[]⟩
abbrev BK(d:Int):AS:=⟨stt 31 [(5,j4 d)],[]⟩
noncomputable abbrev GG:Code:=M6 (O4 f183) [1,1,1,0,1,0,0]
theorem b52{l:List Te}{x:Te}{m d k j:Int}{i:Nat}(hx:l[i]?=some x)(hl:l.length≤9223372036854775807)(h0:1 < m)(hm:m≤1000)(h:j5 183 [o6 x,j4 (m - 1)] (j4 k))(hj:j=if k > d then k else d):y7 EX GG (BJ l m d i) .F6 (BJ l m j ((i+1:Nat):Int)) :=
 tW [.av (j4 l.length),yT,yT,.av (.pin ((o8 x).map .dt)),.av (j4 (m - 1)),.av (j4 k),.av (j4 j),.av (j4 ((i+1:Nat):Int))] [] [1,5,6,7] 0 [(vi ↑l.length)=(vi (↑(List.map Te.enc l).length)),Bt .lss 3 10 12 ↑i ↑l.length bT,Bk .gtr 3 15 1 m bT,z8 (List.map Te.enc l) ↑i 11 (o8 x),Bk .sub 3 25 1 m (vi (m - 1)),j5 183 [(o6 x),(j4 (m - 1))] (j4 k),(vi j)=(vi (if k > d then k else d)),Bk .add 3 18 1 ↑i (vi (↑(i+1)))]     ⟨F9 _,D8 (Pi (by have:=(UV.1 hx).1;omega)),K4 (Pi h0),M5 hx,bL rfl J J,h,by rw[hj],H6 J J (by have:=(UV.1 hx).1;omega),Z⟩
theorem b53{l:List Te}{m d:Int}{i:Nat}(hi:i=l.length):y7 EX GG (BJ l m d i) (.out 0) (BK d) :=
 tW [.av (j4 l.length),yF] [] [5] 0 [(vi ↑l.length)=(vi (↑(List.map Te.enc l).length)),Bt .lss 3 10 12 ↑i ↑l.length bF]     ⟨F9 _,D8 (WF J),Z⟩
theorem b54{l:List Te}{m d:Int}{i:Nat}(hi:i < l.length)(h0:¬1 < m):y7 EX GG (BJ l m d i) (.out 0) (BK d) :=
 tW [.av (j4 l.length),yT,yF] [] [5] 0 [(vi ↑l.length)=(vi (↑(List.map Te.enc l).length)),Bt .lss 3 10 12 ↑i ↑l.length bT,Bk .gtr 3 15 1 m bF]     ⟨F9 _,D8 (Pi J),K4 (WF h0),Z⟩
theorem Us{l:List Te}{m:Int}(hl:l.length≤9223372036854775807)(hm:m≤1000)(h:∀x∈l,1 < m→j5 183 [o6 x,j4 (m - 1)] (j4 (qR x (m - 1)))):∀(s:List Te) (i:Nat) (d:Int),l.drop i=s→i≤l.length→I7 EX GG (BJ l m d i) (.out 0) (BK (jN s m d)):=by
 intro s
 induction s with
 |nil =>
  intro i d hd hi;have e1:=congrArg List.length hd;rw[ut,List.length_nil]at e1;rw[jN];exact .stop (b53 J) (fun h=>by cases h)
 |cons x s ih =>
  intro i d hd hi;have hx:l[i]?=some x:=by rw[←Za1,hd];rfl
  have hlt:=(UV.1 hx).1;have hd2:l.drop (i+1)=s:=by rw[←Za0,hd];rfl
  rw[jN];by_cases h0:1 < m
  ·rw[Ch h0];exact .more (b52 hx hl h0 hm (h x (q8 hx) h0) (by split <;> omega)) (ih (i+1) _ hd2 J)
  ·rw[EQ h0];exact .stop (b54 hlt h0) (fun h=>by cases h)
theorem b0G(t:Te)(m:Int):qR t m=jN (if t.kind=3 then t.args else []) m 0+1:=by
 obtain⟨k,p,n,o,l⟩:=t;rw[qR];split
 ·rfl
 ·rw[jN];rfl
theorem b3d:∀(N:Nat) (t:Te) (m:Int),t.size≤N→t.Bd→1≤m→m≤1000→j5 183 [o6 t,j4 m] (j4 (qR t m)):=by
 intro N
 induction N with
 |zero=>intro t m h;have:=t.size_pos;omega
 |succ N ih =>
  intro t m hN hb h1 h2;obtain⟨hv,hs,hp,hn,hl⟩:=hb.parts;have hb1:=JH t m h1;have hdp:=t.a7B;rw[b0G]at hb1 ⊢
  have ha:=VR t;by_cases k3:t.kind=3
  ·rw[Ch k3]at ha hb1 ⊢
   have ht:=(Us hl h2 (fun x hx h0=>ih x (m - 1) (by have:=Te.ym hx;omega) (hb.kids hx) J J) t.args 0 0 rfl (Ci _)).I8;generalize jN t.args m 0=r at *;exact pW [.av (C8 t.args),.av (j4 (r+1))] [.inv [1,5,6,7] 0 (.out 0) (BK r)] [_,_,Bk .add 3 29 1 r (vi (r+1))] func183 ⟨ha,ht,H6 rfl J J,Z⟩
  ·rw[EQ k3]at ha hb1 ⊢
   have ht:=(Us (l:=[]) O h2 (fun x hx=>by cases hx) [] 0 0 rfl (Ci _)).I8;generalize jN [] m 0=r at *;exact pW [.av (.dt (.row [])),.av (j4 (r+1))] [.inv [1,5,6,7] 0 (.out 0) (BK r)] [_,_,Bk .add 3 29 1 r (vi (r+1))] func183 ⟨ha,ht,H6 rfl J J,Z⟩
theorem a5f{t:Te}(hb:t.Bd):j5 142 [o6 t] (j4 ((min t.dep 201:Nat):Int)):=by
 have h:=b3d _ t 201 (PP _) hb J J;rw[JH t 201 J,show min (201:Int) (t.dep:Int)=((min t.dep 201:Nat):Int) by omega]at h
 generalize ((min t.dep 201:Nat):Int)=r at *;exact pV [.av (j4 r)] [_] func142 ⟨h,Z⟩
end Go.Proofs.YtbpmpdadppamgaaGreatDoor
