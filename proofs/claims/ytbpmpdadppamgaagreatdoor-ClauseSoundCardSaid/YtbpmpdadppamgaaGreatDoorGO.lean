/- The code's normalizer: 'examine' and 'choose', walked. -/
import Derived.Test.YtbpmpdadppamgaaGreatDoorGN
import Derived.Test.YtbpmpdadppamgaaGreatDoorGH
import Derived.Lib.SliceRun
namespace Go.Proofs.YtbpmpdadppamgaaGreatDoor
open Go.Proofs.Tryz
open Go.RowKit
open Te
theorem VI(qs:List Te)(hl:qs.length≤9223372036854775807):j5 127 [C8 qs] (.ax (K3 qs)) :=
 b2M (E:=EX) (fun _ _ h hb=>h.below hb) func127 (by kernel_rfl) (an:=[.av (j4 qs.length),.av (j4 qs.length),.av (.dt (.row (qs.map Te.enc)))]) (ls:=[]) (ps:=[(vi ↑qs.length)=(vi (↑(List.map Te.enc qs).length)),(vi ↑qs.length)=(vi (↑(List.map Te.enc qs).length)),bV (List.map Te.enc qs) 11 ((none:Option Int).getD 0) ((some (qs.length:Int)).getD ((List.map Te.enc qs).length:Int)) (List.map Te.enc qs),(some (qs.length:Int))=(none:Option Int)∨(some (qs.length:Int))=(some (qs.length:Int))]) (by kernel_rfl)
  ⟨F9 _,F9 _,⟨Int.le_refl _,by show (0:Int)≤(qs.length:Int);omega,by show (qs.length:Int)≤_;rw[Cc];omega,by
   show _=List.drop 0 (List.take ((qs.length:Int)).toNat _);rw[Int.toNat_natCast,ZaZ,Za2 (by rw[Cc];omega)],.inl rfl⟩,.inr rfl,Z⟩
theorem yI(qs:List Te)(a:Te):K3 qs++[o8 a]=K3 (qs++[a]):=by rw[gp];exact Zam.symm
theorem a7I{P:Program}{G:World→Prop}{f:FuncId}{qs:List Te}{t:Te}{xs xs':List (Option Bx)}{r:AV}(h:aV P G f [.ptr 0 0,C8 qs,C8 [t]] xs r xs'):aV P G f [.ptr 0 0,C8 qs,.dt (.row [o8 t])] xs r xs':=by
 rw[gp];exact h
theorem b2O{t:Te}{qs:List Te}{cs:aa0}{ex er:Int}(hx0:0≤ex)(hx1:ex≤100000)(hx:20000≤ex):D6 56 [.ptr 0 0,o6 t,C8 qs] (K9 cs ex er) (.l7 []) (K9 cs (ex+1) 2) :=
 sW 2 [0,1] [.av (j4 (ex+1)),yT,yT] [] [Bk .add 3 11 1 ex (vi (ex+1)),Bk .gtr 3 18 20000 (ex+1) bT,Bk .neq 37 26 0 2 bT] func56 ⟨H6 rfl J J,K4 (Pi J),E5 rfl,Z⟩
theorem b2P{t:Te}{qs:List Te}{cs:aa0}{ex er:Int}(hx0:0≤ex)(hx1:ex≤100000)(hx:ex < 20000)(he:er≠0):D6 56 [.ptr 0 0,o6 t,C8 qs] (K9 cs ex er) (.l7 []) (K9 cs (ex+1) er) :=
 sW 2 [0,1] [.av (j4 (ex+1)),yF,yT] [] [Bk .add 3 11 1 ex (vi (ex+1)),Bk .gtr 3 18 20000 (ex+1) bF,Bk .neq 37 26 0 er bT] func56 ⟨H6 rfl J J,K4 (WF J),E5 (by simp[he]),Z⟩
theorem b2Q{t:Te}{qs:List Te}{cs:aa0}{ex er:Int}{cs':aa0}{P8 P9:Int}(hx0:0≤ex)(hx1:ex≤100000)(hx:ex < 20000)(he:er=0)(hk:t.kind=2)(hn:j5 45 [o7 t.val] (l5 true))(hc:D6 100 [.ptr 0 0,C8 qs,C8 []] (K9 cs (ex+1) er) (.l7 []) (K9 cs' P8 P9))  : D6 56 [.ptr 0 0,o6 t,C8 qs] (K9 cs ex er) (.l7 []) (K9 cs' P8 P9) :=
 sW 2 [0,1] [.av (j4 (ex+1)),yF,yF,yT,yT] [.J5 7 2 [0,1] (.l7 []) [some (.cells [.own 1 cs'.length,j4 P8,j4 P9]),some (.buf 28 1 cs')]] [Bk .add 3 11 1 ex (vi (ex+1)),Bk .gtr 3 18 20000 (ex+1) bF,Bk .neq 37 26 0 er bF,Bk .eql 3 29 2 t.kind bT,_,_] func56 ⟨H6 rfl J J,K4 (WF J),E5 (by simp[he]),C9 (by simp[hk]),hn,hc,Z⟩
theorem b2R{t:Te}{qs:List Te}{cs:aa0}{ex er:Int}(hx0:0≤ex)(hx1:ex≤100000)(hx:ex < 20000)(he:er=0)(hk:t.kind=2)(hn:j5 45 [o7 t.val] (l5 false)):D6 56 [.ptr 0 0,o6 t,C8 qs] (K9 cs ex er) (.l7 []) (K9 cs (ex+1) er) :=
 sW 2 [0,1] [.av (j4 (ex+1)),yF,yF,yT,yF] [] [Bk .add 3 11 1 ex (vi (ex+1)),Bk .gtr 3 18 20000 (ex+1) bF,Bk .neq 37 26 0 er bF,Bk .eql 3 29 2 t.kind bT,_] func56 ⟨H6 rfl J J,K4 (WF J),E5 (by simp[he]),C9 (by simp[hk]),hn,Z⟩
theorem b2S{t:Te}{qs:List Te}{cs:aa0}{ex er:Int}{cs':aa0}{P8 P9:Int}{a:Te}(hx0:0≤ex)(hx1:ex≤100000)(hx:ex < 20000)(he:er=0)(hk:t.kind≠2)(hn:opened t=some a)(hc:D6 56 [.ptr 0 0,o6 a,C8 qs] (K9 cs (ex+1) er) (.l7 []) (K9 cs' P8 P9))  : D6 56 [.ptr 0 0,o6 t,C8 qs] (K9 cs ex er) (.l7 []) (K9 cs' P8 P9) :=
 sW 2 [0,1] [.av (j4 (ex+1)),yF,yF,yF,.av (.l7 [o6 a,l5 true])] [.J5 10 3 [0,1] (.l7 []) [some (.cells [.own 1 cs'.length,j4 P8,j4 P9]),some (.buf 28 1 cs')]] [Bk .add 3 11 1 ex (vi (ex+1)),Bk .gtr 3 18 20000 (ex+1) bF,Bk .neq 37 26 0 er bF,Bk .eql 3 29 2 t.kind bF,j5 101 [(o6 t)] (.l7 [(o6 a),(l5 true)]),_] func56 ⟨H6 rfl J J,K4 (WF J),E5 (by simp[he]),C9 (by simp[hk]),(nA t).val (by rw[hn]),hc,Z⟩
theorem b2T{t:Te}{qs:List Te}{cs:aa0}{ex er:Int}{cs':aa0}{P8 P9:Int}{a d e:Te}(hx0:0≤ex)(hx1:ex≤100000)(hx:ex < 20000)(he:er=0)(hk:t.kind≠2)(hn:opened t=none)(hi:is t x8 3)(h0:t.args[0]?=some a)(h1:t.args[1]?=some d)(h2:t.args[2]?=some e)(hc:D6 102 [.ptr 0 0,o6 a,o6 d,o6 e,C8 qs] (K9 cs (ex+1) er) (.l7 []) (K9 cs' P8 P9))  : D6 56 [.ptr 0 0,o6 t,C8 qs] (K9 cs ex er) (.l7 []) (K9 cs' P8 P9) :=
 sW 2 [0,1] [.av (j4 (ex+1)),yF,yF,yF,.av (.l7 [o6 F4,l5 false]),yT,.av (.pin ((o8 a).map .dt)),.av (.pin ((o8 d).map .dt)),.av (.pin ((o8 e).map .dt))] [.J5 12 14 [0,1] (.l7 []) [some (.cells [.own 1 cs'.length,j4 P8,j4 P9]),some (.buf 28 1 cs')]] [Bk .add 3 11 1 ex (vi (ex+1)),Bk .gtr 3 18 20000 (ex+1) bF,Bk .neq 37 26 0 er bF,Bk .eql 3 29 2 t.kind bF,j5 101 [(o6 t)] (.l7 [(.agg [(j4 0),(stA F4.np),(stA F4.nn),(j4 0),(stA F4.val.num),(stA F4.val.den),(stA F4.val.sp),(stA F4.val.sn),(stA F4.val.text),(.dt (.row (List.map Ob.enc F4.val.pair))),(.dt (.row (List.map Te.enc F4.args)))]),(l5 false)]),j5 61 [(o6 t),(stA [105,102]),(j4 3)] (l5 true),z8 (List.map Te.enc t.args) 0 11 (o8 a),z8 (List.map Te.enc t.args) 1 11 (o8 d),z8 (List.map Te.enc t.args) 2 11 (o8 e),_] func56 ⟨H6 rfl J J,K4 (WF J),E5 (by simp[he]),C9 (by simp[hk]),(nA t).val (by rw[hn]),(aQ t x8 3).b (U5 hi),M5 h0,M5 h1,M5 h2,hc,Z⟩
theorem b2U{t:Te}{qs:List Te}{cs:aa0}{ex er:Int}(hx0:0≤ex)(hx1:ex≤100000)(hx:ex < 20000)(he:er=0)(hk:t.kind≠2)(hn:opened t=none)(hi:¬is t x8 3)(hl:qs.length≤9223372036854775807)(hq:∀q∈qs,q.Wf)(hm:t∈qs):D6 56 [.ptr 0 0,o6 t,C8 qs] (K9 cs ex er) (.l7 []) (K9 cs (ex+1) er) :=
 sW 2 [0,1] [.av (j4 (ex+1)),yF,yF,yF,.av (.l7 [o6 F4,l5 false]),yF,yT] [] [Bk .add 3 11 1 ex (vi (ex+1)),Bk .gtr 3 18 20000 (ex+1) bF,Bk .neq 37 26 0 er bF,Bk .eql 3 29 2 t.kind bF,j5 101 [(o6 t)] (.l7 [(.agg [(j4 0),(stA F4.np),(stA F4.nn),(j4 0),(stA F4.val.num),(stA F4.val.den),(stA F4.val.sp),(stA F4.val.sn),(stA F4.val.text),(.dt (.row (List.map Ob.enc F4.val.pair))),(.dt (.row (List.map Te.enc F4.args)))]),(l5 false)]),j5 61 [(o6 t),(stA [105,102]),(j4 3)] (l5 false),j5 63 [(.dt (.row (List.map Te.enc qs))),(o6 t)] (l5 true)] func56 ⟨H6 rfl J J,K4 (WF J),E5 (by simp[he]),C9 (by simp[hk]),(nA t).val (by rw[hn]),(aQ t x8 3).b (M8 hi),(iX hl hq t).b (U5 hm),Z⟩
theorem b2V{t:Te}{qs:List Te}{cs:aa0}{ex er:Int}{cs':aa0}{P8 P9:Int}(hx0:0≤ex)(hx1:ex≤100000)(hx:ex < 20000)(he:er=0)(hk:t.kind≠2)(hn:opened t=none)(hi:¬is t x8 3)(hl:qs.length≤9223372036854775807)(hq:∀q∈qs,q.Wf)(hm:t ∉ qs)(hm2:ap D9 [t]∈qs)(hc:D6 100 [.ptr 0 0,C8 qs,C8 []] (K9 cs (ex+1) er) (.l7 []) (K9 cs' P8 P9))  : D6 56 [.ptr 0 0,o6 t,C8 qs] (K9 cs ex er) (.l7 []) (K9 cs' P8 P9) :=
 sW 2 [0,1] [.av (j4 (ex+1)),yF,yF,yF,.av (.l7 [o6 F4,l5 false]),yF,yF,.av (o6 (ap D9 [t])),yT] [.J5 16 2 [0,1] (.l7 []) [some (.cells [.own 1 cs'.length,j4 P8,j4 P9]),some (.buf 28 1 cs')]] [Bk .add 3 11 1 ex (vi (ex+1)),Bk .gtr 3 18 20000 (ex+1) bF,Bk .neq 37 26 0 er bF,Bk .eql 3 29 2 t.kind bF,j5 101 [(o6 t)] (.l7 [(.agg [(j4 0),(stA F4.np),(stA F4.nn),(j4 0),(stA F4.val.num),(stA F4.val.den),(stA F4.val.sp),(stA F4.val.sn),(stA F4.val.text),(.dt (.row (List.map Ob.enc F4.val.pair))),(.dt (.row (List.map Te.enc F4.args)))]),(l5 false)]),j5 61 [(o6 t),(stA [105,102]),(j4 3)] (l5 false),j5 63 [(.dt (.row (List.map Te.enc qs))),(o6 t)] (l5 false),j5 47 [(stA [110,111,116]),(.dt (.row [o8 t]))] (o6 (ap D9 [t])),j5 63 [(.dt (.row (List.map Te.enc qs))),(o6 (ap D9 [t]))] (l5 true),_] func56 ⟨H6 rfl J J,K4 (WF J),E5 (by simp[he]),C9 (by simp[hk]),(nA t).val (by rw[hn]),(aQ t x8 3).b (M8 hi),(iX hl hq t).b (M8 hm),lJ D9 t,(iX hl hq (ap D9 [t])).b (U5 hm2),hc,Z⟩
theorem b2W{t:Te}{qs:List Te}{cs:aa0}{ex er:Int}{cs':aa0}{P8 P9:Int}(hx0:0≤ex)(hx1:ex≤100000)(hx:ex < 20000)(he:er=0)(hk:t.kind≠2)(hn:opened t=none)(hi:¬is t x8 3)(hl:qs.length≤9223372036854775807)(hq:∀q∈qs,q.Wf)(hm:t ∉ qs)(hm2:ap D9 [t] ∉ qs)(hc:D6 100 [.ptr 0 0,C8 qs,C8 [t]] (K9 cs (ex+1) er) (.l7 []) (K9 cs' P8 P9))  : D6 56 [.ptr 0 0,o6 t,C8 qs] (K9 cs ex er) (.l7 []) (K9 cs' P8 P9) :=
 sW 2 [0,1] [.av (j4 (ex+1)),yF,yF,yF,.av (.l7 [o6 F4,l5 false]),yF,yF,.av (o6 (ap D9 [t])),yF] [.J5 13 4 [0,1] (.l7 []) [some (.cells [.own 1 cs'.length,j4 P8,j4 P9]),some (.buf 28 1 cs')]] [Bk .add 3 11 1 ex (vi (ex+1)),Bk .gtr 3 18 20000 (ex+1) bF,Bk .neq 37 26 0 er bF,Bk .eql 3 29 2 t.kind bF,j5 101 [(o6 t)] (.l7 [(.agg [(j4 0),(stA F4.np),(stA F4.nn),(j4 0),(stA F4.val.num),(stA F4.val.den),(stA F4.val.sp),(stA F4.val.sn),(stA F4.val.text),(.dt (.row (List.map Ob.enc F4.val.pair))),(.dt (.row (List.map Te.enc F4.args)))]),(l5 false)]),j5 61 [(o6 t),(stA [105,102]),(j4 3)] (l5 false),j5 63 [(.dt (.row (List.map Te.enc qs))),(o6 t)] (l5 false),j5 47 [(stA [110,111,116]),(.dt (.row [o8 t]))] (o6 (ap D9 [t])),j5 63 [(.dt (.row (List.map Te.enc qs))),(o6 (ap D9 [t]))] (l5 false),D6 100 [AV.ptr 0 0,AV.dt (Dt.row (List.map Te.enc qs)),AV.dt (Dt.row ([o8 t]))] [some (Bx.cells [AV.own 1 cs.length,AV.dt (Dt.val (vi (ex+1))),AV.dt (Dt.val (vi er))]),some (Bx.buf 28 1 cs)] (AV.l7 []) [some (Bx.cells [AV.own 1 cs'.length,j4 P8,j4 P9]),some (Bx.buf 28 1 cs')]] func56 ⟨H6 rfl J J,K4 (WF J),E5 (by simp[he]),C9 (by simp[hk]),(nA t).val (by rw[hn]),(aQ t x8 3).b (M8 hi),(iX hl hq t).b (M8 hm),lJ D9 t,(iX hl hq (ap D9 [t])).b (M8 hm2),a7I hc,Z⟩
theorem b5y{a d e:Te}{qs:List Te}{cs:aa0}{ex er:Int}{cs':aa0}{P8 P9:Int}(hk:a.kind=2)(hn:j5 45 [o7 a.val] (l5 true))(hc:D6 56 [.ptr 0 0,o6 e,C8 qs] (K9 cs ex er) (.l7 []) (K9 cs' P8 P9))  : D6 102 [.ptr 0 0,o6 a,o6 d,o6 e,C8 qs] (K9 cs ex er) (.l7 []) (K9 cs' P8 P9) :=
 sW 2 [0,1] [.av (o6 (ap D9 [a])),yT,yT] [.J5 3 3 [0,1] (.l7 []) [some (.cells [.own 1 cs'.length,j4 P8,j4 P9]),some (.buf 28 1 cs')]] [j5 47 [(stA [110,111,116]),(.dt (.row [o8 a]))] (o6 (ap D9 [a])),Bk .eql 3 18 2 a.kind bT,_,_] func102 ⟨lJ D9 a,C9 (by simp[hk]),hn,hc,Z⟩
theorem b5z{a d e:Te}{qs:List Te}{cs:aa0}{ex er:Int}{cs':aa0}{P8 P9:Int}(hk:a.kind=2)(hn:j5 45 [o7 a.val] (l5 false))(hc:D6 56 [.ptr 0 0,o6 d,C8 qs] (K9 cs ex er) (.l7 []) (K9 cs' P8 P9))  : D6 102 [.ptr 0 0,o6 a,o6 d,o6 e,C8 qs] (K9 cs ex er) (.l7 []) (K9 cs' P8 P9) :=
 sW 2 [0,1] [.av (o6 (ap D9 [a])),yT,yF,yT] [.J5 5 3 [0,1] (.l7 []) [some (.cells [.own 1 cs'.length,j4 P8,j4 P9]),some (.buf 28 1 cs')]] [j5 47 [(stA [110,111,116]),(.dt (.row [o8 a]))] (o6 (ap D9 [a])),Bk .eql 3 18 2 a.kind bT,_,Bk .eql 3 31 2 a.kind bT,_] func102 ⟨lJ D9 a,C9 (by simp[hk]),hn,C9 (by simp[hk]),hc,Z⟩
theorem b5A{a d e:Te}{qs:List Te}{cs:aa0}{ex er:Int}{cs':aa0}{P8 P9:Int}{a0:Te}(hk:a.kind≠2)(hi:is a D9 1)(h0:a.args[0]?=some a0)(hc:D6 56 [.ptr 0 0,o6 (ap x8 [a0,e,d]),C8 qs] (K9 cs ex er) (.l7 []) (K9 cs' P8 P9))  : D6 102 [.ptr 0 0,o6 a,o6 d,o6 e,C8 qs] (K9 cs ex er) (.l7 []) (K9 cs' P8 P9) :=
 sW 2 [0,1] [.av (o6 (ap D9 [a])),yF,yF,yT,.av (.pin ((o8 a0).map .dt)),.av (o6 (ap x8 [a0,e,d]))] [.J5 7 10 [0,1] (.l7 []) [some (.cells [.own 1 cs'.length,j4 P8,j4 P9]),some (.buf 28 1 cs')]] [j5 47 [(stA [110,111,116]),(.dt (.row [o8 a]))] (o6 (ap D9 [a])),Bk .eql 3 18 2 a.kind bF,Bk .eql 3 31 2 a.kind bF,j5 61 [(o6 a),(stA [110,111,116]),(j4 1)] (l5 true),z8 (List.map Te.enc a.args) 0 11 (o8 a0),j5 47 [(stA [105,102]),(.dt (.row [o8 a0,o8 e,o8 d]))] (o6 (ap x8 [a0,e,d])),_] func102 ⟨lJ D9 a,C9 (by simp[hk]),C9 (by simp[hk]),(aQ a D9 1).b (U5 hi),M5 h0,jF x8 a0 e d,hc,Z⟩
theorem b5B{a d e:Te}{qs:List Te}{cs:aa0}{ex er:Int}{cs':aa0}{P8 P9:Int}{a0 a1 a2:Te}(hk:a.kind≠2)(hi:¬is a D9 1)(hj:is a x8 3)(h0:a.args[0]?=some a0)(h1:a.args[1]?=some a1)(h2:a.args[2]?=some a2)(hc:D6 56 [.ptr 0 0,o6 (ap x8 [a0,ap x8 [a1,d,e],ap x8 [a2,d,e]]),C8 qs] (K9 cs ex er) (.l7 []) (K9 cs' P8 P9))  : D6 102 [.ptr 0 0,o6 a,o6 d,o6 e,C8 qs] (K9 cs ex er) (.l7 []) (K9 cs' P8 P9) :=
 sW 2 [0,1] [.av (o6 (ap D9 [a])),yF,yF,yF,yT,.av (.pin ((o8 a0).map .dt)),.av (.pin ((o8 a1).map .dt)),.av (o6 (ap x8 [a1,d,e])),.av (.pin ((o8 a2).map .dt)),.av (o6 (ap x8 [a2,d,e])),.av (o6 (ap x8 [a0,ap x8 [a1,d,e],ap x8 [a2,d,e]]))] [.J5 9 24 [0,1] (.l7 []) [some (.cells [.own 1 cs'.length,j4 P8,j4 P9]),some (.buf 28 1 cs')]] [j5 47 [(stA [110,111,116]),(.dt (.row [o8 a]))] (o6 (ap D9 [a])),Bk .eql 3 18 2 a.kind bF,Bk .eql 3 31 2 a.kind bF,j5 61 [(o6 a),(stA [110,111,116]),(j4 1)] (l5 false),j5 61 [(o6 a),(stA [105,102]),(j4 3)] (l5 true),z8 (List.map Te.enc a.args) 0 11 (o8 a0),z8 (List.map Te.enc a.args) 1 11 (o8 a1),j5 47 [(stA [105,102]),(.dt (.row [o8 a1,o8 d,o8 e]))] (o6 (ap x8 [a1,d,e])),z8 (List.map Te.enc a.args) 2 11 (o8 a2),j5 47 [(stA [105,102]),(.dt (.row [o8 a2,o8 d,o8 e]))] (o6 (ap x8 [a2,d,e])),j5 47 [(stA [105,102]),(.dt (.row [o8 a0,o8 (ap x8 [a1,d,e]),o8 (ap x8 [a2,d,e])]))] (o6 (ap x8 [a0,ap x8 [a1,d,e],ap x8 [a2,d,e]])),_] func102 ⟨lJ D9 a,C9 (by simp[hk]),C9 (by simp[hk]),(aQ a D9 1).b (M8 hi),(aQ a x8 3).b (U5 hj),M5 h0,M5 h1,jF x8 a1 d e,M5 h2,jF x8 a2 d e,jF x8 a0 (ap x8 [a1,d,e]) (ap x8 [a2,d,e]),hc,Z⟩
theorem b5C{a d e:Te}{qs:List Te}{cs:aa0}{ex er:Int}{cs':aa0}{P8 P9:Int}{b:Te}(hk:a.kind≠2)(hi:¬is a D9 1)(hj:¬is a x8 3)(hn:opened a=some b)(hc:D6 56 [.ptr 0 0,o6 (ap x8 [b,d,e]),C8 qs] (K9 cs ex er) (.l7 []) (K9 cs' P8 P9))  : D6 102 [.ptr 0 0,o6 a,o6 d,o6 e,C8 qs] (K9 cs ex er) (.l7 []) (K9 cs' P8 P9) :=
 sW 2 [0,1] [.av (o6 (ap D9 [a])),yF,yF,yF,yF,.av (.l7 [o6 b,l5 true]),.av (o6 (ap x8 [b,d,e]))] [.J5 12 7 [0,1] (.l7 []) [some (.cells [.own 1 cs'.length,j4 P8,j4 P9]),some (.buf 28 1 cs')]] [j5 47 [(stA [110,111,116]),(.dt (.row [o8 a]))] (o6 (ap D9 [a])),Bk .eql 3 18 2 a.kind bF,Bk .eql 3 31 2 a.kind bF,j5 61 [(o6 a),(stA [110,111,116]),(j4 1)] (l5 false),j5 61 [(o6 a),(stA [105,102]),(j4 3)] (l5 false),j5 101 [(o6 a)] (.l7 [(o6 b),(l5 true)]),j5 47 [(stA [105,102]),(.dt (.row [o8 b,o8 d,o8 e]))] (o6 (ap x8 [b,d,e])),_] func102 ⟨lJ D9 a,C9 (by simp[hk]),C9 (by simp[hk]),(aQ a D9 1).b (M8 hi),(aQ a x8 3).b (M8 hj),(nA a).val (by rw[hn]),jF x8 b d e,hc,Z⟩
theorem b5D{a d e:Te}{qs:List Te}{cs:aa0}{ex er:Int}{cs':aa0}{P8 P9:Int}(hk:a.kind≠2)(hi:¬is a D9 1)(hj:¬is a x8 3)(hn:opened a=none)(hl:qs.length≤100000)(hq:∀q∈qs,q.Wf)(hm:a∈qs)(hc:D6 56 [.ptr 0 0,o6 d,C8 qs] (K9 cs ex er) (.l7 []) (K9 cs' P8 P9))  : D6 102 [.ptr 0 0,o6 a,o6 d,o6 e,C8 qs] (K9 cs ex er) (.l7 []) (K9 cs' P8 P9) :=
 sW 2 [0,1] [.av (o6 (ap D9 [a])),yF,yF,yF,yF,.av (.l7 [o6 F4,l5 false]),yT] [.J5 16 3 [0,1] (.l7 []) [some (.cells [.own 1 cs'.length,j4 P8,j4 P9]),some (.buf 28 1 cs')]] [j5 47 [(stA [110,111,116]),(.dt (.row [o8 a]))] (o6 (ap D9 [a])),Bk .eql 3 18 2 a.kind bF,Bk .eql 3 31 2 a.kind bF,j5 61 [(o6 a),(stA [110,111,116]),(j4 1)] (l5 false),j5 61 [(o6 a),(stA [105,102]),(j4 3)] (l5 false),j5 101 [(o6 a)] (.l7 [(.agg [(j4 0),(stA F4.np),(stA F4.nn),(j4 0),(stA F4.val.num),(stA F4.val.den),(stA F4.val.sp),(stA F4.val.sn),(stA F4.val.text),(.dt (.row (List.map Ob.enc F4.val.pair))),(.dt (.row (List.map Te.enc F4.args)))]),(l5 false)]),j5 63 [(.dt (.row (List.map Te.enc qs))),(o6 a)] (l5 true),_] func102 ⟨lJ D9 a,C9 (by simp[hk]),C9 (by simp[hk]),(aQ a D9 1).b (M8 hi),(aQ a x8 3).b (M8 hj),(nA a).val (by rw[hn]),(iX J hq a).b (U5 hm),hc,Z⟩
theorem b5E{a d e:Te}{qs:List Te}{cs:aa0}{ex er:Int}{cs':aa0}{P8 P9:Int}(hk:a.kind≠2)(hi:¬is a D9 1)(hj:¬is a x8 3)(hn:opened a=none)(hl:qs.length≤100000)(hq:∀q∈qs,q.Wf)(hm:a ∉ qs)(hm2:ap D9 [a]∈qs)(hc:D6 56 [.ptr 0 0,o6 e,C8 qs] (K9 cs ex er) (.l7 []) (K9 cs' P8 P9))  : D6 102 [.ptr 0 0,o6 a,o6 d,o6 e,C8 qs] (K9 cs ex er) (.l7 []) (K9 cs' P8 P9) :=
 sW 2 [0,1] [.av (o6 (ap D9 [a])),yF,yF,yF,yF,.av (.l7 [o6 F4,l5 false]),yF,yT] [.J5 18 3 [0,1] (.l7 []) [some (.cells [.own 1 cs'.length,j4 P8,j4 P9]),some (.buf 28 1 cs')]] [j5 47 [(stA [110,111,116]),(.dt (.row [o8 a]))] (o6 (ap D9 [a])),Bk .eql 3 18 2 a.kind bF,Bk .eql 3 31 2 a.kind bF,j5 61 [(o6 a),(stA [110,111,116]),(j4 1)] (l5 false),j5 61 [(o6 a),(stA [105,102]),(j4 3)] (l5 false),j5 101 [(o6 a)] (.l7 [(.agg [(j4 0),(stA F4.np),(stA F4.nn),(j4 0),(stA F4.val.num),(stA F4.val.den),(stA F4.val.sp),(stA F4.val.sn),(stA F4.val.text),(.dt (.row (List.map Ob.enc F4.val.pair))),(.dt (.row (List.map Te.enc F4.args)))]),(l5 false)]),j5 63 [(.dt (.row (List.map Te.enc qs))),(o6 a)] (l5 false),j5 63 [(.dt (.row (List.map Te.enc qs))),(o6 (ap D9 [a]))] (l5 true),_] func102 ⟨lJ D9 a,C9 (by simp[hk]),C9 (by simp[hk]),(aQ a D9 1).b (M8 hi),(aQ a x8 3).b (M8 hj),(nA a).val (by rw[hn]),(iX J hq a).b (M8 hm),(iX J hq (ap D9 [a])).b (U5 hm2),hc,Z⟩
theorem b5F{a d e:Te}{qs:List Te}{cs:aa0}{ex er:Int}{cs1:aa0}{BC BD:Int}{cs':aa0}{P8 P9:Int}(hk:a.kind≠2)(hi:¬is a D9 1)(hj:¬is a x8 3)(hn:opened a=none)(hl:qs.length≤100000)(hq:∀q∈qs,q.Wf)(hm:a ∉ qs)(hm2:ap D9 [a] ∉ qs)(hc1:D6 56 [.ptr 0 0,o6 d,C8 (qs++[a])] (K9 cs ex er) (.l7 []) (K9 cs1 BC BD))(hc2:D6 56 [.ptr 0 0,o6 e,C8 (qs++[ap D9 [a]])] (K9 cs1 BC BD) (.l7 []) (K9 cs' P8 P9))  : D6 102 [.ptr 0 0,o6 a,o6 d,o6 e,C8 qs] (K9 cs ex er) (.l7 []) (K9 cs' P8 P9) :=
 sW 2 [0,1] [.av (o6 (ap D9 [a])),yF,yF,yF,yF,.av (.l7 [o6 F4,l5 false]),yF,yF,.av (.ax (K3 qs)),.av (.un),.av (.ax (K3 qs)),.av (.un)] [.J5 13 7 [0,1] (.l7 []) [some (.cells [.own 1 cs1.length,j4 BC,j4 BD]),some (.buf 28 1 cs1)],.J5 14 7 [0,1] (.l7 []) [some (.cells [.own 1 cs'.length,j4 P8,j4 P9]),some (.buf 28 1 cs')]] [j5 47 [(stA [110,111,116]),(.dt (.row [o8 a]))] (o6 (ap D9 [a])),Bk .eql 3 18 2 a.kind bF,Bk .eql 3 31 2 a.kind bF,j5 61 [(o6 a),(stA [110,111,116]),(j4 1)] (l5 false),j5 61 [(o6 a),(stA [105,102]),(j4 3)] (l5 false),j5 101 [(o6 a)] (.l7 [(.agg [(j4 0),(stA F4.np),(stA F4.nn),(j4 0),(stA F4.val.num),(stA F4.val.den),(stA F4.val.sp),(stA F4.val.sn),(stA F4.val.text),(.dt (.row (List.map Ob.enc F4.val.pair))),(.dt (.row (List.map Te.enc F4.args)))]),(l5 false)]),j5 63 [(.dt (.row (List.map Te.enc qs))),(o6 a)] (l5 false),j5 63 [(.dt (.row (List.map Te.enc qs))),(o6 (ap D9 [a]))] (l5 false),j5 127 [(.dt (.row (List.map Te.enc qs)))] (.ax (K3 qs)),1≤(([o8 a]).length),P7 176 ((K3 qs++[o8 a]).length),L8 11 (K3 qs++[o8 a]),D6 56 [AV.ptr 0 0,o6 d,AV.dt (Dt.row (K3 qs++[o8 a]))] [some (Bx.cells [AV.own 1 cs.length,AV.dt (Dt.val (vi ex)),AV.dt (Dt.val (vi er))]),some (Bx.buf 28 1 cs)] (AV.l7 []) [some (Bx.cells [AV.own 1 cs1.length,j4 BC,j4 BD]),some (Bx.buf 28 1 cs1)],((K3 qs++[o8 a]).length)=((K3 qs++[o8 a]).length),j5 127 [(.dt (.row (List.map Te.enc qs)))] (.ax (K3 qs)),1≤(([o8 (ap D9 [a])]).length),P7 176 ((K3 qs++[o8 (ap D9 [a])]).length),L8 11 (K3 qs++[o8 (ap D9 [a])]),D6 56 [AV.ptr 0 0,o6 e,AV.dt (Dt.row (K3 qs++[o8 (ap D9 [a])]))] [some (Bx.cells [AV.own 1 cs1.length,AV.dt (Dt.val (vi BC)),AV.dt (Dt.val (vi BD))]),some (Bx.buf 28 1 cs1)] (AV.l7 []) [some (Bx.cells [AV.own 1 cs'.length,j4 P8,j4 P9]),some (Bx.buf 28 1 cs')],((K3 qs++[o8 (ap D9 [a])]).length)=((K3 qs++[o8 (ap D9 [a])]).length)] func102 ⟨lJ D9 a,C9 (by simp[hk]),C9 (by simp[hk]),(aQ a D9 1).b (M8 hi),(aQ a x8 3).b (M8 hj),(nA a).val (by rw[hn]),(iX J hq a).b (M8 hm),(iX J hq (ap D9 [a])).b (M8 hm2),VI qs J,PP 1,bE J (by simp;omega),yI qs a ▸ sJ _,yI qs a ▸ hc1,rfl,VI qs J,PP 1,bE J (by simp;omega),yI qs (ap D9 [a]) ▸ sJ _,yI qs (ap D9 [a]) ▸ hc2,rfl,Z⟩
namespace Te
inductive Gd:Te→Prop
 |mk (t:Te) (hv:t.val.Wf) (hn:t.val.kind=2∧t.val.sp=o9∧t.val.sn=R8→t.val=K8) (hl:t.args.length≤9223372036854775807) (h:∀x∈t.args,Gd x):Gd t
theorem Gd.nil{t:Te}(h:t.Gd):t.val.kind=2∧t.val.sp=o9∧t.val.sn=R8↔t.val=K8:=by
 cases h with | mk _ hv hn hl hh=>exact⟨hn,fun e=>by rw[e];exact⟨rfl,rfl,rfl⟩⟩
theorem Gd.kids{t x:Te}(h:t.Gd)(hx:x∈t.args):x.Gd:=by cases h with | mk _ hv hn hl hh=>exact hh x hx
theorem Gd.wf{t:Te}(h:t.Gd):t.Wf:=by
 induction h with
 |mk t hv hn hl hh ih=>exact .mk t hv hl ih
theorem ze:Q9.Wf:=.mk _ O O O O O O O O (fun x hx=>by cases hx)
theorem DI{p n:lw}(hp:p.length≤1000)(hn:n.length≤1000):(jc p n).Wf:=.mk _ (by show (-9223372036854775808:Int)≤2;omega) (by show (2:Int)≤9223372036854775807;omega) (Ci _) (Ci _) (by show p.length≤_;omega) (by show n.length≤_;omega) (Ci _) (Ci _) (fun x hx=>by cases hx)
theorem Gd.ap{n:lw}{l:List Te}(hl:l.length≤1000)(h:∀x∈l,x.Gd):(Te.ap n l).Gd:=.mk _ ze (fun e=>by cases e.1) (by show l.length≤_;omega) h
theorem Gd.H9{o:Ob}(hv:o.Wf)(hn:o.kind=2∧o.sp=o9∧o.sn=R8→o=K8):(Te.H9 o).Gd:=.mk _ hv hn (Ci _) (fun x hx=>by cases hx)
theorem zq:r9.Gd:=.H9 (DI O O) (fun e=>by cases e.2.2)
theorem EF:noT.Gd:=.H9 (DI O O) (fun _=>rfl)
theorem Gd.arg{t:Te}{n:lw}{k i:Nat}(h:t.Gd)(hi:is t n k)(hk:i < k):(t.arg i).Gd:=h.kids (q8 (aA hi hk))
theorem Gs{a:Te}(ha:a.Gd):∀x∈[a],x.Gd:=fun x hx=>by rw[Cf]at hx;subst hx;exact ha
theorem gd3{a b c:Te}(ha:a.Gd)(hb:b.Gd)(hc:c.Gd):∀x∈[a,b,c],x.Gd:=fun x hx=>by
 simp only[Za3,Zat,Zb4]at hx;rcases hx with rfl | rfl | rfl
 ·exact ha
 ·exact hb
 ·exact hc
theorem Gd.not{a:Te}(h:a.Gd):(Te.ap D9 [a]).Gd:=.ap (by show 1≤1000;omega) (Gs h)
theorem Gd.eY{a b c:Te}(ha:a.Gd)(hb:b.Gd)(hc:c.Gd):(Te.ap x8 [a,b,c]).Gd:=.ap (by show 3≤1000;omega) (gd3 ha hb hc)
theorem Gd.opened{t a:Te}(h:t.Gd)(e:Te.opened t=some a):a.Gd:=by
 unfold Te.opened at e;split at e
 ·rename_i hi;cases e;exact (h.arg hi J).eY EF zq
 split at e
 ·rename_i hi;cases e;exact (h.arg hi (show 0 < 2 by omega)).eY ((h.arg hi (show 1 < 2 by omega)).eY zq EF) zq
 split at e
 ·rename_i hi;cases e;exact (h.arg hi (show 0 < 2 by omega)).eY ((h.arg hi (show 1 < 2 by omega)).eY zq EF) ((h.arg hi (show 1 < 2 by omega)).eY EF zq)
 ·cases e
end Te
theorem a7J(D:List Te→List Te)(s:NS)(c:List Te):(s.fail D c).ex=s.ex:=by unfold NS.fail;split <;> rfl
theorem a4V(D:List Te→List Te)(s:NS)(c:List Te)(h:s.out.length≤400):(s.fail D c).out.length≤400:=by
 unfold NS.fail;split
 ·exact h
 ·rename_i hn;show (s.out++[D c]).length≤400;rw[lm,Zak];omega
theorem Uj(s:NS):s.tick.ex=s.ex+1:=rfl
theorem Uk{s:NS}(h:¬s.tick.er≠0):s.ex < 20000∧s.er=0∧s.tick=⟨s.out,s.ex+1,s.er⟩:=by
 unfold NS.tick at h ⊢;split at h
 ·exact absurd (show (2:Int)≠0 by decide) h
 ·rename_i h1;rw[EQ h1];exact⟨J,by simpa using h,rfl⟩
theorem yQ(D:List Te→List Te):∀(f:Nat) (t:Te) (qs:List Te) (s:NS),s.out.length≤400→s.ex≤(O0 D f t qs s).ex∧(O0 D f t qs s).ex≤max (s.ex+1) (20000+f)∧(O0 D f t qs s).out.length≤400
 |0,_,_,s,h=>by rw[O0];exact⟨Int.le_refl _,J,h⟩
 |f+1,t,qs,s,h=>by
  rw[O0];split
  ·rw[Uj];exact⟨J,J,h⟩
  rename_i he;obtain⟨h1,h2,h3⟩:=Uk he;have hto:s.tick.out.length≤400:=h;have hte:=Uj s;have step:∀t' uB,s.ex≤(O0 D f t' uB s.tick).ex∧(O0 D f t' uB s.tick).ex≤max (s.ex+1) (20000+(f+1:Nat))∧(O0 D f t' uB s.tick).out.length≤400:=fun t' uB=>by
   obtain⟨k1,k2,k3⟩:=yQ D f t' uB s.tick hto;exact⟨J,J,k3⟩
  have fl:∀c,s.ex≤(s.tick.fail D c).ex∧(s.tick.fail D c).ex≤max (s.ex+1) (20000+(f+1:Nat))∧(s.tick.fail D c).out.length≤400:=fun c=>by
   rw[a7J];exact⟨J,J,a4V D _ c hto⟩
  have st:s.ex≤s.tick.ex∧s.tick.ex≤max (s.ex+1) (20000+(f+1:Nat))∧s.tick.out.length≤400:=⟨J,J,hto⟩;split
  ·split
   ·exact fl _
   ·exact st
  split
  ·exact step _ _
  split
  ·split
   ·exact step _ _
   split
   ·exact step _ _
   split
   ·exact step _ _
   split
   ·exact step _ _
   split
   ·exact step _ _
   split
   ·exact step _ _
   split
   ·exact step _ _
   ·obtain⟨k1,k2,k3⟩:=yQ D f (t.arg 1) (qs++[t.arg 0]) s.tick hto;obtain⟨m1,m2,m3⟩:=yQ D f (t.arg 2) (qs++[ap D9 [t.arg 0]]) _ k3;exact⟨J,by
     rcases Zaa f with h0 | h0
     ·subst h0;rw[O0,O0];omega
     ·omega,m3⟩
  ·split
   ·exact st
   split
   ·exact fl _
   ·exact fl _
def Ou(D:List Te→List Te)(f:Nat)(a d e:Te)(qs:List Te)(s:NS):NS :=
 if a.kind=2∧a.val=K8 then O0 D f e qs s
 else if a.kind=2 then O0 D f d qs s
 else if is a D9 1 then O0 D f (ap x8 [a.arg 0,e,d]) qs s
 else if is a x8 3 then O0 D f (ap x8 [a.arg 0,ap x8 [a.arg 1,d,e],ap x8 [a.arg 2,d,e]]) qs s
 else match opened a with
  |some a'=>O0 D f (ap x8 [a',d,e]) qs s
  |none =>
   if a∈qs then O0 D f d qs s
   else if ap D9 [a]∈qs then O0 D f e qs s
   else O0 D f e (qs++[ap D9 [a]]) (O0 D f d (qs++[a]) s)
theorem a4W(D:List Te→List Te)(f:Nat)(t:Te)(qs:List Te)(s:NS):O0 D (f+1) t qs s =
  if s.tick.er≠0 then s.tick else
  if t.kind=2 then (if t.val=K8 then s.tick.fail D (qs.map neg) else s.tick) else
  match opened t with
  |some t'=>O0 D f t' qs s.tick
  |none =>
   if is t x8 3 then Ou D f (t.arg 0) (t.arg 1) (t.arg 2) qs s.tick
   else if t∈qs then s.tick
   else if ap D9 [t]∈qs then s.tick.fail D (qs.map neg)
   else s.tick.fail D (qs.map neg++[t]):=by rw[O0];rfl
def Exm(f:Nat):Prop:=∀(t:Te) (qs:List Te) (s:NS),t.Gd→(∀q∈qs,q.Gd)→(qs.length:Int)≤s.ex→s.ex≤45000→20001≤s.ex+f→1≤f→s.out.length≤400→D6 56 [.ptr 0 0,o6 t,C8 qs] (J6 s) (.l7 []) (J6 (O0 id f t qs s))
theorem RX{t:Te}(h:t.Gd)(e:t.val=K8):j5 45 [o7 t.val] (l5 true):=(RU t.val).b (Pi (h.nil.2 e))
theorem RY{t:Te}(h:t.Gd)(e:t.val≠K8):j5 45 [o7 t.val] (l5 false):=(RU t.val).b (WF fun h'=>e (h.nil.1 h'))
theorem yU{qs:List Te}{a:Te}(h:∀q∈qs,q.Gd)(ha:a.Gd):∀q∈qs++[a],q.Gd:=fun q hq=>by
 rcases ZaA.1 hq with hq | hq
 ·exact h q hq
 ·exact Gs ha q hq
theorem a4X{f:Nat}(hE:Exm f)(hf2:f≤20002)(a d e:Te)(qs:List Te)(s:NS)(ha:a.Gd)(hd:d.Gd)(he:e.Gd)(hq:∀q∈qs,q.Gd)(hl:(qs.length:Int)+1≤s.ex)(hx:s.ex≤20000)(hf:20001≤s.ex+f)(ho:s.out.length≤400):D6 102 [.ptr 0 0,o6 a,o6 d,o6 e,C8 qs] (J6 s) (.l7 []) (J6 (Ou id f a d e qs s)):=by
 have ex:∀t,t.Gd→D6 56 [.ptr 0 0,o6 t,C8 qs] (J6 s) (.l7 []) (J6 (O0 id f t qs s)):=fun t ht=>hE t qs s ht hq J J hf J ho
 have uE:∀q∈qs,q.Wf:=fun q h=>(hq q h).wf
 have hl2:qs.length≤100000:=J;unfold Ou;split
 ·rename_i hk;exact b5y hk.1 (RX ha hk.2) (ex e he)
 rename_i hnk;split
 ·rename_i hk;exact b5z hk (RY ha fun h=>hnk ⟨hk,h⟩) (ex d hd)
 rename_i hk;split
 ·rename_i hi;exact b5A hk hi (aA hi J) (ex _ ((ha.arg hi J).eY he hd))
 rename_i hi;split
 ·rename_i hj;exact b5B hk hi hj (aA hj (show 0 < 3 by omega)) (aA hj (show 1 < 3 by omega)) (aA hj (show 2 < 3 by omega)) (ex _ ((ha.arg hj (show 0 < 3 by omega)).eY ((ha.arg hj (show 1 < 3 by omega)).eY hd he) ((ha.arg hj (show 2 < 3 by omega)).eY hd he)))
 rename_i hj;split
 ·rename_i b hn;exact b5C hk hi hj hn (ex _ ((ha.opened hn).eY hd he))
 rename_i hn;split
 ·rename_i hm;exact b5D hk hi hj hn hl2 uE hm (ex d hd)
 rename_i hm;split
 ·rename_i hm2;exact b5E hk hi hj hn hl2 uE hm hm2 (ex e he)
 rename_i hm2;obtain⟨k1,k2,k3⟩:=yQ id f d (qs++[a]) s ho;exact b5F hk hi hj hn hl2 uE hm hm2 (hE d (qs++[a]) s hd (yU hq ha) (by simp;omega) J hf J ho) (hE e (qs++[ap D9 [a]]) _ he (yU hq ha.not) (by simp;omega) J J J k3)
theorem KL:∀f:Nat,f≤20002→Exm f
 |0,_=>fun t qs s _ _ _ _ _ h=>J
 |f+1,hf2=>fun t qs s ht hq hl hx hf _ ho=>by
  have uE:∀q∈qs,q.Wf:=fun q h=>(hq q h).wf
  have hl0:(0:Int)≤s.ex:=J;rw[a4W];split
  ·rename_i he;by_cases h1:20000 < s.ex+1
   ·have e:s.tick=⟨s.out,s.ex+1,2⟩:=by unfold NS.tick;rw[Ch h1]
    rw[e];exact b2O hl0 J J
   ·have e:s.tick=⟨s.out,s.ex+1,s.er⟩:=by unfold NS.tick;rw[EQ h1]
    rw[e]at he ⊢
    exact b2P hl0 J J he
  rename_i he;obtain⟨h1,h2,h3⟩:=Uk he;rw[h3];have hl2:qs.length≤100000:=J;have pf:∀ms,ms.length≤1000→D6 100 [.ptr 0 0,C8 qs,C8 ms] (J6 ⟨s.out,s.ex+1,s.er⟩) (.l7 []) (J6 (NS.fail id ⟨s.out,s.ex+1,s.er⟩ (qs.map neg++ms))):=fun ms hm=>b0h _ qs ms hl2 hm ho
  have Ov:=pf [] O;rw[ZaB]at Ov;split
  ·rename_i hk;split
   ·rename_i hn;exact b2Q hl0 J h1 h2 hk (RX ht hn) Ov
   ·rename_i hn;exact b2R hl0 J h1 h2 hk (RY ht hn)
  rename_i hk;split
  ·rename_i a hn;exact b2S hl0 J h1 h2 hk hn (KL f J a qs ⟨s.out,s.ex+1,s.er⟩ (ht.opened hn) hq (by show (qs.length:Int)≤s.ex+1;omega) (by show s.ex+1≤45000;omega) (by show 20001≤s.ex+1+f;omega) J ho)
  rename_i hn;split
  ·rename_i hi;exact b2T hl0 J h1 h2 hk hn hi (aA hi (show 0 < 3 by omega)) (aA hi (show 1 < 3 by omega)) (aA hi (show 2 < 3 by omega)) (a4X (KL f J) J _ _ _ qs ⟨s.out,s.ex+1,s.er⟩ (ht.arg hi (show 0 < 3 by omega)) (ht.arg hi (show 1 < 3 by omega)) (ht.arg hi (show 2 < 3 by omega)) hq (by show (qs.length:Int)+1≤s.ex+1;omega) (by show s.ex+1≤20000;omega) (by show 20001≤s.ex+1+f;omega) ho)
  rename_i hi;split
  ·rename_i hm;exact b2U hl0 J h1 h2 hk hn hi J uE hm
  rename_i hm;split
  ·rename_i hm2;exact b2V hl0 J h1 h2 hk hn hi J uE hm hm2 Ov
  ·rename_i hm2;exact b2W hl0 J h1 h2 hk hn hi J uE hm hm2 (pf [t] (by show 1≤1000;omega))
abbrev MP(s:NS):AV:=if s.er=0 then .l7 [wY s.out,j4 0] else .l7 [.dt (.row []),j4 s.er]
theorem b2X{t:Te}{cs:aa0}{ex er:Int}(hc:D6 56 [.ptr 0 0,o6 t,.dt (.row [])] [some (.cells [.nil,j4 0,j4 0])] (.l7 []) (K9 cs ex er)):j5 24 [o6 t] (if er=0 then .l7 [.dt (.row cs),j4 0] else .l7 [.dt (.row []),j4 er]):=by
 by_cases h:er=0
 ·rw[Ch h];exact pW [yF] [.J5 2 2 [1] (.l7 []) [some (.cells [.own 1 cs.length,j4 ex,j4 er]),some (.buf 28 1 cs)]] [_,Bk .neq 37 13 0 er bF,(cs.length)=(cs.length)] func24 ⟨hc,E5 (by simp[h]),rfl,Z⟩
 ·rw[EQ h];exact pW [yT] [.J5 2 2 [1] (.l7 []) [some (.cells [.own 1 cs.length,j4 ex,j4 er]),some (.buf 28 1 cs)]] [_,Bk .neq 37 13 0 er bT] func24 ⟨hc,E5 (by simp[h]),Z⟩
theorem PE{t:Te}(ht:t.Gd):j5 24 [o6 t] (MP (O0 id 20002 t [] ⟨[],0,0⟩)) :=
 b2X (aV.Z9 (KL 20002 (PP _) t [] ⟨[],0,0⟩ ht (fun q hq=>by cases hq) O O O O O))
abbrev mO(l out:List Te)(i:Int):AS:=⟨stt 36 [(1,C8 l),(5,.own 0 (K3 out).length),(6,j4 i)],[some (.buf 47 11 (K3 out))]⟩
noncomputable abbrev Gt:Code:=M6 (O4 f12) [1,1,0,1,0,0]
theorem b5G{l out:List Te}{x:Te}{i:Nat}(hx:l[i]?=some x)(hl:l.length≤100000)(hw:∀y∈out,y.Wf)(ho:out.length≤200000)(hm:x∈out):y7 EX Gt (mO l out i) .F6 (mO l out ((i+1:Nat):Int)) :=
 tW [.av (j4 l.length),yT,.av (.pin ((o8 x).map .dt)),yT,.av (j4 ((i+1:Nat):Int))] [] [1,5,6] 1 [(vi ↑l.length)=(vi (↑(List.map Te.enc l).length)),Bt .lss 3 15 17 ↑i ↑l.length bT,z8 (List.map Te.enc l) ↑i 11 (o8 x),j5 39 [(.dt (.row (K3 out))),(o6 x)] (l5 true),((K3 out).length)=((K3 out).length),Bk .add 3 19 1 ↑i (vi (↑(i+1)))]     ⟨F9 _,D8 (Pi (by have:=(UV.1 hx).1;omega)),M5 hx,(Uh J hw x).b (U5 hm),rfl,H6 J J (by have:=(UV.1 hx).1;omega),Z⟩
theorem b5H{l out:List Te}{x:Te}{i:Nat}(hx:l[i]?=some x)(hl:l.length≤100000)(hw:∀y∈out,y.Wf)(ho:out.length≤200000)(hm:x ∉ out):y7 EX Gt (mO l out i) .F6 (mO l (out++[x]) ((i+1:Nat):Int)):=by
 rw[show mO l (out++[x]) ((i+1:Nat):Int)=⟨stt 36 [(1,C8 l),(5,.own 0 (K3 out++[o8 x]).length),(6,j4 ((i+1:Nat):Int))],[some (.buf 47 11 (K3 out++[o8 x]))]⟩ by rw[yI]]
 exact tW [.av (j4 l.length),yT,.av (.pin ((o8 x).map .dt)),yF,.av (.pin ((o8 x).map .dt)),.av (.un),.av (j4 ((i+1:Nat):Int))] [] [1,5,6] 1 [(vi ↑l.length)=(vi (↑(List.map Te.enc l).length)),Bt .lss 3 15 17 ↑i ↑l.length bT,z8 (List.map Te.enc l) ↑i 11 (o8 x),j5 39 [(.dt (.row (K3 out))),(o6 x)] (l5 false),((K3 out).length)=((K3 out).length),z8 (List.map Te.enc l) ↑i 11 (o8 x),((K3 out).length)=((K3 out).length),P7 176 ((K3 out++[o8 x]).length),L8 11 [o8 x],Bk .add 3 19 1 ↑i (vi (↑(i+1)))]     ⟨F9 _,D8 (Pi (by have:=(UV.1 hx).1;omega)),M5 hx,(Uh J hw x).b (M8 hm),rfl,M5 hx,rfl,bE J (by simp;omega),nC x,H6 J J (by have:=(UV.1 hx).1;omega),Z⟩
theorem b5I{l out:List Te}{i:Nat}(hi:i=l.length):y7 EX Gt (mO l out i) (.out 0) (mO l out i) :=
 tW [.av (j4 l.length),yF] [] [1,5,6] 1 [(vi ↑l.length)=(vi (↑(List.map Te.enc l).length)),Bt .lss 3 15 17 ↑i ↑l.length bF]     ⟨F9 _,D8 (WF J),Z⟩
theorem a7K{l:List Te}(hl:l.length≤100000)(hw:∀y∈l,y.Wf):∀(s:List Te) (i:Nat) (out:List Te),l.drop i=s→i≤l.length→(∀y∈out,y.Wf)→out.length+s.length≤200000→I7 EX Gt (mO l out i) (.out 0) (mO l (addN out s) l.length):=by
 intro s
 induction s with
 |nil =>
  intro i out hd hi he _;have e1:=congrArg List.length hd;rw[ut,List.length_nil]at e1;obtain rfl:i=l.length:=J;rw[addN];exact .stop (b5I rfl) (fun h=>by cases h)
 |cons x s ih =>
  intro i out hd hi he ho;have hx:l[i]?=some x:=by rw[←Za1,hd];rfl
  have hlt:=(UV.1 hx).1;rw[yM]at ho;rw[addN];by_cases hm:x∈out
  ·rw[Ch hm];exact .more (b5G hx hl he J hm) (ih (i+1) out (by rw[←Za0,hd];rfl) J he J)
  ·rw[EQ hm];refine .more (b5H hx hl he J hm) (ih (i+1) (out++[x]) (by rw[←Za0,hd];rfl) J (fun y hy=>?_) (by rw[lm,Zak];omega));rcases ZaA.1 hy with hy | hy
   ·exact he y hy
   ·rw[Cf]at hy;subst hy;exact hw _ (q8 hx)
theorem Ky{c l:List Te}(hc:c.length≤100000)(hl:l.length≤100000)(hcw:∀y∈c,y.Wf)(hw:∀y∈l,y.Wf):j5 12 [C8 c,C8 l] (C8 (addN c l)):=by
 have ht:=(a7K hl hw l 0 c rfl (Ci _) hcw J).I8;generalize addN c l=r at *;exact pW [.av (j4 c.length),.av (j4 l.length),.av (j4 (c.length+l.length:Nat)),.no,.av (.un)] [.inv [1,5,6] 1 (.out 0) (mO l r l.length)] [(vi ↑c.length)=(vi (↑(List.map Te.enc c).length)),(vi ↑l.length)=(vi (↑(List.map Te.enc l).length)),Bt .add 3 8 10 ↑c.length ↑l.length (vi (↑(c.length+l.length))),kV 176 (↑(c.length+l.length)),0=0,P7 176 (([]++List.map Te.enc c).length),L8 11 (List.map Te.enc c),_,((K3 r).length)=((K3 r).length)] func12 ⟨F9 _,F9 _,H6 J J J,⟨J,J,by show ((c.length+l.length:Nat):Int)≤((2 ^ 63 - 1:Nat):Int);omega⟩,rfl,bE J (by simp;omega),sJ c,ht,rfl,Z⟩
theorem Jh:∀(l out:List Te),(addN out l).length≤out.length+l.length
 |[],out=>by rw[addN];exact PP _
 |x::l,out=>by
  rw[addN,yM];refine pu (Jh l _) ?_;split
  ·omega
  ·rw[lm,Zak];omega
theorem b0i{t:Te}(h:t.Gd):(neg t).Gd:=by
 unfold neg;split
 ·rename_i hi;exact h.arg hi J
 ·exact h.not
end Go.Proofs.YtbpmpdadppamgaaGreatDoor
namespace Go.Proofs.YtbpmpdadppamgaaGreatDoor
open Go.Proofs.Tryz
open Go.RowKit
abbrev wr(n:Int):Int:=IntKind.i64.wrap n
abbrev F5(r:Raw):AV:=.agg [j4 r.kind,j4 r.n,stA r.s,.dt (.row (r.l.map Raw.enc))]
abbrev encR(r:Raw):List Dt:=[.val (.int .i64 r.kind),.val (.int .i64 r.n),.val (str r.s),.row (r.l.map Raw.enc)]
theorem b2Y(r:Raw):r.enc=encR r:=Raw.lU r
theorem kI{l:List Raw}{i:Nat}{o:Raw}(h:l[i]?=some o):z8 (l.map Raw.enc) (i:Int) 4 (encR o):=⟨Int.natCast_nonneg _,by
 rw[Int.toNat_natCast,bi,h];exact congrArg some (b2Y o),rfl⟩
theorem O1(l:List Raw):Value.int .i64 (l.length:Int)=Value.int .i64 ((l.map Raw.enc).length:Int):=by rw[Cc]
theorem Eb(l:lw):Value.int .i64 (l.length:Int)=Value.int .i64 (l.length:Int):=rfl
theorem Z0(n m:Int)(hm:0 < m)(hm1:m≤1000000):j5 54 [j4 n,j4 m] (j4 (n % m)) :=
 ⟨Q3 func54 rfl (by kernel_rfl),fun ok w vs ht hv=>by
  obtain⟨u,us,rfl,h1,h2⟩:=hv;obtain rfl:=RL.eB h2;rw[Rd.Q7 h1];refine (a6L n m w hm hm1).mono ?_;rintro e w' ⟨rfl,rfl⟩;exact⟨_,rfl,Below.refl _ _,.val _⟩⟩
mutual
def fV:Raw→Int→Int
 |⟨_,_,s,l⟩,m=>if 12 < s.length then -1 else if 6 < l.length then -1 else ic l (wr (m - 1))
def ic:List Raw→Int→Int
 |[],m=>m
 |x::r,m=>if 0≤m then ic r (fV x m) else m
end
theorem RZ(r:Raw)(m:Int):fV r m=if 12 < r.s.length then -1 else if 6 < r.l.length then -1 else ic r.l (wr (m - 1)):=by
 cases r;rw[fV]
theorem a2C{l:List Raw}{m:Int}(h:m < 0):ic l m=m:=by
 cases l with
 |nil=>rw[ic]
 |cons x r=>rw[ic,EQ J]
theorem b2Z{n:Int}(h0:-9223372036854775808≤n)(h1:n≤9223372036854775807):wr n=n:=by
 show IntKind.i64.wrap n=n;rw[IntKind.wrap_i64];omega
def iy(r:Raw)(m:Int):Bool:=decide (0≤fV r m)
abbrev oK(r:Raw)(i m:Int):AS:=⟨stt 37 [(1,j4 m),(2,.ptr 0 0),(4,j4 0),(5,j4 i)],[some (.cells [j4 r.kind,j4 r.n,stA r.s,.dt (.row (r.l.map Raw.enc))])]⟩
noncomputable abbrev Gu:Code:=M6 (O4 f53) [1,1,1,0,1,0,0]
theorem b5J{r x:Raw}{i:Nat}{m k:Int}(hx:r.l[i]?=some x)(hl:r.l.length≤6)(h0:0≤m)(hk:j5 53 [F5 x,j4 m] (j4 k)):y7 EX Gu (oK r i m) .F6 (oK r ((i+1:Nat):Int) k) :=
 tW [.av (j4 r.l.length),yT,yT,.av (.pin ((encR x).map .dt)),.av (j4 k),.av (j4 ((i+1:Nat):Int))] [] [1,2,4,5] 1 [(vi ↑r.l.length)=(vi (↑(List.map Raw.enc r.l).length)),Bt .lss 3 18 21 ↑i ↑r.l.length bT,Bk .geq 3 24 0 m bT,z8 (List.map Raw.enc r.l) ↑i 4 (encR x),j5 53 [(F5 x),(j4 m)] (j4 k),Bk .add 3 27 1 ↑i (vi (↑(i+1)))]     ⟨O1 _,D8 (Pi (by have:=(UV.1 hx).1;omega)),U0 (Pi h0),kI hx,hk,H6 J J (by have:=(UV.1 hx).1;omega),Z⟩
theorem b5K{r:Raw}{i:Nat}{m:Int}(hi:i=r.l.length):y7 EX Gu (oK r i m) (.out 0) (oK r i m) :=
 tW [.av (j4 r.l.length),yF] [] [1,2,4,5] 1 [(vi ↑r.l.length)=(vi (↑(List.map Raw.enc r.l).length)),Bt .lss 3 18 21 ↑i ↑r.l.length bF]     ⟨O1 _,D8 (WF J),Z⟩
theorem b5L{r:Raw}{i:Nat}{m:Int}(hi:i < r.l.length)(h0:m < 0):y7 EX Gu (oK r i m) (.out 0) (oK r i m) :=
 tW [.av (j4 r.l.length),yT,yF] [] [1,2,4,5] 1 [(vi ↑r.l.length)=(vi (↑(List.map Raw.enc r.l).length)),Bt .lss 3 18 21 ↑i ↑r.l.length bT,Bk .geq 3 24 0 m bF]     ⟨O1 _,D8 (Pi J),U0 (WF J),Z⟩
theorem b0j:∀(N:Nat) (r:Raw) (m:Int),r.size≤N→j5 53 [F5 r,j4 m] (j4 (fV r m)):=by
 intro N
 induction N with
 |zero=>intro r m h;have:=r.size_pos;omega
 |succ N ih =>
  intro r m hN;rw[RZ];by_cases h12:12 < r.s.length
  ·rw[Ch h12];exact pV [.av (j4 r.s.length),yT] [(vi ↑r.s.length)=(vi (↑r.s.length)),Bk .gtr 3 8 12 ↑r.s.length bT] func53 ⟨Eb _,K4 (Pi J),Z⟩
  rw[EQ h12];by_cases h6:6 < r.l.length
  ·rw[Ch h6];exact pV [.av (j4 r.s.length),yF,.av (j4 r.l.length),yT] [(vi ↑r.s.length)=(vi (↑r.s.length)),Bk .gtr 3 8 12 ↑r.s.length bF,(vi ↑r.l.length)=(vi (↑(List.map Raw.enc r.l).length)),Bk .gtr 3 13 6 ↑r.l.length bT] func53 ⟨Eb _,K4 (WF J),O1 _,K4 (Pi J),Z⟩
  rw[EQ h6];have loop:∀(l:List Raw) (i:Nat) (m:Int),r.l.drop i=l→i≤r.l.length→(∀x∈l,x.size≤N)→∃j:Nat,I7 EX Gu (oK r i m) (.out 0) (oK r j (ic l m)):=by
   intro l
   induction l with
   |nil =>
    intro i m hd hi _;have:i=r.l.length:=by
     have:=congrArg List.length hd;rw[ut,List.length_nil]at this;omega
    rw[ic];exact⟨i,.stop (b5K this) (fun h=>by cases h)⟩
   |cons x l ihl =>
    intro i m hd hi hs;have hx:r.l[i]?=some x:=by rw[←Za1,hd];rfl
    have hlt:=(UV.1 hx).1;rw[ic];by_cases h0:0≤m
    ·rw[Ch h0];obtain⟨j,hj⟩:=ihl (i+1) (fV x m) (by rw[←Za0,hd];rfl) J (fun y hy=>hs y (Cg _ hy));exact⟨j,.more (b5J hx J h0 (ih x m (hs x (NE ..)))) hj⟩
    ·rw[EQ h0];exact⟨i,.stop (b5L hlt J) (fun h=>by cases h)⟩
  obtain⟨j,hj⟩:=loop r.l 0 (wr (m - 1)) rfl (Ci _) (fun x hx=>by have:=Raw.nE hx;omega);generalize ic r.l (wr (m - 1))=k at *;exact pW [.av (j4 r.s.length),yF,.av (j4 r.l.length),yF,.no] [.inv [1,2,4,5] 1 (.out 0) (oK r j k)] [(vi ↑r.s.length)=(vi (↑r.s.length)),Bk .gtr 3 8 12 ↑r.s.length bF,(vi ↑r.l.length)=(vi (↑(List.map Raw.enc r.l).length)),Bk .gtr 3 13 6 ↑r.l.length bF,_] func53 ⟨Eb _,K4 (WF J),O1 _,K4 (WF J),hj.I8,Z⟩
theorem LZ(r:Raw)(m:Int):j5 22 [F5 r,j4 m] (l5 (iy r m)) :=
 pV [.av (j4 (fV r m)),.av (l5 (iy r m))] [j5 53 [(F5 r),(j4 m)] (j4 (fV r m)),Bk .geq 3 7 0 (fV r m) (Value.bool (iy r m))] func22 ⟨b0j _ r m (PP _),U0 rfl,Z⟩
theorem RV.ofRaw{M:Mm}{w:World}{o:Raw}{A:Option Addr}{n c:Nat}(h:Rd M.F w (.slice A n c) (.row (o.l.map Raw.enc))):RV M w (F5 o) (Mt o (.slice A n c)) :=
 ⟨_,rfl,_,_,rfl,.val _,_,_,rfl,.val _,_,_,rfl,.val _,_,_,rfl,h,rfl⟩
namespace Te
abbrev X8(n:lw):Te:=⟨1,I4,n,Q9,[]⟩
abbrev vn(k:Int):lw:=if k=0 then [120] else if k=1 then [121] else [122]
abbrev v3(n:Int):Te:=X8 (vn (n % 3))
def c3(k:Int):Ob:=if k=0 then K8 else if k=1 then tO else (Tr.num 0).ob
abbrev lX:lw:=[99,111,110,115,112]
abbrev iV:lw:=[101,113,117,97,108]
def fk(n:Int)(l:List Te)(i:Nat):Te:=match l[i]? with
 |some t=>t
 |none=>v3 (wr (n+i))
def Bo(k n:Int)(l:List Te):Te :=
 if k % 9=0 then v3 n else if k % 9=1 then H9 (c3 (n % 3)) else if k % 9=2 then ap lX [fk n l 0] else if k % 9=3 then ap D9 [fk n l 0]
 else if k % 9=4 then ap dN [fk n l 0,fk n l 1] else if k % 9=5 then ap fH [fk n l 0,fk n l 1] else if k % 9=6 then ap iV [fk n l 0,fk n l 1] else ap x8 [fk n l 0,fk n l 1,fk n l 2]
mutual
def Y8:Raw→Te
 |⟨k,n,_,l⟩=>Bo k n (Gv l)
def Gv:List Raw→List Te
 |[]=>[]
 |x::r=>Y8 x::Gv r
end
theorem a7L(l:List Raw):Gv l=l.map Y8:=by
 induction l with
 |nil=>rfl
 |cons x r ih=>rw[Gv,ih];rfl
theorem KD(r:Raw):Y8 r=Bo r.kind r.n (r.l.map Y8):=by
 obtain⟨k,n,s,l⟩:=r;rw[Y8,a7L]
theorem Aw(a b:Te):[o8 a,o8 b]=[a,b].map Te.enc:=by simp only[Zaq,List.map_nil,mf]
end Te
open Te
theorem Dj(n:lw)(a b:Te):j5 27 [stA n,.dt (.row [o8 a,o8 b])] (o6 (Te.ap n [a,b])):=JJ n [a,b] (Aw a b)
theorem qh(n:lw):j5 57 [stA n] (p8 I4 n):=pV [] [] func57 trivial
abbrev aO(n:lw):List Dt:=[.val (str I4),.val (str n)]
abbrev sQ:aa0:=[aO [120],aO [121],aO [122]]
abbrev zL:aa0:=[aO [120],aO [121],aO [122],aO [117]]
theorem Ul:j5 25 [j4 3] (.dt (.row sQ)):=pV [.av (p8 I4 [120]),.av (p8 I4 [121]),.av (p8 I4 [122]),.av (p8 I4 [117]),.no,.no,.no] [j5 57 [(stA [120])] (p8 I4 [120]),j5 57 [(stA [121])] (p8 I4 [121]),j5 57 [(stA [122])] (p8 I4 [122]),j5 57 [(stA [117])] (p8 I4 [117]),bV zL 2 0 3 sQ,(none:Option Int)=none∨(none:Option Int)=some (if (if 4 < 3 then 4 else 3) > 0 then if 4 < 3 then 4 else 3 else 0)] func25 ⟨qh _,qh _,qh _,qh _,⟨O,O,O,rfl,.inl rfl⟩,.inl rfl,Z⟩
theorem Dm:j5 25 [j4 4] (.dt (.row zL)):=pV [.av (p8 I4 [120]),.av (p8 I4 [121]),.av (p8 I4 [122]),.av (p8 I4 [117]),.no,.no,.no] [j5 57 [(stA [120])] (p8 I4 [120]),j5 57 [(stA [121])] (p8 I4 [121]),j5 57 [(stA [122])] (p8 I4 [122]),j5 57 [(stA [117])] (p8 I4 [117]),bV zL 2 0 4 zL,(none:Option Int)=none∨(none:Option Int)=some (if (if 4 < 4 then 4 else 4) > 0 then if 4 < 4 then 4 else 4 else 0)] func25 ⟨qh _,qh _,qh _,qh _,⟨O,O,O,rfl,.inl rfl⟩,.inl rfl,Z⟩
theorem sK(n:lw):j5 26 [p8 I4 n] (o6 (X8 n)):=pV [] [] func26 trivial
theorem VJ(n:Int):z8 sQ (n % 3) 2 (aO (vn (n % 3))):=by
 have h0:0≤n % 3:=J;rcases (by omega:n % 3=0∨n % 3=1∨n % 3=2) with h | h | h <;> rw[h] <;> exact⟨O,rfl,rfl⟩
theorem b21(n:Int):z8 [A9 K8,A9 tO,A9 (Tr.num 0).ob] (n % 3) 7 (A9 (c3 (n % 3))):=by
 rcases (by omega:n % 3=0∨n % 3=1∨n % 3=2) with h | h | h <;> rw[h] <;> exact⟨O,rfl,rfl⟩
abbrev jm(r:Raw):List (Option Bx):=[some (.cells [j4 r.kind,j4 r.n,stA r.s,.dt (.row (r.l.map Raw.enc))]),some (.cells [j4 0,stA [],stA [],j4 0,stA [],stA [],stA [],stA [],stA [],.nil,.nil])]
abbrev mP(r:Raw)(es:aa0)(i:Int):AS:=⟨stt 114 [(1,.ptr 0 0),(2,.ptr 1 0),(3,.own 2 es.length),(4,j4 i)],jm r++[some (.buf 47 11 es)]⟩
abbrev dU(r:Raw)(es:aa0):AS:=⟨stt 114 [(1,.ptr 0 0),(2,.ptr 1 0),(3,.dt (.row es)),(4,j4 ((3:Nat):Int))],jm r++[some (.aI es)]⟩
noncomputable abbrev gU:Code:=M6 (O4 f23) [1,1,0,1,0,0]
theorem b5M{r x:Raw}{es:aa0}{i:Nat}{t:Te}(hi:i < 3)(he:es.length=i)(hx:r.l[i]?=some x)(hc:j5 23 [F5 x] (o6 t)):y7 EX gU (mP r es i) .F6 (mP r (es++[o8 t]) ((i+1:Nat):Int)) :=
 tW [yT,.av (j4 r.l.length),yT,.av (.pin ((encR x).map .dt)),.av (o6 t),.av (.un),.av (j4 ((i+1:Nat):Int))] [] [1,2,3,4] 3 [Bk .lss 3 5 3 ↑i bT,(vi ↑r.l.length)=(vi (↑(List.map Raw.enc r.l).length)),Bt .lss 3 9 12 ↑i ↑r.l.length bT,z8 (List.map Raw.enc r.l) ↑i 4 (encR x),j5 23 [(F5 x)] (o6 t),(es.length)=(es.length),P7 176 ((es++[o8 t]).length),L8 11 [o8 t],Bk .add 3 7 1 ↑i (vi (↑(i+1)))]     ⟨D8 (Pi J),O1 _,D8 (Pi (by have:=(UV.1 hx).1;omega)),kI hx,hc,rfl,bE J (by simp;omega),nC t,H6 J J J,Z⟩
theorem b5N{r:Raw}{es:aa0}{i:Nat}(hi:i < 3)(he:es.length=i)(hx:r.l.length≤i):y7 EX gU (mP r es i) .F6 (mP r (es++[o8 (v3 (wr (r.n+i)))]) ((i+1:Nat):Int)):=by
 have h1:=VJ (wr (r.n+i));have h2:=Z0 (wr (r.n+i)) 3 O O;have h3:=sK (vn (wr (r.n+i) % 3));show y7 EX gU _ _ (mP r (es++[o8 (X8 (vn (wr (r.n+i) % 3)))]) _);generalize vn (wr (r.n+i) % 3)=nm at *;generalize wr (r.n+i) % 3=k at *;exact tW [yT,.av (j4 r.l.length),yF,.av (.dt (.row sQ)),.no,.av (j4 k),.av (.pin [stA I4,stA nm]),.av (o6 (X8 nm)),.av (.un),.av (j4 ((i+1:Nat):Int))] [] [1,2,3,4] 3 [Bk .lss 3 5 3 ↑i bT,(vi ↑r.l.length)=(vi (↑(List.map Raw.enc r.l).length)),Bt .lss 3 9 12 ↑i ↑r.l.length bF,j5 25 [(j4 3)] (.dt (.row [[(.val (str I4)),(.val (str [120]))],[(.val (str I4)),(.val (str [121]))],[(.val (str I4)),(.val (str [122]))]])),j5 54 [(j4 (IntKind.i64.wrap (r.n+↑i))),(j4 3)] (j4 k),z8 sQ k 2 ([(.val (str I4)),(.val (str nm))]),j5 26 [(p8 I4 nm)] (o6 (X8 nm)),(es.length)=(es.length),P7 176 ((es++[o8 (X8 nm)]).length),L8 11 [o8 (X8 nm)],Bk .add 3 7 1 ↑i (vi (↑(i+1)))]     ⟨D8 (Pi J),O1 _,D8 (WF J),Ul,h2,h1,h3,rfl,bE J (by simp;omega),nC (X8 nm),H6 J J J,Z⟩
theorem b5O{r:Raw}{es:aa0}:y7 EX gU (mP r es ((3:Nat):Int)) (.out 0) (mP r es ((3:Nat):Int)) :=
 tW [yF] [] [1,2,3,4] 3 [Bk .lss 3 5 3 3 bF]     ⟨D8 (WF O),Z⟩
theorem JK{r:Raw}(h:∀x∈r.l,j5 23 [F5 x] (o6 (Y8 x))){es:aa0}{i:Nat}(hi:i < 3)(he:es.length=i):y7 EX gU (mP r es i) .F6 (mP r (es++[o8 (fk r.n (r.l.map Y8) i)]) ((i+1:Nat):Int)):=by
 unfold fk;rw[bi];cases hx:r.l[i]? with
 |some x=>exact b5M hi he hx (h x (q8 hx))
 |none=>exact b5N hi he (List.getElem?_eq_none_iff.1 hx)
theorem b0k{r:Raw}(h:∀x∈r.l,j5 23 [F5 x] (o6 (Y8 x))):y7 EX (.loop gU) ⟨stt 114 [(1,.ptr 0 0),(2,.ptr 1 0),(3,.nil),(4,j4 0)],jm r⟩ (.out 0) (dU r [o8 (fk r.n (r.l.map Y8) 0),o8 (fk r.n (r.l.map Y8) 1),o8 (fk r.n (r.l.map Y8) 2)]):=by
 have h0:=JK h (es:=[]) (i:=0) O rfl;have h1:=JK h (es:=[]++[o8 (fk r.n (r.l.map Y8) 0)]) (i:=1) O rfl;have h2:=JK h (es:=[]++[o8 (fk r.n (r.l.map Y8) 0)]++[o8 (fk r.n (r.l.map Y8) 1)]) (i:=2) O rfl;exact y7.Bi (s':=mP r [o8 (fk r.n (r.l.map Y8) 0),o8 (fk r.n (r.l.map Y8) 1),o8 (fk r.n (r.l.map Y8) 2)] ((3:Nat):Int)) 3 2 (by show 3 < 114;omega) rfl rfl (y7.Z9 (s:=⟨stt 114 [(1,.ptr 0 0),(2,.ptr 1 0),(3,.nil),(4,j4 0)],jm r⟩) 3 47 11 (by show 3 < 114;omega) rfl (I7.more h0 (.more h1 (.more h2 (.stop b5O (fun h=>by cases h))))).I8)
theorem iN(a b c:Te):z8 [o8 a,o8 b,o8 c] 0 11 (o8 a)∧z8 [o8 a,o8 b,o8 c] 1 11 (o8 b)∧z8 [o8 a,o8 b,o8 c] 2 11 (o8 c):=⟨⟨O,rfl,rfl⟩,⟨O,rfl,rfl⟩,⟨O,rfl,rfl⟩⟩
theorem b22{r:Raw}{a b c:Te}{nm:lw}{k:Int}(hm:j5 54 [j4 r.n,j4 3] (j4 k))(hx:z8 sQ k 2 (aO nm))(ht:y7 EX (.loop gU) ⟨stt 114 [(1,.ptr 0 0),(2,.ptr 1 0),(3,.nil),(4,j4 0)],jm r⟩ (.out 0) (dU r [o8 a,o8 b,o8 c]))(hk:r.kind % 9=0):j5 23 [F5 r] (o6 (X8 nm)) :=
 pW [.av (j4 0),.no,.av (.dt (.row sQ)),.av (j4 k),.av (.pin [stA I4,stA nm]),.av (o6 (X8 nm))] [.inv [1,2,3,4] 2 (.out 0) (dU r [o8 a,o8 b,o8 c])] [_,j5 54 [(j4 r.kind),(j4 9)] (j4 0),_,_,_,j5 26 [(p8 I4 nm)] (o6 (X8 nm))] func23 ⟨ht,(Z0 r.kind 9 O O).val (by rw[hk]),Ul,hm,hx,sK nm,Z⟩
theorem b23{r:Raw}{a b c:Te}{o:Ob}{k:Int}(hm:j5 54 [j4 r.n,j4 3] (j4 k))(hx:z8 [A9 K8,A9 tO,A9 (Tr.num 0).ob] k 7 (A9 o))(ht:y7 EX (.loop gU) ⟨stt 114 [(1,.ptr 0 0),(2,.ptr 1 0),(3,.nil),(4,j4 0)],jm r⟩ (.out 0) (dU r [o8 a,o8 b,o8 c]))(hk:r.kind % 9=1):j5 23 [F5 r] (o6 (H9 o)) :=
 pW [.av (j4 1),.no,.no,.av (o7 K8),.av (o7 tO),.av (o7 (Tr.num 0).ob),.av (j4 k),.av (.pin ((A9 o).map .dt)),.av (o6 (H9 o))] [.inv [1,2,3,4] 2 (.out 0) (dU r [o8 a,o8 b,o8 c])] [_,j5 54 [(j4 r.kind),(j4 9)] (j4 1),_,_,j5 55 [j4 0] (o7 (Tr.num 0).ob),_,_,j5 51 [(o7 o)] (o6 (H9 o))] func23 ⟨ht,(Z0 r.kind 9 O O).val (by rw[hk]),lY,tH,wy 0 O O,hm,hx,ku o,Z⟩
theorem b24{r:Raw}{a b c:Te}(ht:y7 EX (.loop gU) ⟨stt 114 [(1,.ptr 0 0),(2,.ptr 1 0),(3,.nil),(4,j4 0)],jm r⟩ (.out 0) (dU r [o8 a,o8 b,o8 c]))(hk:r.kind % 9=2):j5 23 [F5 r] (o6 (ap lX [a])) :=
 pW [.av (j4 2),.no,.no,.no,.av (.pin ((o8 a).map .dt)),.av (o6 (ap lX [a]))] [.inv [1,2,3,4] 2 (.out 0) (dU r [o8 a,o8 b,o8 c])] [_,j5 54 [(j4 r.kind),(j4 9)] (j4 2),z8 ([o8 a,o8 b,o8 c]) 0 11 (o8 a),j5 27 [(stA [99,111,110,115,112]),(.dt (.row [o8 a]))] (o6 (ap lX [a]))] func23 ⟨ht,(Z0 r.kind 9 O O).val (by rw[hk]),(iN a b c).1,Jp lX a,Z⟩
theorem b25{r:Raw}{a b c:Te}(ht:y7 EX (.loop gU) ⟨stt 114 [(1,.ptr 0 0),(2,.ptr 1 0),(3,.nil),(4,j4 0)],jm r⟩ (.out 0) (dU r [o8 a,o8 b,o8 c]))(hk:r.kind % 9=3):j5 23 [F5 r] (o6 (ap D9 [a])) :=
 pW (.av (j4 3)::nK 4 [.av (.pin ((o8 a).map .dt)),.av (o6 (ap D9 [a]))]) [.inv [1,2,3,4] 2 (.out 0) (dU r [o8 a,o8 b,o8 c])] [_,j5 54 [(j4 r.kind),(j4 9)] (j4 3),z8 ([o8 a,o8 b,o8 c]) 0 11 (o8 a),j5 27 [(stA [110,111,116]),(.dt (.row [o8 a]))] (o6 (ap D9 [a]))] func23 ⟨ht,(Z0 r.kind 9 O O).val (by rw[hk]),(iN a b c).1,Jp D9 a,Z⟩
theorem b26{r:Raw}{a b c:Te}(ht:y7 EX (.loop gU) ⟨stt 114 [(1,.ptr 0 0),(2,.ptr 1 0),(3,.nil),(4,j4 0)],jm r⟩ (.out 0) (dU r [o8 a,o8 b,o8 c]))(hk:r.kind % 9=4):j5 23 [F5 r] (o6 (ap dN [a,b])) :=
 pW (.av (j4 4)::nK 5 [.av (.pin ((o8 a).map .dt)),.av (.pin ((o8 b).map .dt)),.av (o6 (ap dN [a,b]))]) [.inv [1,2,3,4] 2 (.out 0) (dU r [o8 a,o8 b,o8 c])] [_,j5 54 [(j4 r.kind),(j4 9)] (j4 4),z8 ([o8 a,o8 b,o8 c]) 0 11 (o8 a),z8 ([o8 a,o8 b,o8 c]) 1 11 (o8 b),j5 27 [(stA [105,109,112,108,105,101,115]),(.dt (.row [o8 a,o8 b]))] (o6 (ap dN [a,b]))] func23 ⟨ht,(Z0 r.kind 9 O O).val (by rw[hk]),(iN a b c).1,(iN a b c).2.1,Dj dN a b,Z⟩
theorem b27{r:Raw}{a b c:Te}(ht:y7 EX (.loop gU) ⟨stt 114 [(1,.ptr 0 0),(2,.ptr 1 0),(3,.nil),(4,j4 0)],jm r⟩ (.out 0) (dU r [o8 a,o8 b,o8 c]))(hk:r.kind % 9=5):j5 23 [F5 r] (o6 (ap fH [a,b])) :=
 pW (.av (j4 5)::nK 6 [.av (.pin ((o8 a).map .dt)),.av (.pin ((o8 b).map .dt)),.av (o6 (ap fH [a,b]))]) [.inv [1,2,3,4] 2 (.out 0) (dU r [o8 a,o8 b,o8 c])] [_,j5 54 [(j4 r.kind),(j4 9)] (j4 5),z8 ([o8 a,o8 b,o8 c]) 0 11 (o8 a),z8 ([o8 a,o8 b,o8 c]) 1 11 (o8 b),j5 27 [(stA [105,102,102]),(.dt (.row [o8 a,o8 b]))] (o6 (ap fH [a,b]))] func23 ⟨ht,(Z0 r.kind 9 O O).val (by rw[hk]),(iN a b c).1,(iN a b c).2.1,Dj fH a b,Z⟩
theorem b28{r:Raw}{a b c:Te}(ht:y7 EX (.loop gU) ⟨stt 114 [(1,.ptr 0 0),(2,.ptr 1 0),(3,.nil),(4,j4 0)],jm r⟩ (.out 0) (dU r [o8 a,o8 b,o8 c]))(hk:r.kind % 9=6):j5 23 [F5 r] (o6 (ap iV [a,b])) :=
 pW (.av (j4 6)::nK 7 [.av (.pin ((o8 a).map .dt)),.av (.pin ((o8 b).map .dt)),.av (o6 (ap iV [a,b]))]) [.inv [1,2,3,4] 2 (.out 0) (dU r [o8 a,o8 b,o8 c])] [_,j5 54 [(j4 r.kind),(j4 9)] (j4 6),z8 ([o8 a,o8 b,o8 c]) 0 11 (o8 a),z8 ([o8 a,o8 b,o8 c]) 1 11 (o8 b),j5 27 [(stA [101,113,117,97,108]),(.dt (.row [o8 a,o8 b]))] (o6 (ap iV [a,b]))] func23 ⟨ht,(Z0 r.kind 9 O O).val (by rw[hk]),(iN a b c).1,(iN a b c).2.1,Dj iV a b,Z⟩
theorem b29{r:Raw}{a b c:Te}(ht:y7 EX (.loop gU) ⟨stt 114 [(1,.ptr 0 0),(2,.ptr 1 0),(3,.nil),(4,j4 0)],jm r⟩ (.out 0) (dU r [o8 a,o8 b,o8 c]))(hk:r.kind % 9=7):j5 23 [F5 r] (o6 (ap x8 [a,b,c])) :=
 pW (.av (j4 7)::nK 7 [.av (.pin ((o8 a).map .dt)),.av (.pin ((o8 b).map .dt)),.av (.pin ((o8 c).map .dt)),.av (o6 (ap x8 [a,b,c]))]) [.inv [1,2,3,4] 2 (.out 0) (dU r [o8 a,o8 b,o8 c])] [_,j5 54 [(j4 r.kind),(j4 9)] (j4 7),z8 ([o8 a,o8 b,o8 c]) 0 11 (o8 a),z8 ([o8 a,o8 b,o8 c]) 1 11 (o8 b),z8 ([o8 a,o8 b,o8 c]) 2 11 (o8 c),j5 27 [(stA [105,102]),(.dt (.row [o8 a,o8 b,o8 c]))] (o6 (ap x8 [a,b,c]))] func23 ⟨ht,(Z0 r.kind 9 O O).val (by rw[hk]),(iN a b c).1,(iN a b c).2.1,(iN a b c).2.2,Di x8 a b c,Z⟩
theorem b3a{r:Raw}{a b c:Te}(ht:y7 EX (.loop gU) ⟨stt 114 [(1,.ptr 0 0),(2,.ptr 1 0),(3,.nil),(4,j4 0)],jm r⟩ (.out 0) (dU r [o8 a,o8 b,o8 c]))(hk:r.kind % 9=8):j5 23 [F5 r] (o6 (ap x8 [a,b,c])) :=
 pW (.av (j4 8)::nK 7 [.av (.pin ((o8 a).map .dt)),.av (.pin ((o8 b).map .dt)),.av (.pin ((o8 c).map .dt)),.av (o6 (ap x8 [a,b,c]))]) [.inv [1,2,3,4] 2 (.out 0) (dU r [o8 a,o8 b,o8 c])] [_,j5 54 [(j4 r.kind),(j4 9)] (j4 8),z8 ([o8 a,o8 b,o8 c]) 0 11 (o8 a),z8 ([o8 a,o8 b,o8 c]) 1 11 (o8 b),z8 ([o8 a,o8 b,o8 c]) 2 11 (o8 c),j5 27 [(stA [105,102]),(.dt (.row [o8 a,o8 b,o8 c]))] (o6 (ap x8 [a,b,c]))] func23 ⟨ht,(Z0 r.kind 9 O O).val (by rw[hk]),(iN a b c).1,(iN a b c).2.1,(iN a b c).2.2,Di x8 a b c,Z⟩
theorem b5P:∀(N:Nat) (r:Raw),r.size≤N→j5 23 [F5 r] (o6 (Y8 r)):=by
 intro N
 induction N with
 |zero=>intro r h;have:=r.size_pos;omega
 |succ N ih =>
  intro r hN;have ht:=b0k (r:=r) fun x hx=>ih x (by have:=Raw.nE hx;omega)
  rw[KD];have e:∀k,k=r.kind % 9→r.kind % 9=k:=fun k h=>h.symm
  unfold Bo;generalize fk r.n (r.l.map Y8) 0=a at *;generalize fk r.n (r.l.map Y8) 1=b at *;generalize fk r.n (r.l.map Y8) 2=c at *;have hm:=Z0 r.n 3 O O;by_cases h0:r.kind % 9=0
  ·rw[Ch h0];exact b22 hm (VJ r.n) ht h0
  rw[EQ h0];by_cases h1:r.kind % 9=1
  ·rw[Ch h1];exact b23 hm (b21 r.n) ht h1
  rw[EQ h1];by_cases h2:r.kind % 9=2
  ·rw[Ch h2];exact b24 ht h2
  rw[EQ h2];by_cases h3:r.kind % 9=3
  ·rw[Ch h3];exact b25 ht h3
  rw[EQ h3];by_cases h4:r.kind % 9=4
  ·rw[Ch h4];exact b26 ht h4
  rw[EQ h4];by_cases h5:r.kind % 9=5
  ·rw[Ch h5];exact b27 ht h5
  rw[EQ h5];by_cases h6:r.kind % 9=6
  ·rw[Ch h6];exact b28 ht h6
  rw[EQ h6];by_cases h7:r.kind % 9=7
  ·exact b29 ht h7
  ·exact b3a ht J
theorem QI(r:Raw):j5 23 [F5 r] (o6 (Y8 r)):=b5P _ r (PP _)
theorem Te.iY(n:lw):(X8 n).Gd:=.mk _ ze (fun e=>by cases e.1) (Ci _) (fun x hx=>by cases hx)
theorem Te.XE(k:Int):(c3 k).Wf∧((c3 k).kind=2∧(c3 k).sp=o9∧(c3 k).sn=R8→c3 k=K8):=by
 unfold c3;split
 ·exact⟨DI O O,fun _=>rfl⟩
 split
 ·exact⟨DI O O,fun e=>by cases e.2.2⟩
 ·exact⟨.mk _ (by decide +kernel) (by decide +kernel) (by decide +kernel) (by decide +kernel) (by decide +kernel) (by decide +kernel) (by decide +kernel) (by decide +kernel) (fun x hx=>by cases hx),fun e=>by cases e.1⟩
theorem Te.a9U:∀(N:Nat) (r:Raw),r.size≤N→(Y8 r).Gd:=by
 intro N
 induction N with
 |zero=>intro r h;have:=r.size_pos;omega
 |succ N ih =>
  intro r hN;have hk:∀i,(fk r.n (r.l.map Y8) i).Gd:=fun i=>by
   unfold fk;rw[bi];cases hx:r.l[i]? with
   |some x=>exact ih x (by have:=Raw.nE (q8 hx);omega)
   |none=>exact iY _
  rw[KD];unfold Bo;split
  ·exact iY _
  split
  ·exact .H9 (XE _).1 (XE _).2
  split
  ·exact .ap (by show 1≤1000;omega) (Gs (hk 0))
  split
  ·exact .ap (by show 1≤1000;omega) (Gs (hk 0))
  have g2:∀x∈[fk r.n (r.l.map Y8) 0,fk r.n (r.l.map Y8) 1],x.Gd:=fun x hx=>by
   simp only[Za3,Zat,Zb4]at hx;rcases hx with rfl | rfl
   ·exact hk 0
   ·exact hk 1
  split
  ·exact .ap (by show 2≤1000;omega) g2
  split
  ·exact .ap (by show 2≤1000;omega) g2
  split
  ·exact .ap (by show 2≤1000;omega) g2
  ·exact .ap (by show 3≤1000;omega) (gd3 (hk 0) (hk 1) (hk 2))
end Go.Proofs.YtbpmpdadppamgaaGreatDoor
namespace Go.Proofs.YtbpmpdadppamgaaGreatDoor
open Go.Proofs.Tryz
open Go.RowKit
open Te
def zM(c:List Te):Prop:=c.length≤60∧∀x∈c,x.Gd
theorem Jr{s:NS}(h:∀c∈s.out,zM c){c:List Te}(hc:∀x∈c,x.Gd):∀d∈(s.fail id c).out,zM d:=by
 unfold NS.fail;split
 ·exact h
 ·rename_i hn;intro d hd;rcases ZaA.1 hd with hd | hd
  ·exact h d hd
  ·rw[Cf]at hd;subst hd;exact⟨by have:¬60 < d.length:=fun e=>hn (.inl e);omega,hc⟩
theorem JL{qs:List Te}(h:∀q∈qs,q.Gd):∀x∈qs.map neg,x.Gd:=fun x hx=>by
 obtain⟨q,hq,rfl⟩:=Zaw.1 hx;exact b0i (h q hq)
theorem kE:∀(f:Nat) (t:Te) (qs:List Te) (s:NS),t.Gd→(∀q∈qs,q.Gd)→(∀c∈s.out,zM c)→∀c∈(O0 id f t qs s).out,zM c
 |0,_,_,s,_,_,h=>by rw[O0];exact h
 |f+1,t,qs,s,ht,hq,h=>by
  rw[O0];split
  ·exact h
  have hto:∀c∈s.tick.out,zM c:=h;split
  ·split
   ·exact Jr hto (JL hq)
   ·exact hto
  split
  ·rename_i t' ho;exact kE f t' qs _ (ht.opened ho) hq hto
  split
  ·rename_i hi;have h0:(t.arg 0).Gd:=ht.arg hi J;have h1:(t.arg 1).Gd:=ht.arg hi J;have h2:(t.arg 2).Gd:=ht.arg hi J;split
   ·exact kE f _ qs _ h2 hq hto
   split
   ·exact kE f _ qs _ h1 hq hto
   split
   ·rename_i hn;exact kE f _ qs _ ((h0.arg hn J).eY h2 h1) hq hto
   split
   ·rename_i hn;exact kE f _ qs _ ((h0.arg hn (show 0 < 3 by omega)).eY ((h0.arg hn (show 1 < 3 by omega)).eY h1 h2) ((h0.arg hn (show 2 < 3 by omega)).eY h1 h2)) hq hto
   split
   ·rename_i a' ho;exact kE f _ qs _ ((h0.opened ho).eY h1 h2) hq hto
   split
   ·exact kE f _ qs _ h1 hq hto
   split
   ·exact kE f _ qs _ h2 hq hto
   ·exact kE f _ _ _ h2 (yU hq h0.not) (kE f _ _ _ h1 (yU hq h0) hto)
  ·split
   ·exact hto
   split
   ·exact Jr hto (JL hq)
   ·exact Jr hto (yU (JL hq) ht)
theorem MN{l:List (List Te)}{i:Nat}{c:List Te}(h:l[i]?=some c):z8 (l.map dF) (i:Int) 1 (dF c):=⟨Int.natCast_nonneg _,by
 rw[Int.toNat_natCast,bi,h];rfl,rfl⟩
theorem EY(l:List (List Te)):Value.int .i64 (l.length:Int)=Value.int .i64 ((l.map dF).length:Int):=by rw[Cc]
theorem aV.VK{P:Program}{G:World→Prop}{f:FuncId}{args:List AV}{T:TypeId}{kk:Nat}(h:aV P G f args [] .nil []):aV P G f args [] (.own 0 0) [some (.buf T kk [])]:=by
 refine⟨h.1,fun X M w vs hG hS hargs=>(h.2 X M w vs hG hS hargs).mono ?_⟩;rintro e w' ⟨v,M',h1,h2,h3,h4,h5⟩;have hk:lk [] 0=none:=rfl;refine⟨v,M'.Z9 0,h1,h2.trans (DF h3 hk),?_,h4,Ui h5⟩;have:=Jq h3 h2.below.size hk T kk
 rwa [show Z8 (lk []) 0 (.buf T kk [])=lk [some (.buf T kk [])] from funext fun b=>by
  match b with
  |0=>rfl
  |b+1=>rfl]at this
theorem aV.empty{P:Program}{G:World→Prop}{f:FuncId}{xs xs':List (Option Bx)}{r:AV}(h0:∀c,aV P G f [.dt (.val (.slice none 0 c))] xs r xs')(h1:∀A c,aV P G f [.dt (.val (.slice (some A) 0 c))] xs r xs'):aV P G f [.dt (.row [])] xs r xs':=by
 refine⟨(h0 0).1,fun X M w vs hG hS hargs=>?_⟩;obtain⟨v,us,rfl,hv,hu⟩:=hargs;obtain rfl:us=[]:=hu;have hv:Rd M.F w v (.row []):=hv;cases hv with
 |nil A c =>
  cases A with
  |none=>exact (h0 c).2 X M w _ hG hS ⟨_,[],rfl,Rd.val _,rfl⟩
  |some A=>exact (h1 A c).2 X M w _ hG hS ⟨_,[],rfl,Rd.val _,rfl⟩
 |row b o n c k l f hn h0=>cases hn;exact absurd h0 (Nat.lt_irrefl _)
theorem DJ{t e:TypeId}{x y:Operand}{A:Option Addr}{n c:Nat}(hu:prog.underlying t=some (.slice e)):Bn .eql t x y (.slice A n c) (.slice none 0 0) (.bool A.isNone):=by
 intro w;have:=Lib.run_eql_slice_nil (P:=prog) w t e A n c 0 0 hu;simp only[eqGuard,lc,d9,Result.andThen,Bool.not_true,ZaL,Zav,this]
theorem Eu:kV 0 0:=⟨O,O,O⟩
theorem a4Y:D6 107 [.dt (.row [])] [] (.own 0 0) [some (.buf 47 11 [])] :=
 .empty (fun c=>.VK (sW 0 [] [yT] [] [Bn .eql 28 (.tmp 3) (.const (Value.slice none 0 0)) (Value.slice none 0 c) (Value.slice none 0 0) bT] func107 ⟨DJ (e:=47) (by kernel_rfl),Z⟩))
  fun A c=>sW 0 [0] [yF,.no] [] [Bn .eql 28 (.tmp 3) (.const (Value.slice none 0 0)) (Value.slice (some A) 0 c) (Value.slice none 0 0) bF,_] func107 ⟨DJ (e:=47) (by kernel_rfl),Eu,Z⟩
theorem a7M{es:aa0}(h0:es≠[])(hl:es.length≤1000)(hs:L8 11 es):D6 107 [.dt (.row es)] [] (.own 0 es.length) [some (.buf 47 11 es)] :=
 sW 0 [0] [.no,.av (.un)] [] [_,_,0=0,P7 176 (([]++es).length),_] func107 ⟨h0,Eu,rfl,bE J (by rw[List.nil_append];omega),hs,Z⟩
theorem QF:D6 149 [.dt (.row [])] [] (.own 0 0) [some (.buf 92 13 [])] :=
 .empty (fun c=>.VK (sW 0 [] [yT] [] [Bn .eql 31 (.tmp 3) (.const (Value.slice none 0 0)) (Value.slice none 0 c) (Value.slice none 0 0) bT] func149 ⟨DJ (e:=92) (by kernel_rfl),Z⟩))
  fun A c=>sW 0 [0] [yF,.no] [] [Bn .eql 31 (.tmp 3) (.const (Value.slice none 0 0)) (Value.slice (some A) 0 c) (Value.slice none 0 0) bF,_] func149 ⟨DJ (e:=92) (by kernel_rfl),Eu,Z⟩
end Go.Proofs.YtbpmpdadppamgaaGreatDoor
