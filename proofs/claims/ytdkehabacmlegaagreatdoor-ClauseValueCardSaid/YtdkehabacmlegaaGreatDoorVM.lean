/- The code's normalizer: 'examine' and 'choose', walked. -/
import Derived.Test.YtdkehabacmlegaaGreatDoorVL
import Derived.Test.YtdkehabacmlegaaGreatDoorVG
import Derived.Lib.SliceRun
import Derived.Test.YtdkehabacmlegaaGreatDoorVK
import Derived.Test.YtdkehabacmlegaaGreatDoorVF
namespace Go.Proofs.YtdkehabacmlegaaGreatDoor
open Go.Proofs.Tryz
open Go.RowKit
open Te
theorem Rk(qs:List Te)(hl:qs.length≤9223372036854775807):j5 128 [D9 qs] (.X8 (K4 qs)) :=
 a7V (E:=EX) (fun _ _ h hb=>h.below hb) func128 (by kernel_rfl) (an:=[.av (j3 qs.length),.av (j3 qs.length),.av (.dt (.row (qs.map Te.enc)))]) (ls:=[]) (ps:=[(vi ↑qs.length)=(vi (↑(List.map Te.enc qs).length)),(vi ↑qs.length)=(vi (↑(List.map Te.enc qs).length)),bW (List.map Te.enc qs) 11 ((none:Option Int).getD 0) ((some (qs.length:Int)).getD ((List.map Te.enc qs).length:Int)) (List.map Te.enc qs),(some (qs.length:Int))=(none:Option Int)∨(some (qs.length:Int))=(some (qs.length:Int))]) (by kernel_rfl)
  ⟨H7 _,H7 _,⟨Int.le_refl _,by show (0:Int)≤(qs.length:Int);omega,by show (qs.length:Int)≤_;rw[List.length_map];omega,by
   show _=List.drop 0 (List.take ((qs.length:Int)).toNat _);rw[Int.toNat_natCast,List.drop_zero,List.take_of_length_le (by rw[List.length_map];omega)],.inl rfl⟩,.inr rfl,Z⟩
theorem wz(qs:List Te)(a:Te):K4 qs++[p9 a]=K4 (qs++[a]):=by rw[gW];exact List.map_append.symm
theorem a3p{P:Program}{G:World→Prop}{f:FuncId}{qs:List Te}{t:Te}{xs xs':List (Option Bx)}{r:AV}(h:aK P G f [.ptr 0 0,D9 qs,D9 [t]] xs r xs'):aK P G f [.ptr 0 0,D9 qs,.dt (.row [p9 t])] xs r xs':=by
 rw[gW];exact h
theorem a7X{t:Te}{qs:List Te}{cs:bv}{ex er:Int}(hx0:0≤ex)(hx1:ex≤100000)(hx:20000≤ex):C8 57 [.ptr 0 0,o7 t,D9 qs] (J8 cs ex er) (.l7 []) (J8 cs (ex+1) 2) :=
 sW 2 [0,1] [.av (j3 (ex+1)),yT,yT] [] [Bk .add 3 11 1 ex (vi (ex+1)),Bk .gtr 3 18 20000 (ex+1) bT,Bk .neq 31 26 0 2 bT] func57 ⟨I4 rfl J J,Q0 (decide_eq_true J),E9 rfl,Z⟩
theorem a7Y{t:Te}{qs:List Te}{cs:bv}{ex er:Int}(hx0:0≤ex)(hx1:ex≤100000)(hx:ex < 20000)(he:er≠0):C8 57 [.ptr 0 0,o7 t,D9 qs] (J8 cs ex er) (.l7 []) (J8 cs (ex+1) er) :=
 sW 2 [0,1] [.av (j3 (ex+1)),yF,yT] [] [Bk .add 3 11 1 ex (vi (ex+1)),Bk .gtr 3 18 20000 (ex+1) bF,Bk .neq 31 26 0 er bT] func57 ⟨I4 rfl J J,Q0 (decide_eq_false J),E9 (by simp[he]),Z⟩
theorem a7Z{t:Te}{qs:List Te}{cs:bv}{ex er:Int}{cs':bv}{N9 O0:Int}(hx0:0≤ex)(hx1:ex≤100000)(hx:ex < 20000)(he:er=0)(hk:t.kind=2)(hn:j5 41 [l9 t.val] (j6 true))(hc:C8 101 [.ptr 0 0,D9 qs,D9 []] (J8 cs (ex+1) er) (.l7 []) (J8 cs' N9 O0))  : C8 57 [.ptr 0 0,o7 t,D9 qs] (J8 cs ex er) (.l7 []) (J8 cs' N9 O0) :=
 sW 2 [0,1] [.av (j3 (ex+1)),yF,yF,yT,yT] [.J6 7 2 [0,1] (.l7 []) [some (.cells [.own 1 cs'.length,j3 N9,j3 O0]),some (.buf 35 1 cs')]] [Bk .add 3 11 1 ex (vi (ex+1)),Bk .gtr 3 18 20000 (ex+1) bF,Bk .neq 31 26 0 er bF,Bk .eql 3 29 2 t.kind bT,_,_] func57 ⟨I4 rfl J J,Q0 (decide_eq_false J),E9 (by simp[he]),A9 (by simp[hk]),hn,hc,Z⟩
theorem a8a{t:Te}{qs:List Te}{cs:bv}{ex er:Int}(hx0:0≤ex)(hx1:ex≤100000)(hx:ex < 20000)(he:er=0)(hk:t.kind=2)(hn:j5 41 [l9 t.val] (j6 false)):C8 57 [.ptr 0 0,o7 t,D9 qs] (J8 cs ex er) (.l7 []) (J8 cs (ex+1) er) :=
 sW 2 [0,1] [.av (j3 (ex+1)),yF,yF,yT,yF] [] [Bk .add 3 11 1 ex (vi (ex+1)),Bk .gtr 3 18 20000 (ex+1) bF,Bk .neq 31 26 0 er bF,Bk .eql 3 29 2 t.kind bT,_] func57 ⟨I4 rfl J J,Q0 (decide_eq_false J),E9 (by simp[he]),A9 (by simp[hk]),hn,Z⟩
theorem a8b{t:Te}{qs:List Te}{cs:bv}{ex er:Int}{cs':bv}{N9 O0:Int}{a:Te}(hx0:0≤ex)(hx1:ex≤100000)(hx:ex < 20000)(he:er=0)(hk:t.kind≠2)(hn:opened t=some a)(hc:C8 57 [.ptr 0 0,o7 a,D9 qs] (J8 cs (ex+1) er) (.l7 []) (J8 cs' N9 O0))  : C8 57 [.ptr 0 0,o7 t,D9 qs] (J8 cs ex er) (.l7 []) (J8 cs' N9 O0) :=
 sW 2 [0,1] [.av (j3 (ex+1)),yF,yF,yF,.av (.l7 [o7 a,j6 true])] [.J6 10 3 [0,1] (.l7 []) [some (.cells [.own 1 cs'.length,j3 N9,j3 O0]),some (.buf 35 1 cs')]] [Bk .add 3 11 1 ex (vi (ex+1)),Bk .gtr 3 18 20000 (ex+1) bF,Bk .neq 31 26 0 er bF,Bk .eql 3 29 2 t.kind bF,j5 102 [(o7 t)] (.l7 [(o7 a),(j6 true)]),_] func57 ⟨I4 rfl J J,Q0 (decide_eq_false J),E9 (by simp[he]),A9 (by simp[hk]),(lu t).val (by rw[hn]),hc,Z⟩
theorem a8c{t:Te}{qs:List Te}{cs:bv}{ex er:Int}{cs':bv}{N9 O0:Int}{a d e:Te}(hx0:0≤ex)(hx1:ex≤100000)(hx:ex < 20000)(he:er=0)(hk:t.kind≠2)(hn:opened t=none)(hi:is t x8 3)(h0:t.args[0]?=some a)(h1:t.args[1]?=some d)(h2:t.args[2]?=some e)(hc:C8 103 [.ptr 0 0,o7 a,o7 d,o7 e,D9 qs] (J8 cs (ex+1) er) (.l7 []) (J8 cs' N9 O0))  : C8 57 [.ptr 0 0,o7 t,D9 qs] (J8 cs ex er) (.l7 []) (J8 cs' N9 O0) :=
 sW 2 [0,1] [.av (j3 (ex+1)),yF,yF,yF,.av (.l7 [o7 E5,j6 false]),yT,.av (.pin ((p9 a).map .dt)),.av (.pin ((p9 d).map .dt)),.av (.pin ((p9 e).map .dt))] [.J6 12 14 [0,1] (.l7 []) [some (.cells [.own 1 cs'.length,j3 N9,j3 O0]),some (.buf 35 1 cs')]] [Bk .add 3 11 1 ex (vi (ex+1)),Bk .gtr 3 18 20000 (ex+1) bF,Bk .neq 31 26 0 er bF,Bk .eql 3 29 2 t.kind bF,j5 102 [(o7 t)] (.l7 [(.agg [(j3 0),(stA E5.np),(stA E5.nn),(j3 0),(stA E5.val.num),(stA E5.val.den),(stA E5.val.sp),(stA E5.val.sn),(stA E5.val.text),(.dt (.row (List.map Ob.enc E5.val.pair))),(.dt (.row (List.map Te.enc E5.args)))]),(j6 false)]),j5 62 [(o7 t),(stA [105,102]),(j3 3)] (j6 true),z8 (List.map Te.enc t.args) 0 11 (p9 a),z8 (List.map Te.enc t.args) 1 11 (p9 d),z8 (List.map Te.enc t.args) 2 11 (p9 e),_] func57 ⟨I4 rfl J J,Q0 (decide_eq_false J),E9 (by simp[he]),A9 (by simp[hk]),(lu t).val (by rw[hn]),(ay t x8 3).b (U4 hi),L8 h0,L8 h1,L8 h2,hc,Z⟩
theorem a8d{t:Te}{qs:List Te}{cs:bv}{ex er:Int}(hx0:0≤ex)(hx1:ex≤100000)(hx:ex < 20000)(he:er=0)(hk:t.kind≠2)(hn:opened t=none)(hi:¬is t x8 3)(hl:qs.length≤9223372036854775807)(hq:∀q∈qs,q.Wf)(hm:t∈qs):C8 57 [.ptr 0 0,o7 t,D9 qs] (J8 cs ex er) (.l7 []) (J8 cs (ex+1) er) :=
 sW 2 [0,1] [.av (j3 (ex+1)),yF,yF,yF,.av (.l7 [o7 E5,j6 false]),yF,yT] [] [Bk .add 3 11 1 ex (vi (ex+1)),Bk .gtr 3 18 20000 (ex+1) bF,Bk .neq 31 26 0 er bF,Bk .eql 3 29 2 t.kind bF,j5 102 [(o7 t)] (.l7 [(.agg [(j3 0),(stA E5.np),(stA E5.nn),(j3 0),(stA E5.val.num),(stA E5.val.den),(stA E5.val.sp),(stA E5.val.sn),(stA E5.val.text),(.dt (.row (List.map Ob.enc E5.val.pair))),(.dt (.row (List.map Te.enc E5.args)))]),(j6 false)]),j5 62 [(o7 t),(stA [105,102]),(j3 3)] (j6 false),j5 64 [(.dt (.row (List.map Te.enc qs))),(o7 t)] (j6 true)] func57 ⟨I4 rfl J J,Q0 (decide_eq_false J),E9 (by simp[he]),A9 (by simp[hk]),(lu t).val (by rw[hn]),(ay t x8 3).b (K9 hi),(gM hl hq t).b (U4 hm),Z⟩
theorem a8e{t:Te}{qs:List Te}{cs:bv}{ex er:Int}{cs':bv}{N9 O0:Int}(hx0:0≤ex)(hx1:ex≤100000)(hx:ex < 20000)(he:er=0)(hk:t.kind≠2)(hn:opened t=none)(hi:¬is t x8 3)(hl:qs.length≤9223372036854775807)(hq:∀q∈qs,q.Wf)(hm:t ∉ qs)(hm2:ap D5 [t]∈qs)(hc:C8 101 [.ptr 0 0,D9 qs,D9 []] (J8 cs (ex+1) er) (.l7 []) (J8 cs' N9 O0))  : C8 57 [.ptr 0 0,o7 t,D9 qs] (J8 cs ex er) (.l7 []) (J8 cs' N9 O0) :=
 sW 2 [0,1] [.av (j3 (ex+1)),yF,yF,yF,.av (.l7 [o7 E5,j6 false]),yF,yF,.av (o7 (ap D5 [t])),yT] [.J6 16 2 [0,1] (.l7 []) [some (.cells [.own 1 cs'.length,j3 N9,j3 O0]),some (.buf 35 1 cs')]] [Bk .add 3 11 1 ex (vi (ex+1)),Bk .gtr 3 18 20000 (ex+1) bF,Bk .neq 31 26 0 er bF,Bk .eql 3 29 2 t.kind bF,j5 102 [(o7 t)] (.l7 [(.agg [(j3 0),(stA E5.np),(stA E5.nn),(j3 0),(stA E5.val.num),(stA E5.val.den),(stA E5.val.sp),(stA E5.val.sn),(stA E5.val.text),(.dt (.row (List.map Ob.enc E5.val.pair))),(.dt (.row (List.map Te.enc E5.args)))]),(j6 false)]),j5 62 [(o7 t),(stA [105,102]),(j3 3)] (j6 false),j5 64 [(.dt (.row (List.map Te.enc qs))),(o7 t)] (j6 false),j5 49 [(stA [110,111,116]),(.dt (.row [p9 t]))] (o7 (ap D5 [t])),j5 64 [(.dt (.row (List.map Te.enc qs))),(o7 (ap D5 [t]))] (j6 true),_] func57 ⟨I4 rfl J J,Q0 (decide_eq_false J),E9 (by simp[he]),A9 (by simp[hk]),(lu t).val (by rw[hn]),(ay t x8 3).b (K9 hi),(gM hl hq t).b (K9 hm),jS D5 t,(gM hl hq (ap D5 [t])).b (U4 hm2),hc,Z⟩
theorem a8f{t:Te}{qs:List Te}{cs:bv}{ex er:Int}{cs':bv}{N9 O0:Int}(hx0:0≤ex)(hx1:ex≤100000)(hx:ex < 20000)(he:er=0)(hk:t.kind≠2)(hn:opened t=none)(hi:¬is t x8 3)(hl:qs.length≤9223372036854775807)(hq:∀q∈qs,q.Wf)(hm:t ∉ qs)(hm2:ap D5 [t] ∉ qs)(hc:C8 101 [.ptr 0 0,D9 qs,D9 [t]] (J8 cs (ex+1) er) (.l7 []) (J8 cs' N9 O0))  : C8 57 [.ptr 0 0,o7 t,D9 qs] (J8 cs ex er) (.l7 []) (J8 cs' N9 O0) :=
 sW 2 [0,1] [.av (j3 (ex+1)),yF,yF,yF,.av (.l7 [o7 E5,j6 false]),yF,yF,.av (o7 (ap D5 [t])),yF] [.J6 13 4 [0,1] (.l7 []) [some (.cells [.own 1 cs'.length,j3 N9,j3 O0]),some (.buf 35 1 cs')]] [Bk .add 3 11 1 ex (vi (ex+1)),Bk .gtr 3 18 20000 (ex+1) bF,Bk .neq 31 26 0 er bF,Bk .eql 3 29 2 t.kind bF,j5 102 [(o7 t)] (.l7 [(.agg [(j3 0),(stA E5.np),(stA E5.nn),(j3 0),(stA E5.val.num),(stA E5.val.den),(stA E5.val.sp),(stA E5.val.sn),(stA E5.val.text),(.dt (.row (List.map Ob.enc E5.val.pair))),(.dt (.row (List.map Te.enc E5.args)))]),(j6 false)]),j5 62 [(o7 t),(stA [105,102]),(j3 3)] (j6 false),j5 64 [(.dt (.row (List.map Te.enc qs))),(o7 t)] (j6 false),j5 49 [(stA [110,111,116]),(.dt (.row [p9 t]))] (o7 (ap D5 [t])),j5 64 [(.dt (.row (List.map Te.enc qs))),(o7 (ap D5 [t]))] (j6 false),C8 101 [AV.ptr 0 0,AV.dt (Dt.row (List.map Te.enc qs)),AV.dt (Dt.row ([p9 t]))] [some (Bx.cells [AV.own 1 cs.length,AV.dt (Dt.val (vi (ex+1))),AV.dt (Dt.val (vi er))]),some (Bx.buf 35 1 cs)] (AV.l7 []) [some (Bx.cells [AV.own 1 cs'.length,j3 N9,j3 O0]),some (Bx.buf 35 1 cs')]] func57 ⟨I4 rfl J J,Q0 (decide_eq_false J),E9 (by simp[he]),A9 (by simp[hk]),(lu t).val (by rw[hn]),(ay t x8 3).b (K9 hi),(gM hl hq t).b (K9 hm),jS D5 t,(gM hl hq (ap D5 [t])).b (K9 hm2),a3p hc,Z⟩
theorem b0x{a d e:Te}{qs:List Te}{cs:bv}{ex er:Int}{cs':bv}{N9 O0:Int}(hk:a.kind=2)(hn:j5 41 [l9 a.val] (j6 true))(hc:C8 57 [.ptr 0 0,o7 e,D9 qs] (J8 cs ex er) (.l7 []) (J8 cs' N9 O0))  : C8 103 [.ptr 0 0,o7 a,o7 d,o7 e,D9 qs] (J8 cs ex er) (.l7 []) (J8 cs' N9 O0) :=
 sW 2 [0,1] [.av (o7 (ap D5 [a])),yT,yT] [.J6 3 3 [0,1] (.l7 []) [some (.cells [.own 1 cs'.length,j3 N9,j3 O0]),some (.buf 35 1 cs')]] [j5 49 [(stA [110,111,116]),(.dt (.row [p9 a]))] (o7 (ap D5 [a])),Bk .eql 3 18 2 a.kind bT,_,_] func103 ⟨jS D5 a,A9 (by simp[hk]),hn,hc,Z⟩
theorem b0y{a d e:Te}{qs:List Te}{cs:bv}{ex er:Int}{cs':bv}{N9 O0:Int}(hk:a.kind=2)(hn:j5 41 [l9 a.val] (j6 false))(hc:C8 57 [.ptr 0 0,o7 d,D9 qs] (J8 cs ex er) (.l7 []) (J8 cs' N9 O0))  : C8 103 [.ptr 0 0,o7 a,o7 d,o7 e,D9 qs] (J8 cs ex er) (.l7 []) (J8 cs' N9 O0) :=
 sW 2 [0,1] [.av (o7 (ap D5 [a])),yT,yF,yT] [.J6 5 3 [0,1] (.l7 []) [some (.cells [.own 1 cs'.length,j3 N9,j3 O0]),some (.buf 35 1 cs')]] [j5 49 [(stA [110,111,116]),(.dt (.row [p9 a]))] (o7 (ap D5 [a])),Bk .eql 3 18 2 a.kind bT,_,Bk .eql 3 31 2 a.kind bT,_] func103 ⟨jS D5 a,A9 (by simp[hk]),hn,A9 (by simp[hk]),hc,Z⟩
theorem b0z{a d e:Te}{qs:List Te}{cs:bv}{ex er:Int}{cs':bv}{N9 O0:Int}{a0:Te}(hk:a.kind≠2)(hi:is a D5 1)(h0:a.args[0]?=some a0)(hc:C8 57 [.ptr 0 0,o7 (ap x8 [a0,e,d]),D9 qs] (J8 cs ex er) (.l7 []) (J8 cs' N9 O0))  : C8 103 [.ptr 0 0,o7 a,o7 d,o7 e,D9 qs] (J8 cs ex er) (.l7 []) (J8 cs' N9 O0) :=
 sW 2 [0,1] [.av (o7 (ap D5 [a])),yF,yF,yT,.av (.pin ((p9 a0).map .dt)),.av (o7 (ap x8 [a0,e,d]))] [.J6 7 10 [0,1] (.l7 []) [some (.cells [.own 1 cs'.length,j3 N9,j3 O0]),some (.buf 35 1 cs')]] [j5 49 [(stA [110,111,116]),(.dt (.row [p9 a]))] (o7 (ap D5 [a])),Bk .eql 3 18 2 a.kind bF,Bk .eql 3 31 2 a.kind bF,j5 62 [(o7 a),(stA [110,111,116]),(j3 1)] (j6 true),z8 (List.map Te.enc a.args) 0 11 (p9 a0),j5 49 [(stA [105,102]),(.dt (.row [p9 a0,p9 e,p9 d]))] (o7 (ap x8 [a0,e,d])),_] func103 ⟨jS D5 a,A9 (by simp[hk]),A9 (by simp[hk]),(ay a D5 1).b (U4 hi),L8 h0,je x8 a0 e d,hc,Z⟩
theorem b0A{a d e:Te}{qs:List Te}{cs:bv}{ex er:Int}{cs':bv}{N9 O0:Int}{a0 a1 a2:Te}(hk:a.kind≠2)(hi:¬is a D5 1)(hj:is a x8 3)(h0:a.args[0]?=some a0)(h1:a.args[1]?=some a1)(h2:a.args[2]?=some a2)(hc:C8 57 [.ptr 0 0,o7 (ap x8 [a0,ap x8 [a1,d,e],ap x8 [a2,d,e]]),D9 qs] (J8 cs ex er) (.l7 []) (J8 cs' N9 O0))  : C8 103 [.ptr 0 0,o7 a,o7 d,o7 e,D9 qs] (J8 cs ex er) (.l7 []) (J8 cs' N9 O0) :=
 sW 2 [0,1] [.av (o7 (ap D5 [a])),yF,yF,yF,yT,.av (.pin ((p9 a0).map .dt)),.av (.pin ((p9 a1).map .dt)),.av (o7 (ap x8 [a1,d,e])),.av (.pin ((p9 a2).map .dt)),.av (o7 (ap x8 [a2,d,e])),.av (o7 (ap x8 [a0,ap x8 [a1,d,e],ap x8 [a2,d,e]]))] [.J6 9 24 [0,1] (.l7 []) [some (.cells [.own 1 cs'.length,j3 N9,j3 O0]),some (.buf 35 1 cs')]] [j5 49 [(stA [110,111,116]),(.dt (.row [p9 a]))] (o7 (ap D5 [a])),Bk .eql 3 18 2 a.kind bF,Bk .eql 3 31 2 a.kind bF,j5 62 [(o7 a),(stA [110,111,116]),(j3 1)] (j6 false),j5 62 [(o7 a),(stA [105,102]),(j3 3)] (j6 true),z8 (List.map Te.enc a.args) 0 11 (p9 a0),z8 (List.map Te.enc a.args) 1 11 (p9 a1),j5 49 [(stA [105,102]),(.dt (.row [p9 a1,p9 d,p9 e]))] (o7 (ap x8 [a1,d,e])),z8 (List.map Te.enc a.args) 2 11 (p9 a2),j5 49 [(stA [105,102]),(.dt (.row [p9 a2,p9 d,p9 e]))] (o7 (ap x8 [a2,d,e])),j5 49 [(stA [105,102]),(.dt (.row [p9 a0,p9 (ap x8 [a1,d,e]),p9 (ap x8 [a2,d,e])]))] (o7 (ap x8 [a0,ap x8 [a1,d,e],ap x8 [a2,d,e]])),_] func103 ⟨jS D5 a,A9 (by simp[hk]),A9 (by simp[hk]),(ay a D5 1).b (K9 hi),(ay a x8 3).b (U4 hj),L8 h0,L8 h1,je x8 a1 d e,L8 h2,je x8 a2 d e,je x8 a0 (ap x8 [a1,d,e]) (ap x8 [a2,d,e]),hc,Z⟩
theorem b0B{a d e:Te}{qs:List Te}{cs:bv}{ex er:Int}{cs':bv}{N9 O0:Int}{b:Te}(hk:a.kind≠2)(hi:¬is a D5 1)(hj:¬is a x8 3)(hn:opened a=some b)(hc:C8 57 [.ptr 0 0,o7 (ap x8 [b,d,e]),D9 qs] (J8 cs ex er) (.l7 []) (J8 cs' N9 O0))  : C8 103 [.ptr 0 0,o7 a,o7 d,o7 e,D9 qs] (J8 cs ex er) (.l7 []) (J8 cs' N9 O0) :=
 sW 2 [0,1] [.av (o7 (ap D5 [a])),yF,yF,yF,yF,.av (.l7 [o7 b,j6 true]),.av (o7 (ap x8 [b,d,e]))] [.J6 12 7 [0,1] (.l7 []) [some (.cells [.own 1 cs'.length,j3 N9,j3 O0]),some (.buf 35 1 cs')]] [j5 49 [(stA [110,111,116]),(.dt (.row [p9 a]))] (o7 (ap D5 [a])),Bk .eql 3 18 2 a.kind bF,Bk .eql 3 31 2 a.kind bF,j5 62 [(o7 a),(stA [110,111,116]),(j3 1)] (j6 false),j5 62 [(o7 a),(stA [105,102]),(j3 3)] (j6 false),j5 102 [(o7 a)] (.l7 [(o7 b),(j6 true)]),j5 49 [(stA [105,102]),(.dt (.row [p9 b,p9 d,p9 e]))] (o7 (ap x8 [b,d,e])),_] func103 ⟨jS D5 a,A9 (by simp[hk]),A9 (by simp[hk]),(ay a D5 1).b (K9 hi),(ay a x8 3).b (K9 hj),(lu a).val (by rw[hn]),je x8 b d e,hc,Z⟩
theorem b0C{a d e:Te}{qs:List Te}{cs:bv}{ex er:Int}{cs':bv}{N9 O0:Int}(hk:a.kind≠2)(hi:¬is a D5 1)(hj:¬is a x8 3)(hn:opened a=none)(hl:qs.length≤100000)(hq:∀q∈qs,q.Wf)(hm:a∈qs)(hc:C8 57 [.ptr 0 0,o7 d,D9 qs] (J8 cs ex er) (.l7 []) (J8 cs' N9 O0))  : C8 103 [.ptr 0 0,o7 a,o7 d,o7 e,D9 qs] (J8 cs ex er) (.l7 []) (J8 cs' N9 O0) :=
 sW 2 [0,1] [.av (o7 (ap D5 [a])),yF,yF,yF,yF,.av (.l7 [o7 E5,j6 false]),yT] [.J6 16 3 [0,1] (.l7 []) [some (.cells [.own 1 cs'.length,j3 N9,j3 O0]),some (.buf 35 1 cs')]] [j5 49 [(stA [110,111,116]),(.dt (.row [p9 a]))] (o7 (ap D5 [a])),Bk .eql 3 18 2 a.kind bF,Bk .eql 3 31 2 a.kind bF,j5 62 [(o7 a),(stA [110,111,116]),(j3 1)] (j6 false),j5 62 [(o7 a),(stA [105,102]),(j3 3)] (j6 false),j5 102 [(o7 a)] (.l7 [(.agg [(j3 0),(stA E5.np),(stA E5.nn),(j3 0),(stA E5.val.num),(stA E5.val.den),(stA E5.val.sp),(stA E5.val.sn),(stA E5.val.text),(.dt (.row (List.map Ob.enc E5.val.pair))),(.dt (.row (List.map Te.enc E5.args)))]),(j6 false)]),j5 64 [(.dt (.row (List.map Te.enc qs))),(o7 a)] (j6 true),_] func103 ⟨jS D5 a,A9 (by simp[hk]),A9 (by simp[hk]),(ay a D5 1).b (K9 hi),(ay a x8 3).b (K9 hj),(lu a).val (by rw[hn]),(gM J hq a).b (U4 hm),hc,Z⟩
theorem b0D{a d e:Te}{qs:List Te}{cs:bv}{ex er:Int}{cs':bv}{N9 O0:Int}(hk:a.kind≠2)(hi:¬is a D5 1)(hj:¬is a x8 3)(hn:opened a=none)(hl:qs.length≤100000)(hq:∀q∈qs,q.Wf)(hm:a ∉ qs)(hm2:ap D5 [a]∈qs)(hc:C8 57 [.ptr 0 0,o7 e,D9 qs] (J8 cs ex er) (.l7 []) (J8 cs' N9 O0))  : C8 103 [.ptr 0 0,o7 a,o7 d,o7 e,D9 qs] (J8 cs ex er) (.l7 []) (J8 cs' N9 O0) :=
 sW 2 [0,1] [.av (o7 (ap D5 [a])),yF,yF,yF,yF,.av (.l7 [o7 E5,j6 false]),yF,yT] [.J6 18 3 [0,1] (.l7 []) [some (.cells [.own 1 cs'.length,j3 N9,j3 O0]),some (.buf 35 1 cs')]] [j5 49 [(stA [110,111,116]),(.dt (.row [p9 a]))] (o7 (ap D5 [a])),Bk .eql 3 18 2 a.kind bF,Bk .eql 3 31 2 a.kind bF,j5 62 [(o7 a),(stA [110,111,116]),(j3 1)] (j6 false),j5 62 [(o7 a),(stA [105,102]),(j3 3)] (j6 false),j5 102 [(o7 a)] (.l7 [(.agg [(j3 0),(stA E5.np),(stA E5.nn),(j3 0),(stA E5.val.num),(stA E5.val.den),(stA E5.val.sp),(stA E5.val.sn),(stA E5.val.text),(.dt (.row (List.map Ob.enc E5.val.pair))),(.dt (.row (List.map Te.enc E5.args)))]),(j6 false)]),j5 64 [(.dt (.row (List.map Te.enc qs))),(o7 a)] (j6 false),j5 64 [(.dt (.row (List.map Te.enc qs))),(o7 (ap D5 [a]))] (j6 true),_] func103 ⟨jS D5 a,A9 (by simp[hk]),A9 (by simp[hk]),(ay a D5 1).b (K9 hi),(ay a x8 3).b (K9 hj),(lu a).val (by rw[hn]),(gM J hq a).b (K9 hm),(gM J hq (ap D5 [a])).b (U4 hm2),hc,Z⟩
theorem b0E{a d e:Te}{qs:List Te}{cs:bv}{ex er:Int}{cs1:bv}{zh zi:Int}{cs':bv}{N9 O0:Int}(hk:a.kind≠2)(hi:¬is a D5 1)(hj:¬is a x8 3)(hn:opened a=none)(hl:qs.length≤100000)(hq:∀q∈qs,q.Wf)(hm:a ∉ qs)(hm2:ap D5 [a] ∉ qs)(hc1:C8 57 [.ptr 0 0,o7 d,D9 (qs++[a])] (J8 cs ex er) (.l7 []) (J8 cs1 zh zi))(hc2:C8 57 [.ptr 0 0,o7 e,D9 (qs++[ap D5 [a]])] (J8 cs1 zh zi) (.l7 []) (J8 cs' N9 O0))  : C8 103 [.ptr 0 0,o7 a,o7 d,o7 e,D9 qs] (J8 cs ex er) (.l7 []) (J8 cs' N9 O0) :=
 sW 2 [0,1] [.av (o7 (ap D5 [a])),yF,yF,yF,yF,.av (.l7 [o7 E5,j6 false]),yF,yF,.av (.X8 (K4 qs)),.av (.un),.av (.X8 (K4 qs)),.av (.un)] [.J6 13 7 [0,1] (.l7 []) [some (.cells [.own 1 cs1.length,j3 zh,j3 zi]),some (.buf 35 1 cs1)],.J6 14 7 [0,1] (.l7 []) [some (.cells [.own 1 cs'.length,j3 N9,j3 O0]),some (.buf 35 1 cs')]] [j5 49 [(stA [110,111,116]),(.dt (.row [p9 a]))] (o7 (ap D5 [a])),Bk .eql 3 18 2 a.kind bF,Bk .eql 3 31 2 a.kind bF,j5 62 [(o7 a),(stA [110,111,116]),(j3 1)] (j6 false),j5 62 [(o7 a),(stA [105,102]),(j3 3)] (j6 false),j5 102 [(o7 a)] (.l7 [(.agg [(j3 0),(stA E5.np),(stA E5.nn),(j3 0),(stA E5.val.num),(stA E5.val.den),(stA E5.val.sp),(stA E5.val.sn),(stA E5.val.text),(.dt (.row (List.map Ob.enc E5.val.pair))),(.dt (.row (List.map Te.enc E5.args)))]),(j6 false)]),j5 64 [(.dt (.row (List.map Te.enc qs))),(o7 a)] (j6 false),j5 64 [(.dt (.row (List.map Te.enc qs))),(o7 (ap D5 [a]))] (j6 false),j5 128 [(.dt (.row (List.map Te.enc qs)))] (.X8 (K4 qs)),1≤(([p9 a]).length),P9 176 ((K4 qs++[p9 a]).length),L6 11 (K4 qs++[p9 a]),C8 57 [AV.ptr 0 0,o7 d,AV.dt (Dt.row (K4 qs++[p9 a]))] [some (Bx.cells [AV.own 1 cs.length,AV.dt (Dt.val (vi ex)),AV.dt (Dt.val (vi er))]),some (Bx.buf 35 1 cs)] (AV.l7 []) [some (Bx.cells [AV.own 1 cs1.length,j3 zh,j3 zi]),some (Bx.buf 35 1 cs1)],((K4 qs++[p9 a]).length)=((K4 qs++[p9 a]).length),j5 128 [(.dt (.row (List.map Te.enc qs)))] (.X8 (K4 qs)),1≤(([p9 (ap D5 [a])]).length),P9 176 ((K4 qs++[p9 (ap D5 [a])]).length),L6 11 (K4 qs++[p9 (ap D5 [a])]),C8 57 [AV.ptr 0 0,o7 e,AV.dt (Dt.row (K4 qs++[p9 (ap D5 [a])]))] [some (Bx.cells [AV.own 1 cs1.length,AV.dt (Dt.val (vi zh)),AV.dt (Dt.val (vi zi))]),some (Bx.buf 35 1 cs1)] (AV.l7 []) [some (Bx.cells [AV.own 1 cs'.length,j3 N9,j3 O0]),some (Bx.buf 35 1 cs')],((K4 qs++[p9 (ap D5 [a])]).length)=((K4 qs++[p9 (ap D5 [a])]).length)] func103 ⟨jS D5 a,A9 (by simp[hk]),A9 (by simp[hk]),(ay a D5 1).b (K9 hi),(ay a x8 3).b (K9 hj),(lu a).val (by rw[hn]),(gM J hq a).b (K9 hm),(gM J hq (ap D5 [a])).b (K9 hm2),Rk qs J,Nat.le_refl 1,bG J (by simp;omega),wz qs a ▸ qm _,wz qs a ▸ hc1,rfl,Rk qs J,Nat.le_refl 1,bG J (by simp;omega),wz qs (ap D5 [a]) ▸ qm _,wz qs (ap D5 [a]) ▸ hc2,rfl,Z⟩
namespace Te
inductive Gd:Te→Prop
 |mk (t:Te) (hv:t.val.Wf) (hn:t.val.kind=2∧t.val.sp=o6∧t.val.sn=R4→t.val=M5) (hl:t.args.length≤9223372036854775807) (h:∀x∈t.args,Gd x):Gd t
theorem Gd.nil{t:Te}(h:t.Gd):t.val.kind=2∧t.val.sp=o6∧t.val.sn=R4↔t.val=M5:=by
 cases h with | mk _ hv hn hl hh=>exact⟨hn,fun e=>by rw[e];exact⟨rfl,rfl,rfl⟩⟩
theorem Gd.kids{t x:Te}(h:t.Gd)(hx:x∈t.args):x.Gd:=by cases h with | mk _ hv hn hl hh=>exact hh x hx
theorem Gd.wf{t:Te}(h:t.Gd):t.Wf:=by
 induction h with
 |mk t hv hn hl hh ih=>exact .mk t hv hl ih
theorem Bp:U0.Wf:=.mk _ O O O O O O O O (fun x hx=>by cases hx)
theorem PR{p n:bi}(hp:p.length≤1000)(hn:n.length≤1000):(gT p n).Wf:=.mk _ (by show (-9223372036854775808:Int)≤2;omega) (by show (2:Int)≤9223372036854775807;omega) (Nat.zero_le _) (Nat.zero_le _) (by show p.length≤_;omega) (by show n.length≤_;omega) (Nat.zero_le _) (Nat.zero_le _) (fun x hx=>by cases hx)
theorem Gd.ap{n:bi}{l:List Te}(hl:l.length≤1000)(h:∀x∈l,x.Gd):(Te.ap n l).Gd:=.mk _ Bp (fun e=>by cases e.1) (by show l.length≤_;omega) h
theorem Gd.V8{o:Ob}(hv:o.Wf)(hn:o.kind=2∧o.sp=o6∧o.sn=R4→o=M5):(Te.V8 o).Gd:=.mk _ hv hn (Nat.zero_le _) (fun x hx=>by cases hx)
theorem wX:p8.Gd:=.V8 (PR O O) (fun e=>by cases e.2.2)
theorem Ca:noT.Gd:=.V8 (PR O O) (fun _=>rfl)
theorem Gd.arg{t:Te}{n:bi}{k i:Nat}(h:t.Gd)(hi:is t n k)(hk:i < k):(t.arg i).Gd:=h.kids (List.mem_of_getElem? (Z8 hi hk))
theorem Wt{a:Te}(ha:a.Gd):∀x∈[a],x.Gd:=fun x hx=>by rw[List.mem_singleton]at hx;subst hx;exact ha
theorem gd3{a b c:Te}(ha:a.Gd)(hb:b.Gd)(hc:c.Gd):∀x∈[a,b,c],x.Gd:=fun x hx=>by
 simp only[List.mem_cons,List.not_mem_nil,or_false]at hx;rcases hx with rfl | rfl | rfl
 ·exact ha
 ·exact hb
 ·exact hc
theorem Gd.not{a:Te}(h:a.Gd):(Te.ap D5 [a]).Gd:=.ap (by show 1≤1000;omega) (Wt h)
theorem Gd.iX{a b c:Te}(ha:a.Gd)(hb:b.Gd)(hc:c.Gd):(Te.ap x8 [a,b,c]).Gd:=.ap (by show 3≤1000;omega) (gd3 ha hb hc)
theorem Gd.opened{t a:Te}(h:t.Gd)(e:Te.opened t=some a):a.Gd:=by
 unfold Te.opened at e;split at e
 ·rename_i hi;cases e;exact (h.arg hi J).iX Ca wX
 split at e
 ·rename_i hi;cases e;exact (h.arg hi (show 0 < 2 by omega)).iX ((h.arg hi (show 1 < 2 by omega)).iX wX Ca) wX
 split at e
 ·rename_i hi;cases e;exact (h.arg hi (show 0 < 2 by omega)).iX ((h.arg hi (show 1 < 2 by omega)).iX wX Ca) ((h.arg hi (show 1 < 2 by omega)).iX Ca wX)
 ·cases e
end Te
theorem a3q(D:List Te→List Te)(s:NS)(c:List Te):(s.fail D c).ex=s.ex:=by unfold NS.fail;split <;> rfl
theorem a1d(D:List Te→List Te)(s:NS)(c:List Te)(h:s.out.length≤400):(s.fail D c).out.length≤400:=by
 unfold NS.fail;split
 ·exact h
 ·rename_i hn;show (s.out++[D c]).length≤400;rw[List.length_append,List.length_singleton];omega
theorem PS(s:NS):s.tick.ex=s.ex+1:=rfl
theorem PT{s:NS}(h:¬s.tick.er≠0):s.ex < 20000∧s.er=0∧s.tick=⟨s.out,s.ex+1,s.er⟩:=by
 unfold NS.tick at h ⊢;split at h
 ·exact absurd (show (2:Int)≠0 by decide) h
 ·rename_i h1;rw[if_neg h1];exact⟨J,by simpa using h,rfl⟩
theorem AX(D:List Te→List Te):∀(f:Nat) (t:Te) (qs:List Te) (s:NS),s.out.length≤400→s.ex≤(U7 D f t qs s).ex∧(U7 D f t qs s).ex≤max (s.ex+1) (20000+f)∧(U7 D f t qs s).out.length≤400
 |0,_,_,s,h=>by rw[U7];exact⟨Int.le_refl _,J,h⟩
 |f+1,t,qs,s,h=>by
  rw[U7];split
  ·rw[PS];exact⟨J,J,h⟩
  rename_i he;obtain⟨h1,h2,h3⟩:=PT he;have hto:s.tick.out.length≤400:=h;have hte:=PS s;have step:∀t' rf,s.ex≤(U7 D f t' rf s.tick).ex∧(U7 D f t' rf s.tick).ex≤max (s.ex+1) (20000+(f+1:Nat))∧(U7 D f t' rf s.tick).out.length≤400:=fun t' rf=>by
   obtain⟨k1,k2,k3⟩:=AX D f t' rf s.tick hto;exact⟨J,J,k3⟩
  have fl:∀c,s.ex≤(s.tick.fail D c).ex∧(s.tick.fail D c).ex≤max (s.ex+1) (20000+(f+1:Nat))∧(s.tick.fail D c).out.length≤400:=fun c=>by
   rw[a3q];exact⟨J,J,a1d D _ c hto⟩
  have st:s.ex≤s.tick.ex∧s.tick.ex≤max (s.ex+1) (20000+(f+1:Nat))∧s.tick.out.length≤400:=⟨J,J,hto⟩;split
  ·split
   ·exact fl _
   ·exact st
  split
  ·exact step _ _
  split
  ·split
   ·exact step _ _
   split
   ·exact step _ _
   split
   ·exact step _ _
   split
   ·exact step _ _
   split
   ·exact step _ _
   split
   ·exact step _ _
   split
   ·exact step _ _
   ·obtain⟨k1,k2,k3⟩:=AX D f (t.arg 1) (qs++[t.arg 0]) s.tick hto;obtain⟨m1,m2,m3⟩:=AX D f (t.arg 2) (qs++[ap D5 [t.arg 0]]) _ k3;exact⟨J,by
     rcases Nat.eq_zero_or_pos f with h0 | h0
     ·subst h0;rw[U7,U7];omega
     ·omega,m3⟩
  ·split
   ·exact st
   split
   ·exact fl _
   ·exact fl _
def KC(D:List Te→List Te)(f:Nat)(a d e:Te)(qs:List Te)(s:NS):NS :=
 if a.kind=2∧a.val=M5 then U7 D f e qs s
 else if a.kind=2 then U7 D f d qs s
 else if is a D5 1 then U7 D f (ap x8 [a.arg 0,e,d]) qs s
 else if is a x8 3 then U7 D f (ap x8 [a.arg 0,ap x8 [a.arg 1,d,e],ap x8 [a.arg 2,d,e]]) qs s
 else match opened a with
  |some a'=>U7 D f (ap x8 [a',d,e]) qs s
  |none =>
   if a∈qs then U7 D f d qs s
   else if ap D5 [a]∈qs then U7 D f e qs s
   else U7 D f e (qs++[ap D5 [a]]) (U7 D f d (qs++[a]) s)
theorem a1e(D:List Te→List Te)(f:Nat)(t:Te)(qs:List Te)(s:NS):U7 D (f+1) t qs s =
  if s.tick.er≠0 then s.tick else
  if t.kind=2 then (if t.val=M5 then s.tick.fail D (qs.map neg) else s.tick) else
  match opened t with
  |some t'=>U7 D f t' qs s.tick
  |none =>
   if is t x8 3 then KC D f (t.arg 0) (t.arg 1) (t.arg 2) qs s.tick
   else if t∈qs then s.tick
   else if ap D5 [t]∈qs then s.tick.fail D (qs.map neg)
   else s.tick.fail D (qs.map neg++[t]):=by rw[U7];rfl
def Wu(f:Nat):Prop:=∀(t:Te) (qs:List Te) (s:NS),t.Gd→(∀q∈qs,q.Gd)→(qs.length:Int)≤s.ex→s.ex≤45000→20001≤s.ex+f→1≤f→s.out.length≤400→C8 57 [.ptr 0 0,o7 t,D9 qs] (I6 s) (.l7 []) (I6 (U7 id f t qs s))
theorem Oe{t:Te}(h:t.Gd)(e:t.val=M5):j5 41 [l9 t.val] (j6 true):=(Od t.val).b (decide_eq_true (h.nil.2 e))
theorem Og{t:Te}(h:t.Gd)(e:t.val≠M5):j5 41 [l9 t.val] (j6 false):=(Od t.val).b (decide_eq_false fun h'=>e (h.nil.1 h'))
theorem PU{qs:List Te}{a:Te}(h:∀q∈qs,q.Gd)(ha:a.Gd):∀q∈qs++[a],q.Gd:=fun q hq=>by
 rcases List.mem_append.1 hq with hq | hq
 ·exact h q hq
 ·exact Wt ha q hq
theorem a1f{f:Nat}(hE:Wu f)(hf2:f≤20002)(a d e:Te)(qs:List Te)(s:NS)(ha:a.Gd)(hd:d.Gd)(he:e.Gd)(hq:∀q∈qs,q.Gd)(hl:(qs.length:Int)+1≤s.ex)(hx:s.ex≤20000)(hf:20001≤s.ex+f)(ho:s.out.length≤400):C8 103 [.ptr 0 0,o7 a,o7 d,o7 e,D9 qs] (I6 s) (.l7 []) (I6 (KC id f a d e qs s)):=by
 have ex:∀t,t.Gd→C8 57 [.ptr 0 0,o7 t,D9 qs] (I6 s) (.l7 []) (I6 (U7 id f t qs s)):=fun t ht=>hE t qs s ht hq J J hf J ho
 have ry:∀q∈qs,q.Wf:=fun q h=>(hq q h).wf
 have hl2:qs.length≤100000:=J;unfold KC;split
 ·rename_i hk;exact b0x hk.1 (Oe ha hk.2) (ex e he)
 rename_i hnk;split
 ·rename_i hk;exact b0y hk (Og ha fun h=>hnk ⟨hk,h⟩) (ex d hd)
 rename_i hk;split
 ·rename_i hi;exact b0z hk hi (Z8 hi J) (ex _ ((ha.arg hi J).iX he hd))
 rename_i hi;split
 ·rename_i hj;exact b0A hk hi hj (Z8 hj (show 0 < 3 by omega)) (Z8 hj (show 1 < 3 by omega)) (Z8 hj (show 2 < 3 by omega)) (ex _ ((ha.arg hj (show 0 < 3 by omega)).iX ((ha.arg hj (show 1 < 3 by omega)).iX hd he) ((ha.arg hj (show 2 < 3 by omega)).iX hd he)))
 rename_i hj;split
 ·rename_i b hn;exact b0B hk hi hj hn (ex _ ((ha.opened hn).iX hd he))
 rename_i hn;split
 ·rename_i hm;exact b0C hk hi hj hn hl2 ry hm (ex d hd)
 rename_i hm;split
 ·rename_i hm2;exact b0D hk hi hj hn hl2 ry hm hm2 (ex e he)
 rename_i hm2;obtain⟨k1,k2,k3⟩:=AX id f d (qs++[a]) s ho;exact b0E hk hi hj hn hl2 ry hm hm2 (hE d (qs++[a]) s hd (PU hq ha) (by simp;omega) J hf J ho) (hE e (qs++[ap D5 [a]]) _ he (PU hq ha.not) (by simp;omega) J J J k3)
theorem GV:∀f:Nat,f≤20002→Wu f
 |0,_=>fun t qs s _ _ _ _ _ h=>J
 |f+1,hf2=>fun t qs s ht hq hl hx hf _ ho=>by
  have ry:∀q∈qs,q.Wf:=fun q h=>(hq q h).wf
  have hl0:(0:Int)≤s.ex:=J;rw[a1e];split
  ·rename_i he;by_cases h1:20000 < s.ex+1
   ·have e:s.tick=⟨s.out,s.ex+1,2⟩:=by unfold NS.tick;rw[if_pos h1]
    rw[e];exact a7X hl0 J J
   ·have e:s.tick=⟨s.out,s.ex+1,s.er⟩:=by unfold NS.tick;rw[if_neg h1]
    rw[e]at he ⊢
    exact a7Y hl0 J J he
  rename_i he;obtain⟨h1,h2,h3⟩:=PT he;rw[h3];have hl2:qs.length≤100000:=J;have pf:∀ms,ms.length≤1000→C8 101 [.ptr 0 0,D9 qs,D9 ms] (I6 ⟨s.out,s.ex+1,s.er⟩) (.l7 []) (I6 (NS.fail id ⟨s.out,s.ex+1,s.er⟩ (qs.map neg++ms))):=fun ms hm=>a5R _ qs ms hl2 hm ho
  have KD:=pf [] O;rw[List.append_nil]at KD;split
  ·rename_i hk;split
   ·rename_i hn;exact a7Z hl0 J h1 h2 hk (Oe ht hn) KD
   ·rename_i hn;exact a8a hl0 J h1 h2 hk (Og ht hn)
  rename_i hk;split
  ·rename_i a hn;exact a8b hl0 J h1 h2 hk hn (GV f J a qs ⟨s.out,s.ex+1,s.er⟩ (ht.opened hn) hq (by show (qs.length:Int)≤s.ex+1;omega) (by show s.ex+1≤45000;omega) (by show 20001≤s.ex+1+f;omega) J ho)
  rename_i hn;split
  ·rename_i hi;exact a8c hl0 J h1 h2 hk hn hi (Z8 hi (show 0 < 3 by omega)) (Z8 hi (show 1 < 3 by omega)) (Z8 hi (show 2 < 3 by omega)) (a1f (GV f J) J _ _ _ qs ⟨s.out,s.ex+1,s.er⟩ (ht.arg hi (show 0 < 3 by omega)) (ht.arg hi (show 1 < 3 by omega)) (ht.arg hi (show 2 < 3 by omega)) hq (by show (qs.length:Int)+1≤s.ex+1;omega) (by show s.ex+1≤20000;omega) (by show 20001≤s.ex+1+f;omega) ho)
  rename_i hi;split
  ·rename_i hm;exact a8d hl0 J h1 h2 hk hn hi J ry hm
  rename_i hm;split
  ·rename_i hm2;exact a8e hl0 J h1 h2 hk hn hi J ry hm hm2 KD
  ·rename_i hm2;exact a8f hl0 J h1 h2 hk hn hi J ry hm hm2 (pf [t] (by show 1≤1000;omega))
abbrev UE(s:NS):AV:=if s.er=0 then .l7 [b0l s.out,j3 0] else .l7 [.dt (.row []),j3 s.er]
theorem a8g{t:Te}{cs:bv}{ex er:Int}(hc:C8 57 [.ptr 0 0,o7 t,.dt (.row [])] [some (.cells [.nil,j3 0,j3 0])] (.l7 []) (J8 cs ex er)):j5 26 [o7 t] (if er=0 then .l7 [.dt (.row cs),j3 0] else .l7 [.dt (.row []),j3 er]):=by
 by_cases h:er=0
 ·rw[if_pos h];exact pW [yF] [.J6 2 2 [1] (.l7 []) [some (.cells [.own 1 cs.length,j3 ex,j3 er]),some (.buf 35 1 cs)]] [_,Bk .neq 31 13 0 er bF,(cs.length)=(cs.length)] func26 ⟨hc,E9 (by simp[h]),rfl,Z⟩
 ·rw[if_neg h];exact pW [yT] [.J6 2 2 [1] (.l7 []) [some (.cells [.own 1 cs.length,j3 ex,j3 er]),some (.buf 35 1 cs)]] [_,Bk .neq 31 13 0 er bT] func26 ⟨hc,E9 (by simp[h]),Z⟩
theorem Yr{t:Te}(ht:t.Gd):j5 26 [o7 t] (UE (U7 id 20002 t [] ⟨[],0,0⟩)) :=
 a8g (aK.Z4 (GV 20002 (Nat.le_refl _) t [] ⟨[],0,0⟩ ht (fun q hq=>by cases hq) O O O O O))
abbrev kP(l out:List Te)(i:Int):AS:=⟨stt 36 [(1,D9 l),(5,.own 0 (K4 out).length),(6,j3 i)],[some (.buf 50 11 (K4 out))]⟩
noncomputable abbrev Dp:Code:=M9 (P6 f17) [1,1,0,1,0,0]
theorem b0F{l out:List Te}{x:Te}{i:Nat}(hx:l[i]?=some x)(hl:l.length≤100000)(hw:∀y∈out,y.Wf)(ho:out.length≤200000)(hm:x∈out):y7 EX Dp (kP l out i) .F4 (kP l out ((i+1:Nat):Int)) :=
 tW [.av (j3 l.length),yT,.av (.pin ((p9 x).map .dt)),yT,.av (j3 ((i+1:Nat):Int))] [] [1,5,6] 1 [(vi ↑l.length)=(vi (↑(List.map Te.enc l).length)),Bt .lss 3 15 17 ↑i ↑l.length bT,z8 (List.map Te.enc l) ↑i 11 (p9 x),j5 45 [(.dt (.row (K4 out))),(o7 x)] (j6 true),((K4 out).length)=((K4 out).length),Bk .add 3 19 1 ↑i (vi (↑(i+1)))]     ⟨H7 _,C9 (decide_eq_true (by have:=(List.getElem?_eq_some_iff.1 hx).1;omega)),L8 hx,(PO J hw x).b (U4 hm),rfl,I4 J J (by have:=(List.getElem?_eq_some_iff.1 hx).1;omega),Z⟩
theorem b0G{l out:List Te}{x:Te}{i:Nat}(hx:l[i]?=some x)(hl:l.length≤100000)(hw:∀y∈out,y.Wf)(ho:out.length≤200000)(hm:x ∉ out):y7 EX Dp (kP l out i) .F4 (kP l (out++[x]) ((i+1:Nat):Int)):=by
 rw[show kP l (out++[x]) ((i+1:Nat):Int)=⟨stt 36 [(1,D9 l),(5,.own 0 (K4 out++[p9 x]).length),(6,j3 ((i+1:Nat):Int))],[some (.buf 50 11 (K4 out++[p9 x]))]⟩ by rw[wz]]
 exact tW [.av (j3 l.length),yT,.av (.pin ((p9 x).map .dt)),yF,.av (.pin ((p9 x).map .dt)),.av (.un),.av (j3 ((i+1:Nat):Int))] [] [1,5,6] 1 [(vi ↑l.length)=(vi (↑(List.map Te.enc l).length)),Bt .lss 3 15 17 ↑i ↑l.length bT,z8 (List.map Te.enc l) ↑i 11 (p9 x),j5 45 [(.dt (.row (K4 out))),(o7 x)] (j6 false),((K4 out).length)=((K4 out).length),z8 (List.map Te.enc l) ↑i 11 (p9 x),((K4 out).length)=((K4 out).length),P9 176 ((K4 out++[p9 x]).length),L6 11 [p9 x],Bk .add 3 19 1 ↑i (vi (↑(i+1)))]     ⟨H7 _,C9 (decide_eq_true (by have:=(List.getElem?_eq_some_iff.1 hx).1;omega)),L8 hx,(PO J hw x).b (K9 hm),rfl,L8 hx,rfl,bG J (by simp;omega),sZ x,I4 J J (by have:=(List.getElem?_eq_some_iff.1 hx).1;omega),Z⟩
theorem b0H{l out:List Te}{i:Nat}(hi:i=l.length):y7 EX Dp (kP l out i) (.out 0) (kP l out i) :=
 tW [.av (j3 l.length),yF] [] [1,5,6] 1 [(vi ↑l.length)=(vi (↑(List.map Te.enc l).length)),Bt .lss 3 15 17 ↑i ↑l.length bF]     ⟨H7 _,C9 (decide_eq_false J),Z⟩
theorem a3r{l:List Te}(hl:l.length≤100000)(hw:∀y∈l,y.Wf):∀(s:List Te) (i:Nat) (out:List Te),l.drop i=s→i≤l.length→(∀y∈out,y.Wf)→out.length+s.length≤200000→J7 EX Dp (kP l out i) (.out 0) (kP l (addN out s) l.length):=by
 intro s
 induction s with
 |nil =>
  intro i out hd hi he _;have e1:=congrArg List.length hd;rw[List.length_drop,List.length_nil]at e1;obtain rfl:i=l.length:=J;rw[addN];exact .stop (b0H rfl) (fun h=>by cases h)
 |cons x s ih =>
  intro i out hd hi he ho;have hx:l[i]?=some x:=by rw[←List.head?_drop,hd];rfl
  have hlt:=(List.getElem?_eq_some_iff.1 hx).1;rw[List.length_cons]at ho;rw[addN];by_cases hm:x∈out
  ·rw[if_pos hm];exact .more (b0F hx hl he J hm) (ih (i+1) out (by rw[←List.drop_drop,hd];rfl) J he J)
  ·rw[if_neg hm];refine .more (b0G hx hl he J hm) (ih (i+1) (out++[x]) (by rw[←List.drop_drop,hd];rfl) J (fun y hy=>?_) (by rw[List.length_append,List.length_singleton];omega));rcases List.mem_append.1 hy with hy | hy
   ·exact he y hy
   ·rw[List.mem_singleton]at hy;subst hy;exact hw _ (List.mem_of_getElem? hx)
theorem a5S{c l:List Te}(hc:c.length≤100000)(hl:l.length≤100000)(hcw:∀y∈c,y.Wf)(hw:∀y∈l,y.Wf):j5 17 [D9 c,D9 l] (D9 (addN c l)):=by
 have ht:=(a3r hl hw l 0 c rfl (Nat.zero_le _) hcw J).K3;generalize addN c l=r at *;exact pW [.av (j3 c.length),.av (j3 l.length),.av (j3 (c.length+l.length:Nat)),.no,.av (.un)] [.inv [1,5,6] 1 (.out 0) (kP l r l.length)] [(vi ↑c.length)=(vi (↑(List.map Te.enc c).length)),(vi ↑l.length)=(vi (↑(List.map Te.enc l).length)),Bt .add 3 8 10 ↑c.length ↑l.length (vi (↑(c.length+l.length))),jB 176 (↑(c.length+l.length)),0=0,P9 176 (([]++List.map Te.enc c).length),L6 11 (List.map Te.enc c),_,((K4 r).length)=((K4 r).length)] func17 ⟨H7 _,H7 _,I4 J J J,⟨J,J,by show ((c.length+l.length:Nat):Int)≤((2 ^ 63 - 1:Nat):Int);omega⟩,rfl,bG J (by simp;omega),qm c,ht,rfl,Z⟩
end Go.Proofs.YtdkehabacmlegaaGreatDoor
namespace Go.Proofs.YtdkehabacmlegaaGreatDoor
open Go.Proofs.Tryz
open Go.RowKit
abbrev wr(n:Int):Int:=IntKind.i64.wrap n
abbrev G9(r:Raw):AV:=.agg [j3 r.kind,j3 r.n,stA r.s,.dt (.row (r.l.map Raw.enc))]
abbrev encR(r:Raw):List Dt:=[.val (.int .i64 r.kind),.val (.int .i64 r.n),.val (str r.s),.row (r.l.map Raw.enc)]
theorem a8h(r:Raw):r.enc=encR r:=Raw.lD r
theorem lH{l:List Raw}{i:Nat}{o:Raw}(h:l[i]?=some o):z8 (l.map Raw.enc) (i:Int) 4 (encR o):=⟨Int.natCast_nonneg _,by
 rw[Int.toNat_natCast,List.getElem?_map,h];exact congrArg some (a8h o),rfl⟩
theorem Z7(l:List Raw):Value.int .i64 (l.length:Int)=Value.int .i64 ((l.map Raw.enc).length:Int):=by rw[List.length_map]
theorem Bq(l:bi):Value.int .i64 (l.length:Int)=Value.int .i64 (l.length:Int):=rfl
theorem aB(n m:Int)(hm:0 < m)(hm1:m≤1000000):j5 10 [j3 n,j3 m] (j3 (n % m)) :=
 ⟨O3 func10 rfl (by kernel_rfl),fun ok w vs ht hv=>by
  obtain⟨u,us,rfl,h1,h2⟩:=hv;obtain rfl:=RL.dA h2;rw[Rd.Q9 h1];refine (a2N n m w hm hm1).mono ?_;rintro e w' ⟨rfl,rfl⟩;exact⟨_,rfl,Below.refl _ _,.val _⟩⟩
mutual
def eG:Raw→Int→Int
 |⟨_,_,s,l⟩,m=>if 12 < s.length then -1 else if 6 < l.length then -1 else fP l (wr (m - 1))
def fP:List Raw→Int→Int
 |[],m=>m
 |x::r,m=>if 0≤m then fP r (eG x m) else m
end
theorem Oh(r:Raw)(m:Int):eG r m=if 12 < r.s.length then -1 else if 6 < r.l.length then -1 else fP r.l (wr (m - 1)):=by
 cases r;rw[eG]
theorem YU{l:List Raw}{m:Int}(h:m < 0):fP l m=m:=by
 cases l with
 |nil=>rw[fP]
 |cons x r=>rw[fP,if_neg J]
theorem a8i{n:Int}(h0:-9223372036854775808≤n)(h1:n≤9223372036854775807):wr n=n:=by
 show IntKind.i64.wrap n=n;rw[IntKind.wrap_i64];omega
def gX(r:Raw)(m:Int):Bool:=decide (0≤eG r m)
abbrev mG(r:Raw)(i m:Int):AS:=⟨stt 37 [(1,j3 m),(2,.ptr 0 0),(4,j3 0),(5,j3 i)],[some (.cells [j3 r.kind,j3 r.n,stA r.s,.dt (.row (r.l.map Raw.enc))])]⟩
noncomputable abbrev Dq:Code:=M9 (P6 f55) [1,1,1,0,1,0,0]
theorem b0I{r x:Raw}{i:Nat}{m k:Int}(hx:r.l[i]?=some x)(hl:r.l.length≤6)(h0:0≤m)(hk:j5 55 [G9 x,j3 m] (j3 k)):y7 EX Dq (mG r i m) .F4 (mG r ((i+1:Nat):Int) k) :=
 tW [.av (j3 r.l.length),yT,yT,.av (.pin ((encR x).map .dt)),.av (j3 k),.av (j3 ((i+1:Nat):Int))] [] [1,2,4,5] 1 [(vi ↑r.l.length)=(vi (↑(List.map Raw.enc r.l).length)),Bt .lss 3 18 21 ↑i ↑r.l.length bT,Bk .geq 3 24 0 m bT,z8 (List.map Raw.enc r.l) ↑i 4 (encR x),j5 55 [(G9 x),(j3 m)] (j3 k),Bk .add 3 27 1 ↑i (vi (↑(i+1)))]     ⟨Z7 _,C9 (decide_eq_true (by have:=(List.getElem?_eq_some_iff.1 hx).1;omega)),R7 (decide_eq_true h0),lH hx,hk,I4 J J (by have:=(List.getElem?_eq_some_iff.1 hx).1;omega),Z⟩
theorem b0J{r:Raw}{i:Nat}{m:Int}(hi:i=r.l.length):y7 EX Dq (mG r i m) (.out 0) (mG r i m) :=
 tW [.av (j3 r.l.length),yF] [] [1,2,4,5] 1 [(vi ↑r.l.length)=(vi (↑(List.map Raw.enc r.l).length)),Bt .lss 3 18 21 ↑i ↑r.l.length bF]     ⟨Z7 _,C9 (decide_eq_false J),Z⟩
theorem b0K{r:Raw}{i:Nat}{m:Int}(hi:i < r.l.length)(h0:m < 0):y7 EX Dq (mG r i m) (.out 0) (mG r i m) :=
 tW [.av (j3 r.l.length),yT,yF] [] [1,2,4,5] 1 [(vi ↑r.l.length)=(vi (↑(List.map Raw.enc r.l).length)),Bt .lss 3 18 21 ↑i ↑r.l.length bT,Bk .geq 3 24 0 m bF]     ⟨Z7 _,C9 (decide_eq_true J),R7 (decide_eq_false J),Z⟩
theorem a5T:∀(N:Nat) (r:Raw) (m:Int),r.size≤N→j5 55 [G9 r,j3 m] (j3 (eG r m)):=by
 intro N
 induction N with
 |zero=>intro r m h;have:=r.size_pos;omega
 |succ N ih =>
  intro r m hN;rw[Oh];by_cases h12:12 < r.s.length
  ·rw[if_pos h12];exact pV [.av (j3 r.s.length),yT] [(vi ↑r.s.length)=(vi (↑r.s.length)),Bk .gtr 3 8 12 ↑r.s.length bT] func55 ⟨Bq _,Q0 (decide_eq_true J),Z⟩
  rw[if_neg h12];by_cases h6:6 < r.l.length
  ·rw[if_pos h6];exact pV [.av (j3 r.s.length),yF,.av (j3 r.l.length),yT] [(vi ↑r.s.length)=(vi (↑r.s.length)),Bk .gtr 3 8 12 ↑r.s.length bF,(vi ↑r.l.length)=(vi (↑(List.map Raw.enc r.l).length)),Bk .gtr 3 13 6 ↑r.l.length bT] func55 ⟨Bq _,Q0 (decide_eq_false J),Z7 _,Q0 (decide_eq_true J),Z⟩
  rw[if_neg h6];have loop:∀(l:List Raw) (i:Nat) (m:Int),r.l.drop i=l→i≤r.l.length→(∀x∈l,x.size≤N)→∃j:Nat,J7 EX Dq (mG r i m) (.out 0) (mG r j (fP l m)):=by
   intro l
   induction l with
   |nil =>
    intro i m hd hi _;have:i=r.l.length:=by
     have:=congrArg List.length hd;rw[List.length_drop,List.length_nil]at this;omega
    rw[fP];exact⟨i,.stop (b0J this) (fun h=>by cases h)⟩
   |cons x l ihl =>
    intro i m hd hi hs;have hx:r.l[i]?=some x:=by rw[←List.head?_drop,hd];rfl
    have hlt:=(List.getElem?_eq_some_iff.1 hx).1;rw[fP];by_cases h0:0≤m
    ·rw[if_pos h0];obtain⟨j,hj⟩:=ihl (i+1) (eG x m) (by rw[←List.drop_drop,hd];rfl) J (fun y hy=>hs y (List.mem_cons_of_mem _ hy));exact⟨j,.more (b0I hx J h0 (ih x m (hs x (List.mem_cons_self ..)))) hj⟩
    ·rw[if_neg h0];exact⟨i,.stop (b0K hlt J) (fun h=>by cases h)⟩
  obtain⟨j,hj⟩:=loop r.l 0 (wr (m - 1)) rfl (Nat.zero_le _) (fun x hx=>by have:=Raw.tK hx;omega);generalize fP r.l (wr (m - 1))=k at *;exact pW [.av (j3 r.s.length),yF,.av (j3 r.l.length),yF,.no] [.inv [1,2,4,5] 1 (.out 0) (mG r j k)] [(vi ↑r.s.length)=(vi (↑r.s.length)),Bk .gtr 3 8 12 ↑r.s.length bF,(vi ↑r.l.length)=(vi (↑(List.map Raw.enc r.l).length)),Bk .gtr 3 13 6 ↑r.l.length bF,_] func55 ⟨Bq _,Q0 (decide_eq_false J),Z7 _,Q0 (decide_eq_false J),hj.K3,Z⟩
theorem Tz(r:Raw)(m:Int):j5 24 [G9 r,j3 m] (j6 (gX r m)) :=
 pV [.av (j3 (eG r m)),.av (j6 (gX r m))] [j5 55 [(G9 r),(j3 m)] (j3 (eG r m)),Bk .geq 3 7 0 (eG r m) (Value.bool (gX r m))] func24 ⟨a5T _ r m (Nat.le_refl _),R7 rfl,Z⟩
namespace Te
abbrev kH(n:bi):Te:=⟨1,O9,n,U0,[]⟩
abbrev GX:bi:=[101,113,117,97,108]
theorem yw(a b:Te):[p9 a,p9 b]=[a,b].map Te.enc:=by simp only[List.map_cons,List.map_nil,xB]
end Te
open Te
theorem a1g(n:bi)(a b:Te):j5 29 [stA n,.dt (.row [p9 a,p9 b])] (o7 (Te.ap n [a,b])):=FW n [a,b] (yw a b)
theorem Br(n:bi):j5 58 [stA n] (o9 O9 n):=pV [] [] func58 trivial
abbrev bP(n:bi):List Dt:=[.val (str O9),.val (str n)]
abbrev Cb:bv:=[bP [120],bP [121],bP [122],bP [117]]
theorem FX:j5 27 [j3 4] (.dt (.row Cb)):=pV [.av (o9 O9 [120]),.av (o9 O9 [121]),.av (o9 O9 [122]),.av (o9 O9 [117]),.no,.no,.no] [j5 58 [(stA [120])] (o9 O9 [120]),j5 58 [(stA [121])] (o9 O9 [121]),j5 58 [(stA [122])] (o9 O9 [122]),j5 58 [(stA [117])] (o9 O9 [117]),bW Cb 2 0 4 Cb,(none:Option Int)=none∨(none:Option Int)=some (if (if 4 < 4 then 4 else 4) > 0 then if 4 < 4 then 4 else 4 else 0)] func27 ⟨Br _,Br _,Br _,Br _,⟨O,O,O,rfl,.inl rfl⟩,.inl rfl,Z⟩
theorem wY(n:bi):j5 28 [o9 O9 n] (o7 (kH n)):=pV [] [] func28 trivial
theorem Te.jk(n:bi):(kH n).Gd:=.mk _ Bp (fun e=>by cases e.1) (Nat.zero_le _) (fun x hx=>by cases hx)
end Go.Proofs.YtdkehabacmlegaaGreatDoor
namespace Go.Proofs.YtdkehabacmlegaaGreatDoor
open Go.Proofs.Tryz
open Go.RowKit
open Te
theorem aK.Rl{P:Program}{G:World→Prop}{f:FuncId}{args:List AV}{T:TypeId}{kk:Nat}(h:aK P G f args [] .nil []):aK P G f args [] (.own 0 0) [some (.buf T kk [])]:=by
 refine⟨h.1,fun X M w vs hG hS hargs=>(h.2 X M w vs hG hS hargs).mono ?_⟩;rintro e w' ⟨v,M',h1,h2,h3,h4,h5⟩;have hk:lk [] 0=none:=rfl;refine⟨v,M'.Z4 0,h1,h2.trans (AU h3 hk),?_,h4,PQ h5⟩;have:=FH h3 h2.below.size hk T kk
 rwa [show V6 (lk []) 0 (.buf T kk [])=lk [some (.buf T kk [])] from funext fun b=>by
  match b with
  |0=>rfl
  |b+1=>rfl]at this
theorem aK.empty{P:Program}{G:World→Prop}{f:FuncId}{xs xs':List (Option Bx)}{r:AV}(h0:∀c,aK P G f [.dt (.val (.slice none 0 c))] xs r xs')(h1:∀A c,aK P G f [.dt (.val (.slice (some A) 0 c))] xs r xs'):aK P G f [.dt (.row [])] xs r xs':=by
 refine⟨(h0 0).1,fun X M w vs hG hS hargs=>?_⟩;obtain⟨v,us,rfl,hv,hu⟩:=hargs;obtain rfl:us=[]:=hu;have hv:Rd M.F w v (.row []):=hv;cases hv with
 |nil A c =>
  cases A with
  |none=>exact (h0 c).2 X M w _ hG hS ⟨_,[],rfl,Rd.val _,rfl⟩
  |some A=>exact (h1 A c).2 X M w _ hG hS ⟨_,[],rfl,Rd.val _,rfl⟩
 |row b o n c k l f hn h0=>cases hn;exact absurd h0 (Nat.lt_irrefl _)
theorem AY{t e:TypeId}{x y:Operand}{A:Option Addr}{n c:Nat}(hu:prog.underlying t=some (.slice e)):Bn .eql t x y (.slice A n c) (.slice none 0 0) (.bool A.isNone):=by
 intro w;have:=Lib.run_eql_slice_nil (P:=prog) w t e A n c 0 0 hu;simp only[eqGuard,Sem.run_bind,Sem.run_pure,Result.andThen,Bool.not_true,Bool.false_eq_true,if_false,this]
theorem IM:jB 0 0:=⟨O,O,O⟩
theorem a1h:C8 108 [.dt (.row [])] [] (.own 0 0) [some (.buf 50 11 [])] :=
 .empty (fun c=>.Rl (sW 0 [] [yT] [] [Bn .eql 35 (.tmp 3) (.const (Value.slice none 0 0)) (Value.slice none 0 c) (Value.slice none 0 0) bT] func108 ⟨AY (e:=50) (by kernel_rfl),Z⟩))
  fun A c=>sW 0 [0] [yF,.no] [] [Bn .eql 35 (.tmp 3) (.const (Value.slice none 0 0)) (Value.slice (some A) 0 c) (Value.slice none 0 0) bF,_] func108 ⟨AY (e:=50) (by kernel_rfl),IM,Z⟩
theorem a3s{es:bv}(h0:es≠[])(hl:es.length≤1000)(hs:L6 11 es):C8 108 [.dt (.row es)] [] (.own 0 es.length) [some (.buf 50 11 es)] :=
 sW 0 [0] [.no,.av (.un)] [] [_,_,0=0,P9 176 (([]++es).length),_] func108 ⟨h0,IM,rfl,bG J (by rw[List.nil_append];omega),hs,Z⟩
theorem ZL:C8 153 [.dt (.row [])] [] (.own 0 0) [some (.buf 99 13 [])] :=
 .empty (fun c=>.Rl (sW 0 [] [yT] [] [Bn .eql 39 (.tmp 3) (.const (Value.slice none 0 0)) (Value.slice none 0 c) (Value.slice none 0 0) bT] func153 ⟨AY (e:=99) (by kernel_rfl),Z⟩))
  fun A c=>sW 0 [0] [yF,.no] [] [Bn .eql 39 (.tmp 3) (.const (Value.slice none 0 0)) (Value.slice (some A) 0 c) (Value.slice none 0 0) bF,_] func153 ⟨AY (e:=99) (by kernel_rfl),IM,Z⟩
theorem b0L{p:Te}(hp:p.Gd):∀x∈[p],x.Wf:=fun x hx=>by rw[List.mem_singleton]at hx;subst hx;exact hp.wf
theorem b0M{p q:Te}(hp:p.Gd)(hq:q.Gd):∀x∈[p,q],x.Wf:=fun x hx=>by
 simp only[List.mem_cons,List.not_mem_nil,or_false]at hx;rcases hx with rfl | rfl
 ·exact hp.wf
 ·exact hq.wf
abbrev uu:FuncId:=64
theorem a8j(t:Te):j5 uu [.dt (.row []),o7 t] (j6 false):=(gM (c:=[]) O (fun x hx=>by cases hx) t).b (K9 I)
theorem TA{p t:Te}(hp:p.Gd){b:Bool}(h:decide (t∈[p])=b):j5 uu [.dt (.row [p9 p]),o7 t] (j6 b):=by
 rw[gW];exact (gM (c:=[p]) (by show 1≤_;omega) (b0L hp) t).b h
theorem TB{p q t:Te}(hp:p.Gd)(hq:q.Gd){b:Bool}(h:decide (t∈[p,q])=b):j5 uu [.dt (.row [p9 p,p9 q]),o7 t] (j6 b):=by
 rw[yw];exact (gM (c:=[p,q]) (by show 2≤_;omega) (b0M hp hq) t).b h
theorem a5U(p:Te):j5 65 [.dt (.row []),.dt (.row [p9 p])] (.dt (.row [p9 p])) :=
 pW [.no,.no,.no,yF,.no,.no,.no] [.J6 1 1 [] (.own 0 0) [some (.buf 50 11 [])],.run 2] [_,j5 64 [(.dt (.row [])),(o7 p)] (j6 false),0=0,1=1] func65 ⟨a1h,a8j p,rfl,rfl,Z⟩
theorem a5V{p q:Te}(hp:p.Gd)(hq:q.Gd)(hne:q≠p):j5 65 [.dt (.row [p9 p]),.dt (.row [p9 q,p9 p])] (.dt (.row [p9 p,p9 q])) :=
 pW ([.no,.no,.no,yF]++nK 4 [yT,.no,.no]) [.J6 1 1 [] (.own 0 1) [some (.buf 50 11 [p9 p])],.run 3] [C8 108 [AV.dt (Dt.row [p9 p])] [] (AV.own 0 1) [some (Bx.buf 50 11 [p9 p])],j5 64 [(.dt (.row [p9 p])),(o7 q)] (j6 false),1=1,j5 64 [(.dt (.row [p9 p,p9 q])),(o7 p)] (j6 true),2=2,2=2] func65 ⟨a3s I I (sZ p),TA hp (K9 (by simp[hne])),rfl,TB hp hq (U4 I),rfl,rfl,Z⟩
theorem a3t{p q:Te}(hp:p.Gd)(hq:q.Gd)(hne:q≠p):j5 32 [.dt (.row [[.row [p9 p]],[.row [p9 q,p9 p]]])] (.dt (.row [p9 p,p9 q])) :=
 pW [.no,.no,.no,.av (.dt (.row [p9 p])),.no,.no,.no,.av (.dt (.row [p9 p,p9 q])),.no,.no] [.run 3] [j5 65 [(.dt (.row [])),(.dt (.row [p9 p]))] (.dt (.row [p9 p])),j5 65 [(.dt (.row [p9 p])),(.dt (.row [p9 q,p9 p]))] (.dt (.row [p9 p,p9 q]))] func32 ⟨a5U p,a5V hp hq hne,Z⟩
theorem Rm{c:List Te}{l m:Te}{b:Bool}(h0:l.kind≠2)(h1:j5 62 [o7 l,stA GX,j3 2] (j6 false))(h2:j5 62 [o7 l,stA D5,j3 1] (j6 false))(h3:j5 31 [o7 l] (o7 m))(h4:j5 uu [D9 c,o7 m] (j6 b)):j5 61 [o7 l,.pin [D9 c]] (j6 b) :=
 pV [yF,yF,yF,.av (o7 m),.av (j6 b)] [Bk .eql 3 5 2 l.kind bF,_,_,_,_] func61 ⟨A9 (K9 h0),h1,h2,h3,h4,Z⟩
theorem a5W{c:List Te}{l m y:Te}{b:Bool}(h0:l.kind≠2)(hx:l.args[0]?=some y)(h1:j5 62 [o7 l,stA GX,j3 2] (j6 false))(h2:j5 62 [o7 l,stA D5,j3 1] (j6 true))(h5:j5 48 [j6 false] (o7 noT))(h6:j5 63 [o7 y,o7 noT] (j6 false))(h3:j5 31 [o7 l] (o7 m))(h4:j5 uu [D9 c,o7 m] (j6 b)):j5 61 [o7 l,.pin [D9 c]] (j6 b) :=
 pV [yF,yF,yT,.av (.pin ((p9 y).map .dt)),.av (o7 noT),yF,.av (o7 m),.av (j6 b)] [Bk .eql 3 5 2 l.kind bF,_,_,z8 (List.map Te.enc l.args) 0 11 (p9 y),_,_,_,_] func61 ⟨A9 (K9 h0),h1,h2,L8 hx,h5,h6,h3,h4,Z⟩
theorem a5X{c:List Te}{b:Bool}(h:j5 60 [D9 c,.Z6 61 [.pin [D9 c]]] (j6 b)):j5 30 [D9 c] (j6 b) :=
 pV [.av (j6 b)] [_] func30 ⟨h,Z⟩
theorem Rn{c:List Te}(hl:c.length≤1000){p:Te→Bool}(h:∀x∈c,j5 61 [o7 x,.pin [D9 c]] (j6 (p x))):j5 30 [D9 c] (j6 (c.any p)) :=
 a5X (FE (cs:=[.pin [D9 c]]) J h)
abbrev mH(p y:Te):List Dt:=[.val (str p.np),.val (str p.nn)]++p9 y
abbrev KE:AV:=.agg [j3 0,stA [],stA [],j3 0,stA [],stA [],stA [],stA [],stA [],.nil,.nil]
theorem a3u(p y:Te):L6 13 [mH p y]:=by
 intro x hx;rw[List.mem_singleton]at hx;subst hx;refine⟨rfl,fun d hd=>?_⟩;rcases List.mem_append.1 hd with hd | hd
 ·simp only[List.mem_cons,List.not_mem_nil,or_false]at hd;rcases hd with rfl | rfl <;> rfl
 ·exact (sZ y _ (List.mem_singleton.2 rfl)).2 d hd
theorem ZM(a b:bi):C8 202 [.own 0 0,o9 a b] [some (.buf 99 13 [])] (.l7 [KE,j6 false]) [some (.buf 99 13 [])] :=
 sW 1 [0] [.no,.no] [.run 1] [] func202 trivial
theorem a1i{p y:Te}(h:p.kind=1):C8 154 [o7 p,o7 y,.own 0 0] [some (.buf 99 13 [])] (.l7 [.own 0 1,j6 true]) [some (.buf 99 13 [mH p y])] :=
 sW 1 [0] [yT,.av (.un)] [.J6 2 3 [0] (.l7 [KE,j6 false]) [some (.buf 99 13 [])]] [Bk .eql 3 15 1 p.kind bT,C8 202 [AV.own 0 0,AV.agg [AV.dt (Dt.val (str p.np)),AV.dt (Dt.val (str p.nn))]] [some (Bx.buf 99 13 [])] (AV.l7 [KE,j6 false]) [some (Bx.buf 99 13 [])],0=0,P9 208 1,L6 13 [mH p y]] func154 ⟨A9 (U4 h),ZM p.np p.nn,rfl,⟨O,O⟩,a3u p y,Z⟩
theorem YV{p y:Te}(h:p.kind=1):j5 121 [.dt (.row [p9 p]),.dt (.row [p9 y]),.dt (.row [])] (.l7 [.dt (.row [mH p y]),j6 true]) :=
 pW (nK 9 []) [.J6 3 1 [] (.own 0 0) [some (.buf 99 13 [])],.run 2,.J6 7 6 [0] (.l7 [.own 0 1,j6 true]) [some (.buf 99 13 [mH p y])]] [_,C8 154 [o7 p,o7 y,AV.own 0 0] [some (Bx.buf 99 13 [])] (AV.l7 [AV.own 0 1,j6 true]) [some (Bx.buf 99 13 [mH p y])],1=1] func121 ⟨ZL,a1i h,rfl,Z⟩
theorem a1j{p y:Te}(h:p.kind=1):j5 88 [o7 p,o7 y,.dt (.row [])] (.l7 [.dt (.row [mH p y]),j6 true]) :=
 pV [.av (.l7 [.dt (.row [mH p y]),j6 true])] [j5 121 [(.dt (.row [p9 p])),(.dt (.row [p9 y])),(.dt (.row []))] (.l7 [(.dt (.row [[(.val (str p.np)),(.val (str p.nn)),(.val (vi y.kind)),(.val (str y.np)),(.val (str y.nn)),(.val (vi y.val.kind)),(.val (str y.val.num)),(.val (str y.val.den)),(.val (str y.val.sp)),(.val (str y.val.sn)),(.val (str y.val.text)),(.row (List.map Ob.enc y.val.pair)),(.row (List.map Te.enc y.args))]])),(j6 true)])] func88 ⟨YV h,Z⟩
theorem a5Y(b:List Te)(s:bv):j5 47 [.dt (.row []),D9 b,.dt (.row s)] (j6 true) :=
 pV [.no,.no] [] func47 trivial
theorem a5Z{p y:Te}{b:List Te}(h:p.kind=1):j5 87 [o7 y,.pin [.dt (.row [p9 p])],.pin [.dt (.row [])],.pin [D9 b]] (j6 true) :=
 pV [.no,.av (.l7 [.dt (.row [mH p y]),j6 true]),.no,yT] [j5 88 [(o7 p),(o7 y),(.dt (.row []))] (.l7 [(.dt (.row [[(.val (str p.np)),(.val (str p.nn)),(.val (vi y.kind)),(.val (str y.np)),(.val (str y.nn)),(.val (vi y.val.kind)),(.val (str y.val.num)),(.val (str y.val.den)),(.val (str y.val.sp)),(.val (str y.val.sn)),(.val (str y.val.text)),(.row (List.map Ob.enc y.val.pair)),(.row (List.map Te.enc y.args))]])),(j6 true)]),bW [p9 p] 11 ((some 1).getD 0) (none.getD ↑[p9 p].length) [],(none:Option Int)=none∨(none:Option Int)=none,j5 47 [(.dt (.row [])),(.dt (.row (List.map Te.enc b))),(.dt (.row [[(.val (str p.np)),(.val (str p.nn)),(.val (vi y.kind)),(.val (str y.np)),(.val (str y.nn)),(.val (vi y.val.kind)),(.val (str y.val.num)),(.val (str y.val.den)),(.val (str y.val.sp)),(.val (str y.val.sn)),(.val (str y.val.text)),(.row (List.map Ob.enc y.val.pair)),(.row (List.map Te.enc y.args))]]))] (j6 true)] func87 ⟨a1j h,⟨by show (0:Int)≤1;omega,by show (1:Int)≤((1:Nat):Int);omega,Int.le_refl _,rfl,.inr fun x hx=>by rw[List.mem_singleton]at hx;subst hx;rfl⟩,.inl rfl,a5Y b _,Z⟩
theorem a6a{p:Te}{b:List Te}(hb:b.length≤1000)(h:p.kind=1):j5 47 [.dt (.row [p9 p]),D9 b,.dt (.row [])] (j6 (b.any fun _=>true)) :=
 pV [.no,.no,.av (j6 (b.any fun _=>true))] [j5 60 [(.dt (.row (List.map Te.enc b))),(.Z6 87 [(.pin [(.dt (.row [p9 p]))]),(.pin [(.dt (.row []))]),(.pin [(.dt (.row (List.map Te.enc b)))])])] (j6 (b.any fun x=>true))] func47 ⟨FE (p:=fun _=>true) J fun x _=>a5Z h,Z⟩
theorem a6b{p q r:Te}(h:p.kind=1):j5 18 [.dt (.row [p9 p]),.dt (.row [p9 q,p9 r])] (j6 true):=by
 rw[yw];exact pV [.no,.no,yT] [j5 47 [(.dt (.row [p9 p])),(.dt (.row (List.map Te.enc [q,r]))),(.dt (.row []))] (j6 true)] func18 ⟨(a6a (b:=[q,r]) (by show 2≤1000;omega) h).b rfl,Z⟩
abbrev Jr(c d:bv):AV:=.dt (.row [[.row c],[.row d]])
theorem a3v{p q r s x f m:Te}{c d:bv}(h1:j5 28 [o9 O9 [120]] (o7 p))(h2:j5 28 [o9 O9 [121]] (o7 q))(h3:j5 28 [o9 O9 [122]] (o7 r))(h4:j5 28 [o9 O9 [117]] (o7 s))
  (h5:j5 29 [stA x8,.dt (.row [p9 p,p9 q,p9 r])] (o7 x)) (h6:j5 29 [stA qF,.dt (.row [p9 x,p9 s])] (o7 f))
  (h7:j5 26 [o7 f] (.l7 [Jr c d,j3 0])) (hc:c.length=3) (hd:d.length=3)
  (h8:j5 31 [o7 p] (o7 m)) (h9:j5 30 [.dt (.row [p9 p,p9 m])] (j6 true)) (h10:j5 30 [.dt (.row [p9 p])] (j6 false))
  (h11:j5 18 [.dt (.row [p9 p]),.dt (.row [p9 q,p9 r])] (j6 true)) (h12:j5 32 [.dt (.row [[.row [p9 p]],[.row [p9 q,p9 p]]])] (.dt (.row [p9 p,p9 q]))):j5 7 [] (j6 true) :=
 pV ([.av (.dt (.row Cb)),.no,.av (o7 p),.no,.av (o7 q),.no,.av (o7 r),.no,.av (o7 s),.av (o7 x),.av (o7 f),.av (.l7 [Jr c d,j3 0])]++nK 4 [.av (j3 3),.no,.no,.av (j3 3),.no,.av (o7 m),yT,yF,yT,.av (.dt (.row [p9 p,p9 q])),.no,.no]) [j5 27 [(j3 4)] (.dt (.row [[(.val (str O9)),(.val (str [120]))],[(.val (str O9)),(.val (str [121]))],[(.val (str O9)),(.val (str [122]))],[(.val (str O9)),(.val (str [117]))]])),j5 28 [(o9 O9 [120])] (o7 p),j5 28 [(o9 O9 [121])] (o7 q),j5 28 [(o9 O9 [122])] (o7 r),j5 28 [(o9 O9 [117])] (o7 s),j5 29 [(stA [105,102]),(.dt (.row [p9 p,p9 q,p9 r]))] (o7 x),j5 29 [(stA [105,109,112,108,105,101,115]),(.dt (.row [p9 x,p9 s]))] (o7 f),j5 26 [(o7 f)] (.l7 [(.dt (.row [[(.row c)],[(.row d)]])),(j3 0)]),(vi 3)=(vi ↑c.length),(vi 3)=(vi ↑d.length),j5 31 [(o7 p)] (o7 m),j5 30 [(.dt (.row [p9 p,p9 m]))] (j6 true),j5 30 [(.dt (.row [p9 p]))] (j6 false),j5 18 [(.dt (.row [p9 p])),(.dt (.row [p9 q,p9 r]))] (j6 true),j5 32 [(.dt (.row [[(.row [p9 p])],[(.row [p9 q,p9 p])]]))] (.dt (.row [p9 p,p9 q]))] func7     ⟨FX,h1,h2,h3,h4,h5,h6,h7,by rw[hc];rfl,by rw[hd];rfl,h8,h9,h10,h11,h12,Z⟩
abbrev pT:Te:=kH [120]
abbrev qT:Te:=kH [121]
abbrev rT:Te:=kH [122]
abbrev sT:Te:=kH [117]
abbrev Cu:Te:=ap qF [ap x8 [pT,qT,rT],sT]
abbrev UF:List Te:=[ap D5 [pT],ap D5 [qT],sT]
abbrev UG:List Te:=[pT,ap D5 [rT],sT]
theorem PV:(U7 id 20002 Cu [] ⟨[],0,0⟩).er=0∧(U7 id 20002 Cu [] ⟨[],0,0⟩).out=[UF,UG]:=by decide +kernel
theorem gd2{a b:Te}(ha:a.Gd)(hb:b.Gd):∀x∈[a,b],x.Gd:=fun x hx=>by
 simp only[List.mem_cons,List.not_mem_nil,or_false]at hx;rcases hx with rfl | rfl
 ·exact ha
 ·exact hb
theorem a6c:Cu.Gd:=.ap (by show 2≤1000;omega) (gd2 ((jk _).iX (jk _) (jk _)) (jk _))
theorem a6d:j5 26 [o7 Cu] (.l7 [Jr (K4 UF) (K4 UG),j3 0]):=by
 have h:=Yr a6c;unfold UE at h;rw[PV.1,PV.2]at h;exact h
theorem GY:neg pT=ap D5 [pT]:=by decide +kernel
theorem Ro{n:bi}:(kH n).kind≠2:=by show (1:Int)≠2;decide
theorem Bv{n m:bi}{k:Nat}:j5 62 [o7 (kH n),stA m,j3 k] (j6 false):=(ay (kH n) m k).b (K9 fun h=>by cases h.1)
theorem a6e:j5 30 [.dt (.row [p9 pT,p9 (ap D5 [pT])])] (j6 true):=by
 rw[yw];refine (Rn (c:=[pT,ap D5 [pT]]) (by show 2≤1000;omega) (p:=fun _=>true) fun x hx=>?_).b rfl
 simp only[List.mem_cons,List.not_mem_nil,or_false]at hx;have hc:∀t:Te,t∈[pT,ap D5 [pT]]→j5 uu [D9 [pT,ap D5 [pT]],o7 t] (j6 true):=fun t ht=>by
  have:=TB (p:=pT) (q:=ap D5 [pT]) (jk _) (jk _).not (t:=t) (U4 ht)
  rwa [yw]at this
 rcases hx with rfl | rfl
 ·exact Rm Ro Bv Bv (xD pT) (by rw[GY];exact hc _ I)
 ·exact a5W (y:=pT) O rfl ((ay (ap D5 [pT]) GX 2).b (by decide +kernel)) ((ay (ap D5 [pT]) D5 1).b (by decide +kernel)) (kY false) ((Tx (jk _).wf noT).b (by decide +kernel)) (xD (ap D5 [pT])) (by rw[a3h];exact hc _ I)
theorem a6f:j5 30 [.dt (.row [p9 pT])] (j6 false):=by
 rw[gW];refine (Rn (c:=[pT]) (by show 1≤1000;omega) (p:=fun _=>false) fun x hx=>?_).b rfl
 rw[List.mem_singleton]at hx;subst hx;have:=TA (p:=pT) (jk _) (t:=ap D5 [pT]) (b:=false) (by decide +kernel);rw[gW]at this;exact Rm Ro Bv Bv (xD pT) (by rw[GY];exact this)
theorem PW:j5 7 [] (j6 true) :=
 a3v (wY _) (wY _) (wY _) (wY _) (a1c _ _ _ _) (a1g _ _ _) a6d rfl rfl (by have:=xD pT;rwa [GY]at this) a6e a6f (a6b rfl) (a3t (jk _) (jk _) (by decide +kernel))
theorem eD{P:Program}{t:TypeId}{x y:Operand}{k:IntKind}{a b:Int}{r:Bool}(h:decide (a≤b)=r):aS P .leq t x y (.int k a) (.int k b) (.bool r):=by
 subst h;exact gJ (by simp[gV])
theorem b0N:prog.eqGuardType prog.depth 45=false:=by kernel_rfl
theorem wC{x y:Operand}{p s p' s':bi}{r:Bool}(h:(decide (p=p') && decide (s=s'))=!r):aS prog .neq 45 x y (.agg #[str p,str s]) (.agg #[str p',str s']) (.bool r):=by
 intro w;rw[show r=!(decide (p=p') && decide (s=s')) by rw[h,Bool.not_not]]
 simp only[Sem.run_bind,run_eqGuard_agg w .neq _ x y _ _ b0N,Result.andThen_ok,run_neq_struct,FD]
theorem Nl{o:Ob}(h:o.Wf):j5 112 [l9 o] (j3 (R9 o)) :=
 lQ (O3 func112 rfl (by kernel_rfl)) fun ok A n c w _ hr=>Mg ok o h A n c w hr
theorem ZN{o:Ob}(h:o.Wf)(hs:o.Sm):j5 127 [l9 o] (j6 o.jZ) :=
 lQ (O3 func127 rfl (by kernel_rfl)) fun ok A n c w _ hr=>Mh ok o h hs A n c w hr
theorem RL.a6g{M:Mm}{w:World}{p n:bi}{vs:List Value}(h:RL M w [o9 p n] vs):vs=[tQ ⟨p,n⟩]:=by
 obtain⟨u,us,rfl,⟨ws,rfl,u0,us0,rfl,h0,u1,us1,rfl,h1,h2⟩,h3⟩:=h;obtain rfl:us=[]:=h3;obtain rfl:us1=[]:=h2;rw[Rd.Q9 h0,Rd.Q9 h1]
theorem PX(p n:bi)(hp:p.length≤9223372036854775807)(hn:n.length≤9223372036854775807):j5 166 [o9 p n] (j6 (P7 ⟨p,n⟩)) :=
 ⟨O3 func166 rfl (by kernel_rfl),fun ok w vs _ hv=>by
  obtain rfl:=hv.a6g;exact (Lf ⟨p,n⟩ w hp hn).mono fun _ _ h=>h.pure⟩
end Go.Proofs.YtdkehabacmlegaaGreatDoor
